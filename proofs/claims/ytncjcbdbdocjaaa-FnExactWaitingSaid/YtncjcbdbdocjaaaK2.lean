/- The proof layer, part 2: one operation, contracts, calls. -/
import Derived.Test.YtncjcbdbdocjaaaK1
import Derived.Calls
set_option linter.unusedVariables false
set_option linter.unusedSimpArgs false

/- Soundness of literal slices, make and append. -/
namespace Go.Proofs.Ytncjcbdbdocjaaa.Ax
open Go

variable {P : Program} {Γ : Ctx} {st : St} {a : Act} {w w' : World} {LB LB' : Nat → Option BL} {S : Nat → Prop}

/-- A slice of our own in a box of its own. -/
theorem SimB.newOwn {us : List (Nat × Bx)} (hB : SimB Γ (st.withB us).box w LB S) {d : Nat} (hd : d ≠ PB) {h : Option (Nat × Nat)} {es : List L} (hm : (L.own 0 h es).mem w' S)
    (hf : Free Γ w' S LB (L.own 0 h es).fp) (hw : ∀ b B, LB b = some B → ∀ g ∈ B.fp, w'.heap[g]? = w.heap[g]?) (hS : ∀ g, S g → w'.heap[g]? = w.heap[g]?) (hsize : w.heap.size ≤ w'.heap.size)
    (hFr : Fr Γ.Fin Γ.w0 w') :
    SimB Γ (st.withB ((d, newBx ((st.withB us).box d) false (.sl 1 (es.map L.er))) :: us)).box w' (setLB LB d ⟨none, .own 0 h es⟩) S ∧
      Adv (st.withB us).box (st.withB ((d, newBx ((st.withB us).box d) false (.sl 1 (es.map L.er))) :: us)).box LB (setLB LB d ⟨none, .own 0 h es⟩) ∧
      TRel (st.withB ((d, newBx ((st.withB us).box d) false (.sl 1 (es.map L.er))) :: us)).box (setLB LB d ⟨none, .own 0 h es⟩) w' S (.view d (((st.withB us).box d).ver + 1) [] 0) (hdrV h es.length) := by
  have key := hB.new (B' := ⟨none, .own 0 h es⟩) (w' := w') hd ⟨fun g hg => (by cases hg), hm⟩ (by simpa [BL.fp] using hf.nd) (fun b B hb g hg => hf.dj b B hb g (by simpa [BL.fp] using hg))
    (fun g hg => hf.fr g (by simpa [BL.fp] using hg)) hw hS hsize hFr (fun i t hh es' hi => by
      simp only [L.cells] at hi
      cases i with
      | zero => simp at hi
      | succ i => simp at hi)
  have her : (L.own 0 h es).er = .sl 1 (es.map L.er) := by simp [L.er, L.ers_eq]
  simp only [Option.isSome_none, her] at key
  refine ⟨key.1, key.2, ?_, fun _ B hB => ?_⟩
  · rw [box_cons_same]; exact Nat.le_refl _
  · rw [setLB_same] at hB; cases hB
    simp [Sk.hdr, Sk.nav, L.sk, L.sks_eq, Sk.cells]

theorem Fr.same {F : List Nat} {w0 : World} (h : Fr F w0 w) (ho : w'.os = w.os) (ht : w'.tape = w.tape) (hout : w'.output = w.output) (hs : w.heap.size ≤ w'.heap.size)
    (hb : ∀ k, k < w.heap.size → (k ∈ F ∨ w0.heap.size ≤ k ∨ w'.heap[k]? = w.heap[k]?)) : Fr F w0 w' :=
  ⟨ho.trans h.os, ht.trans h.tape, hout.trans h.output, Nat.le_trans h.size hs, fun k hk hn => by
    rcases hb k (Nat.lt_of_lt_of_le hk h.size) with h1 | h1 | h1
    · exact absurd h1 hn
    · omega
    · exact h1.trans (h.block k hk hn)⟩

/-- A fresh row. -/
theorem newRow_mem {g0 cap sz : Nat} {es : List L} {cells : Array Value} {e : TypeId} (w1 : World) (hh : w1.heap = w.heap) (hsz : 0 < sz) (hc : cells.size = cap * sz) (hl : es.length ≤ cap) (hmx : cap ≤ maxLen)
    (hcl : ∀ x ∈ es, x.cells.length = sz) (he : es = [] → cap = 0) (ht : cells.toList.take (es.length * sz) = rowOf es) (hms : ∀ l ∈ es, l.mem w S) (hS : ∀ g, S g → g < w.heap.size)
    (hfp : ∀ g ∈ L.fps es, g < w.heap.size) : (L.own 0 (some (w.heap.size, cap)) es).mem (w1.alloc (.cells cells e)) S := by
  have hs1 : w1.heap.size = w.heap.size := by rw [hh]
  have hold : ∀ g, g < w.heap.size → (w1.alloc (.cells cells e)).heap[g]? = w.heap[g]? := fun g hg => by rw [heap_alloc_old w1 _ g (by omega), hh]
  refine ⟨⟨sz, cells, e, hsz, by rw [← hs1]; exact heap_alloc_new w1 _, hc, hl, hmx, hcl, he, ht⟩, ?_⟩
  rw [L.mems_iff]
  intro l hl'
  exact L.mem_frame (fun _ h => h) (fun g hg => hold g (hS g hg)) l (hms l hl') (fun g hg => hold g (hfp g (L.mem_fps hl' hg)))

theorem made_rows (zv : Value) (s : Nat) (hs : 0 < s) (hz : zv.cells.size = s) (n : Nat) : (madeCells zv.cells (n * s)).toList = rowOf (List.replicate n (zeroL zv)) := by
  have h1 : rowOf (List.replicate n (zeroL zv)) = (List.replicate n zv).flatMap fun v => v.cells.toList := by
    induction n with
    | zero => rfl
    | succ n ih => simp only [List.replicate_succ, rowOf, List.flatMap_cons, ih, (zeroL_spec default (fun _ => False) zv).2.1]
  rw [h1]
  apply List.ext_getElem?
  intro k
  rw [Great.flat_get hs _ (fun v hv => by rw [(List.mem_replicate.1 hv).2]; exact hz) k, Array.getElem?_toList]
  unfold madeCells
  by_cases hk : k < n * s
  · have hq : k / s < n := Nat.div_lt_of_lt_mul (by rw [Nat.mul_comm]; exact hk)
    rw [List.getElem?_replicate, if_pos hq, hz]
    have hm : k % s < zv.cells.size := by rw [hz]; exact Nat.mod_lt _ hs
    simp [hk, Array.getElem?_eq_getElem hm, getElem!_pos zv.cells (k % s) hm]
  · have hq : ¬ k / s < n := by
      intro h
      exact hk ((Nat.div_lt_iff_lt_mul hs).1 h)
    rw [List.getElem?_replicate, if_neg hq]
    simp [Nat.le_of_not_lt hk]

theorem tSize_info {t : TypeId} {i : TypeInfo} (h : P.info? t = some i) : tSize P t = i.size ∧ tBytes P t = i.bytes := by simp [tSize, tBytes, h]

theorem makeSlice_sound (h : SimL Γ st a w LB S) {o : Oper} (hd : DstOK Γ.n o) {d : Nat} (hdst : o.dst = some d) {t : TypeId} {y z : Operand} (ho : o.op = .makeSlice t y z) {side : Prop} {r : X} {us : List (Nat × Bx)}
    (he : evMakeSlice P st d t (st.opd y) (st.opd z) = .ok side r us) (hside : side) : OpOK P Γ o a w (st.put o.dst r us) := by
  unfold evMakeSlice at he
  split at he
  · simp at he
  · rename_i e hte
    split at he
    · rename_i zx n m hz hy' hz'
      split at he
      · simp at he
      · rename_i hsz
        simp only [Ev.ok.injEq] at he
        obtain ⟨hs, rfl, rfl⟩ := he
        rw [← hs] at hside
        obtain ⟨rfl, h0, hb, hn⟩ := hside
        obtain ⟨i, zv, hi, hzv, hzs, rfl⟩ := tZero_some hz
        obtain ⟨hts, htb⟩ := tSize_info hi
        have hy := h.opd y
        have hz2 := h.opd z
        rw [hy'] at hy
        rw [hz'] at hz2
        have hu := (tElem_some hte).1
        have hrun := run_make (P := P) w t e i zv hu hi hzv .i64 .i64 n n h0 (Int.le_refl _) (by
          have : (i.bytes : Int) * n = ((i.bytes * n.toNat : Nat) : Int) := by rw [Int.natCast_mul, Int.toNat_of_nonneg h0]
          rw [this, ← htb]; omega) (by omega)
        have hpos : 0 < i.size := by omega
        have hcl : (zeroL zv).cells.length = i.size := by rw [← L.cflat_length, (zeroL_spec w S zv).2.1]; simpa using hzs
        have hm := newRow_mem (w := w) (S := S) (g0 := 0) (cap := n.toNat) (sz := i.size) (es := List.replicate n.toNat (zeroL zv)) (cells := madeCells zv.cells (n.toNat * i.size)) (e := e) w rfl hpos (size_madeCells _ _)
          (by simp) (by unfold maxLen; omega) (fun x hx => by rw [(List.mem_replicate.1 hx).2]; exact hcl) (fun h => by simpa using h)
          (by rw [List.length_replicate, ← made_rows zv i.size hpos hzs]; exact List.take_of_length_le (by rw [Array.length_toList, size_madeCells]; exact Nat.le_refl _))
          (fun l hl => by rw [(List.mem_replicate.1 hl).2]; exact (zeroL_spec w S zv).2.2.1) h.Sw (fun g hg => by
            rw [L.fps_eq] at hg
            obtain ⟨l, hl, hg⟩ := List.mem_flatMap.1 hg
            rw [(List.mem_replicate.1 hl).2, (zeroL_spec w S zv).2.2.2.1] at hg
            simp at hg)
        have hfp : (L.own 0 (some (w.heap.size, n.toNat)) (List.replicate n.toNat (zeroL zv))).fp = [w.heap.size] := by
          simp only [L.fp, L.fps_eq]
          congr 1
          rw [List.flatMap_eq_nil_iff]
          intro l hl
          rw [(List.mem_replicate.1 hl).2]; exact (zeroL_spec w S zv).2.2.2.1
        obtain ⟨k1, k2, k3⟩ := (show SimB Γ (st.withB []).box w LB S from h.toB).newOwn (us := []) (hd.ne hdst) hm
          (by rw [hfp]; exact ⟨by simp, fun b B hb g hg hgB => by simp at hg; subst hg; exact Nat.lt_irrefl _ (h.fr b B hb _ hgB).2.1, fun g hg => by
            simp at hg; subst hg
            exact ⟨fun hS => Nat.lt_irrefl _ (h.Sw _ hS), by rw [alloc_size]; exact Nat.lt_succ_self _, .inr h.frame.size⟩⟩)
          (fun b B hb g hg => heap_alloc_old w _ g (h.fr b B hb g hg).2.1) (fun g hg => heap_alloc_old w _ g (h.Sw g hg)) (by rw [alloc_size]; exact Nat.le_succ _) (h.frame.alloc _)
        rw [List.map_replicate, (zeroL_spec w S zv).1] at k1 k2 k3
        rw [List.length_replicate] at k3
        refine ⟨.value _, _, _, S, ?_, .inl ⟨_, rfl, h.next k2 (fun _ h => h) (fun g hg => heap_alloc_old w _ g (h.Sw g hg)) k1 hd.2 k3⟩⟩
        simp [execOp, ho, hy.1, hz2.1, hrun, hdrV]
    · simp at he

/-! append -/
def SrcLoc (w : World) (v : Value) (ls : List L) : Prop :=
  ∃ base cap, v = .slice base ls.length cap ∧ (ls ≠ [] → ∃ g o, base = some ⟨g, o, none⟩ ∧ ∀ j u, (rowOf ls)[j]? = some u → w.cell? ⟨g, o + j, none⟩ = some u)

theorem rowOf_get {s : Nat} (hs : 0 < s) : ∀ (ls : List L), (∀ l ∈ ls, l.cells.length = s) → ∀ k, (rowOf ls)[k]? = (ls[k / s]?).bind fun l => l.cflat[k % s]?
  | [], _, k => by simp [rowOf]
  | l :: ls, hl, k => by
    have hlen : l.cflat.length = s := by rw [L.cflat_length]; exact hl l (by simp)
    simp only [rowOf]
    by_cases hk : k < s
    · rw [List.getElem?_append_left (by omega), Nat.div_eq_of_lt hk, Nat.mod_eq_of_lt hk]
      simp
    · have h1 : k / s = (k - s) / s + 1 := by
        have := Nat.sub_add_cancel (Nat.le_of_not_lt hk)
        conv => lhs; rw [← this]
        rw [Nat.add_div_right _ hs]
      have h2 : k % s = (k - s) % s := by
        have := Nat.sub_add_cancel (Nat.le_of_not_lt hk)
        conv => lhs; rw [← this]
        rw [Nat.add_mod_right]
      rw [List.getElem?_append_right (by omega), hlen, rowOf_get hs ls (fun u hu => hl u (List.mem_cons_of_mem _ hu)) (k - s), h1, h2, List.getElem?_cons_succ]

def roL : X → Value → L
  | .sc v, _ => .sc v
  | .opq, u => .opq u
  | .sl 0 es, u => .ro u es
  | _, u => .junk u
theorem roL_spec {x : X} {u : Value} (h : Ro w S x u) : (roL x u).er = x ∧ (roL x u).flat = u ∧ (roL x u).mem w S ∧ (roL x u).fp = [] ∧ (roL x u).cells = [roL x u] := by
  cases h with
  | sc v h => exact ⟨rfl, rfl, h, rfl, rfl⟩
  | opq t x => exact ⟨rfl, rfl, ⟨t, x, rfl⟩, rfl, rfl⟩
  | nil a c => exact ⟨rfl, rfl, .nil a c, rfl, rfl⟩
  | sl g o n cap sz es f h1 h2 hmx h3 h4 h5 h6 h7 => exact ⟨rfl, rfl, .sl g o n cap sz es f h1 h2 hmx h3 h4 h5 h6 h7, rfl, rfl⟩
def roE (e : X) (f : Nat → Value) : L :=
  match e with
  | .agg cs => .agg (cs.mapIdx fun i c => roL c (f i))
  | c => roL c (f 0)
theorem roE_spec {e : X} {f : Nat → Value} (h : ∀ (i : Nat) (c : X), e.cells[i]? = some c → Ro w S c (f i)) :
    (roE e f).er = e ∧ (roE e f).mem w S ∧ (roE e f).fp = [] ∧ (roE e f).cells.length = e.cells.length ∧ ∀ (i : Nat) (u : Value), (roE e f).cflat[i]? = some u → u = f i ∧ i < e.cells.length ∧ u.oneCell' = true := by
  by_cases hag : ∃ cs, e = .agg cs
  · obtain ⟨cs, rfl⟩ := hag
    simp only [X.cells] at h
    refine ⟨?_, ?_, ?_, by simp [roE, L.cells, X.cells], fun i u hu => ?_⟩
    · simp only [roE, L.er, L.ers_eq]
      congr 1
      apply List.ext_getElem?
      intro i
      simp only [List.getElem?_map, List.getElem?_mapIdx]
      cases hc : cs[i]? with
      | none => simp
      | some c => simp [(roL_spec (h i c hc)).1]
    · simp only [roE, L.mem]
      rw [L.mems_iff]
      intro l hl
      obtain ⟨i, hi⟩ := List.getElem?_of_mem hl
      simp only [List.getElem?_mapIdx] at hi
      cases hc : cs[i]? with
      | none => simp [hc] at hi
      | some c => simp only [hc, Option.map_some, Option.some.injEq] at hi; subst hi; exact (roL_spec (h i c hc)).2.2.1
    · simp only [roE, L.fp, L.fps_eq]
      rw [List.flatMap_eq_nil_iff]
      intro l hl
      obtain ⟨i, hi⟩ := List.getElem?_of_mem hl
      simp only [List.getElem?_mapIdx] at hi
      cases hc : cs[i]? with
      | none => simp [hc] at hi
      | some c => simp only [hc, Option.map_some, Option.some.injEq] at hi; subst hi; exact (roL_spec (h i c hc)).2.2.2.1
    · simp only [roE, L.cflat, L.cells, L.flats_eq, List.getElem?_map, List.getElem?_mapIdx] at hu
      cases hc : cs[i]? with
      | none => simp [hc] at hu
      | some c =>
        simp only [hc, Option.map_some, Option.some.injEq] at hu
        rw [(roL_spec (h i c hc)).2.1] at hu
        subst hu
        exact ⟨rfl, (List.getElem?_eq_some_iff.1 hc).1, (h i c hc).oneCell⟩
  · have hce : e.cells = [e] := by cases e <;> first | rfl | exact absurd ⟨_, rfl⟩ hag
    have hre : roE e f = roL e (f 0) := by cases e <;> first | rfl | exact absurd ⟨_, rfl⟩ hag
    have h0 := h 0 e (by rw [hce]; rfl)
    obtain ⟨k1, k2, k3, k4, k5⟩ := roL_spec h0
    rw [hre]
    refine ⟨k1, k3, k4, by rw [k5, hce]; rfl, fun i u hu => ?_⟩
    rw [L.cflat, k5] at hu
    simp only [L.flats, k2] at hu
    cases i with
    | zero => simp at hu; subst hu; exact ⟨rfl, by rw [hce]; simp, h0.oneCell⟩
    | succ i => simp at hu

/-- A read-only slice's elements, located. -/
theorem ro_located {es : List X} {v : Value} (h : Ro w S (.sl 0 es) v) : ∃ ls : List L, ls.map L.er = es ∧ (∀ l ∈ ls, l.mem w S) ∧ L.fps ls = [] ∧ SrcLoc w v ls ∧ ∀ u ∈ rowOf ls, u.oneCell' = true := by
  cases h with
  | nil aa cap => exact ⟨[], rfl, by simp, rfl, ⟨aa, cap, rfl, fun h => absurd rfl h⟩, by simp [rowOf]⟩
  | sl g o n cap sz es f h1 h2 hmx h3 h4 h5 h6 h7 =>
    subst h1
    have hspec : ∀ (j : Nat) (e : X), es[j]? = some e → _ := fun j e he => roE_spec (w := w) (S := S) (e := e) (f := f j) (fun i c hc => h7 j e i c he hc)
    have hget : ∀ (j : Nat) (l : L), (es.mapIdx fun j e => roE e (f j))[j]? = some l → ∃ e, es[j]? = some e ∧ l = roE e (f j) := by
      intro j l hl
      simp only [List.getElem?_mapIdx] at hl
      cases hc : es[j]? with
      | none => simp [hc] at hl
      | some e => simp only [hc, Option.map_some, Option.some.injEq] at hl; exact ⟨e, rfl, hl.symm⟩
    have hlen : ∀ l ∈ (es.mapIdx fun j e => roE e (f j)), l.cells.length = sz := by
      intro l hl
      obtain ⟨j, hj⟩ := List.getElem?_of_mem hl
      obtain ⟨e, he, rfl⟩ := hget j l hj
      rw [(hspec j e he).2.2.2.1]; exact h5 j e he
    have hrow : ∀ (k : Nat) (u : Value), (rowOf (es.mapIdx fun j e => roE e (f j)))[k]? = some u → w.cell? ⟨g, o + k, none⟩ = some u ∧ u.oneCell' = true := by
      intro k u hu
      rw [rowOf_get h4 _ hlen] at hu
      cases hl : (es.mapIdx fun j e => roE e (f j))[k / sz]? with
      | none => simp [hl] at hu
      | some l =>
        obtain ⟨e, he, rfl⟩ := hget _ l hl
        simp only [hl, Option.bind_some] at hu
        obtain ⟨q1, q2, q3⟩ := (hspec _ e he).2.2.2.2 _ u hu
        subst q1
        have := h6 (k / sz) e (k % sz) _ he (List.getElem?_eq_getElem q2)
        rw [← this]
        refine ⟨?_, q3⟩
        congr 2
        have := Nat.div_add_mod k sz
        rw [Nat.mul_comm] at this; omega
    refine ⟨es.mapIdx fun j e => roE e (f j), ?_, ?_, ?_, ⟨some ⟨g, o, none⟩, cap, by simp, fun _ => ⟨g, o, rfl, fun j u hu => (hrow j u hu).1⟩⟩, ?_⟩
    · apply List.ext_getElem?
      intro j
      simp only [List.getElem?_map, List.getElem?_mapIdx]
      cases hc : es[j]? with
      | none => simp
      | some e => simp [(hspec j e hc).1]
    · intro l hl
      obtain ⟨j, hj⟩ := List.getElem?_of_mem hl
      obtain ⟨e, he, rfl⟩ := hget j l hj
      exact (hspec j e he).2.1
    · rw [L.fps_eq, List.flatMap_eq_nil_iff]
      intro l hl
      obtain ⟨j, hj⟩ := List.getElem?_of_mem hl
      obtain ⟨e, he, rfl⟩ := hget j l hj
      exact (hspec j e he).2.2.1
    · intro u hu
      obtain ⟨k, hk⟩ := List.getElem?_of_mem hu
      exact (hrow k u hk).2

theorem own_srcLoc {t : Nat} {hh : Option (Nat × Nat)} {ls : List L} (hm : (L.own t hh ls).mem w S) : SrcLoc w (hdrV hh ls.length) ls := by
  cases hh with
  | none => simp only [L.mem] at hm; subst hm; exact ⟨none, 0, rfl, fun h => absurd rfl h⟩
  | some gc =>
    obtain ⟨g, cap⟩ := gc
    obtain ⟨sz, cur, ty, h1, h2, h3, h4, h5, h6, h7, h8⟩ := hm.1
    refine ⟨some ⟨g, 0, none⟩, cap, rfl, fun _ => ⟨g, 0, rfl, fun j u hu => ?_⟩⟩
    rw [Nat.zero_add, cell_of_row w g j cur ty (0, 0) h2, ← Array.getElem?_toList]
    rw [← h8, List.getElem?_take] at hu
    split at hu
    · exact hu
    · simp at hu
/-- Cells that hold something. -/
theorem solid_one {l : L} (hs : l.er.solid = true) (hm : l.mem w S) : ∀ u ∈ l.cflat, u.oneCell' = true := by
  have h1 : ∀ c : L, c.er.solid1 = true → c.mem w S → c.flat.oneCell' = true := by
    intro c hc hm
    cases c with
    | sc v => exact hm
    | opq v => obtain ⟨t, u, rfl⟩ := hm; rfl
    | ro v es => exact Ro.oneCell hm
    | own t h es => cases h with | none => rfl | some gc => obtain ⟨g, cap⟩ := gc; rfl
    | _ => simp [L.er, X.solid1] at hc
  intro u hu
  rw [L.cflat, L.flats_eq] at hu
  obtain ⟨c, hc, rfl⟩ := List.mem_map.1 hu
  refine h1 c ?_ (L.mem_cells hm c hc)
  by_cases hag : ∃ cs, l = .agg cs
  · obtain ⟨cs, rfl⟩ := hag
    simp only [L.er, X.solid, L.ers_eq, List.all_eq_true] at hs
    exact hs _ (List.mem_map.2 ⟨c, hc, rfl⟩)
  · have hce : l.cells = [l] := by cases l <;> first | rfl | exact absurd ⟨_, rfl⟩ hag
    rw [hce] at hc
    simp at hc; subst hc
    have : c.er.solid = c.er.solid1 := by cases c <;> first | rfl | exact absurd ⟨_, rfl⟩ hag
    rw [← this]; exact hs
theorem plain_solid {x : X} (h : x.plain = true) : x.solid = true := by
  cases x <;> simp [X.plain, X.solid, X.solid1] at h ⊢
  rename_i cs
  intro c hc
  have := h c hc
  cases c <;> simp [X.isSc] at this ⊢
theorem plain_fp {l : L} (h : l.er.plain = true) : l.fp = [] := by
  cases l with
  | agg cs =>
    simp only [L.er, X.plain, L.ers_eq, List.all_eq_true] at h
    simp only [L.fp, L.fps_eq]
    rw [List.flatMap_eq_nil_iff]
    intro c hc
    obtain ⟨v, rfl⟩ := isSc_iff (h _ (List.mem_map.2 ⟨c, hc, rfl⟩))
    rfl
  | own t h' es => simp [L.er, X.plain] at h
  | box g c => simp [L.er, X.plain] at h
  | tup cs => simp [L.er, X.plain] at h
  | _ => rfl

end Go.Proofs.Ytncjcbdbdocjaaa.Ax

/- Soundness of append and of literal slices. -/
namespace Go.Proofs.Ytncjcbdbdocjaaa.Ax
open Go

variable {P : Program} {Γ : Ctx} {st : St} {a : Act} {w w' : World} {LB LB' : Nat → Option BL} {S : Nat → Prop}

theorem run_append_room' (w : World) (t ty e e' : TypeId) (i : TypeInfo) (ht : P.underlying t = some (.slice e)) (hi : P.info? e = some i)
    (g sLen sCap : Nat) (cur : Array Value) (hg : w.heap[g]? = some (.cells cur e' (0, 0)))
    (a : Addr) (m c : Nat) (news : List Value) (hl : news.length = m * i.size) (hnews : ∀ (j : Nat) (u : Value), news[j]? = some u → w.cell? (a.add j) = some u) (h1 : ∀ u ∈ news, u.oneCell' = true)
    (hroom : sLen + m ≤ sCap) (hfit : sLen * i.size + news.length ≤ cur.size) :
    (Builtin.append_ #[t, t] ty #[.slice (some ⟨g, 0, none⟩) sLen sCap, .slice (some a) m c]).run P w =
      .ok (.slice (some ⟨g, 0, none⟩) (sLen + m) sCap) (w.setRow g (cur.toList.take (sLen * i.size) ++ news ++ cur.toList.drop (sLen * i.size + news.length)).toArray) := by
  have hf := run_firstCells_some (P := P) w i.size m a m c news hl hnews
  have hst := run_storeCells_at P g (sLen * i.size) e' news 0 cur w hg (by simpa using hfit) h1
  simp only [Nat.add_zero] at hst
  simp [Builtin.append_, run_underlying ht, sizeOf, typeInfo, hi, Builtin.lenOf, hroom, hf, Addr.add_lit, hst]

theorem run_append_zero (w : World) (t ty e : TypeId) (i : TypeInfo) (ht : P.underlying t = some (.slice e)) (hi : P.info? e = some i) (base b2 : Option Addr) (n cap c : Nat) (hn : n ≤ cap) :
    (Builtin.append_ #[t, t] ty #[.slice base n cap, .slice b2 0 c]).run P w = .ok (.slice base n cap) w := by
  cases base <;> cases b2 <;> simp [Builtin.append_, run_underlying ht, sizeOf, typeInfo, hi, Builtin.lenOf, hn, Builtin.firstCells, loadCells, loadCellsFrom, storeCells]

/-- What append does to a slice of our own. -/
theorem append_run (w : World) (t ty e : TypeId) (i : TypeInfo) (z : Value) (ht : P.underlying t = some (.slice e)) (hi : P.info? e = some i) (hz : i.zero = some z) (hzs : z.cells.size = i.size) (hpos : 0 < i.size)
    {t0 : Nat} {h0 : Option (Nat × Nat)} {ls0 lsr : List L} {vx : Value} (hm0 : (L.own t0 h0 ls0).mem w S) (hs : SrcLoc w vx lsr) (hmr : ∀ l ∈ lsr, l.mem w S)
    (hc0 : ∀ l ∈ ls0, l.cells.length = i.size) (hcr : ∀ l ∈ lsr, l.cells.length = i.size) (h1 : ∀ u ∈ rowOf lsr, u.oneCell' = true)
    (hb : (ls0.length + lsr.length) * i.bytes ≤ 140737488355328) (hn : ls0.length + lsr.length ≤ 140737488355328)
    (hnd : ((L.own t0 h0 ls0).fp ++ L.fps lsr).Nodup) (hlt : ∀ g ∈ (L.own t0 h0 ls0).fp ++ L.fps lsr, g < w.heap.size ∧ ¬ S g) (hS : ∀ g, S g → g < w.heap.size) :
    ∃ h' w', (Builtin.append_ #[t, t] ty #[hdrV h0 ls0.length, vx]).run P w = .ok (hdrV h' (ls0.length + lsr.length)) w' ∧ (L.own 0 h' (ls0 ++ lsr)).mem w' S ∧
      (L.own 0 h' (ls0 ++ lsr)).fp.Nodup ∧ (∀ g ∈ (L.own 0 h' (ls0 ++ lsr)).fp, (g ∈ (L.own t0 h0 ls0).fp ∨ g ∈ L.fps lsr ∨ g = w.heap.size) ∧ g < w'.heap.size) ∧
      w'.os = w.os ∧ w'.tape = w.tape ∧ w'.output = w.output ∧ w.heap.size ≤ w'.heap.size ∧ (∀ k, k < w.heap.size → k ∉ (L.own t0 h0 ls0).fp → w'.heap[k]? = w.heap[k]?) := by
  obtain ⟨base, cap, rfl, hsrc⟩ := hs
  have hmax : ls0.length + lsr.length ≤ maxLen := by unfold maxLen; omega
  have hcall : ∀ l ∈ ls0 ++ lsr, l.cells.length = i.size := fun l hl => by rcases List.mem_append.1 hl with h | h; exact hc0 l h; exact hcr l h
  have hms0 : ∀ l ∈ ls0, l.mem w S := by
    cases h0 with
    | none => simp only [L.mem] at hm0; subst hm0; simp
    | some gc => obtain ⟨g, c⟩ := gc; exact (L.mems_iff ls0).1 hm0.2
  have hmall : ∀ l ∈ ls0 ++ lsr, l.mem w S := fun l hl => by rcases List.mem_append.1 hl with h | h; exact hms0 l h; exact hmr l h
  have hrl0 := rowOf_length i.size ls0 hc0
  have hrlr := rowOf_length i.size lsr hcr
  by_cases hmz : lsr = []
  · subst hmz
    refine ⟨h0, w, ?_, ?_, ?_, fun g hg => ?_, rfl, rfl, rfl, Nat.le_refl _, fun _ _ _ => rfl⟩
    · cases h0 with
      | none =>
        simp only [L.mem] at hm0; subst hm0
        exact run_append_zero w t ty e i ht hi none base 0 0 cap (Nat.le_refl _)
      | some gc =>
        obtain ⟨g, c⟩ := gc
        obtain ⟨_, _, _, _, _, _, h4, _⟩ := hm0.1
        exact run_append_zero w t ty e i ht hi _ base _ c cap h4
    · rw [List.append_nil]
      cases h0 with
      | none => exact hm0
      | some gc => obtain ⟨g, c⟩ := gc; exact hm0
    · rw [List.append_nil]
      have := (List.nodup_append.1 hnd).1
      cases h0 with
      | none => exact this
      | some gc => obtain ⟨g, c⟩ := gc; exact this
    · rw [List.append_nil] at hg
      have hg' : g ∈ (L.own t0 h0 ls0).fp := by
        cases h0 with
        | none => exact hg
        | some gc => obtain ⟨g1, c⟩ := gc; exact hg
      exact ⟨.inl hg', (hlt g (List.mem_append.2 (.inl hg'))).1⟩
  · obtain ⟨gs, os, rfl, hcells⟩ := hsrc hmz
    have hmpos : 0 < lsr.length := List.length_pos_iff.2 hmz
    have hnews : ∀ (j : Nat) (u : Value), (rowOf lsr)[j]? = some u → w.cell? ((⟨gs, os, none⟩ : Addr).add j) = some u := fun j u hu => by rw [add_lit]; exact hcells j u hu
    have hne : ls0 ++ lsr ≠ [] := by simp [hmz]
    -- a fresh row
    have fresh : ∀ (cells : Array Value) (c : Nat), cells.size = c * i.size → ls0.length + lsr.length ≤ c → c ≤ maxLen → cells.toList.take ((ls0.length + lsr.length) * i.size) = rowOf ls0 ++ rowOf lsr →
        (L.own 0 (some (w.heap.size, c)) (ls0 ++ lsr)).mem (w.drew.alloc (.cells cells e)) S ∧ (L.own 0 (some (w.heap.size, c)) (ls0 ++ lsr)).fp.Nodup ∧
        (∀ g ∈ (L.own 0 (some (w.heap.size, c)) (ls0 ++ lsr)).fp, (g ∈ (L.own t0 h0 ls0).fp ∨ g ∈ L.fps lsr ∨ g = w.heap.size) ∧ g < (w.drew.alloc (.cells cells e)).heap.size) := by
      intro cells c hcs hcl hcm htk
      have hsub : ∀ g ∈ L.fps (ls0 ++ lsr), g ∈ (L.own t0 h0 ls0).fp ++ L.fps lsr := by
        intro g hg
        rw [L.fps_append] at hg
        rcases List.mem_append.1 hg with h | h
        · refine List.mem_append.2 (.inl ?_)
          cases h0 with
          | none => exact h
          | some gc => obtain ⟨g1, c1⟩ := gc; exact List.mem_cons_of_mem _ h
        · exact List.mem_append.2 (.inr h)
      refine ⟨newRow_mem (g0 := 0) (sz := i.size) w.drew rfl hpos hcs (by simpa using hcl) hcm hcall (fun h => absurd h hne) (by rw [List.length_append, rowOf_append]; exact htk) hmall hS (fun g hg => (hlt g (hsub g hg)).1), ?_, fun g hg => ?_⟩
      · simp only [L.fp, List.nodup_cons]
        refine ⟨fun hg => Nat.lt_irrefl _ (hlt _ (hsub _ hg)).1, ?_⟩
        rw [L.fps_append]
        have hnd2 := hnd
        cases h0 with
        | none => exact hnd2
        | some gc =>
          obtain ⟨g1, c1⟩ := gc
          simp only [L.fp, List.cons_append, List.nodup_cons] at hnd2
          exact hnd2.2
      · simp only [L.fp] at hg
        rcases List.mem_cons.1 hg with rfl | hg
        · exact ⟨.inr (.inr rfl), by rw [alloc_size]; exact Nat.lt_succ_self _⟩
        · have := hsub g hg
          refine ⟨?_, by rw [alloc_size]; exact Nat.lt_succ_of_lt (hlt g this).1⟩
          rcases List.mem_append.1 this with h | h
          · exact .inl h
          · exact .inr (.inl h)
    have holdD : ∀ (o : Obj) (k : Nat), k < w.heap.size → (w.drew.alloc o).heap[k]? = w.heap[k]? := fun o k hk => heap_alloc_old w.drew o k hk
    have hzc : ∀ n, (Builtin.zeroCells z.cells n).size = n * i.size := fun n => by rw [size_zeroCells, hzs]
    cases h0 with
    | none =>
      simp only [L.mem] at hm0; subst hm0
      have hr := run_append_nil (P := P) w t ty e i z ht hi hz ⟨gs, os, none⟩ lsr.length cap (rowOf lsr) hrlr hnews hmpos (by simp at hn; omega) (by simp at hb; omega)
      have hge := grownCap_ge w lsr.length 0 e
      obtain ⟨f1, f2, f3⟩ := fresh ((rowOf lsr).toArray ++ Builtin.zeroCells z.cells (grownCap w lsr.length 0 e - lsr.length)) (grownCap w lsr.length 0 e)
        (by simp only [Array.size_append, List.size_toArray, hzc, hrlr, ← Nat.add_mul]; congr 1; omega) (by simpa using hge) (grownCap_le_maxLen w _ 0 e (by simpa using hmax))
        (by simp only [Array.toList_append, rowOf, List.nil_append, List.length_nil, Nat.zero_add]; rw [← hrlr]; exact List.take_left)
      exact ⟨some (w.heap.size, grownCap w lsr.length 0 e), _, (by simp only [List.length_nil, Nat.zero_add]; exact hr), f1, f2, f3, rfl, rfl, rfl, by rw [alloc_size]; exact Nat.le_succ _, fun k hk _ => holdD _ k hk⟩
    | some gc =>
      obtain ⟨g0, cap0⟩ := gc
      have hrow := hm0.1
      obtain ⟨sz, cur, ty0, r1, r2, r3, r4, r5, r6, r7, r8⟩ := hrow
      by_cases hroom : ls0.length + lsr.length ≤ cap0
      · -- in place
        have hls0 : ls0 ≠ [] := by rintro rfl; have := r7 rfl; simp at hroom; omega
        have hsz : sz = i.size := by
          cases ls0 with
          | nil => exact absurd rfl hls0
          | cons l _ => rw [← r6 l (by simp), hc0 l (by simp)]
        subst hsz
        have hfit : ls0.length * i.size + (rowOf lsr).length ≤ cur.size := by rw [hrlr, r3, ← Nat.add_mul]; exact Nat.mul_le_mul_right _ hroom
        have hr := run_append_room' (P := P) w t ty e ty0 i ht hi g0 ls0.length cap0 cur r2 ⟨gs, os, none⟩ lsr.length cap (rowOf lsr) hrlr hnews h1 hroom hfit
        have hg0 : g0 < w.heap.size := (hlt g0 (by simp [L.fp])).1
        have hnd0 : g0 ∉ L.fps ls0 ++ L.fps lsr := by
          simp only [L.fp, List.cons_append, List.nodup_cons] at hnd; exact hnd.1
        have hoth : ∀ q, q ≠ g0 → (w.setRow g0 (cur.toList.take (ls0.length * i.size) ++ rowOf lsr ++ cur.toList.drop (ls0.length * i.size + (rowOf lsr).length)).toArray).heap[q]? = w.heap[q]? := fun q hq => setRow_other w g0 q _ hq
        refine ⟨some (g0, cap0), _, hr, ⟨⟨i.size, _, ty0, hpos, setRow_heap w g0 cur _ ty0 _ r2, ?_, by simpa using hroom, r5, hcall, fun h => absurd h hne, ?_⟩, ?_⟩, ?_, fun g hg => ?_, rfl, rfl, rfl, by simp, fun k hk hn => ?_⟩
        · simp only [List.size_toArray, List.length_append, List.length_take, List.length_drop, Array.length_toList]
          omega
        · rw [r8, List.length_append, rowOf_append, Nat.add_mul, ← hrl0, ← hrlr, ← List.length_append]
          simp only [List.toList_toArray]
          exact List.take_left
        · rw [L.mems_iff]
          intro l hl
          refine L.mem_frame (fun _ h => h) (fun q hq => hoth q ?_) l (hmall l hl) (fun q hq => hoth q ?_)
          · rintro rfl; exact (hlt q (by simp [L.fp])).2 hq
          · rintro rfl
            exact hnd0 (by rw [← L.fps_append]; exact L.mem_fps hl hq)
        · simp only [L.fp, L.fps_append]
          simp only [L.fp, List.cons_append] at hnd
          exact hnd
        · simp only [L.fp, L.fps_append] at hg
          simp only [setRow_size]
          rcases List.mem_cons.1 hg with rfl | hg
          · exact ⟨.inl (by simp [L.fp]), hg0⟩
          · rcases List.mem_append.1 hg with h | h
            · exact ⟨.inl (by simp [L.fp, h]), (hlt g (by simp [L.fp, h])).1⟩
            · exact ⟨.inr (.inl h), (hlt g (by simp [h])).1⟩
        · exact hoth k (by rintro rfl; exact hn (by simp [L.fp]))
      · have hsl0 := own_srcLoc hm0
        obtain ⟨b0, c0', hv0, hold0⟩ := hsl0
        have holds : ∀ (j : Nat) (v : Value), (rowOf ls0)[j]? = some v → w.cell? ((⟨g0, 0, none⟩ : Addr).add j) = some v := by
          intro j v hv
          have hls0 : ls0 ≠ [] := by rintro rfl; simp [rowOf] at hv
          obtain ⟨gg, oo, hb0, hc⟩ := hold0 hls0
          simp only [hdrV, Value.slice.injEq] at hv0
          rw [hb0] at hv0
          simp only [Option.some.injEq, Addr.mk.injEq, and_true] at hv0
          obtain ⟨⟨rfl, rfl⟩, -⟩ := hv0
          rw [add_lit]; exact hc j v hv
        have hr := run_append_grow (P := P) w t ty e i z ht hi hz ⟨g0, 0, none⟩ ls0.length cap0 (rowOf ls0) hrl0 holds ⟨gs, os, none⟩ lsr.length cap (rowOf lsr) hrlr hnews (by omega) (by omega)
          (growslice_fits (by omega) hb)
        have hge := grownCap_ge w (ls0.length + lsr.length) cap0 e
        obtain ⟨f1, f2, f3⟩ := fresh ((rowOf ls0).toArray ++ (rowOf lsr).toArray ++ Builtin.zeroCells z.cells (grownCap w (ls0.length + lsr.length) cap0 e - (ls0.length + lsr.length))) (grownCap w (ls0.length + lsr.length) cap0 e)
          (by simp only [Array.size_append, List.size_toArray, hzc, hrlr, hrl0, ← Nat.add_mul]; congr 1; omega) hge (grownCap_le_maxLen w _ cap0 e hmax)
          (by simp only [Array.toList_append, List.append_assoc]; rw [← List.append_assoc, Nat.add_mul, ← hrl0, ← hrlr, ← List.length_append]; exact List.take_left)
        exact ⟨some (w.heap.size, grownCap w (ls0.length + lsr.length) cap0 e), _, hr, f1, f2, f3, rfl, rfl, rfl, by rw [alloc_size]; exact Nat.le_succ _, fun k hk _ => holdD _ k hk⟩

theorem base_sound (hB : SimB Γ st.box w LB S) {x : X} {v : Value} {es : List X} {us : List (Nat × Bx)} (hb : st.base x = some (es, us)) (hx : TRel st.box LB w S x v) :
    ∃ LB' t0 h0 ls0, SimB Γ (st.withB us).box w LB' S ∧ Adv st.box (st.withB us).box LB LB' ∧ (L.own t0 h0 ls0).mem w S ∧ ls0.map L.er = es ∧ v = hdrV h0 ls0.length ∧ Free Γ w S LB' (L.own t0 h0 ls0).fp := by
  unfold St.base at hb
  split at hb
  · simp only [Option.some.injEq, Prod.mk.injEq] at hb
    obtain ⟨rfl, rfl⟩ := hb
    obtain ⟨rfl, -⟩ := hx
    exact ⟨LB, 0, none, [], hB, Adv.refl _ _, rfl, rfl, rfl, Free.nil⟩
  · rename_i b ver p c
    cases hs : slAt (st.box b) ver p c with
    | none => simp [hs] at hb
    | some te =>
      obtain ⟨t, es'⟩ := te
      simp only [hs, Option.map_some, Option.some.injEq, Prod.mk.injEq] at hb
      obtain ⟨rfl, rfl⟩ := hb
      obtain ⟨tm, bl⟩ := st
      have ht : (St.mk tm bl).take1 (.view b ver p c) = some (.sl (bif p.isEmpty then t + 1 else 1) es', [(b, ((St.mk tm bl).box b).kill p c)]) := by
        simp [St.take1, hs]
      obtain ⟨LB', l, k1, k2, k3, k4, -, -⟩ := take1_sound hB ht hx
      have her := k3.er
      have : ∃ t', (bif p.isEmpty then t + 1 else 1) = t' + 1 := by cases p.isEmpty <;> exact ⟨_, rfl⟩
      obtain ⟨t', ht'⟩ := this
      rw [ht'] at her
      obtain ⟨hh, ls, rfl, hls⟩ := L.er_own_iff her
      refine ⟨LB', t', hh, ls, k1, k2, k3.mem, hls, ?_, k4⟩
      rw [← k3.flat, L.own_flat]
  · simp at hb

theorem solid_rows : ∀ (ls : List L), (∀ l ∈ ls, l.mem w S) → (ls.map L.er).all X.solid = true → ∀ u ∈ rowOf ls, u.oneCell' = true
  | [], _, _ => by simp [rowOf]
  | l :: ls, hm, hs => by
    simp only [List.map_cons, List.all_cons, Bool.and_eq_true] at hs
    intro u hu
    simp only [rowOf] at hu
    rcases List.mem_append.1 hu with hu | hu
    · exact solid_one hs.1 (hm l (by simp)) u hu
    · exact solid_rows ls (fun q hq => hm q (by simp [hq])) hs.2 u hu
theorem src_sound (hB : SimB Γ st.box w LB S) {x : X} {v : Value} {xs : List X} {us : List (Nat × Bx)} (hb : st.src x = some (xs, us)) (hx : TRel st.box LB w S x v) :
    ∃ LB' ls, SimB Γ (st.withB us).box w LB' S ∧ Adv st.box (st.withB us).box LB LB' ∧ (∀ l ∈ ls, l.mem w S) ∧ ls.map L.er = xs ∧ SrcLoc w v ls ∧ Free Γ w S LB' (L.fps ls) ∧ (∀ u ∈ rowOf ls, u.oneCell' = true) ∧
      (∀ b B', LB' b = some B' → ∃ B, LB b = some B ∧ ∀ g ∈ B'.fp, g ∈ B.fp) ∧ (∀ g ∈ L.fps ls, ∃ b B, LB b = some B ∧ g ∈ B.fp) := by
  have hid : ∀ b B', LB b = some B' → ∃ B, LB b = some B ∧ ∀ g ∈ B'.fp, g ∈ B.fp := fun b B' h => ⟨B', h, fun _ h => h⟩
  unfold St.src at hb
  split at hb
  · simp only [Option.some.injEq, Prod.mk.injEq] at hb
    obtain ⟨rfl, rfl⟩ := hb
    obtain ⟨ls, k1, k2, k3, k4, k5⟩ := ro_located hx
    exact ⟨LB, ls, hB, Adv.refl _ _, k2, k1, k4, by rw [k3]; exact Free.nil, k5, hid, by rw [k3]; simp⟩
  · simp only [Option.some.injEq, Prod.mk.injEq] at hb
    obtain ⟨rfl, rfl⟩ := hb
    obtain ⟨rfl, -⟩ := hx
    exact ⟨LB, [], hB, Adv.refl _ _, by simp, rfl, ⟨none, 0, rfl, fun h => absurd rfl h⟩, Free.nil, by simp [rowOf], hid, by simp [L.fps]⟩
  · rename_i b ver p c
    split at hb
    · rename_i t es hs
      obtain ⟨tm, bl⟩ := st
      have ht : (St.mk tm bl).take1 (.view b ver p c) = some (.sl (bif p.isEmpty then t + 1 else 1) es, [(b, ((St.mk tm bl).box b).kill p c)]) := by
        simp [St.take1, hs]
      obtain ⟨LB', l, k1, k2, k3, k4, k5, k6⟩ := take1_sound hB ht hx
      have her := k3.er
      have : ∃ t', (bif p.isEmpty then t + 1 else 1) = t' + 1 := by cases p.isEmpty <;> exact ⟨_, rfl⟩
      obtain ⟨t', ht'⟩ := this
      rw [ht'] at her
      obtain ⟨hh, ls, rfl, rfl⟩ := L.er_own_iff her
      have hloc : SrcLoc w v ls := by
        have := own_srcLoc k3.mem
        rw [← L.own_flat t', k3.flat] at this
        exact this
      have hmls : ∀ l ∈ ls, l.mem w S := by
        have := k3.mem
        cases hh with
        | none => simp only [L.mem] at this; subst this; simp
        | some gc => obtain ⟨g, cap⟩ := gc; exact (L.mems_iff ls).1 this.2
      have hfsub : ∀ g ∈ L.fps ls, g ∈ (L.own t' hh ls).fp := by
        intro g hg
        cases hh with
        | none => exact hg
        | some gc => obtain ⟨g1, cap⟩ := gc; exact List.mem_cons_of_mem _ hg
      have hone := solid_rows ls hmls
      split at hb
      · rename_i hpl
        simp only [Option.some.injEq, Prod.mk.injEq] at hb
        obtain ⟨rfl, rfl⟩ := hb
        have hfp0 : L.fps ls = [] := by
          rw [L.fps_eq, List.flatMap_eq_nil_iff]
          intro l hl
          exact plain_fp ((List.all_eq_true.1 hpl) _ (List.mem_map.2 ⟨l, hl, rfl⟩))
        refine ⟨LB, ls, hB, Adv.refl _ _, hmls, rfl, hloc, by rw [hfp0]; exact Free.nil, hone ?_, hid, by rw [hfp0]; simp⟩
        rw [List.all_eq_true] at hpl ⊢
        exact fun x hx => plain_solid (hpl x hx)
      · split at hb
        · rename_i hsol
          simp only [Option.some.injEq, Prod.mk.injEq] at hb
          obtain ⟨rfl, rfl⟩ := hb
          refine ⟨LB', ls, k1, k2, hmls, rfl, hloc, ⟨?_, fun b B hb g hg => k4.dj b B hb g (hfsub g hg), fun g hg => k4.fr g (hfsub g hg)⟩, hone hsol, k5, fun g hg => k6 g (hfsub g hg)⟩
          have := k4.nd
          cases hh with
          | none => exact this
          | some gc => obtain ⟨g1, cap⟩ := gc; exact (List.nodup_cons.1 this).2
        · simp at hb
    · simp at hb
  · simp at hb

theorem append_sound (h : SimL Γ st a w LB S) {o : Oper} (hd : DstOK Γ.n o) {d : Nat} (hdst : o.dst = some d) {t : TypeId} {y z : Operand}
    (ho : o.op = .call { callee := .builtin .append, args := #[y, z], argTypes := #[t, t] }) {side : Prop} {r : X} {us : List (Nat × Bx)}
    (he : evAppend P st d t (st.opd y) (st.opd z) = .ok side r us) (hside : side) : OpOK P Γ o a w (st.put o.dst r us) := by
  unfold evAppend at he
  split at he
  · simp at he
  · rename_i e hte
    split at he
    · simp at he
    · rename_i zx hz
      split at he
      · simp at he
      · rename_i es us1 hb
        split at he
        · simp at he
        · rename_i xs us2 hsrc
          split at he
          · simp at he
          · rename_i hsz
            simp only [Ev.ok.injEq] at he
            obtain ⟨hs, rfl, rfl⟩ := he
            rw [← hs] at hside
            obtain ⟨hb1, hb2, hb3, hb4⟩ := hside
            obtain ⟨i, zv, hi, hzv, hzs, rfl⟩ := tZero_some hz
            obtain ⟨hts, htb⟩ := tSize_info hi
            obtain ⟨LB1, t0, h0, ls0, k1, k2, k3, rfl, k5, k6⟩ := base_sound h.toB hb (h.opd y)
            have hz2 := TRel.adv k2 (S := S) (S' := S) (w := w) (w' := w) (fun _ h => h) (fun _ _ => rfl) _ _ (h.opd z)
            obtain ⟨LB2, lsr, m1, m2, m3, rfl, m5, m6, m7, m8, m9⟩ := src_sound k1 hsrc hz2
            have hcells : ∀ (ls : List L), (∀ y ∈ ls.map L.er, y.cells.length = tSize P e) → ∀ l ∈ ls, l.cells.length = i.size := by
              intro ls hy l hl
              have := hy l.er (List.mem_map.2 ⟨l, hl, rfl⟩)
              rw [L.er_cells, List.length_map] at this
              omega
            have hF1 : Free Γ w S LB2 (L.own t0 h0 ls0).fp := ⟨k6.nd, fun b B hB g hg hgB => by
              obtain ⟨B1, hB1, hsub⟩ := m8 b B hB
              exact k6.dj b B1 hB1 g hg (hsub g hgB), k6.fr⟩
            have hndall : ((L.own t0 h0 ls0).fp ++ L.fps lsr).Nodup := List.nodup_append.2 ⟨k6.nd, m6.nd, fun g hg g' hg' hee => by
              subst hee
              obtain ⟨b, B, hB, hgB⟩ := m9 g hg'
              exact k6.dj b B hB g hg hgB⟩
            simp only [List.length_map] at hb1 hb2
            obtain ⟨h', w2, r1, r2, r3, r4, r5, r6, r7, r8, r9⟩ := append_run (P := P) w t o.type e i zv (tElem_some hte).1 hi hzv hzs (by omega) k3 m5 m3 (hcells ls0 hb3) (hcells lsr hb4) m7 (by rw [← htb]; exact hb1) hb2 hndall
              (fun g hg => by rcases List.mem_append.1 hg with hg | hg; exact ⟨(k6.fr g hg).2.1, (k6.fr g hg).1⟩; exact ⟨(m6.fr g hg).2.1, (m6.fr g hg).1⟩) h.Sw
            have hSs : ∀ g, S g → w2.heap[g]? = w.heap[g]? := fun g hg => r9 g (h.Sw g hg) (fun hm => (k6.fr g hm).1 hg)
            have hown : ∀ b B, LB2 b = some B → ∀ g ∈ B.fp, w2.heap[g]? = w.heap[g]? := fun b B hB g hg => r9 g (m1.fr b B hB g hg).2.1 (fun hm => hF1.dj b B hB g hm hg)
            have hm1 : SimB Γ (st.withB (us2 ++ us1)).box w LB2 S := by rw [← withB_app]; exact m1
            have hfree : Free Γ w2 S LB2 (L.own 0 h' (ls0 ++ lsr)).fp := ⟨r3, fun b B hB g hg hgB => by
              rcases (r4 g hg).1 with h1 | h1 | h1
              · exact hF1.dj b B hB g h1 hgB
              · exact m6.dj b B hB g h1 hgB
              · subst h1; exact Nat.lt_irrefl _ (m1.fr b B hB _ hgB).2.1, fun g hg => by
              refine ⟨?_, (r4 g hg).2, ?_⟩
              · rcases (r4 g hg).1 with h1 | h1 | h1
                · exact (k6.fr g h1).1
                · exact (m6.fr g h1).1
                · subst h1; exact fun hS => Nat.lt_irrefl _ (h.Sw _ hS)
              · rcases (r4 g hg).1 with h1 | h1 | h1
                · exact (k6.fr g h1).2.2
                · exact (m6.fr g h1).2.2
                · subst h1; exact .inr h.frame.size⟩
            have hFr : Fr Γ.Fin Γ.w0 w2 := h.frame.same r5 r6 r7 r8 (fun k hk => by
              by_cases hm : k ∈ (L.own t0 h0 ls0).fp
              · rcases (k6.fr k hm).2.2 with h1 | h1
                · exact .inl h1
                · exact .inr (.inl h1)
              · exact .inr (.inr (r9 k hk hm)))
            obtain ⟨n1, n2, n3⟩ := hm1.newOwn (hd.ne hdst) r2 hfree hown hSs r8 hFr
            rw [List.map_append] at n1 n2 n3
            rw [List.length_append] at n3
            have hadv : Adv st.box (st.withB (us2 ++ us1)).box LB LB2 := by rw [← withB_app]; exact k2.trans m2
            rw [withB_app]
            refine ⟨.value _, w2, _, S, ?_, .inl ⟨_, rfl, h.next (hadv.trans n2) (fun _ h => h) hSs n1 hd.2 n3⟩⟩
            simp [execOp, ho, resolve, invoke, builtin, k5, r1]

/-! literal slices -/
def L.untags : L → L
  | .agg cs => .agg (cs.map L.untag)
  | l => l.untag
theorem L.untags_spec (w : World) (S : Nat → Prop) (l : L) (hc : ∀ c ∈ l.cells, c.cells = [c]) (hag : (¬ ∃ cs, l = .agg cs) → l.cells = [l]) :
    l.untags.er = l.er.untags ∧ l.untags.cflat = l.cflat ∧ (l.mem w S → l.untags.mem w S) ∧ l.untags.fp = l.fp ∧ l.untags.cells.length = l.cells.length := by
  by_cases h : ∃ cs, l = .agg cs
  · obtain ⟨cs, rfl⟩ := h
    simp only [L.cells] at hc
    refine ⟨?_, ?_, fun hm => ?_, ?_, by simp [L.untags, L.cells]⟩
    · simp only [L.untags, L.er, X.untags, L.ers_eq, List.map_map]
      congr 1
      exact List.map_congr_left fun c hcc => (L.untag_spec w S c (hc c hcc)).1
    · simp only [L.untags, L.cflat, L.cells, L.flats_eq, List.map_map]
      exact List.map_congr_left fun c hcc => (L.untag_spec w S c (hc c hcc)).2.1
    · simp only [L.untags, L.mem] at hm ⊢
      rw [L.mems_iff] at hm ⊢
      intro c hcc
      obtain ⟨q, hq, rfl⟩ := List.mem_map.1 hcc
      exact (L.untag_spec w S q (hc q hq)).2.2.1 (hm q hq)
    · simp only [L.untags, L.fp, L.fps_eq, List.flatMap_map]
      have : ∀ c ∈ cs, c.untag.fp = c.fp := fun c hcc => (L.untag_spec w S c (hc c hcc)).2.2.2.1
      clear hc hag
      induction cs with
      | nil => rfl
      | cons c cs ih => simp only [List.flatMap_cons, this c (by simp), ih (fun l hl => this l (by simp [hl]))]
  · have hcl := hag h
    have h1 : l.untags = l.untag := by cases l <;> first | rfl | exact absurd ⟨_, rfl⟩ h
    have h2 : l.er.untags = l.er.untag := by cases l <;> first | rfl | exact absurd ⟨_, rfl⟩ h
    obtain ⟨q1, q2, q3, q4, -, q6⟩ := L.untag_spec w S l hcl
    rw [h1, h2]
    refine ⟨q1, ?_, q3, q4, by rw [q6, hcl]; rfl⟩
    rw [L.cflat, L.cflat, q6, hcl]; simp [L.flats, q2]

theorem elems_sound : ∀ {xs ys : List X} {vs : List Value} {st : St} {LB : Nat → Option BL} {us : List (Nat × Bx)}, SimB Γ st.box w LB S → st.elems xs = some (ys, us) → TRels st.box LB w S xs vs →
    ∃ LB' ls, SimB Γ (st.withB us).box w LB' S ∧ Adv st.box (st.withB us).box LB LB' ∧ ls.map L.er = ys ∧ ls.length = vs.length ∧ (∀ l ∈ ls, l.mem w S) ∧ rowOf ls = vs.flatMap (fun v => v.cells.toList) ∧
      (∀ (i : Nat) (l : L) (v : Value), ls[i]? = some l → vs[i]? = some v → v.cells.size = l.cells.length) ∧ Free Γ w S LB' (L.fps ls) ∧
      (∀ b B', LB' b = some B' → ∃ B, LB b = some B ∧ ∀ g ∈ B'.fp, g ∈ B.fp) ∧ (∀ g ∈ L.fps ls, ∃ b B, LB b = some B ∧ g ∈ B.fp)
  | [], ys, vs, st, LB, us, hB, ht, hx => by
    simp only [St.elems, Option.some.injEq, Prod.mk.injEq] at ht
    obtain ⟨rfl, rfl⟩ := ht
    cases vs with
    | nil => exact ⟨LB, [], hB, Adv.refl _ _, rfl, rfl, by simp, rfl, by simp, Free.nil, fun b B h => ⟨B, h, fun _ h => h⟩, by simp [L.fps]⟩
    | cons v vs => exact hx.elim
  | x :: xs, ys, vs, st, LB, us, hB, ht, hx => by
    simp only [St.elems] at ht
    cases h1 : st.take x with
    | none => simp [h1] at ht
    | some y =>
      obtain ⟨y, us1⟩ := y
      simp only [h1, Option.bind_some] at ht
      cases h2 : (st.withB us1).elems xs with
      | none => simp [h2] at ht
      | some z =>
        obtain ⟨ys2, us2⟩ := z
        simp only [h2, Option.map_some, Option.some.injEq, Prod.mk.injEq] at ht
        obtain ⟨rfl, rfl⟩ := ht
        cases vs with
        | nil => exact hx.elim
        | cons v vs =>
          obtain ⟨LB1, c, cls, k1, k2, k3, k4, k5, k6, k7, k8, k9, k10, k11, k12⟩ := take_sound hB h1 hx.1
          have hx2 := TRels.adv k2 (S := S) (S' := S) (w := w) (w' := w) (fun _ h => h) (fun _ _ => rfl) _ _ hx.2
          obtain ⟨LB2, ls, m1, m2, m3, m4, m5, m6, m7, m8, m9, m10⟩ := elems_sound k1 h2 hx2
          obtain ⟨q1, q2, q3, q4, q5⟩ := L.untags_spec w S c (by rw [k6]; exact k3.cell) (fun hna => by
            cases c with
            | agg cs => exact absurd ⟨cs, rfl⟩ hna
            | _ => rfl)
          refine ⟨LB2, c.untags :: ls, ?_, ?_, ?_, by simp [m4], ?_, ?_, ?_, ⟨?_, ?_, ?_⟩, ?_, ?_⟩
          · rw [← withB_app]; exact m1
          · rw [← withB_app]; exact k2.trans m2
          · simp [q1, k5, m3]
          · intro l hl; rcases List.mem_cons.1 hl with rfl | hl; exact q3 k7; exact m5 l hl
          · simp only [rowOf, List.flatMap_cons, m6, q2, k8]
          · intro i l v' hi hv
            cases i with
            | zero => simp at hi hv; subst hi; subst hv; rw [q5, ← L.cflat_length, ← k8]; simp
            | succ i => exact m7 i l v' (by simpa using hi) (by simpa using hv)
          · simp only [L.fps, q4]
            refine List.nodup_append.2 ⟨k4.nd, m8.nd, fun g hg g' hg' he => ?_⟩
            subst he
            obtain ⟨b, B, hb, hgB⟩ := m10 g hg'
            exact k4.dj b B hb g hg hgB
          · intro b B hb g hg hgB
            simp only [L.fps, q4] at hg
            rcases List.mem_append.1 hg with hg | hg
            · obtain ⟨B1, hb1, hsub⟩ := m9 b B hb
              exact k4.dj b B1 hb1 g hg (hsub g hgB)
            · exact m8.dj b B hb g hg hgB
          · intro g hg
            simp only [L.fps, q4] at hg
            rcases List.mem_append.1 hg with hg | hg
            · exact k4.fr g hg
            · exact m8.fr g hg
          · intro b B hb
            obtain ⟨B1, hb1, hsub1⟩ := m9 b B hb
            obtain ⟨B0, hb0, hsub0⟩ := k11 b B1 hb1
            exact ⟨B0, hb0, fun g hg => hsub0 g (hsub1 g hg)⟩
          · intro g hg
            simp only [L.fps, q4] at hg
            rcases List.mem_append.1 hg with hg | hg
            · exact k12 g hg
            · obtain ⟨b, B1, hb1, hg1⟩ := m10 g hg
              obtain ⟨B0, hb0, hsub0⟩ := k11 b B1 hb1
              exact ⟨b, B0, hb0, hsub0 g hg1⟩

theorem inOrder_spec (f : Operand → Value) : ∀ (n : Nat) (l : List (Nat × Operand)), inOrder n l = true → l.map (fun x => (x.1, f x.2)) = ((l.map fun x => f x.2).zipIdx n).map fun x => (x.2, x.1)
  | n, [], _ => rfl
  | n, (i, x) :: r, h => by
    simp only [inOrder, Bool.and_eq_true, beq_iff_eq] at h
    simp only [List.map_cons, List.zipIdx_cons, inOrder_spec f (n + 1) r h.2, h.1]

theorem buildSlice_sound (h : SimL Γ st a w LB S) {o : Oper} (hd : DstOK Γ.n o) {d : Nat} (hdst : o.dst = some d) {t : TypeId} {n : Nat} {ps : Array (Nat × Operand)}
    (ho : o.op = .buildSlice t n ps) {side : Prop} {r : X} {us : List (Nat × Bx)}
    (he : evBuildSlice P st d t n ps.toList = .ok side r us) (hside : side) : OpOK P Γ o a w (st.put o.dst r us) := by
  unfold evBuildSlice at he
  split at he
  · simp at he
  · rename_i e hte
    split at he
    · simp at he
    · rename_i zx hz
      split at he
      · rename_i hc
        obtain ⟨hc1, hc2, hc3, hc4⟩ := hc
        split at he
        · simp at he
        · rename_i es us1 hel
          simp only [Ev.ok.injEq] at he
          obtain ⟨hs, rfl, rfl⟩ := he
          rw [← hs] at hside
          obtain ⟨i, zv, hi, hzv, hzs, rfl⟩ := tZero_some hz
          obtain ⟨hts, htb⟩ := tSize_info hi
          have hrels : TRels st.box LB w S (ps.toList.map fun x => st.opd x.2) (ps.toList.map fun x => a.eval x.2) := by
            refine TRels.mk (by simp) fun k x v hx hv => ?_
            simp only [List.getElem?_map] at hx hv
            cases hk : ps.toList[k]? with
            | none => simp [hk] at hx
            | some p =>
              simp only [hk, Option.map_some, Option.some.injEq] at hx hv
              subst hx; subst hv
              exact h.opd p.2
          obtain ⟨LB1, ls, k1, k2, rfl, k4, k5, k6, k7, k8, -, -⟩ := elems_sound h.toB hel hrels
          have hlen : ls.length = n := by rw [k4, hc1]; simp
          have hcl : ∀ l ∈ ls, l.cells.length = i.size := by
            intro l hl
            have := hside l.er (List.mem_map.2 ⟨l, hl, rfl⟩)
            rw [L.er_cells, List.length_map] at this
            omega
          have hvc : ∀ v ∈ ps.toList.map (fun x => a.eval x.2), v.cells.size = i.size := by
            intro v hv
            obtain ⟨k, hk⟩ := List.getElem?_of_mem hv
            have hlt : k < ls.length := by rw [k4]; exact (List.getElem?_eq_some_iff.1 hk).1
            rw [k7 k _ v (List.getElem?_eq_getElem hlt) hk]
            exact hcl _ (List.getElem_mem hlt)
          have hrun : (Instr.buildSlice t n (ps.map fun (i, x) => (i, a.eval x))).run P w = .ok (.slice (some ⟨w.heap.size, 0, none⟩) n n) (w.alloc (.cells (rowOf ls).toArray e)) := by
            have hps : (ps.map fun (i, x) => (i, a.eval x)).toList = (((ps.toList.map fun x => a.eval x.2).zipIdx 0).map fun x => (x.2, x.1)) := by
              rw [← inOrder_spec a.eval 0 ps.toList hc2]; simp
            by_cases hn0 : n = 0
            · subst hn0
              have : ps.toList = [] := List.eq_nil_of_length_eq_zero hc1.symm
              have hls : ls = [] := List.eq_nil_of_length_eq_zero hlen
              have hpsz : ps = #[] := by apply Array.ext'; simpa using this
              subst hls; subst hpsz
              simp [Instr.buildSlice, run_underlying (tElem_some hte).1, sizeOf, typeInfo, hi, Instr.fill, newRow, rowOf, Array.range_zero']
            · have hfill := Great.fill_whole (s := i.size) (by omega) (ps.toList.map fun x => a.eval x.2) ((Array.range (n * i.size)).map (zv.cells[· % zv.cells.size]!)) hvc (by simp [← hc1])
              rw [← hps, ← k6] at hfill
              exact run_buildSlice w t e n _ _ i zv (tElem_some hte).1 hi hzv (by rw [hts] at hc4; omega) (by
                rw [Nat.mul_eq_zero]; omega) hfill
          have hcells : (rowOf ls).toArray.size = n * i.size := by rw [List.size_toArray, rowOf_length i.size ls hcl, hlen]
          have hm := newRow_mem (w := w) (S := S) (g0 := 0) (cap := n) (sz := i.size) (es := ls) (cells := (rowOf ls).toArray) (e := e) w rfl (by omega) hcells (by omega)
            (by unfold maxLen; have : n ≤ n * tSize P e := Nat.le_mul_of_pos_right n hc3; omega) hcl (fun he => by rw [he] at hlen; simpa using hlen.symm)
            (by rw [hlen, ← hcells]; simp) k5 h.Sw (fun g hg => (k8.fr g hg).2.1)
          have hfree : Free Γ (w.alloc (.cells (rowOf ls).toArray e)) S LB1 (L.own 0 (some (w.heap.size, n)) ls).fp := by
            refine ⟨?_, fun b B hB g hg hgB => ?_, fun g hg => ?_⟩
            · simp only [L.fp, List.nodup_cons]
              exact ⟨fun hg => Nat.lt_irrefl _ (k8.fr _ hg).2.1, k8.nd⟩
            · simp only [L.fp] at hg
              rcases List.mem_cons.1 hg with rfl | hg
              · exact Nat.lt_irrefl _ (k1.fr b B hB _ hgB).2.1
              · exact k8.dj b B hB g hg hgB
            · simp only [L.fp] at hg
              rw [alloc_size]
              rcases List.mem_cons.1 hg with rfl | hg
              · exact ⟨fun hS => Nat.lt_irrefl _ (h.Sw _ hS), Nat.lt_succ_self _, .inr h.frame.size⟩
              · exact ⟨(k8.fr g hg).1, Nat.lt_succ_of_lt (k8.fr g hg).2.1, (k8.fr g hg).2.2⟩
          obtain ⟨n1, n2, n3⟩ := k1.newOwn (hd.ne hdst) hm hfree (fun b B hB g hg => heap_alloc_old w _ g (k1.fr b B hB g hg).2.1) (fun g hg => heap_alloc_old w _ g (h.Sw g hg))
            (by rw [alloc_size]; exact Nat.le_succ _) (h.frame.alloc _)
          refine ⟨.value _, _, _, S, ?_, .inl ⟨_, rfl, h.next (k2.trans n2) (fun _ h => h) (fun g hg => heap_alloc_old w _ g (h.Sw g hg)) n1 hd.2 n3⟩⟩
          simp [execOp, ho, hrun, hdrV, hlen]
      · simp at he

end Go.Proofs.Ytncjcbdbdocjaaa.Ax

/- Soundness of one operation. -/
namespace Go.Proofs.Ytncjcbdbdocjaaa.Ax
open Go

variable {P : Program} {Γ : Ctx} {st : St} {a : Act} {w w' : World} {LB LB' : Nat → Option BL} {S : Nat → Prop}

theorem pure_ok (h : SimL Γ st a w LB S) {o : Oper} (hd : DstOK Γ.n o) {r : X} {us : List (Nat × Bx)} {v : Value} (hus : us = []) (hrun : (execOp a.eval o).run P w = .ok (.value v) w) (hr : TRel st.box LB w S r v) :
    OpOK P Γ o a w (st.put o.dst r us) := by
  subst hus
  exact ⟨.value v, w, LB, S, hrun, .inl ⟨v, rfl, h.next0 hd.2 hr⟩⟩

theorem evOp_sound (h : SimL Γ st a w LB S) {o : Oper} (hd : DstOK Γ.n o) {side : Prop} {r : X} {us : List (Nat × Bx)} (he : evOp P st o = .ok side r us) (hside : side) :
    OpOK P Γ o a w (st.put o.dst r us) := by
  have hop := h.opd
  cases ho : o.op with
  | move x =>
    simp only [evOp, ho, Ev.ok.injEq] at he
    obtain ⟨-, rfl, rfl⟩ := he
    exact pure_ok h hd rfl (by simp [execOp, ho]) (hop x)
  | assign x =>
    simp only [evOp, ho, Ev.ok.injEq] at he
    obtain ⟨-, rfl, rfl⟩ := he
    exact pure_ok h hd rfl (by simp [execOp, ho]) (hop x)
  | pick c x y =>
    simp only [evOp, ho] at he
    split at he
    · rename_i k hk
      simp only [Ev.ok.injEq] at he
      obtain ⟨-, rfl, rfl⟩ := he
      have hc := hop c
      rw [hk] at hc
      exact pure_ok h hd rfl (by simp [execOp, ho, hc.1, asBool]) (pickX_rel (hop x) (hop y))
    · simp at he
  | alloc t =>
    simp only [evOp, ho] at he
    split at he
    · rename_i d z hdst hz
      simp only [Ev.ok.injEq] at he
      obtain ⟨-, rfl, rfl⟩ := he
      exact alloc_sound h hd hdst ho hz
    · simp at he
  | box t x =>
    simp only [evOp, ho] at he
    split at he
    · rename_i d hdst
      exact box_sound h hd hdst ho he
    · simp at he
  | build t ps =>
    simp only [evOp, ho] at he
    obtain ⟨hus, v, hr, ht⟩ := build_sound (P := P) h he
    exact pure_ok h hd hus (by simp [execOp, ho, hr]) ht
  | buildSlice t n ps =>
    simp only [evOp, ho] at he
    split at he
    · rename_i d hdst
      exact buildSlice_sound h hd hdst ho he hside
    · simp at he
  | load t x =>
    simp only [evOp, ho] at he
    obtain ⟨hus, v, hr, ht⟩ := load_sound (P := P) h he (hop x)
    exact pure_ok h hd hus (by simp [execOp, ho, hr]) ht
  | store t x y =>
    simp only [evOp, ho] at he
    exact store_sound h hd ho he
  | nilCheck x =>
    simp only [evOp, ho] at he
    obtain ⟨hus, v, hr, ht⟩ := nilCheck_sound (P := P) h ho he
    exact pure_ok h hd hus hr ht
  | binOp op t x y yt =>
    simp only [evOp, ho] at he
    obtain ⟨hus, v, hr, ht⟩ := bin_sound (P := P) (p := x) (q := y) he hside (by simp) (hop x) (hop y)
    refine pure_ok h hd hus ?_ ht
    have hr' : (do eqGuard op t x y (a.eval x) (a.eval y); binOp op t (a.eval x) (a.eval y) : Sem Value).run P w = .ok v w := hr
    have hx : execOp a.eval o = (do let u ← (do eqGuard op t x y (a.eval x) (a.eval y); binOp op t (a.eval x) (a.eval y) : Sem Value); pure (.value u)) := by simp only [execOp, ho]
    rw [hx, Sem.run_bind, hr']
    rfl
  | unOp op t x =>
    simp only [evOp, ho] at he
    obtain ⟨hus, v, hr, ht⟩ := un_sound (P := P) he (hop x)
    exact pure_ok h hd hus (by simp [execOp, ho, hr]) ht
  | convert s d x =>
    simp only [evOp, ho] at he
    obtain ⟨hus, v, hr, ht⟩ := convert_sound (P := P) h he hside (hop x)
    exact pure_ok h hd hus (by simp [execOp, ho, hr]) ht
  | makeFunc fn fs cs =>
    simp only [evOp, ho] at he
    split at he
    · rename_i hc
      simp only [Ev.ok.injEq] at he
      obtain ⟨-, rfl, rfl⟩ := he
      simp only [Bool.and_eq_true, Array.isEmpty_iff] at hc
      refine pure_ok h hd rfl (v := .func fn #[] #[]) ?_ ⟨rfl, rfl⟩
      simp [execOp, ho, hc.1, hc.2, Instr.makeFunc]
    · simp at he
  | makeSlice t l c =>
    simp only [evOp, ho] at he
    split at he
    · rename_i d hdst
      exact makeSlice_sound h hd hdst ho he hside
    · simp at he
  | slice t x lo hi mx =>
    simp only [evOp, ho] at he
    split at he
    · rename_i hmx
      have hmx : mx = none := by simpa using hmx
      subst hmx
      obtain ⟨hus, v, hr, ht⟩ := slice_sound (P := P) (vlo := lo.map a.eval) (vhi := hi.map a.eval) he hside (hop x)
        (by cases lo with | none => trivial | some l => exact hop l) (by cases hi with | none => trivial | some l => exact hop l)
      exact pure_ok h hd hus (by simp [execOp, ho, hr]) ht
    · simp at he
  | fieldAddr t x f =>
    simp only [evOp, ho] at he
    obtain ⟨hus, v, hr, ht⟩ := fieldAddr_sound (P := P) h he (hop x)
    exact pure_ok h hd hus (by simp [execOp, ho, hr]) ht
  | field t x f =>
    simp only [evOp, ho] at he
    obtain ⟨hus, v, hr, ht⟩ := field_sound (P := P) (w := w) (LB := LB) (S := S) he (hop x)
    exact pure_ok h hd hus (by simp [execOp, ho, hr]) ht
  | indexAddr t x i =>
    simp only [evOp, ho] at he
    obtain ⟨hus, v, hr, ht⟩ := indexAddr_sound (P := P) h he hside (hop x) (hop i)
    exact pure_ok h hd hus (by simp [execOp, ho, hr]) ht
  | index t x i =>
    simp only [evOp, ho] at he
    obtain ⟨hus, v, hr, ht⟩ := index_sound (P := P) (w := w) (LB := LB) (S := S) he hside (hop x) (hop i)
    exact pure_ok h hd hus (by simp [execOp, ho, hr]) ht
  | extract x i =>
    simp only [evOp, ho] at he
    split at he
    · rename_i l hl
      split at he
      · rename_i y hy
        simp only [Ev.ok.injEq] at he
        obtain ⟨-, rfl, rfl⟩ := he
        have hx := hop x
        rw [hl] at hx
        obtain ⟨us, hv, hus⟩ := hx
        obtain ⟨v, hv2, hr⟩ := hus.get hy
        rw [Array.getElem?_toList] at hv2
        exact pure_ok h hd rfl (v := v) (by simp [execOp, ho, hv, Instr.extract, hv2]) hr
      · simp at he
    · simp at he
  | call c =>
    obtain ⟨callee, args, argTypes⟩ := c
    simp only [evOp, ho] at he
    cases callee with
    | builtin b =>
      simp only at he
      split at he
      · rename_i x t ha hat
        have ha' : args = #[x] := by apply Array.ext'; simpa using ha
        have hat' : argTypes = #[t] := by apply Array.ext'; simpa using hat
        subst ha'; subst hat'
        obtain ⟨hus, v, hr, ht⟩ := len_sound (P := P) (ty := o.type) h he (hop x)
        exact pure_ok h hd hus (by simp [execOp, ho, resolve, invoke, builtin, hr]) ht
      · rename_i s x t u ha hat
        have ha' : args = #[s, x] := by apply Array.ext'; simpa using ha
        have hat' : argTypes = #[t, u] := by apply Array.ext'; simpa using hat
        subst ha'; subst hat'
        split at he
        · rename_i htu
          subst htu
          split at he
          · rename_i d hdst
            exact append_sound h hd hdst ho he hside
          · simp at he
        · simp at he
      · rename_i x y ha
        have ha' : args = #[x, y] := by apply Array.ext'; simpa using ha
        subst ha'
        obtain ⟨hus, v, hr, ht⟩ := minmax_sound (P := P) (w := w) (LB := LB) (S := S) (at_ := argTypes) (ty := o.type) he (hop x) (hop y)
        simp only [cond_false] at hr
        exact pure_ok h hd hus (by simp [execOp, ho, resolve, invoke, builtin, hr]) ht
      · rename_i x y ha
        have ha' : args = #[x, y] := by apply Array.ext'; simpa using ha
        subst ha'
        obtain ⟨hus, v, hr, ht⟩ := minmax_sound (P := P) (w := w) (LB := LB) (S := S) (at_ := argTypes) (ty := o.type) he (hop x) (hop y)
        simp only [cond_true] at hr
        exact pure_ok h hd hus (by simp [execOp, ho, resolve, invoke, builtin, hr]) ht
      · simp at he
    | value f => simp at he
    | invoke rcv m => simp at he
  | _ => simp [evOp, ho] at he

end Go.Proofs.Ytncjcbdbdocjaaa.Ax

/- Laying trees; what a contract says. -/
namespace Go.Proofs.Ytncjcbdbdocjaaa.Ax
open Go

variable {P : Program} {Γ : Ctx} {st : St} {a : Act} {w w' : World} {LB LB' : Nat → Option BL} {S : Nat → Prop}

theorem vid_inj {d j k : Nat} (h : vid d j = vid d k) : j = k := by unfold vid at h; omega
theorem vid_PB {d k : Nat} (h : vid d k = PB) (hd : d ≤ PB) : d = PB ∧ k = 0 := by unfold vid PB at *; omega

theorem box_skip (st : St) : ∀ (acc : List (Nat × Bx)) (b : Nat), (∀ x ∈ acc, x.1 ≠ b) → (st.withB acc).box b = st.box b
  | [], b, _ => rfl
  | (k, B) :: r, b, h => by
    have h1 := h (k, B) (by simp)
    rw [box_cons_other st r B (fun e => h1 e.symm)]
    exact box_skip st r b (fun x hx => h x (by simp [hx]))

theorem Free.mono {fp : List Nat} (h : Free Γ w S LB fp) (hs : ∀ b B', LB' b = some B' → ∃ B, LB b = some B ∧ ∀ g ∈ B'.fp, g ∈ B.fp) : Free Γ w S LB' fp :=
  ⟨h.nd, fun b B' hb g hg hgB => by obtain ⟨B, hB, hsub⟩ := hs b B' hb; exact h.dj b B hB g hg (hsub g hgB), h.fr⟩
theorem Free.app1 {f1 f2 : List Nat} (h : Free Γ w S LB (f1 ++ f2)) : Free Γ w S LB f1 :=
  ⟨(List.nodup_append.1 h.nd).1, fun b B hb g hg => h.dj b B hb g (by simp [hg]), fun g hg => h.fr g (by simp [hg])⟩
theorem Free.app2 {f1 f2 : List Nat} (h : Free Γ w S LB (f1 ++ f2)) : Free Γ w S LB f2 :=
  ⟨(List.nodup_append.1 h.nd).2.1, fun b B hb g hg => h.dj b B hb g (by simp [hg]), fun g hg => h.fr g (by simp [hg])⟩

/-- What laying a tree at the boxes of d gives. -/
structure Inst (Γ : Ctx) (st : St) (d k : Nat) (acc : List (Nat × Bx)) (w : World) (LB : Nat → Option BL) (S : Nat → Prop) (fp : List Nat) (us : List (Nat × Bx)) (k' : Nat) (R : (Nat → Bx) → (Nat → Option BL) → Prop) : Prop where
  ex : ∃ LB', SimB Γ (st.withB (us ++ acc)).box w LB' S ∧ Adv (st.withB acc).box (st.withB (us ++ acc)).box LB LB' ∧ R (st.withB (us ++ acc)).box LB' ∧
    (∀ b B', LB' b = some B' → (∃ B, LB b = some B ∧ ∀ g ∈ B'.fp, g ∈ B.fp) ∨ ∀ g ∈ B'.fp, g ∈ fp)
  le : k ≤ k'
  keys : ∀ x ∈ us, ∃ j, k ≤ j ∧ j < k' ∧ x.1 = vid d j

/-- The tags that are laid: none, or those of the parts of an argument. -/
def TgOK (Γ : Ctx) (tg : Nat → Nat) (d : Nat) (parts : Nat → Option Sk) : Prop :=
  (d < 9000 ∧ ∀ k, tg k = 1) ∨ (d = PB ∧ (∀ k, tg k = k + 2) ∧ ∀ k, Γ.psk k = parts k)

mutual
/-- The skeletons of a tree's own slices, in order. -/
def L.parts : L → List Sk
  | .own _ h es => [.own h (L.sks es)]
  | .agg cs => L.partss cs
  | .tup cs => L.partss cs
  | .box _ _ => [.leaf]
  | _ => []
def L.partss : List L → List Sk
  | [] => []
  | x :: r => x.parts ++ L.partss r
end
def PartsAt (Γ : Ctx) (tg : Nat → Nat) (d k : Nat) (l : List Sk) : Prop :=
  (d < 9000 ∧ ∀ j, tg j = 1) ∨ (d = PB ∧ (∀ j, tg j = j + 2) ∧ ∀ (i : Nat) (s : Sk), l[i]? = some s → s ≠ .leaf → Γ.psk (k + i) = some s)
theorem PartsAt.app1 {tg : Nat → Nat} {d k : Nat} {l1 l2 : List Sk} (h : PartsAt Γ tg d k (l1 ++ l2)) : PartsAt Γ tg d k l1 := by
  rcases h with h | ⟨h1, h2, h3⟩
  · exact .inl h
  · refine .inr ⟨h1, h2, fun i s hi hs => h3 i s ?_ hs⟩
    rw [List.getElem?_append_left (List.getElem?_eq_some_iff.1 hi).1]; exact hi
theorem PartsAt.app2 {tg : Nat → Nat} {d k : Nat} {l1 l2 : List Sk} (h : PartsAt Γ tg d k (l1 ++ l2)) : PartsAt Γ tg d (k + l1.length) l2 := by
  rcases h with h | ⟨h1, h2, h3⟩
  · exact .inl h
  · refine .inr ⟨h1, h2, fun i s hi hs => ?_⟩
    rw [Nat.add_assoc]
    refine h3 (l1.length + i) s ?_ hs
    rw [List.getElem?_append_right (by omega)]
    rw [show l1.length + i - l1.length = i by omega]; exact hi

mutual
/-- No variable inside. -/
def L.nobox : L → Prop
  | .box _ _ => False
  | .agg cs => L.noboxes cs
  | .tup cs => L.noboxes cs
  | _ => True
def L.noboxes : List L → Prop
  | [] => True
  | x :: r => x.nobox ∧ L.noboxes r
end
/-- Trees that may be laid: a variable only alone, its cells without tags. -/
def L.clean : L → Prop
  | .box _ c => ∀ (i t : Nat) (hh : Option (Nat × Nat)) (es : List L), c.cells[i]? ≠ some (.own (t + 1) hh es)
  | l => l.nobox
theorem L.clean_nobox {l : L} (h : l.nobox) : l.clean := by
  cases l with
  | box g c => exact h.elim
  | _ => exact h

mutual
theorem inst_sound {tg : Nat → Nat} {d : Nat} (hd : d ≤ PB) : ∀ (l : L) (k : Nat) (acc : List (Nat × Bx)) (LB : Nat → Option BL), (∀ x ∈ acc, ∃ j, j < k ∧ x.1 = vid d j) →
    SimB Γ (st.withB acc).box w LB S → l.mem w S → Free Γ w S LB l.fp → PartsAt Γ tg d k l.parts → (d = PB → ∀ g, Γ.pblk = some g → ∃ c, l = .box g c) → l.clean →
    Inst Γ st d k acc w LB S l.fp (st.inst tg d l.er k).2.1 (st.inst tg d l.er k).2.2 (fun bx LB' => TRel bx LB' w S (st.inst tg d l.er k).1 l.flat) ∧ (st.inst tg d l.er k).2.2 = k + l.parts.length
  | .sc v, k, acc, LB, hacc, hB, hm, hf, hp, hpv, hcl => by
    simp only [L.er, St.inst, L.fp, L.parts, L.flat]
    exact ⟨⟨⟨LB, hB, Adv.refl _ _, ⟨rfl, hm⟩, fun b B h => .inl ⟨B, h, fun _ h => h⟩⟩, Nat.le_refl _, by simp⟩, rfl⟩
  | .opq v, k, acc, LB, hacc, hB, hm, hf, hp, hpv, hcl => by
    simp only [L.er, St.inst, L.fp, L.parts, L.flat]
    exact ⟨⟨⟨LB, hB, Adv.refl _ _, hm, fun b B h => .inl ⟨B, h, fun _ h => h⟩⟩, Nat.le_refl _, by simp⟩, rfl⟩
  | .ro v es, k, acc, LB, hacc, hB, hm, hf, hp, hpv, hcl => by
    simp only [L.er, St.inst, L.fp, L.parts, L.flat]
    exact ⟨⟨⟨LB, hB, Adv.refl _ _, hm, fun b B h => .inl ⟨B, h, fun _ h => h⟩⟩, Nat.le_refl _, by simp⟩, rfl⟩
  | .junk v, k, acc, LB, hacc, hB, hm, hf, hp, hpv, hcl => by
    simp only [L.er, St.inst, L.fp, L.parts, L.flat]
    exact ⟨⟨⟨LB, hB, Adv.refl _ _, trivial, fun b B h => .inl ⟨B, h, fun _ h => h⟩⟩, Nat.le_refl _, by simp⟩, rfl⟩
  | .own t h es, k, acc, LB, hacc, hB, hm, hf, hp, hpv, hcl => by
    have hkey : (st.withB acc).box (vid d k) = st.box (vid d k) := box_skip st acc _ (fun x hx => by
      obtain ⟨j, hj, he⟩ := hacc x hx
      rw [he]; intro h; exact absurd (vid_inj h) (by omega))
    have htg : ∃ t', tg k = t' + 1 ∧ (∀ t2, t' = t2 + 1 → Γ.psk t2 = some (L.own t' h es).sk) := by
      rcases hp with ⟨-, h1⟩ | ⟨-, h1, h2⟩
      · exact ⟨0, h1 k, by simp⟩
      · refine ⟨k + 1, h1 k, fun t2 h3 => ?_⟩
        have : t2 = k := by omega
        subst this
        simpa [L.sk] using h2 0 _ rfl (by simp)
    obtain ⟨t', ht', hpsk⟩ := htg
    have hmt : (L.own t' h es).mem w S := by cases h with | none => exact hm | some gc => obtain ⟨g, cap⟩ := gc; exact hm
    have hft : (L.own t' h es).fp = (L.own t h es).fp := by cases h with | none => rfl | some gc => obtain ⟨g, cap⟩ := gc; rfl
    have hbfp : (BL.mk none (L.own t' h es)).fp = (L.own t h es).fp := by simp [BL.fp, hft]
    have key := hB.new' (d := vid d k) (B' := ⟨none, .own t' h es⟩) (w' := w) (fun he g hg => by
        obtain ⟨c, hc⟩ := hpv (vid_PB he hd).1 g hg
        cases hc) ⟨fun g hg => (by cases hg), hmt⟩ (by rw [hbfp]; exact hf.nd) (fun b B hb g hg => hf.dj b B hb g (by rw [← hbfp]; exact hg))
      (fun g hg => hf.fr g (by rw [← hbfp]; exact hg)) (fun _ _ _ _ _ => rfl) (fun _ _ => rfl) (Nat.le_refl _) hB.frame (fun i t2 hh es' hi => by
        simp only [L.cells] at hi
        cases i with
        | zero =>
          simp only [List.getElem?_cons_zero, Option.some.injEq, L.own.injEq] at hi
          obtain ⟨e1, e2, e3⟩ := hi
          subst e2; subst e3
          have := hpsk t2 e1
          rw [this]; rfl
        | succ i => simp at hi)
    have her : (L.own t' h es).er = .sl (tg k) (L.ers es) := by rw [ht']; rfl
    simp only [Option.isSome_none, her] at key
    simp only [L.er, St.inst, L.parts]
    rw [hkey] at key
    refine ⟨⟨⟨_, key.1, key.2, ?_, fun b B' hb => ?_⟩, Nat.le_succ _, fun x hx => ?_⟩, rfl⟩
    · refine ⟨?_, fun _ B hB => ?_⟩
      · show _ ≤ ((st.withB ((vid d k, _) :: acc)).box (vid d k)).ver
        rw [box_cons_same]; simp only [newBx]; exact Nat.le_refl _
      · rw [setLB_same] at hB; cases hB
        have : (L.own t h es).flat = hdrV h es.length := L.own_flat t h es
        rw [this]
        simp [Sk.hdr, Sk.nav, L.sk, L.sks_eq, Sk.cells]
    · by_cases hbb : b = vid d k
      · subst hbb; rw [setLB_same] at hb; cases hb
        exact .inr fun g hg => by rw [hbfp] at hg; exact hg
      · rw [setLB_other _ _ hbb] at hb; exact .inl ⟨B', hb, fun _ h => h⟩
    · simp only [List.mem_singleton] at hx; subst hx
      exact ⟨k, Nat.le_refl _, Nat.lt_succ_self _, rfl⟩
  | .box g c, k, acc, LB, hacc, hB, hm, hf, hp, hpv, hcl => by
    have hkey : (st.withB acc).box (vid d k) = st.box (vid d k) := box_skip st acc _ (fun x hx => by
      obtain ⟨j, hj, he⟩ := hacc x hx
      rw [he]; intro h; exact absurd (vid_inj h) (by omega))
    have hbfp : (BL.mk (some g) c).fp = (L.box g c).fp := rfl
    have key := hB.new' (d := vid d k) (B' := ⟨some g, c⟩) (w' := w) (fun he g' hg' => by
        obtain ⟨c', hc'⟩ := hpv (vid_PB he hd).1 g' hg'
        cases hc'; rfl) ⟨fun g' hg' => (by cases hg'; exact hm.1), hm.2⟩ (by rw [hbfp]; exact hf.nd) (fun b B hb g hg => hf.dj b B hb g (by rw [← hbfp]; exact hg))
      (fun g hg => hf.fr g (by rw [← hbfp]; exact hg)) (fun _ _ _ _ _ => rfl) (fun _ _ => rfl) (Nat.le_refl _) hB.frame (fun i t2 hh es' hi => by
        exact absurd hi (hcl i t2 hh es'))
    simp only [Option.isSome_some] at key
    simp only [L.er, St.inst, L.parts]
    rw [hkey] at key
    refine ⟨⟨⟨_, key.1, key.2, ?_, fun b B' hb => ?_⟩, Nat.le_succ _, fun x hx => ?_⟩, rfl⟩
    · refine ⟨?_, fun _ B hB => ?_⟩
      · show _ ≤ ((st.withB ((vid d k, _) :: acc)).box (vid d k)).bn
        rw [box_cons_same]; simp only [newBx]; exact Nat.le_refl _
      · rw [setLB_same] at hB; cases hB
        exact ⟨g, rfl, rfl⟩
    · by_cases hbb : b = vid d k
      · subst hbb; rw [setLB_same] at hb; cases hb
        exact .inr fun g hg => by rw [hbfp] at hg; exact hg
      · rw [setLB_other _ _ hbb] at hb; exact .inl ⟨B', hb, fun _ h => h⟩
    · simp only [List.mem_singleton] at hx; subst hx
      exact ⟨k, Nat.le_refl _, Nat.lt_succ_self _, rfl⟩
  | .agg cs, k, acc, LB, hacc, hB, hm, hf, hp, hpv, hcl => by
    have hpn : d = PB → Γ.pblk = none := fun he => by
      cases hq : Γ.pblk with
      | none => rfl
      | some g => obtain ⟨c, hc⟩ := hpv he g hq; cases hc
    obtain ⟨h1, h2⟩ := insts_sound hd hpn cs k acc LB hacc hB hm hf hp hcl
    simp only [L.er, St.inst, L.parts]
    refine ⟨⟨?_, h1.le, h1.keys⟩, h2⟩
    obtain ⟨LB', k1, k2, k3, k4⟩ := h1.ex
    exact ⟨LB', k1, k2, ⟨(L.flats cs).toArray, by simp [L.flat], by simpa using k3⟩, k4⟩
  | .tup cs, k, acc, LB, hacc, hB, hm, hf, hp, hpv, hcl => by
    have hpn : d = PB → Γ.pblk = none := fun he => by
      cases hq : Γ.pblk with
      | none => rfl
      | some g => obtain ⟨c, hc⟩ := hpv he g hq; cases hc
    obtain ⟨h1, h2⟩ := insts_sound hd hpn cs k acc LB hacc hB hm hf hp hcl
    simp only [L.er, St.inst, L.parts]
    refine ⟨⟨?_, h1.le, h1.keys⟩, h2⟩
    obtain ⟨LB', k1, k2, k3, k4⟩ := h1.ex
    exact ⟨LB', k1, k2, ⟨(L.flats cs).toArray, by simp [L.flat], by simpa using k3⟩, k4⟩
theorem insts_sound {tg : Nat → Nat} {d : Nat} (hd : d ≤ PB) (hpn : d = PB → Γ.pblk = none) : ∀ (cs : List L) (k : Nat) (acc : List (Nat × Bx)) (LB : Nat → Option BL), (∀ x ∈ acc, ∃ j, j < k ∧ x.1 = vid d j) →
    SimB Γ (st.withB acc).box w LB S → L.mems w S cs → Free Γ w S LB (L.fps cs) → PartsAt Γ tg d k (L.partss cs) → L.noboxes cs →
    Inst Γ st d k acc w LB S (L.fps cs) (st.insts tg d (L.ers cs) k).2.1 (st.insts tg d (L.ers cs) k).2.2 (fun bx LB' => TRels bx LB' w S (st.insts tg d (L.ers cs) k).1 (L.flats cs)) ∧
      (st.insts tg d (L.ers cs) k).2.2 = k + (L.partss cs).length
  | [], k, acc, LB, hacc, hB, hm, hf, hp, hcl => by
    simp only [L.ers, St.insts, L.fps, L.partss, L.flats]
    exact ⟨⟨⟨LB, hB, Adv.refl _ _, trivial, fun b B h => .inl ⟨B, h, fun _ h => h⟩⟩, Nat.le_refl _, by simp⟩, rfl⟩
  | l :: r, k, acc, LB, hacc, hB, hm, hf, hp, hcl => by
    simp only [L.ers, St.insts, L.fps, L.partss, L.flats]
    have hf1 : Free Γ w S LB l.fp := Free.app1 hf
    obtain ⟨i1, e1⟩ := inst_sound hd l k acc LB hacc hB hm.1 hf1 (PartsAt.app1 hp) (fun he g hg => by rw [hpn he] at hg; cases hg) (L.clean_nobox hcl.1)
    obtain ⟨LB1, k1, k2, k3, k4⟩ := i1.ex
    have hf2 : Free Γ w S LB1 (L.fps r) := by
      have h0 := Free.app2 hf
      refine ⟨h0.nd, fun b B' hb g hg hgB => ?_, h0.fr⟩
      rcases k4 b B' hb with ⟨B, hB', hsub⟩ | hsub
      · exact h0.dj b B hB' g hg (hsub g hgB)
      · exact (List.nodup_append.1 hf.nd).2.2 g (hsub g hgB) g hg rfl
    have hacc2 : ∀ x ∈ (st.inst tg d l.er k).2.1 ++ acc, ∃ j, j < (st.inst tg d l.er k).2.2 ∧ x.1 = vid d j := by
      intro x hx
      rcases List.mem_append.1 hx with hx | hx
      · obtain ⟨j, -, h2, h3⟩ := i1.keys x hx; exact ⟨j, h2, h3⟩
      · obtain ⟨j, h2, h3⟩ := hacc x hx; exact ⟨j, Nat.lt_of_lt_of_le h2 i1.le, h3⟩
    obtain ⟨i2, e2⟩ := insts_sound hd hpn r (st.inst tg d l.er k).2.2 ((st.inst tg d l.er k).2.1 ++ acc) LB1 hacc2 k1 hm.2 hf2 (by rw [e1]; exact PartsAt.app2 hp) hcl.2
    obtain ⟨LB2, m1, m2, m3, m4⟩ := i2.ex
    refine ⟨⟨⟨LB2, ?_, ?_, ⟨?_, ?_⟩, fun b B' hb => ?_⟩, Nat.le_trans i1.le i2.le, fun x hx => ?_⟩, by rw [e2, e1, List.length_append, Nat.add_assoc]⟩
    · rw [List.append_assoc]; exact m1
    · rw [List.append_assoc]; exact k2.trans m2
    · rw [List.append_assoc]; exact TRel.adv m2 (fun _ h => h) (fun _ _ => rfl) _ _ k3
    · rw [List.append_assoc]; exact m3
    · rcases m4 b B' hb with ⟨B1, hB1, hsub1⟩ | hsub
      · rcases k4 b B1 hB1 with ⟨B, hB', hsub⟩ | hsub
        · exact .inl ⟨B, hB', fun g hg => hsub g (hsub1 g hg)⟩
        · exact .inr fun g hg => List.mem_append.2 (.inl (hsub g (hsub1 g hg)))
      · exact .inr fun g hg => List.mem_append.2 (.inr (hsub g hg))
    · rcases List.mem_append.1 hx with hx | hx
      · obtain ⟨j, h1, h2, h3⟩ := i2.keys x hx; exact ⟨j, Nat.le_trans i1.le h1, h2, h3⟩
      · obtain ⟨j, h1, h2, h3⟩ := i1.keys x hx; exact ⟨j, h1, Nat.lt_of_lt_of_le h2 i2.le, h3⟩
end

end Go.Proofs.Ytncjcbdbdocjaaa.Ax

/- Leaving a function; contracts. -/
namespace Go.Proofs.Ytncjcbdbdocjaaa.Ax
open Go

variable {P : Program} {Γ : Ctx} {st : St} {a : Act} {w w' : World} {LB LB' : Nat → Option BL} {S : Nat → Prop}

theorem L.untag_gen (w : World) (S : Nat → Prop) (l : L) : l.untag.er = l.er.untag ∧ l.untag.flat = l.flat ∧ (l.mem w S → l.untag.mem w S) ∧ l.untag.fp = l.fp ∧ l.untag.sk = l.sk := by
  cases l with
  | own t h es =>
    cases h with
    | none => exact ⟨rfl, rfl, id, rfl, rfl⟩
    | some gc => obtain ⟨g, cap⟩ := gc; exact ⟨rfl, rfl, id, rfl, rfl⟩
  | _ => exact ⟨rfl, rfl, id, rfl, rfl⟩
theorem L.untags_gen (w : World) (S : Nat → Prop) (l : L) : l.untags.er = l.er.untags ∧ l.untags.flat = l.flat ∧ l.untags.cflat = l.cflat ∧ (l.mem w S → l.untags.mem w S) ∧ l.untags.fp = l.fp ∧ l.untags.sk = l.sk ∧
    (∀ (i t : Nat) (hh : Option (Nat × Nat)) (es : List L), l.untags.cells[i]? ≠ some (.own (t + 1) hh es)) := by
  by_cases h : ∃ cs, l = .agg cs
  · obtain ⟨cs, rfl⟩ := h
    have hfl : (cs.map L.untag).map L.flat = cs.map L.flat := by
      rw [List.map_map]; exact List.map_congr_left fun c _ => (L.untag_gen w S c).2.1
    refine ⟨?_, ?_, ?_, fun hm => ?_, ?_, ?_, fun i t hh es hi => ?_⟩
    · simp only [L.untags, L.er, X.untags, L.ers_eq, List.map_map]
      congr 1
      exact List.map_congr_left fun c hcc => (L.untag_gen w S c).1
    · simp only [L.untags, L.flat, L.flats_eq, hfl]
    · simp only [L.untags, L.cflat, L.cells, L.flats_eq, hfl]
    · simp only [L.untags, L.mem] at hm ⊢
      rw [L.mems_iff] at hm ⊢
      intro c hcc
      obtain ⟨q, hq, rfl⟩ := List.mem_map.1 hcc
      exact (L.untag_gen w S q).2.2.1 (hm q hq)
    · simp only [L.untags, L.fp, L.fps_eq, List.flatMap_map]
      congr 1
      funext c
      exact (L.untag_gen w S c).2.2.2.1
    · simp only [L.untags, L.sk, L.sks_eq, List.map_map]
      congr 1
      exact List.map_congr_left fun c hcc => (L.untag_gen w S c).2.2.2.2
    · simp only [L.untags, L.cells, List.getElem?_map] at hi
      cases hc : cs[i]? with
      | none => simp [hc] at hi
      | some c => simp only [hc, Option.map_some, Option.some.injEq] at hi; exact L.untag_tag c t hh es hi
  · have h1 : l.untags = l.untag := by cases l <;> first | rfl | exact absurd ⟨_, rfl⟩ h
    have h2 : l.er.untags = l.er.untag := by cases l <;> first | rfl | exact absurd ⟨_, rfl⟩ h
    obtain ⟨q1, q2, q3, q4, q5⟩ := L.untag_gen w S l
    have hce : l.cells = [l] := by cases l <;> first | rfl | exact absurd ⟨_, rfl⟩ h
    have hcu : l.untag.cells = [l.untag] := by cases l <;> first | rfl | exact absurd ⟨_, rfl⟩ h
    rw [h1, h2]
    refine ⟨q1, q2, ?_, q3, q4, q5, fun i t hh es hi => ?_⟩
    · rw [L.cflat, L.cflat, hcu, hce]; simp [L.flats, q2]
    · rw [hcu] at hi
      cases i with
      | zero => simp at hi; exact L.untag_tag l t hh es hi
      | succ i => simp at hi

def dropLB (LB : Nat → Option BL) (b : Nat) : Nat → Option BL := fun x => if x = b then none else LB x
/-- A variable leaves its box. -/
theorem SimB.drop {bx bx' : Nat → Bx} (h : SimB Γ bx w LB S) {b : Nat} (ho : ∀ x, x ≠ b → bx' x = bx x) (hn : (bx' b).c = none) : SimB Γ bx' w (dropLB LB b) S := by
  have hsub : ∀ x B, dropLB LB b x = some B → x ≠ b ∧ LB x = some B := by
    intro x B hx
    unfold dropLB at hx
    split at hx
    · simp at hx
    · rename_i hne; exact ⟨hne, hx⟩
  refine ⟨fun x => ?_, fun x B hx => h.nd x B (hsub x B hx).2, fun x y Bx By hxy hx hy => h.dj x y Bx By hxy (hsub x Bx hx).2 (hsub y By hy).2, fun x B hx => h.fr x B (hsub x B hx).2, h.S0, h.Sw, h.frame,
    fun x B hx => h.tag x B (hsub x B hx).2, fun B hx => h.pb B (hsub PB B hx).2, h.Sn⟩
  by_cases hx : x = b
  · subst hx
    simp only [BxRel, hn, dropLB, if_true]
  · rw [ho x hx]
    simp only [dropLB, if_neg hx]
    exact h.bx x

theorem take1_nobox {x y : X} {us : List (Nat × Bx)} (h : st.take1 x = some (y, us)) : (∀ c, y ≠ .box c) ∧ y.cells = [y] := by
  unfold St.take1 at h
  split at h
  · simp only [Option.some.injEq, Prod.mk.injEq] at h; obtain ⟨rfl, -⟩ := h; exact ⟨by simp, rfl⟩
  · simp only [Option.some.injEq, Prod.mk.injEq] at h; obtain ⟨rfl, -⟩ := h; exact ⟨by simp, rfl⟩
  · simp only [Option.some.injEq, Prod.mk.injEq] at h; obtain ⟨rfl, -⟩ := h; exact ⟨by simp, rfl⟩
  · rename_i b ver p c
    cases hs : slAt (st.box b) ver p c with
    | none => simp [hs] at h
    | some te => simp only [hs, Option.map_some, Option.some.injEq, Prod.mk.injEq] at h; obtain ⟨rfl, -⟩ := h; exact ⟨by simp, rfl⟩
  · simp only [Option.some.injEq, Prod.mk.injEq] at h; obtain ⟨rfl, -⟩ := h; exact ⟨by simp, rfl⟩
  · simp at h
theorem takesG_nobox : ∀ {xs done ys : List X} {st : St} {us : List (Nat × Bx)}, st.takesG done xs = some (ys, us) → ∀ c, X.box c ∉ ys
  | [], done, ys, st, us, h => by simp only [St.takesG, Option.some.injEq, Prod.mk.injEq] at h; obtain ⟨rfl, -⟩ := h; simp
  | x :: xs, done, ys, st, us, h => by
    simp only [St.takesG] at h
    cases h1 : st.take1 (bumps done x) with
    | none => simp [h1] at h
    | some y =>
      simp only [h1, Option.bind_some] at h
      cases h2 : (st.withB y.2).takesG (done ++ [bumps done x]) xs with
      | none => simp [h2] at h
      | some z =>
        simp only [h2, Option.map_some, Option.some.injEq, Prod.mk.injEq] at h
        obtain ⟨rfl, -⟩ := h
        intro c hc
        rcases List.mem_cons.1 hc with hc | hc
        · exact (take1_nobox h1).1 c hc.symm
        · exact takesG_nobox h2 c hc
theorem takes_nobox {xs ys : List X} {st : St} {us : List (Nat × Bx)} (h : st.takes xs = some (ys, us)) : ∀ c, X.box c ∉ ys := takesG_nobox h
theorem take_nobox {x y : X} {us : List (Nat × Bx)} (h : st.take x = some (y, us)) : ∀ c, X.box c ∉ y.cells := by
  by_cases hag : ∃ cs, x = .agg cs
  · obtain ⟨cs, rfl⟩ := hag
    simp only [St.take] at h
    cases h1 : st.takes cs with
    | none => simp [h1] at h
    | some z =>
      simp only [h1, Option.map_some, Option.some.injEq, Prod.mk.injEq] at h
      obtain ⟨rfl, -⟩ := h
      exact takes_nobox h1
  · have ht : st.take x = st.take1 x := by cases x <;> first | rfl | exact absurd ⟨_, rfl⟩ hag
    rw [ht] at h
    obtain ⟨h1, h2⟩ := take1_nobox h
    intro c hc
    rw [h2] at hc
    simp at hc
    exact h1 c hc.symm
/-- A result that is moved out. -/
theorem own_sound (hB : SimB Γ st.box w LB S) {x y : X} {v : Value} {us : List (Nat × Bx)} (ht : st.own x = some (y, us)) (hx : TRel st.box LB w S x v) :
    ∃ (LB' : Nat → Option BL) (l : L), SimB Γ (st.withB us).box w LB' S ∧ Adv st.box (st.withB us).box LB LB' ∧ l.er = y ∧ l.flat = v ∧ l.mem w S ∧ Free Γ w S LB' l.fp ∧ l.clean ∧ (y.isBox = false → l.nobox) ∧
      (∀ b B', LB' b = some B' → ∃ B, LB b = some B ∧ ∀ g ∈ B'.fp, g ∈ B.fp) ∧ (∀ g ∈ l.fp, ∃ b B, LB b = some B ∧ g ∈ B.fp) := by
  unfold St.own at ht
  split at ht
  · rename_i b bn
    cases hc : (st.box b).c with
    | none => simp [hc] at ht
    | some c =>
      simp only [hc] at ht
      split at ht
      · rename_i hcond
        simp only [Option.some.injEq, Prod.mk.injEq] at ht
        obtain ⟨rfl, rfl⟩ := ht
        obtain ⟨B, hBb, her, hreal, hm⟩ := (hB.bx b).get hc
        subst her
        obtain ⟨g, hg, rfl⟩ := hx.2 hcond.1 B hBb
        obtain ⟨q1, q2, q3, q4, q5, q6, q7⟩ := L.untags_gen w S B.c
        have hfp : (L.box g B.c.untags).fp = B.fp := by simp [L.fp, BL.fp, hg, q5]
        have hd := hB.drop (b := b) (bx' := (st.withB [(b, { st.box b with c := none })]).box) (fun x hx => by rw [box_cons_other _ _ _ hx]; rfl) (by rw [box_cons_same])
        refine ⟨dropLB LB b, .box g B.c.untags, hd, ⟨fun x => ?_, fun x => ?_, fun x hx' Bq hq => ?_, fun x hx' Bq hq => ?_⟩, by simp [L.er, q1], rfl, ⟨?_, q4 hm.2⟩, ?_, q7, by simp [X.isBox], fun x Bq hq => ?_, fun g' hg' => ⟨b, B, hBb, by rw [← hfp]; exact hg'⟩⟩
        · by_cases h : x = b
          · subst h; rw [box_cons_same]; exact Nat.le_refl _
          · rw [box_cons_other _ _ _ h]; exact Nat.le_refl _
        · by_cases h : x = b
          · subst h; rw [box_cons_same]; exact Nat.le_refl _
          · rw [box_cons_other _ _ _ h]; exact Nat.le_refl _
        · by_cases h : x = b
          · subst h; simp [dropLB] at hq
          · simp only [dropLB, if_neg h] at hq; exact ⟨Bq, hq, rfl⟩
        · by_cases h : x = b
          · subst h; simp [dropLB] at hq
          · simp only [dropLB, if_neg h] at hq; exact ⟨Bq, hq, rfl, rfl⟩
        · obtain ⟨cur, e, h1, h2⟩ := hm.1 g hg
          exact ⟨cur, e, h1, by rw [q3]; exact h2⟩
        · rw [hfp]
          refine ⟨hB.nd b B hBb, fun x Bq hq g' hg' => ?_, fun g' hg' => hB.fr b B hBb g' hg'⟩
          by_cases h : x = b
          · subst h; simp [dropLB] at hq
          · simp only [dropLB, if_neg h] at hq
            exact hB.dj b x B Bq (Ne.symm h) hBb hq g' hg'
        · by_cases h : x = b
          · subst h; simp [dropLB] at hq
          · simp only [dropLB, if_neg h] at hq; exact ⟨Bq, hq, fun _ h => h⟩
      · simp at ht
  · cases h1 : st.take x with
    | none => simp [h1] at ht
    | some z =>
      obtain ⟨z, us1⟩ := z
      simp only [h1, Option.map_some, Option.some.injEq, Prod.mk.injEq] at ht
      obtain ⟨rfl, rfl⟩ := ht
      obtain ⟨LB1, c, ls, k1, k2, k3, k4, k5, k6, k7, k8, k9, k10, k11, k12⟩ := take_sound hB h1 hx
      obtain ⟨q1, q2, q3, q4, q5, q6, q7⟩ := L.untags_gen w S c
      have hnb : c.untags.nobox := by
        have hls : ∀ l ∈ ls, l.cells = [l] := k3.cell
        have hone := k3.one
        have hfl := k3.flat
        have hcell : ∀ l ∈ ls, l.untag.nobox := by
          intro l hl
          have h2 := hls l hl
          have h3 : l.flat.oneCell' = true := hone _ (by rw [← hfl]; exact List.mem_map.2 ⟨l, hl, rfl⟩)
          cases l with
          | agg cs => simp [L.flat, Value.oneCell'] at h3
          | tup cs => simp [L.flat, Value.oneCell'] at h3
          | box g c =>
            -- a box is no result of a move
            have := k3.er
            have hmem : (X.box c.er) ∈ z.cells := by rw [← this]; exact List.mem_map.2 ⟨_, hl, rfl⟩
            exact absurd hmem (take_nobox h1 _)
          | _ => trivial
        by_cases hag : ∃ cs, c = .agg cs
        · obtain ⟨cs, rfl⟩ := hag
          simp only [L.cells] at k6
          subst k6
          simp only [L.untags, L.nobox]
          clear k3 k4 k5 k7 k8 k9 k10 k12 q1 q2 q3 q4 q5 q6 q7 hls hone hfl
          induction cs with
          | nil => trivial
          | cons c cs ih => exact ⟨hcell c (by simp), ih (fun l hl => hcell l (by simp [hl]))⟩
        · have hce : c.cells = [c] := by cases c <;> first | rfl | exact absurd ⟨_, rfl⟩ hag
          rw [hce] at k6
          have : c.untags = c.untag := by cases c <;> first | rfl | exact absurd ⟨_, rfl⟩ hag
          rw [this]
          exact hcell c (by rw [← k6]; simp)
      refine ⟨LB1, c.untags, k1, k2, by rw [q1, k5], by rw [q2, k9], q4 k7, by rw [q5]; exact k4, L.clean_nobox hnb, fun _ => hnb, k11, fun g hg => k12 g (by rw [← q5]; exact hg)⟩

end Go.Proofs.Ytncjcbdbdocjaaa.Ax

/- Results and what a call gives back. -/
namespace Go.Proofs.Ytncjcbdbdocjaaa.Ax
open Go

variable {P : Program} {Γ : Ctx} {st : St} {a : Act} {w w' : World} {LB LB' : Nat → Option BL} {S : Nat → Prop}

theorem asAddr_of_load {t : TypeId} {va v : Value} (h : (Instr.loadAt t va).run P w = .ok v w) : (do loadVar t (← asAddr va) : Sem Value).run P w = .ok v w := by
  cases va with
  | pointer p =>
    cases p with
    | none => exact nomatch h
    | some p => simpa [Instr.loadAt, Instr.sureAddr, asAddr] using h
  | _ => exact nomatch h

theorem resXs_sound (h : SimL Γ st a w LB S) : ∀ (rs : List ResultVar) (xs : List X), resXs P st rs = some xs →
    ∃ vs : List Value, (rs.mapM (fun (r : ResultVar) => (match r with
      | .tmp t => (pure (a.tmps.getD t undef) : Sem Value)
      | .cell b t => do loadVar t (← asAddr (a.tmps.getD b undef)) : Sem Value))).run P w = Result.ok vs w ∧ TRels st.box LB w S xs vs
  | [], xs, hx => by
    simp only [resXs, Option.some.injEq] at hx; subst hx
    exact ⟨[], by simp, trivial⟩
  | .tmp t :: r, xs, hx => by
    simp only [resXs] at hx
    cases h1 : resXs P st r with
    | none => simp [h1] at hx
    | some l =>
      simp only [h1, Option.map_some, Option.some.injEq] at hx; subst hx
      obtain ⟨vs, hr, ht⟩ := resXs_sound h r l h1
      exact ⟨a.tmps.getD t undef :: vs, by simp only [List.mapM_cons, Sem.run_bind, Sem.run_pure, Result.andThen_ok, hr], h.tm t, ht⟩
  | .cell b t :: r, xs, hx => by
    simp only [resXs] at hx
    cases h2 : evLoad P st t (st.look b) with
    | ok side x us =>
      rw [h2] at hx
      cases h1 : resXs P st r with
      | none => simp [h1] at hx
      | some l =>
        simp only [h1, Option.map_some, Option.some.injEq] at hx; subst hx
        obtain ⟨vs, hr, ht⟩ := resXs_sound h r l h1
        obtain ⟨-, v, hv, hvt⟩ := load_sound (P := P) h h2 (h.tm b)
        have hv' := asAddr_of_load hv
        exact ⟨v :: vs, by simp only [List.mapM_cons]; rw [Sem.run_bind, hv']; simp only [Result.andThen_ok, Sem.run_bind, hr, Sem.run_pure], hvt, ht⟩
    | fail => rw [h2] at hx; simp at hx
    | call g ts k => rw [h2] at hx; simp at hx

theorem owns_sound : ∀ {xs ys : List X} {vs : List Value} {st : St} {LB : Nat → Option BL} {us : List (Nat × Bx)}, SimB Γ st.box w LB S → st.owns xs = some (ys, us) → TRels st.box LB w S xs vs →
    ∃ (LB' : Nat → Option BL) (ls : List L), SimB Γ (st.withB us).box w LB' S ∧ Adv st.box (st.withB us).box LB LB' ∧ ls.map L.er = ys ∧ ls.map L.flat = vs ∧ (∀ l ∈ ls, l.mem w S) ∧
      Free Γ w S LB' (L.fps ls) ∧ (∀ l ∈ ls, l.clean ∧ (l.er.isBox = false → l.nobox)) ∧
      (∀ b B', LB' b = some B' → ∃ B, LB b = some B ∧ ∀ g ∈ B'.fp, g ∈ B.fp) ∧ (∀ g ∈ L.fps ls, ∃ b B, LB b = some B ∧ g ∈ B.fp)
  | [], ys, vs, st, LB, us, hB, ht, hx => by
    simp only [St.owns, Option.some.injEq, Prod.mk.injEq] at ht
    obtain ⟨rfl, rfl⟩ := ht
    cases vs with
    | nil => exact ⟨LB, [], hB, Adv.refl _ _, rfl, rfl, by simp, Free.nil, by simp, fun b B h => ⟨B, h, fun _ h => h⟩, by simp [L.fps]⟩
    | cons v vs => exact hx.elim
  | x :: xs, ys, vs, st, LB, us, hB, ht, hx => by
    simp only [St.owns] at ht
    cases h1 : st.own x with
    | none => simp [h1] at ht
    | some y =>
      obtain ⟨y, us1⟩ := y
      simp only [h1, Option.bind_some] at ht
      cases h2 : (st.withB us1).owns xs with
      | none => simp [h2] at ht
      | some z =>
        obtain ⟨ys2, us2⟩ := z
        simp only [h2, Option.map_some, Option.some.injEq, Prod.mk.injEq] at ht
        obtain ⟨rfl, rfl⟩ := ht
        cases vs with
        | nil => exact hx.elim
        | cons v vs =>
          obtain ⟨LB1, l, k1, k2, k3, k4, k5, k6, k7, k8, k9, k10⟩ := own_sound hB h1 hx.1
          have hx2 := TRels.adv k2 (S := S) (S' := S) (w := w) (w' := w) (fun _ h => h) (fun _ _ => rfl) _ _ hx.2
          obtain ⟨LB2, ls, m1, m2, m3, m4, m5, m6, m7, m8, m9⟩ := owns_sound k1 h2 hx2
          rw [← withB_app]
          refine ⟨LB2, l :: ls, m1, k2.trans m2, by simp [k3, m3], by simp [k4, m4], ?_, ?_, ?_, ?_, ?_⟩
          · intro l' hl'; rcases List.mem_cons.1 hl' with rfl | hl'
            · exact k5
            · exact m5 l' hl'
          · have f1 : Free Γ w S LB2 l.fp := k6.mono m8
            simp only [L.fps]
            refine ⟨List.nodup_append.2 ⟨f1.nd, m6.nd, fun g hg g' hg' he => ?_⟩, fun b B hb g hg => ?_, fun g hg => ?_⟩
            · subst he
              obtain ⟨b, B, hb, hgB⟩ := m9 g hg'
              exact k6.dj b B hb g hg hgB
            · rcases List.mem_append.1 hg with hg | hg
              · exact f1.dj b B hb g hg
              · exact m6.dj b B hb g hg
            · rcases List.mem_append.1 hg with hg | hg
              · exact f1.fr g hg
              · exact m6.fr g hg
          · intro l' hl'; rcases List.mem_cons.1 hl' with rfl | hl'
            · exact ⟨k7, fun hb => k8 (by rw [← k3]; exact hb)⟩
            · exact m7 l' hl'
          · intro b B' hb
            obtain ⟨B1, hb1, hs1⟩ := m8 b B' hb
            obtain ⟨B, hb0, hs0⟩ := k9 b B1 hb1
            exact ⟨B, hb0, fun g hg => hs0 g (hs1 g hg)⟩
          · intro g hg
            simp only [L.fps] at hg
            rcases List.mem_append.1 hg with hg | hg
            · exact k10 g hg
            · obtain ⟨b, B1, hb1, hg1⟩ := m9 g hg
              obtain ⟨B, hb0, hs0⟩ := k9 b B1 hb1
              exact ⟨b, B, hb0, hs0 g hg1⟩

/-- What comes back of the callee's own argument. -/
def OutHdrs : List L → List L → Prop
  | [], [] => True
  | c :: cs, d :: ds => ((∃ t h es es', c = .own t h es ∧ d = .own 0 h es' ∧ d.sk = c.sk) ∨ ((∀ t h es, c ≠ .own t h es) ∧ ∃ v, d = .junk v)) ∧ OutHdrs cs ds
  | _, _ => False
def OutHdr (la lo : L) : Prop :=
  (∃ v, lo = .junk v) ∨ (∃ g c c', la = .box g c ∧ lo = .box g c' ∧ lo.clean) ∨ (∃ t h es es', la = .own t h es ∧ lo = .own 0 h es' ∧ lo.sk = la.sk) ∨ ∃ cs ds, la = .agg cs ∧ lo = .agg ds ∧ OutHdrs cs ds

theorem place_some (st : St) (tag : Nat) : ∀ (l : List (Nat × Bx)) {b c : Nat}, st.place tag l = some (b, c) → ∃ x es, (st.box b).c = some x ∧ x.cells[c]? = some (.sl tag es)
  | [], b, c, h => by simp [St.place] at h
  | (b0, B0) :: r, b, c, h => by
    have hcell : ∀ (l : List X) (i c : Nat), cellOf tag i l = some c → ∃ es, i ≤ c ∧ l[c - i]? = some (.sl tag es) := by
      intro l
      induction l with
      | nil => intro i c h; simp [cellOf] at h
      | cons x l ih =>
        intro i c h
        have hrec : cellOf tag (i + 1) l = some c → ∃ es, i ≤ c ∧ (x :: l)[c - i]? = some (.sl tag es) := by
          intro h
          obtain ⟨es, h1, h2⟩ := ih (i + 1) c h
          refine ⟨es, by omega, ?_⟩
          rw [show c - i = (c - (i + 1)) + 1 by omega]
          simpa using h2
        cases x with
        | sl t es =>
          simp only [cellOf] at h
          split at h
          · rename_i ht
            simp only [Option.some.injEq] at h
            subst h; subst ht
            exact ⟨es, Nat.le_refl _, by simp⟩
          · exact hrec h
        | _ => exact hrec h
    simp only [St.place] at h
    cases hc : (st.box b0).c with
    | none => rw [hc] at h; exact place_some st tag r h
    | some x =>
      simp only [hc] at h
      cases h1 : cellOf tag 0 x.cells with
      | none => simp only [h1] at h; exact place_some st tag r h
      | some c' =>
        simp only [h1] at h
        simp only [Option.some.injEq, Prod.mk.injEq] at h
        obtain ⟨rfl, rfl⟩ := h
        obtain ⟨es, -, h2⟩ := hcell _ _ _ h1
        exact ⟨x, es, hc, by simpa using h2⟩

theorem part_sound (hB : SimB Γ st.box w LB S) {k b c : Nat} {y : X} {us : List (Nat × Bx)} {t : Nat} {h : Option (Nat × Nat)} {es : List L} (h1 : st.place (k + 2) st.bx = some (b, c))
    (h2 : st.take1 (.view b (st.box b).ver [] c) = some (y, us)) (hpsk : Γ.psk k = some (L.own t h es).sk) :
    ∃ (LB1 : Nat → Option BL) (lo : L), SimB Γ (st.withB us).box w LB1 S ∧ lo.er = y.untag ∧ lo.mem w S ∧ Free Γ w S LB1 lo.fp ∧ (∀ b B', LB1 b = some B' → ∃ B, LB b = some B ∧ ∀ g ∈ B'.fp, g ∈ B.fp) ∧
      (∀ g ∈ lo.fp, ∃ b B, LB b = some B ∧ g ∈ B.fp) ∧ ∃ es', lo = .own 0 h es' ∧ lo.sk = (L.own t h es).sk := by
  obtain ⟨x, es', hx, hxc⟩ := place_some st (k + 2) st.bx h1
  obtain ⟨B, hBb, her, hreal, hm⟩ := (hB.bx b).get hx
  subst her
  rw [L.er_cells, List.getElem?_map] at hxc
  cases hcc : B.c.cells[c]? with
  | none => simp [hcc] at hxc
  | some lc =>
    simp only [hcc, Option.map_some, Option.some.injEq] at hxc
    obtain ⟨hh, ls, rfl, hls⟩ := L.er_own_iff hxc
    have hT : TRel st.box LB w S (.view b (st.box b).ver [] c) (hdrV hh ls.length) := by
      refine ⟨Nat.le_refl _, fun _ B' hB' => ?_⟩
      rw [hBb] at hB'; cases hB'
      simp [Sk.hdr, Sk.nav, L.sk_cells, hcc, L.sk, L.sks_eq]
    obtain ⟨tm, bl⟩ := st
    obtain ⟨LB1, l, k1, k2, k3, k4, k5, k6⟩ := take1_sound (tm := tm) (bl := bl) hB h2 hT
    have hy : y = .sl (k + 2) es' := by
      simp only [St.take1] at h2
      have hsl : slAt ((St.mk tm bl).box b) ((St.mk tm bl).box b).ver [] c = some (k + 1, es') := by
        simp only [slAt, if_true, hx, X.nav, L.er_cells, List.getElem?_map, hcc, Option.map_some, L.er, L.ers_eq, hls]
      rw [hsl] at h2
      simp only [Option.map_some, List.isEmpty_nil, cond_true, Option.some.injEq, Prod.mk.injEq] at h2
      exact h2.1.symm
    subst hy
    obtain ⟨h', ls', rfl, hls'⟩ := L.er_own_iff (l := l) (t := k + 1) k3.er
    have hsk := k3.tag k h' ls' rfl
    rw [hpsk] at hsk
    simp only [Option.some.injEq, L.sk, Sk.own.injEq] at hsk
    obtain ⟨rfl, hsks⟩ := hsk
    obtain ⟨q1, q2, q3, q4, q5⟩ := L.untag_gen w S (L.own (k + 1) h ls')
    refine ⟨LB1, (L.own (k + 1) h ls').untag, k1, by rw [q1, k3.er], q3 k3.mem, by rw [q4]; exact k4, k5, fun g hg => k6 g (by rw [← q4]; exact hg), ls', rfl, ?_⟩
    rw [q5]
    simp [L.sk, hsks]

theorem outsA_sound : ∀ (cs : List L) (k : Nat) (st : St) (LB : Nat → Option BL) (os : List X), SimB Γ st.box w LB S → st.outsA k (L.ers cs) = some os → (∀ j s, (L.partss cs)[j]? = some s → Γ.psk (k + j) = some s) →
    ∃ los, L.ers los = os ∧ L.mems w S los ∧ (L.fps los).Nodup ∧ (∀ g ∈ L.fps los, ∃ b B, LB b = some B ∧ g ∈ B.fp) ∧ OutHdrs cs los
  | [], k, st, LB, os, hB, ho, hp => by
    simp only [L.ers, St.outsA, Option.some.injEq] at ho
    subst ho
    exact ⟨[], rfl, trivial, by simp [L.fps], by simp [L.fps], trivial⟩
  | c :: cs, k, st, LB, os, hB, ho, hp => by
    have hjunk : (∀ t h es, c ≠ .own t h es) → c.parts = [] → (st.outsA k (L.ers cs)).map (fun l => X.junk :: l) = some os →
        ∃ los, L.ers los = os ∧ L.mems w S los ∧ (L.fps los).Nodup ∧ (∀ g ∈ L.fps los, ∃ b B, LB b = some B ∧ g ∈ B.fp) ∧ OutHdrs (c :: cs) los := by
      intro hc hcp h1
      cases h2 : st.outsA k (L.ers cs) with
      | none => simp [h2] at h1
      | some l =>
        simp only [h2, Option.map_some, Option.some.injEq] at h1
        subst h1
        obtain ⟨los, q1, q2, q3, q4, q5⟩ := outsA_sound cs k st LB l hB h2 (fun j s hj => hp j s (by simpa [L.partss, hcp] using hj))
        exact ⟨.junk undef :: los, by simp [L.ers, L.er, q1], ⟨trivial, q2⟩, by simpa [L.fps, L.fp] using q3, by simpa [L.fps, L.fp] using q4, .inr ⟨hc, _, rfl⟩, q5⟩
    cases c with
    | own t h es =>
      simp only [L.ers, L.er, St.outsA] at ho
      cases h1 : st.place (k + 2) st.bx with
      | none => simp [h1] at ho
      | some bc =>
        obtain ⟨b, c⟩ := bc
        simp only [h1] at ho
        cases h2 : st.take1 (.view b (st.box b).ver [] c) with
        | none => simp [h2] at ho
        | some y =>
          obtain ⟨y, us⟩ := y
          simp only [h2, Option.bind_some] at ho
          cases h3 : (st.withB us).outsA (k + 1) (L.ers cs) with
          | none => simp [h3] at ho
          | some l =>
            simp only [h3, Option.map_some, Option.some.injEq] at ho
            subst ho
            have hpk := hp 0 (L.own t h es).sk (by simp [L.partss, L.parts, L.sk])
            obtain ⟨LB1, lo, k1, k2, k3, k4, k5, k6, es', k7, k8⟩ := part_sound hB h1 h2 (by simpa using hpk)
            obtain ⟨los, q1, q2, q3, q4, q5⟩ := outsA_sound cs (k + 1) (st.withB us) LB1 l k1 h3 (fun j s hj => by
              have := hp (j + 1) s (by simpa [L.partss, L.parts] using hj)
              rw [show k + 1 + j = k + (j + 1) by omega]; exact this)
            refine ⟨lo :: los, by simp [L.ers, k2, q1], ⟨k3, q2⟩, ?_, ?_, .inl ⟨t, h, es, es', rfl, k7, k8⟩, q5⟩
            · simp only [L.fps]
              refine List.nodup_append.2 ⟨k4.nd, q3, fun g hg g' hg' he => ?_⟩
              subst he
              obtain ⟨b', B', hb', hgB⟩ := q4 g hg'
              exact k4.dj b' B' hb' g hg hgB
            · intro g hg
              simp only [L.fps, List.mem_append] at hg
              rcases hg with hg | hg
              · exact k6 g hg
              · obtain ⟨b', B', hb', hgB⟩ := q4 g hg
                obtain ⟨B, hB', hs⟩ := k5 b' B' hb'
                exact ⟨b', B, hB', hs g hgB⟩
    | sc v => exact hjunk (by simp) rfl (by simpa only [L.ers, L.er, St.outsA] using ho)
    | opq v => exact hjunk (by simp) rfl (by simpa only [L.ers, L.er, St.outsA] using ho)
    | ro v es => exact hjunk (by simp) rfl (by simpa only [L.ers, L.er, St.outsA] using ho)
    | _ => simp [L.ers, L.er, St.outsA] at ho

theorem outs_sound (hB : SimB Γ st.box w LB S) {la : L} {o : X} (ho : st.outs la.er = some o) (hpsk : ∀ t h es, la = .own t h es → Γ.psk 0 = some la.sk) (hpb : ∀ g c, la = .box g c → Γ.pblk = some g) (hpp : ∀ cs, la = .agg cs → ∀ j s, (L.partss cs)[j]? = some s → Γ.psk j = some s) :
    ∃ lo : L, lo.er = o ∧ lo.mem w S ∧ lo.fp.Nodup ∧ (∀ g ∈ lo.fp, (∃ b B, LB b = some B ∧ g ∈ B.fp)) ∧ OutHdr la lo := by
  have hj : o = .junk → ∃ lo : L, lo.er = o ∧ lo.mem w S ∧ lo.fp.Nodup ∧ (∀ g ∈ lo.fp, (∃ b B, LB b = some B ∧ g ∈ B.fp)) ∧ OutHdr la lo := by
    rintro rfl
    exact ⟨.junk undef, rfl, trivial, by simp [L.fp], by simp [L.fp], .inl ⟨_, rfl⟩⟩
  cases la with
  | box g c =>
    simp only [L.er, St.outs] at ho
    cases h1 : st.own (.ptr PB (st.box PB).bn 0) with
    | none => simp [h1] at ho
    | some y =>
      obtain ⟨y, us⟩ := y
      simp only [h1, Option.map_some, Option.some.injEq] at ho
      subst ho
      have hT : TRel st.box LB w S (.ptr PB (st.box PB).bn 0) (.pointer (some ⟨g, 0, none⟩)) :=
        ⟨Nat.le_refl _, fun _ B hb => ⟨g, hB.pb B hb g (hpb g c rfl), rfl⟩⟩
      obtain ⟨LB1, l, k1, k2, k3, k4, k5, k6, k7, k8, k9, k10⟩ := own_sound hB h1 hT
      have hbox : ∃ c', y = .box c' := by
        simp only [St.own] at h1
        cases hc : (st.box PB).c with
        | none => simp [hc] at h1
        | some c' =>
          simp only [hc] at h1
          split at h1
          · simp only [Option.some.injEq, Prod.mk.injEq] at h1; exact ⟨_, h1.1.symm⟩
          · simp at h1
      obtain ⟨c', rfl⟩ := hbox
      cases l <;> simp [L.er] at k3
      rename_i g' c''
      simp only [L.flat, Value.pointer.injEq, Option.some.injEq, Addr.mk.injEq, and_true] at k4
      subst k4
      exact ⟨.box g' c'', by simp [L.er, k3], k5, k6.nd, k10, .inr (.inl ⟨g', c, c'', rfl, rfl, k7⟩)⟩
  | own t h es =>
    simp only [L.er, St.outs, St.part] at ho
    cases h1 : st.place 2 st.bx with
    | none => simp only [h1, Option.map_some, Option.some.injEq] at ho; exact hj ho.symm
    | some bc =>
      obtain ⟨b, c⟩ := bc
      simp only [h1] at ho
      obtain ⟨x, es', hx, hxc⟩ := place_some st 2 st.bx h1
      cases h2 : st.take1 (.view b (st.box b).ver [] c) with
      | none => simp [h2] at ho
      | some y =>
        obtain ⟨y, us⟩ := y
        simp only [h2, Option.map_some, Option.some.injEq] at ho
        subst ho
        obtain ⟨B, hBb, her, hreal, hm⟩ := (hB.bx b).get hx
        subst her
        rw [L.er_cells, List.getElem?_map] at hxc
        cases hcc : B.c.cells[c]? with
        | none => simp [hcc] at hxc
        | some lc =>
          simp only [hcc, Option.map_some, Option.some.injEq] at hxc
          obtain ⟨hh, ls, rfl, hls⟩ := L.er_own_iff hxc
          have hT : TRel st.box LB w S (.view b (st.box b).ver [] c) (hdrV hh ls.length) := by
            refine ⟨Nat.le_refl _, fun _ B' hB' => ?_⟩
            rw [hBb] at hB'; cases hB'
            simp [Sk.hdr, Sk.nav, L.sk_cells, hcc, L.sk, L.sks_eq]
          obtain ⟨tm, bl⟩ := st
          obtain ⟨LB1, l, k1, k2, k3, k4, k5, k6⟩ := take1_sound (tm := tm) (bl := bl) hB h2 hT
          have hy : y = .sl 2 es' := by
            simp only [St.take1] at h2
            have hsl : slAt ((St.mk tm bl).box b) ((St.mk tm bl).box b).ver [] c = some (1, es') := by
              simp only [slAt, if_true, hx, X.nav, L.er_cells, List.getElem?_map, hcc, Option.map_some, L.er, L.ers_eq, hls]
            rw [hsl] at h2
            simp only [Option.map_some, List.isEmpty_nil, cond_true, Option.some.injEq, Prod.mk.injEq] at h2
            exact h2.1.symm
          subst hy
          obtain ⟨h', ls', rfl, hls'⟩ := L.er_own_iff (l := l) (t := 1) k3.er
          have hsk := k3.tag 0 h' ls' rfl
          rw [hpsk t h es rfl] at hsk
          simp only [Option.some.injEq, L.sk, Sk.own.injEq] at hsk
          obtain ⟨rfl, hsks⟩ := hsk
          obtain ⟨q1, q2, q3, q4, q5⟩ := L.untag_gen w S (L.own 1 h ls')
          refine ⟨(L.own 1 h ls').untag, by rw [q1, k3.er], q3 k3.mem, by rw [q4]; exact k4.nd, fun g hg => k6 g (by rw [← q4]; exact hg), .inr (.inr (.inl ⟨t, h, es, ls', rfl, rfl, ?_⟩))⟩
          rw [q5]
          simp [L.sk, hsks]
  | agg cs =>
    simp only [L.er, St.outs] at ho
    cases h1 : st.outsA 0 (L.ers cs) with
    | none => simp [h1] at ho
    | some os =>
      simp only [h1, Option.map_some, Option.some.injEq] at ho
      subst ho
      obtain ⟨los, q1, q2, q3, q4, q5⟩ := outsA_sound cs 0 st LB os hB h1 (fun j s hj => by simpa using hpp cs rfl j s hj)
      exact ⟨.agg los, by simp [L.er, q1], q2, q3, q4, .inr (.inr (.inr ⟨cs, los, rfl, rfl, q5⟩))⟩
  | _ => simp only [L.er, St.outs, Option.some.injEq] at ho; exact hj ho.symm

end Go.Proofs.Ytncjcbdbdocjaaa.Ax

/- Contracts of functions, and how a walk gives one. -/
namespace Go.Proofs.Ytncjcbdbdocjaaa.Ax
open Go

variable {P : Program} {Γ : Ctx} {st : St} {a : Act} {w w' : World} {LB LB' : Nat → Option BL} {S : Nat → Prop}

/-- The callee's own argument. -/
def ownL (k : Option Nat) (las : List L) : L :=
  match k with
  | none => .junk undef
  | some i => las.getD i (.junk undef)

structure RetOK (w : World) (S : Nat → Prop) (la lr lo : L) (w' : World) (S' : Nat → Prop) : Prop where
  hS : ∀ g, S g → S' g
  hSn : ∀ g, S' g → S g ∨ g ∈ la.fp ∨ w.heap.size ≤ g
  hSw : ∀ g, S' g → g < w'.heap.size
  memr : lr.mem w' S'
  memo : lo.mem w' S'
  nd : (lr.fp ++ lo.fp).Nodup
  fr : ∀ g ∈ lr.fp ++ lo.fp, ¬ S' g ∧ g < w'.heap.size ∧ (g ∈ la.fp ∨ w.heap.size ≤ g)
  frame : Fr la.fp w w'
  clean : lr.clean
  hdr : OutHdr la lo

structure ArgsOK (k : Option Nat) (las : List L) (w : World) (S : Nat → Prop) : Prop where
  mem : ∀ l ∈ las, l.mem w S
  nd : (ownL k las).fp.Nodup
  fr : ∀ g ∈ (ownL k las).fp, ¬ S g ∧ g < w.heap.size
  Sw : ∀ g, S g → g < w.heap.size
  cl : (ownL k las).clean

/-- What a function answers: from the arguments' trees (the one at k is its own), the result's tree and what its own argument becomes. -/
def FnOK (P : Program) (f : FuncId) : Prop := ∃ fn, P.funcs[f]? = some fn ∧ (fn.name == "runtime.NumGoroutine") = false ∧ fn.body.isNone = false
def Spec (P : Program) (f : FuncId) (k : Option Nat) (args : List X) (r out : X) : Prop :=
  FnOK P f ∧ ∀ (w : World) (S : Nat → Prop) (las : List L), las.map L.er = args → ArgsOK k las w S →
    Calls P f (las.map L.flat).toArray w fun e w' => ∃ (lr lo : L) (S' : Nat → Prop), e = .returned lr.flat ∧ lr.er = r ∧ lo.er = out ∧ RetOK w S (ownL k las) lr lo w' S'

def Runs (P : Program) (Γ : Ctx) (c : Code) (st : St) (Q : Exit → St → Prop) : Prop :=
  ∀ a w, Sim Γ st a w → c.wp P (fun e a' w' => ∃ st', Sim Γ st' a' w' ∧ Q e st') a w

def okOwn (k : Option Nat) (args : List X) : Bool :=
  match k with
  | none => true
  | some i => match args[i]? with | some (.box _) => true | some (.sl (_ + 1) _) => true | some (.agg _) => true | _ => false
def okArgs (k : Option Nat) : Nat → List X → Bool
  | _, [] => true
  | i, x :: r => (some i == k || x.isRo) && okArgs k (i + 1) r

theorem ro_rel {x : X} {l : L} (h : l.er = x) (hro : x.isRo = true) (hm : l.mem w S) {bx : Nat → Bx} : TRel bx LB w S x l.flat := by
  have h1 : ∀ (x : X) (l : L), l.er = x → x.isRo1 = true → l.mem w S → TRel bx LB w S x l.flat := by
    intro x l h hro hm
    subst h
    cases l <;> simp [L.er, X.isRo1] at hro
    · exact ⟨rfl, hm⟩
    · exact hm
    · exact hm
  cases l with
  | agg cs =>
    subst h
    refine ⟨(L.flats cs).toArray, by simp [L.flat], ?_⟩
    simp only [L.er, X.isRo, L.ers_eq] at hro
    simp only [L.flats_eq, L.ers_eq]
    have hm' : L.mems w S cs := hm
    clear hm
    induction cs with
    | nil => trivial
    | cons c cs ih =>
      simp only [List.map_cons, List.all_cons, Bool.and_eq_true] at hro
      exact ⟨h1 _ c rfl hro.1 hm'.1, ih hro.2 hm'.2⟩
  | _ => subst h; exact h1 _ _ rfl hro hm

theorem initTm_look (k : Option Nat) (own : X) (t : Nat) : ∀ (args : List X) (i : Nat), lookT (initTm k own i args) t =
    if i ≤ t ∧ t < i + args.length then (if some t = k then own else args.getD (t - i) .junk) else .junk
  | [], i => by simp [initTm, lookT]; omega
  | x :: r, i => by
    simp only [initTm, lookT]
    by_cases h : i = t
    · subst h
      simp
    · simp only [if_neg h]
      rw [initTm_look k own t r (i + 1)]
      by_cases h2 : i + 1 ≤ t ∧ t < i + 1 + r.length
      · have h3 : i ≤ t ∧ t < i + (x :: r).length := by simp; omega
        rw [if_pos h2, if_pos h3]
        have : t - i = (t - (i + 1)) + 1 := by omega
        rw [this]; rfl
      · have h3 : ¬ (i ≤ t ∧ t < i + (x :: r).length) := by simp; omega
        rw [if_neg h2, if_neg h3]

theorem okArgs_get {k : Option Nat} : ∀ {args : List X} {i j : Nat} {x : X}, okArgs k i args = true → args[j]? = some x → some (i + j) ≠ k → x.isRo = true
  | [], i, j, x, h, hj, hk => by simp at hj
  | y :: r, i, j, x, h, hj, hk => by
    simp only [okArgs, Bool.and_eq_true, Bool.or_eq_true, beq_iff_eq] at h
    cases j with
    | zero => simp at hj; subst hj; exact h.1.resolve_left (by simpa using hk)
    | succ j => exact okArgs_get (i := i + 1) h.2 (by simpa using hj) (by rw [show i + 1 + j = i + (j + 1) by omega]; exact hk)


def ctxOf (n : Nat) (k : Option Nat) (las : List L) (w : World) (S : Nat → Prop) : Ctx :=
  ⟨n, w, S, (ownL k las).fp, fun j => (ownL k las).parts[j]?, match ownL k las with | .box g _ => some g | _ => none⟩

theorem sim_init {n : Nat} {k : Option Nat} {args : List X} {las : List L} (hlas : las.map L.er = args) (hA : ArgsOK k las w S) (hok : okOwn k args = true) (hro : okArgs k 0 args = true) (hn : args.length ≤ n) :
    Sim (ctxOf n k las w S) (initSt k args) { tmps := (las.map L.flat).toArray ++ Array.replicate (n - (las.map L.flat).toArray.size) undef, defers := [] } w := by
  have hlen : las.length = args.length := by rw [← hlas]; simp
  have hB0 : SimB (ctxOf n k las w S) ((St.mk [] []).withB []).box w (fun _ => none) S :=
    ⟨fun b => trivial, fun b B h => by simp at h, fun b b' B B' hne h => by simp at h, fun b B h => by simp at h, fun g h => h, hA.Sw, Fr.refl _ _, fun b B h => by simp at h, fun B h => by simp at h, fun g h => .inl h⟩
  have key : ∃ (LB : Nat → Option BL) (x : X) (bx : List (Nat × Bx)), initSt k args = ⟨initTm k x 0 args, bx⟩ ∧ SimB (ctxOf n k las w S) (St.mk [] bx).box w LB S ∧
      (∀ i, some i = k → ∃ l, las[i]? = some l ∧ TRel (St.mk [] bx).box LB w S x l.flat) := by
    cases k with
    | none => exact ⟨fun _ => none, .junk, [], rfl, hB0, fun i h => by simp at h⟩
    | some i =>
      simp only [okOwn] at hok
      cases hi : args[i]? with
      | none => simp [hi] at hok
      | some x =>
        have hl : ∃ l, las[i]? = some l ∧ l.er = x := by
          rw [← hlas, List.getElem?_map] at hi
          cases hl : las[i]? with
          | none => simp [hl] at hi
          | some l => simp only [hl, Option.map_some, Option.some.injEq] at hi; exact ⟨l, rfl, hi⟩
        obtain ⟨l, hl, rfl⟩ := hl
        have hown : ownL (some i) las = l := by simp [ownL, List.getD_eq_getElem?_getD, hl]
        have hlm : l.mem w S := hA.mem l (List.mem_of_getElem? hl)
        have hg : args.getD i .junk = l.er := by simp [List.getD_eq_getElem?_getD, hi]
        have hA' := hA
        obtain ⟨hAm, hAnd, hAfr, hASw, hAcl⟩ := hA'
        rw [hown] at hAnd hAfr hAcl
        have hfree : Free (ctxOf n (some i) las w S) w S (fun _ => none) l.fp :=
          ⟨hAnd, fun b B h => by simp at h, fun g hg => ⟨(hAfr g hg).1, (hAfr g hg).2, .inl (by simp only [ctxOf, hown]; exact hg)⟩⟩
        obtain ⟨hI, -⟩ := inst_sound (Γ := ctxOf n (some i) las w S) (st := St.mk [] []) (tg := fun k => k + 2) (d := PB) (Nat.le_refl _) l 0 [] (fun _ => none) (by simp) hB0 hlm hfree
          (.inr ⟨rfl, fun _ => rfl, fun j s hj _ => by simp only [ctxOf, hown, Nat.zero_add]; exact hj⟩)
          (fun _ g hg => by
            simp only [ctxOf, hown] at hg
            cases l <;> simp at hg
            subst hg; exact ⟨_, rfl⟩) hAcl
        obtain ⟨LB, m1, m2, m3, m4⟩ := hI.ex
        simp only [St.withB, List.append_nil] at m1 m3
        refine ⟨LB, (St.inst ⟨[], []⟩ (fun k => k + 2) PB l.er 0).1, (St.inst ⟨[], []⟩ (fun k => k + 2) PB l.er 0).2.1, ?_, m1, fun j hj => ?_⟩
        · simp only [initSt, hg]
        · cases hj
          exact ⟨l, hl, m3⟩
  obtain ⟨LB, x, bx, e1, e2, e3⟩ := key
  refine ⟨LB, S, rfl, ?_, ?_, ?_, ?_, ?_, ?_, ?_, ?_, ?_, ?_, ?_, ?_⟩
  · simp only [ctxOf, Array.size_append, List.size_toArray, List.length_map, Array.size_replicate]; omega
  · intro t
    rw [e1]
    show TRel (St.mk [] bx).box LB w S (lookT (initTm k x 0 args) t) _
    rw [initTm_look]
    split
    · rename_i ht
      simp only [Nat.zero_le, Nat.zero_add, true_and] at ht
      have hv : ((las.map L.flat).toArray ++ Array.replicate (n - (las.map L.flat).toArray.size) undef).getD t undef = ((las[t]?).map L.flat).getD undef := by
        rw [Array.getD_eq_getD_getElem?, Array.getElem?_append_left (by simpa [hlen] using ht)]
        simp
      have hlt : ∃ l, las[t]? = some l ∧ args[t]? = some l.er := by
        have : t < las.length := by omega
        refine ⟨las[t], by simp [this], ?_⟩
        rw [← hlas]; simp [this]
      obtain ⟨l, hl, hx⟩ := hlt
      rw [hv, hl]
      simp only [Option.map_some, Option.getD_some]
      by_cases hk : some t = k
      · rw [if_pos hk]
        obtain ⟨l', hl', hT⟩ := e3 t hk
        rw [hl] at hl'; cases hl'
        exact hT
      · rw [if_neg hk]
        simp only [Nat.sub_zero, List.getD_eq_getElem?_getD, hx, Option.getD_some]
        exact ro_rel rfl (okArgs_get (i := 0) hro hx (by simpa using hk)) (hA.mem l (List.mem_of_getElem? hl))
    · exact trivial
  all_goals (try rw [e1])
  · exact e2.bx
  · exact e2.nd
  · exact e2.dj
  · exact e2.fr
  · exact e2.S0
  · exact e2.Sw
  · exact e2.frame
  · exact e2.tag
  · exact e2.pb
  · exact e2.Sn

def oneOrTupL : List L → L
  | [x] => x
  | l => .tup l
theorem oneOrTupL_er (ls : List L) : (oneOrTupL ls).er = oneOrTup (ls.map L.er) := by
  match ls with
  | [] => simp [oneOrTupL, oneOrTup, L.er, L.ers_eq]
  | [x] => rfl
  | x :: y :: r => simp [oneOrTupL, oneOrTup, L.er, L.ers_eq]
theorem oneOrTupL_flat (ls : List L) : (oneOrTupL ls).flat = (if h : (ls.map L.flat).toArray.size = 1 then (ls.map L.flat).toArray[0] else .tuple (ls.map L.flat).toArray) := by
  match ls with
  | [] => simp [oneOrTupL, L.flat, L.flats_eq]
  | [x] => simp [oneOrTupL]
  | x :: y :: r => simp [oneOrTupL, L.flat, L.flats_eq]
theorem oneOrTupL_fp (ls : List L) : (oneOrTupL ls).fp = L.fps ls := by
  match ls with
  | [] => rfl
  | [x] => simp [oneOrTupL, L.fps]
  | x :: y :: r => rfl
theorem oneOrTupL_mem (ls : List L) (h : ∀ l ∈ ls, l.mem w S) : (oneOrTupL ls).mem w S := by
  match ls with
  | [] => trivial
  | [x] => exact h x (by simp)
  | x :: y :: r => exact (L.mems_iff _).2 h
theorem noboxes_iff (ls : List L) : L.noboxes ls ↔ ∀ l ∈ ls, l.nobox := by induction ls <;> simp_all [L.noboxes]
theorem oneOrTupL_clean (ls : List L) (h : ∀ l ∈ ls, l.clean ∧ (l.er.isBox = false → l.nobox)) (hb : ¬ ((ls.map L.er).length ≠ 1 ∧ (ls.map L.er).any X.isBox = true)) : (oneOrTupL ls).clean := by
  have hno : ls.length ≠ 1 → L.noboxes ls := by
    intro hl
    rw [noboxes_iff]
    intro l hm
    refine (h l hm).2 ?_
    have : (ls.map L.er).any X.isBox = false := by
      by_cases hx : (ls.map L.er).any X.isBox = true
      · exact absurd ⟨by simpa using hl, hx⟩ hb
      · simpa using hx
    rw [List.any_eq_false] at this
    simpa using this l.er (List.mem_map.2 ⟨l, hm, rfl⟩)
  match ls, hno with
  | [], _ => trivial
  | [x], _ => exact (h x (by simp)).1
  | x :: y :: r, hno => exact hno (by simp)

theorem spec_of_runs {f : FuncId} {fn : Func} {c : Code} {k : Option Nat} {args : List X} {r out : X} (hf : P.funcs[f]? = some fn) (hb : fn.body = some c) (hnm : (fn.name == "runtime.NumGoroutine") = false)
    (hok : okOwn k args = true) (hro : okArgs k 0 args = true) (hn : args.length ≤ fn.ntmps)
    (h : ∀ Γ : Ctx, Γ.n = fn.ntmps → Runs P Γ c (initSt k args) fun e st' => (e = .normal ∨ e = .ret) ∧ retX P fn k args st' = some (r, out)) : Spec P f k args r out := by
  refine ⟨⟨fn, hf, hnm, by simp [hb]⟩, ?_⟩
  intro w S las hlas hA
  refine calls_of_wp hf hb (wp_mono (h (ctxOf fn.ntmps k las w S) rfl _ w (sim_init hlas hA hok hro hn)) fun e a' w' hq => ?_)
  obtain ⟨st', ⟨LB, S', hs⟩, he, hret⟩ := hq
  have main : a'.defers = [] ∧ ∃ v, (results fn a'.tmps).run P w' = .ok v w' ∧
      ∃ (lr lo : L) (S' : Nat → Prop), Ending.returned v = .returned lr.flat ∧ lr.er = r ∧ lo.er = out ∧ RetOK w S (ownL k las) lr lo w' S' := by
    refine ⟨hs.defers, ?_⟩
    unfold retX at hret
    cases h1 : resXs P st' fn.results.toList with
    | none => simp [h1] at hret
    | some xs =>
      simp only [h1, Option.bind_some] at hret
      cases h2 : st'.owns xs with
      | none => simp [h2] at hret
      | some y =>
        obtain ⟨ys, us⟩ := y
        simp only [h2, Option.bind_some] at hret
        split at hret
        · simp at hret
        · rename_i hbx
          obtain ⟨vs, hv, ht⟩ := resXs_sound hs _ _ h1
          obtain ⟨LB1, ls, k1, k2, k3, k4, k5, k6, k7, k8, k9⟩ := owns_sound hs.toB h2 ht
          have hres : (results fn a'.tmps).run P w' = .ok (oneOrTupL ls).flat w' := by
            subst k4
            rw [oneOrTupL_flat]
            unfold results
            have hv2 : (fn.results.mapM fun (r : ResultVar) => (match r with | .tmp t => (pure (a'.tmps.getD t undef) : Sem Value) | .cell b t => do loadVar t (← asAddr (a'.tmps.getD b undef)) : Sem Value)).run P w' = .ok (ls.map L.flat).toArray w' := by
              rw [Array.mapM_eq_mapM_toList, Sem.run_map]; exact (congrArg (fun z => Result.andThen z _) hv).trans rfl
            rw [Sem.run_bind]
            exact (congrArg (fun z => Result.andThen z _) hv2).trans rfl
          subst k3
          have hclean := oneOrTupL_clean ls k7 hbx
          have houts : ∃ lo : L, lo.er = out ∧ lo.mem w' S' ∧ lo.fp.Nodup ∧ (∀ g ∈ lo.fp, (∃ b B, LB1 b = some B ∧ g ∈ B.fp)) ∧ OutHdr (ownL k las) lo ∧ r = oneOrTup (ls.map L.er) := by
            cases k with
            | none =>
              simp only [Option.some.injEq, Prod.mk.injEq] at hret
              obtain ⟨rfl, rfl⟩ := hret
              exact ⟨.junk undef, rfl, trivial, by simp [L.fp], by simp [L.fp], .inl ⟨_, rfl⟩, rfl⟩
            | some i =>
              cases ho : (st'.withB us).outs (args.getD i .junk) with
              | none => simp only [ho, Option.map_none, reduceCtorEq] at hret
              | some o =>
                simp only [ho, Option.map_some, Option.some.injEq, Prod.mk.injEq] at hret
                obtain ⟨rfl, rfl⟩ := hret
                have hi : args.getD i .junk = (ownL (some i) las).er := by
                  rw [← hlas]
                  simp only [ownL, List.getD_eq_getElem?_getD, List.getElem?_map]
                  cases las[i]? <;> rfl
                rw [hi] at ho
                obtain ⟨lo, o1, o2, o3, o4, o5⟩ := outs_sound k1 ho (fun t h es hl => by simp [ctxOf, hl, L.parts, L.sk]) (fun g c hl => by simp [ctxOf, hl]) (fun cs hl j s hj => by simp only [ctxOf, hl, L.parts]; exact hj)
                exact ⟨lo, o1, o2, o3, o4, o5, rfl⟩
          obtain ⟨lo, o1, o2, o3, o4, o5, rfl⟩ := houts
          refine ⟨_, hres, oneOrTupL ls, lo, S', rfl, oneOrTupL_er ls, o1, ?_⟩
          have hfrB : ∀ g ∈ lo.fp, ¬ S' g ∧ g < w'.heap.size ∧ (g ∈ (ownL k las).fp ∨ w.heap.size ≤ g) := fun g hg => by
            obtain ⟨b, B, hb, hgB⟩ := o4 g hg
            exact k1.fr b B hb g hgB
          refine ⟨k1.S0, k1.Sn, k1.Sw, oneOrTupL_mem ls k5, o2, ?_, ?_, k1.frame, hclean, o5⟩
          · rw [oneOrTupL_fp]
            refine List.nodup_append.2 ⟨k6.nd, o3, fun g hg g' hg' he => ?_⟩
            subst he
            obtain ⟨b, B, hb, hgB⟩ := o4 g hg'
            exact k6.dj b B hb g hg hgB
          · intro g hg
            rw [oneOrTupL_fp] at hg
            rcases List.mem_append.1 hg with hg | hg
            · exact k6.fr g hg
            · exact hfrB g hg
  rcases he with rfl | rfl
  · exact main
  · exact main

end Go.Proofs.Ytncjcbdbdocjaaa.Ax

/- What a callee reads. -/
namespace Go.Proofs.Ytncjcbdbdocjaaa.Ax
open Go

variable {P : Program} {Γ : Ctx} {st : St} {a : Act} {w w' : World} {LB LB' : Nat → Option BL} {S : Nat → Prop}

theorem X.roifys_eq (l : List X) : X.roifys l = l.map X.roify := by induction l <;> simp_all [X.roifys]
theorem X.rds_eq (l : List X) : X.rds l = l.all X.rde := by induction l <;> simp_all [X.rds]
theorem X.rdc_eq (l : List X) : X.rdc l = l.all X.rd := by induction l <;> simp_all [X.rdc]
theorem X.rde_rd {x : X} (h : x.rd = true) : x.rde = true := by cases x <;> simp_all [X.rd, X.rde]
theorem X.roify_cells (x : X) : x.roify.cells = x.cells.map X.roify := by
  cases x <;> simp [X.roify, X.cells, X.roifys_eq]

theorem Ro.roify {x : X} {v : Value} (h : Ro w S x v) : x.roify = x := by
  induction h with
  | sc v h => rfl
  | opq t x => rfl
  | nil a c => rfl
  | sl g o n cap sz es f h1 h2 hmx h3 h4 h5 h6 h7 ih =>
    simp only [X.roify, X.roifys_eq, X.sl.injEq, true_and]
    refine List.ext_getElem? fun j => ?_
    rw [List.getElem?_map]
    cases he : es[j]? with
    | none => rfl
    | some e =>
      simp only [Option.map_some, Option.some.injEq]
      have key : ∀ (i : Nat) (c : X), e.cells[i]? = some c → c.roify = c := fun i c hc => ih j e i c he hc
      cases e with
      | agg cs =>
        simp only [X.roify, X.roifys_eq, X.agg.injEq]
        refine List.ext_getElem? fun i => ?_
        rw [List.getElem?_map]
        cases hi : cs[i]? with
        | none => rfl
        | some c => simp only [Option.map_some, key i c hi]
      | _ => exact key 0 _ rfl

theorem row_cell {g cap : Nat} {es : List L} (h : Row w g cap es) : ∃ sz, 0 < sz ∧ (∀ x ∈ es, x.cells.length = sz) ∧ (es.length ≤ cap ∧ cap ≤ maxLen) ∧
    ∀ (j : Nat) (e : L) (i : Nat) (c : L), es[j]? = some e → e.cells[i]? = some c → w.cell? ⟨g, j * sz + i, none⟩ = some c.flat := by
  obtain ⟨sz, cur, ty, h1, h2, h3, h4, h5, h6, h7, h8⟩ := h
  refine ⟨sz, h1, h6, ⟨h4, h5⟩, fun j e i c he hc => ?_⟩
  have hj : j < es.length := (List.getElem?_eq_some_iff.1 he).1
  have hi : i < sz := by
    have := (List.getElem?_eq_some_iff.1 hc).1
    rw [h6 e (List.mem_of_getElem? he)] at this; exact this
  have hk : j * sz + i < es.length * sz := by
    calc j * sz + i < j * sz + sz := by omega
      _ = (j + 1) * sz := by rw [Nat.add_mul, Nat.one_mul]
      _ ≤ es.length * sz := Nat.mul_le_mul_right _ hj
  have hr : (rowOf es)[j * sz + i]? = some c.flat := by
    rw [rowOf_get h1 es h6]
    have e1 : (j * sz + i) / sz = j := by rw [Nat.mul_comm, Nat.mul_add_div h1, Nat.div_eq_of_lt hi]; omega
    have e2 : (j * sz + i) % sz = i := by rw [Nat.mul_comm, Nat.mul_add_mod, Nat.mod_eq_of_lt hi]
    rw [e1, e2, he]
    simp [L.cflat, L.flats_eq, hc]
  have hcur : cur.toList[j * sz + i]? = some c.flat := by
    rw [← hr, ← h8, List.getElem?_take, if_pos hk]
  have : cur[j * sz + i]? = some c.flat := by simpa using hcur
  simp [World.cell?, h2, this]

mutual
theorem roify_sound {Sp : Nat → Prop} (hs : ∀ g, S g → Sp g) : ∀ (l : L), l.mem w S → l.er.rd = true → (∀ g ∈ l.fp, Sp g) → Ro w Sp l.er.roify l.flat
  | .sc v, hm, hr, hf => .sc v hm
  | .opq v, hm, hr, hf => by obtain ⟨t, u, rfl⟩ := hm; exact .opq t u
  | .ro v es, hm, hr, hf => by
    have h1 : Ro w S (.sl 0 es) v := hm
    have h2 : (L.ro v es).er.roify = .sl 0 es := h1.roify
    rw [h2]
    exact h1.frame hs (fun _ _ => rfl)
  | .junk v, hm, hr, hf => by simp [L.er, X.rd] at hr
  | .own t h es, hm, hr, hf => by
    have hes0 : L.mems w S es → (∀ g ∈ L.fps es, Sp g) → ∀ e ∈ es, ∀ c ∈ e.cells, Ro w Sp c.er.roify c.flat := fun h1 h2 => roifys_sound hs es h1 (by simpa [L.er, X.rd] using hr) h2
    cases h with
    | none =>
      have : es = [] := hm
      subst this
      exact .nil _ _
    | some gc => ?_
    obtain ⟨g, cap⟩ := gc
    obtain ⟨sz, k1, k2, k3, k4⟩ := row_cell hm.1
    have hes := hes0 hm.2 (fun g' hg' => hf g' (by simp [L.fp, hg']))
    have hg : Sp g := hf g (by simp [L.fp])
    have get1 : ∀ (j : Nat) (e : X), (X.roifys (L.ers es))[j]? = some e → ∃ le, es[j]? = some le ∧ e = le.er.roify := by
      intro j e he
      simp only [L.ers_eq, X.roifys_eq, List.map_map, List.getElem?_map] at he
      cases hj : es[j]? with
      | none => simp [hj] at he
      | some le => simp only [hj, Option.map_some, Option.some.injEq, Function.comp] at he; exact ⟨le, rfl, he.symm⟩
    have get2 : ∀ (le : L) (i : Nat) (c : X), le.er.roify.cells[i]? = some c → ∃ lc, le.cells[i]? = some lc ∧ c = lc.er.roify := by
      intro le i c hc
      rw [X.roify_cells, L.er_cells, List.map_map, List.getElem?_map] at hc
      cases hi : le.cells[i]? with
      | none => simp [hi] at hc
      | some lc => simp only [hi, Option.map_some, Option.some.injEq, Function.comp] at hc; exact ⟨lc, rfl, hc.symm⟩
    refine .sl g 0 es.length cap sz _ (fun j i => (((es[j]?).bind fun e => e.cells[i]?).map L.flat).getD undef) (by simp [L.ers_eq, X.roifys_eq]) k3.1 k3.2 hg k1 (fun j e he => ?_) (fun j e i c he hc => ?_) (fun j e i c he hc => ?_)
    · obtain ⟨le, hj, rfl⟩ := get1 j e he
      rw [X.roify_cells, L.er_cells]; simp [k2 le (List.mem_of_getElem? hj)]
    · obtain ⟨le, hj, rfl⟩ := get1 j e he
      obtain ⟨lc, hi, rfl⟩ := get2 le i c hc
      simp only [Nat.zero_add, hj, Option.bind_some, hi, Option.map_some, Option.getD_some]
      exact k4 j le i lc hj hi
    · obtain ⟨le, hj, rfl⟩ := get1 j e he
      obtain ⟨lc, hi, rfl⟩ := get2 le i c hc
      simp only [hj, Option.bind_some, hi, Option.map_some, Option.getD_some]
      exact hes le (List.mem_of_getElem? hj) lc (List.mem_of_getElem? hi)
  | .agg cs, hm, hr, hf => by simp [L.er, X.rd] at hr
  | .box g c, hm, hr, hf => by simp [L.er, X.rd] at hr
  | .tup cs, hm, hr, hf => by simp [L.er, X.rd] at hr
termination_by structural l => l
theorem roifys_sound {Sp : Nat → Prop} (hs : ∀ g, S g → Sp g) : ∀ (es : List L), L.mems w S es → X.rds (L.ers es) = true → (∀ g ∈ L.fps es, Sp g) → ∀ e ∈ es, ∀ c ∈ e.cells, Ro w Sp c.er.roify c.flat
  | [], _, _, _ => by simp
  | .agg cs :: r, hm, hr, hf => by
    simp only [L.ers, L.er, X.rds, X.rde, Bool.and_eq_true] at hr
    intro e' he' c hc
    rcases List.mem_cons.1 he' with rfl | he'
    · exact roifyc_sound hs cs hm.1 hr.1 (fun g hg => hf g (by simp [L.fps, L.fp, hg])) c hc
    · exact roifys_sound hs r hm.2 hr.2 (fun g hg => hf g (by simp [L.fps, hg])) e' he' c hc
  | .sc v :: r, hm, hr, hf => by
    simp only [L.ers, X.rds, Bool.and_eq_true] at hr
    intro e' he' c hc
    rcases List.mem_cons.1 he' with rfl | he'
    · simp [L.cells] at hc; subst hc; exact roify_sound hs _ hm.1 rfl (fun g hg => hf g (by simp [L.fps, hg]))
    · exact roifys_sound hs r hm.2 hr.2 (fun g hg => hf g (by simp [L.fps, hg])) e' he' c hc
  | .opq v :: r, hm, hr, hf => by
    simp only [L.ers, X.rds, Bool.and_eq_true] at hr
    intro e' he' c hc
    rcases List.mem_cons.1 he' with rfl | he'
    · simp [L.cells] at hc; subst hc; exact roify_sound hs _ hm.1 rfl (fun g hg => hf g (by simp [L.fps, hg]))
    · exact roifys_sound hs r hm.2 hr.2 (fun g hg => hf g (by simp [L.fps, hg])) e' he' c hc
  | .ro v es :: r, hm, hr, hf => by
    simp only [L.ers, X.rds, Bool.and_eq_true] at hr
    intro e' he' c hc
    rcases List.mem_cons.1 he' with rfl | he'
    · simp [L.cells] at hc; subst hc; exact roify_sound hs _ hm.1 hr.1 (fun g hg => hf g (by simp [L.fps, hg]))
    · exact roifys_sound hs r hm.2 hr.2 (fun g hg => hf g (by simp [L.fps, hg])) e' he' c hc
  | .own t h es :: r, hm, hr, hf => by
    simp only [L.ers, X.rds, Bool.and_eq_true] at hr
    intro e' he' c hc
    rcases List.mem_cons.1 he' with rfl | he'
    · simp [L.cells] at hc; subst hc; exact roify_sound hs _ hm.1 hr.1 (fun g hg => hf g (by simp [L.fps, hg]))
    · exact roifys_sound hs r hm.2 hr.2 (fun g hg => hf g (by simp [L.fps, hg])) e' he' c hc
  | .junk v :: r, hm, hr, hf => by simp [L.ers, L.er, X.rds, X.rde] at hr
  | .box g c :: r, hm, hr, hf => by simp [L.ers, L.er, X.rds, X.rde] at hr
  | .tup cs :: r, hm, hr, hf => by simp [L.ers, L.er, X.rds, X.rde] at hr
termination_by structural es => es
theorem roifyc_sound {Sp : Nat → Prop} (hs : ∀ g, S g → Sp g) : ∀ (es : List L), L.mems w S es → X.rdc (L.ers es) = true → (∀ g ∈ L.fps es, Sp g) → ∀ c ∈ es, Ro w Sp c.er.roify c.flat
  | [], _, _, _ => by simp
  | e :: r, hm, hr, hf => by
    simp only [L.ers, X.rdc, Bool.and_eq_true] at hr
    have h0 := roify_sound hs e hm.1 hr.1 (fun g hg => hf g (by simp [L.fps, hg]))
    have h1 := roifyc_sound hs r hm.2 hr.2 (fun g hg => hf g (by simp [L.fps, hg]))
    intro c hc
    rcases List.mem_cons.1 hc with rfl | hc
    · exact h0
    · exact h1 c hc
termination_by structural es => es
end

/-- One argument that is read. -/
def SnapOK (w : World) (Sp : Nat → Prop) (y : X) (v : Value) : Prop := ∃ l : L, l.er = y ∧ l.flat = v ∧ l.mem w Sp ∧ l.fp = []

theorem snap1_sound (hB : SimB Γ st.box w LB S) {Sp : Nat → Prop} (hs : ∀ g, S g → Sp g) {x y : X} {v : Value} (hb : ∀ b ∈ x.roots, ∀ B, LB b = some B → ∀ g ∈ B.fp, Sp g)
    (hy : st.snap1 x = some y) (hx : TRel st.box LB w S x v) : SnapOK w Sp y v := by
  unfold St.snap1 at hy
  split at hy
  · simp only [Option.some.injEq] at hy; subst hy
    obtain ⟨rfl, -⟩ := hx
    exact ⟨.ro (.slice none 0 0) [], rfl, rfl, .nil _ _, rfl⟩
  · simp only [Option.some.injEq] at hy; subst hy
    obtain ⟨rfl, h1⟩ := hx
    exact ⟨.sc _, rfl, rfl, h1, rfl⟩
  · simp only [Option.some.injEq] at hy; subst hy
    exact ⟨.ro v _, rfl, rfl, Ro.frame hx hs (fun _ _ => rfl), rfl⟩
  · rename_i b ver p c
    cases hsl : slAt (st.box b) ver p c with
    | none => simp [hsl] at hy
    | some te =>
      obtain ⟨t, es⟩ := te
      simp only [hsl, Option.bind_some] at hy
      split at hy
      · rename_i hrd
        simp only [Option.some.injEq] at hy; subst hy
        obtain ⟨hv, x, e, hc, hn, he⟩ := slAt_some hsl
        obtain ⟨B, hBb, her, hreal, hm⟩ := (hB.bx b).get hc
        subst her
        rw [L.nav_er] at hn
        cases hln : B.c.nav p with
        | none => simp [hln] at hn
        | some le =>
          simp only [hln, Option.map_some, Option.some.injEq] at hn
          subst hn
          rw [L.er_cells, List.getElem?_map] at he
          cases hcc : le.cells[c]? with
          | none => simp [hcc] at he
          | some lc =>
            simp only [hcc, Option.map_some, Option.some.injEq] at he
            obtain ⟨hh, ls, rfl, hls⟩ := L.er_own_iff he
            have hvv : v = (L.own t hh ls).flat := by
              have := hx.2 hv B hBb
              simp only [Sk.hdr, L.sk_nav, hln, Option.map_some, L.sk_cells, List.getElem?_map, hcc, L.sk, L.sks_eq, List.length_map, Option.some.injEq] at this
              rw [L.own_flat]; exact this.symm
            have hlm := L.nav_mem p B.c hm.2 hln
            have hom := L.mem_cells hlm _ (List.mem_of_getElem? hcc)
            have hsub : ∀ g ∈ (L.own t hh ls).fp, Sp g := fun g hg => by
              refine hb b (by simp [X.roots]) B hBb g ?_
              obtain ⟨A1, C1, hf1, -⟩ := L.put_fp hcc (.junk (L.own t hh ls).flat)
              obtain ⟨A2, C2, hf3, -⟩ := L.upd_fp true p (le.put c (.junk (L.own t hh ls).flat)) hln
              simp [BL.fp, hf3, hf1, hg]
            have key := roify_sound hs _ hom (by simpa [L.er, X.rd, L.ers_eq, hls] using hrd) hsub
            simp only [L.er, X.roify, L.ers_eq, hls] at key
            exact ⟨.ro v (X.roifys es), rfl, rfl, by rw [hvv]; exact key, rfl⟩
      · simp at hy
  · simp only [Option.some.injEq] at hy; subst hy
    obtain ⟨t, u, rfl⟩ := hx
    exact ⟨.opq _, rfl, rfl, ⟨t, u, rfl⟩, rfl⟩
  · simp at hy

theorem rootss_mem : ∀ {cs : List X} {c : X}, c ∈ cs → ∀ b ∈ c.roots, b ∈ X.rootss cs
  | x :: r, c, hc, b, hb => by
    simp only [X.rootss, List.mem_append]
    rcases List.mem_cons.1 hc with rfl | hc
    · exact .inl hb
    · exact .inr (rootss_mem hc b hb)

theorem snap_sound (hB : SimB Γ st.box w LB S) {Sp : Nat → Prop} (hs : ∀ g, S g → Sp g) {x y : X} {v : Value} (hb : ∀ b ∈ x.roots, ∀ B, LB b = some B → ∀ g ∈ B.fp, Sp g)
    (hy : st.snap x = some y) (hx : TRel st.box LB w S x v) : SnapOK w Sp y v := by
  by_cases hag : ∃ cs, x = .agg cs
  · obtain ⟨cs, rfl⟩ := hag
    simp only [St.snap] at hy
    cases h1 : st.snaps cs with
    | none => simp [h1] at hy
    | some ys =>
      simp only [h1, Option.map_some, Option.some.injEq] at hy; subst hy
      obtain ⟨us, rfl, hus⟩ := hx
      have key : ∀ (cs ys : List X) (vs : List Value), (∀ c ∈ cs, ∀ b ∈ c.roots, ∀ B, LB b = some B → ∀ g ∈ B.fp, Sp g) → st.snaps cs = some ys → TRels st.box LB w S cs vs →
          ∃ ls : List L, ls.map L.er = ys ∧ ls.map L.flat = vs ∧ L.mems w Sp ls ∧ L.fps ls = [] := by
        intro cs
        induction cs with
        | nil =>
          intro ys vs _ h hx
          simp only [St.snaps, Option.some.injEq] at h; subst h
          cases vs with
          | nil => exact ⟨[], rfl, rfl, trivial, rfl⟩
          | cons v vs => exact hx.elim
        | cons c cs ih =>
          intro ys vs hbs h hx
          simp only [St.snaps] at h
          cases h2 : st.snap1 c with
          | none => simp [h2] at h
          | some y =>
            simp only [h2, Option.bind_some] at h
            cases h3 : st.snaps cs with
            | none => simp [h3] at h
            | some zs =>
              simp only [h3, Option.map_some, Option.some.injEq] at h; subst h
              cases vs with
              | nil => exact hx.elim
              | cons v vs =>
                obtain ⟨l, l1, l2, l3, l4⟩ := snap1_sound hB hs (hbs c (by simp)) h2 hx.1
                obtain ⟨ls, m1, m2, m3, m4⟩ := ih zs vs (fun c hc => hbs c (by simp [hc])) h3 hx.2
                exact ⟨l :: ls, by simp [l1, m1], by simp [l2, m2], ⟨l3, m3⟩, by simp [L.fps, l4, m4]⟩
      obtain ⟨ls, m1, m2, m3, m4⟩ := key cs ys us.toList (fun c hc b hbc => hb b (by simp only [X.roots]; exact rootss_mem hc b hbc)) h1 hus
      exact ⟨.agg ls, by simp [L.er, L.ers_eq, m1], by simp [L.flat, L.flats_eq, m2], m3, m4⟩
  · have : st.snap x = st.snap1 x := by cases x <;> first | rfl | exact absurd ⟨_, rfl⟩ hag
    rw [this] at hy
    exact snap1_sound hB hs hb hy hx

end Go.Proofs.Ytncjcbdbdocjaaa.Ax

/- A call: what is lent, what comes back. -/
namespace Go.Proofs.Ytncjcbdbdocjaaa.Ax
open Go

variable {P : Program} {Γ : Ctx} {st : St} {a : Act} {w w' : World} {LB LB' : Nat → Option BL} {S : Nat → Prop}

theorem L.put_get {e x y : L} {c : Nat} (h : e.cells[c]? = some y) (hx : x.cells = [x]) : (e.put c x).cells[c]? = some x := by
  cases e with
  | agg cs =>
    simp only [L.cells] at h
    have : c < cs.length := (List.getElem?_eq_some_iff.1 h).1
    simp [L.put, L.cells, List.getElem?_set, this]
  | _ =>
    cases c <;> simp [L.cells] at h
    simp only [L.put]; rw [hx]; rfl
theorem L.put_put {e x y : L} {c : Nat} (hx : ∀ cs, x ≠ .agg cs) : (e.put c x).put c y = e.put c y := by
  cases e with
  | agg cs => simp [L.put, List.set_set]
  | _ => cases x <;> simp [L.put] <;> exact absurd rfl (hx _)
theorem L.nav_upd (u : Bool) (t' : L) : ∀ (p : Path) {e t : L}, e.nav p = some t → (e.upd u p fun _ => t').nav p = some t'
  | [], e, t, h => rfl
  | (c, j) :: p, e, t, h => by
    simp only [L.nav] at h
    cases hc : e.cells[c]? with
    | none => simp [hc] at h
    | some y =>
      rw [hc] at h
      cases y with
      | own t0 hh es =>
        simp only at h
        cases hj : es[j]? with
        | none => simp [hj] at h
        | some e1 =>
          rw [hj] at h
          simp only [Option.bind_some] at h
          have hlt : j < es.length := (List.getElem?_eq_some_iff.1 hj).1
          have hpg : ∀ (tt : Nat) (es' : List L), (e.put c (.own tt hh es')).cells[c]? = some (.own tt hh es') := fun tt es' => L.put_get hc rfl
          simp only [L.upd, hc, hj, L.nav, hpg]
          simp [List.getElem?_set, hlt, L.nav_upd u t' p h]
      | _ => simp at h
theorem L.upd_upd (t' t'' : L) : ∀ (p : Path) {e t : L}, e.nav p = some t → (e.upd false p fun _ => t').upd false p (fun _ => t'') = e.upd false p fun _ => t''
  | [], e, t, h => rfl
  | (c, j) :: p, e, t, h => by
    simp only [L.nav] at h
    cases hc : e.cells[c]? with
    | none => simp [hc] at h
    | some y =>
      rw [hc] at h
      cases y with
      | own t0 hh es =>
        simp only at h
        cases hj : es[j]? with
        | none => simp [hj] at h
        | some e1 =>
          rw [hj] at h
          simp only [Option.bind_some] at h
          have hlt : j < es.length := (List.getElem?_eq_some_iff.1 hj).1
          have h1 : e.upd false ((c, j) :: p) (fun _ => t') = e.put c (.own t0 hh (es.set j (e1.upd false p fun _ => t'))) := by simp only [L.upd, hc, hj, cond_false]
          have h2 : e.upd false ((c, j) :: p) (fun _ => t'') = e.put c (.own t0 hh (es.set j (e1.upd false p fun _ => t''))) := by simp only [L.upd, hc, hj, cond_false]
          rw [h1, h2]
          have hpg : ∀ (tt : Nat) (es' : List L), (e.put c (.own tt hh es')).cells[c]? = some (.own tt hh es') := fun tt es' => L.put_get hc rfl
          simp only [L.upd, hpg, cond_false]
          have : (es.set j (e1.upd false p fun _ => t'))[j]? = some (e1.upd false p fun _ => t') := by simp [List.getElem?_set, hlt]
          simp only [this]
          rw [L.put_put (by simp), List.set_set, L.upd_upd t' t'' p h]
      | _ => simp at h

theorem take1_sc {v : Value} {z : X} {us : List (Nat × Bx)} (h : st.take1 (.sc v) = some (z, us)) : us = [] := by
  unfold St.take1 at h
  split at h <;> simp_all
theorem L.put_fp' {e : L} {c : Nat} {y : L} (h : e.cells[c]? = some y) : ∃ A B, e.fp = A ++ y.fp ++ B ∧ ∀ x, (e.put c x).fp = A ++ x.fp ++ B := by
  cases e with
  | agg cs =>
    obtain ⟨a, b, hl, _, hs⟩ := split_at h
    simp only [L.cells] at hl hs
    refine ⟨L.fps a, L.fps b, ?_, fun x => ?_⟩
    · simp [L.fp, hl, L.fps_append, L.fps_cons]
    · simp [L.put, L.fp, hs, L.fps_append, L.fps_cons]
  | _ =>
    refine ⟨[], [], ?_, fun x => by simp [L.put]⟩
    cases c <;> simp [L.cells] at h
    subst h; simp
theorem L.upd_fp' (u : Bool) : ∀ (p : Path) {e t : L}, e.nav p = some t → ∃ A B, e.fp = A ++ t.fp ++ B ∧ ∀ t', (e.upd u p fun _ => t').fp = A ++ t'.fp ++ B
  | [], e, t, h => by simp only [L.nav, Option.some.injEq] at h; subst h; exact ⟨[], [], by simp, fun t' => by simp [L.upd]⟩
  | (c, j) :: p, e, t, h => by
    simp only [L.nav] at h
    cases hc : e.cells[c]? with
    | none => simp [hc] at h
    | some y =>
      rw [hc] at h
      cases y with
      | own t0 hh es =>
        simp only at h
        cases hj : es[j]? with
        | none => simp [hj] at h
        | some e1 =>
          rw [hj] at h
          simp only [Option.bind_some] at h
          obtain ⟨A1, B1, h1, h2⟩ := L.upd_fp' u p h
          obtain ⟨a, b, hl, _, hs⟩ := split_at hj
          obtain ⟨A, B, h3, h4⟩ := L.put_fp' hc
          have hown : ∃ C D, (L.own t0 hh es).fp = C ++ t.fp ++ D ∧ ∀ t', (L.own (bif u then 0 else t0) hh (es.set j (e1.upd u p fun _ => t'))).fp = C ++ t'.fp ++ D := by
            have q1 : L.fps es = L.fps a ++ A1 ++ t.fp ++ (B1 ++ L.fps b) := by rw [hl, L.fps_append, L.fps_cons, h1]; simp
            have q2 : ∀ t', L.fps (es.set j (e1.upd u p fun _ => t')) = L.fps a ++ A1 ++ t'.fp ++ (B1 ++ L.fps b) := fun t' => by rw [hs, L.fps_append, L.fps_cons, h2]; simp
            cases hh with
            | none => exact ⟨L.fps a ++ A1, B1 ++ L.fps b, by simpa [L.fp] using q1, fun t' => by simpa [L.fp] using q2 t'⟩
            | some gc =>
              obtain ⟨g, cap⟩ := gc
              exact ⟨g :: (L.fps a ++ A1), B1 ++ L.fps b, by simpa [L.fp] using q1, fun t' => by simpa [L.fp] using q2 t'⟩
          obtain ⟨C, D, h5, h6⟩ := hown
          refine ⟨A ++ C, D ++ B, ?_, fun t' => ?_⟩
          · rw [h3, h5]; simp
          · simp only [L.upd, hc, hj]
            rw [h4, h6]; simp
      | _ => simp at h

/-- The boxes after a callee that had its own argument alone. -/
theorem SimB.after {bx : Nat → Bx} (h : SimB Γ bx w LB S) {F : List Nat} {S' : Nat → Prop} (hF : Free Γ w S LB F) (hfr : Fr F w w') (hS : ∀ g, S g → S' g)
    (hSn : ∀ g, S' g → S g ∨ g ∈ F ∨ w.heap.size ≤ g) (hSw : ∀ g, S' g → g < w'.heap.size) : SimB Γ bx w' LB S' := by
  have hSb : ∀ g, S g → w'.heap[g]? = w.heap[g]? := fun g hg => hfr.block g (h.Sw g hg) (fun hm => (hF.fr g hm).1 hg)
  have hBb : ∀ b B, LB b = some B → ∀ g ∈ B.fp, w'.heap[g]? = w.heap[g]? := fun b B hb g hg => hfr.block g (h.fr b B hb g hg).2.1 (fun hm => hF.dj b B hb g hm hg)
  refine ⟨fun b => ?_, h.nd, h.dj, fun b B hb g hg => ?_, fun g hg => hS g (h.S0 g hg), hSw, ?_, h.tag, h.pb, fun g hg => ?_⟩
  · have := h.bx b
    unfold BxRel at this ⊢
    cases hc : (bx b).c with
    | none => rw [hc] at this; cases hl : LB b <;> rw [hl] at this <;> simp_all
    | some c =>
      rw [hc] at this
      cases hl : LB b with
      | none => rw [hl] at this; exact this.elim
      | some B =>
        rw [hl] at this
        exact ⟨this.1, this.2.1, BL.mem_frame hS hSb this.2.2 (hBb b B hl)⟩
  · obtain ⟨h1, h2, h3⟩ := h.fr b B hb g hg
    refine ⟨fun hs => ?_, Nat.lt_of_lt_of_le h2 hfr.size, h3⟩
    rcases hSn g hs with hs | hs | hs
    · exact h1 hs
    · exact hF.dj b B hb g hs hg
    · omega
  · refine h.frame.trans hfr fun g hg => (hF.fr g hg).2.2
  · rcases hSn g hg with hs | hs | hs
    · exact h.Sn g hs
    · exact .inr (hF.fr g hs).2.2
    · exact .inr (.inr (Nat.le_trans h.frame.size hs))

/-- The own argument is moved out; what comes back is put where it was. -/
theorem own_back (hB : SimB Γ st.box w LB S) {x y : X} {v : Value} {us1 : List (Nat × Bx)} (hag : x.isAgg = false) (ho : st.own x = some (y, us1)) (hx : TRel st.box LB w S x v) :
    ∃ (LB1 : Nat → Option BL) (la : L), SimB Γ (st.withB us1).box w LB1 S ∧ la.er = y ∧ la.flat = v ∧ la.mem w S ∧ Free Γ w S LB1 la.fp ∧ la.clean ∧ Adv st.box (st.withB us1).box LB LB1 ∧
      ∀ (w' : World) (S' : Nat → Prop) (lo : L) (us : List (Nat × Bx)) (out : X), SimB Γ (st.withB us1).box w' LB1 S' → Fr la.fp w w' → (∀ g, S g → S' g) → lo.mem w' S' → lo.fp.Nodup →
        (∀ g ∈ lo.fp, ¬ S' g ∧ g < w'.heap.size ∧ (g ∈ la.fp ∨ w.heap.size ≤ g)) → OutHdr la lo → lo.er = out → st.back1 x out = some us →
        ∃ LB2, SimB Γ (st.withB us).box w' LB2 S' ∧ Adv st.box (st.withB us).box LB LB2 ∧
          (∀ b B', LB2 b = some B' → (∃ B, LB1 b = some B ∧ B' = B) ∨ ∀ g ∈ B'.fp, (∃ B, LB1 b = some B ∧ g ∈ B.fp) ∨ g ∈ lo.fp) := by
  have keep : ∀ {lo : L} {LB1 : Nat → Option BL} {us1 : List (Nat × Bx)} {w' : World} {S' : Nat → Prop}, SimB Γ (st.withB us1).box w' LB1 S' → Adv st.box (st.withB us1).box LB LB1 →
      ∃ LB2, SimB Γ (st.withB us1).box w' LB2 S' ∧ Adv st.box (st.withB us1).box LB LB2 ∧
          (∀ b B', LB2 b = some B' → (∃ B, LB1 b = some B ∧ B' = B) ∨ ∀ g ∈ B'.fp, (∃ B, LB1 b = some B ∧ g ∈ B.fp) ∨ g ∈ lo.fp) := fun h1 h2 => ⟨_, h1, h2, fun b B' h => .inl ⟨B', h, rfl⟩⟩
  by_cases hpt : ∃ b bn, x = .ptr b bn 0
  · obtain ⟨b, bn, rfl⟩ := hpt
    simp only [St.own] at ho
    cases hc : (st.box b).c with
    | none => simp [hc] at ho
    | some c =>
      simp only [hc] at ho
      split at ho
      · rename_i hcond
        simp only [Option.some.injEq, Prod.mk.injEq] at ho
        obtain ⟨rfl, rfl⟩ := ho
        obtain ⟨B, hBb, her, hreal, hm⟩ := (hB.bx b).get hc
        subst her
        obtain ⟨g, hg, rfl⟩ := hx.2 hcond.1 B hBb
        obtain ⟨q1, q2, q3, q4, q5, q6, q7⟩ := L.untags_gen w S B.c
        have hfp : (L.box g B.c.untags).fp = B.fp := by simp [L.fp, BL.fp, hg, q5]
        have hd := hB.drop (b := b) (bx' := (st.withB [(b, { st.box b with c := none })]).box) (fun x hx => by rw [box_cons_other _ _ _ hx]; rfl) (by rw [box_cons_same])
        have hother : ∀ x, x ≠ b → dropLB LB b x = LB x := fun x h => by simp [dropLB, h]
        have hfree : Free Γ w S (dropLB LB b) (L.box g B.c.untags).fp := by
          rw [hfp]
          refine ⟨hB.nd b B hBb, fun x Bq hq g' hg' => ?_, fun g' hg' => hB.fr b B hBb g' hg'⟩
          by_cases h : x = b
          · subst h; simp [dropLB] at hq
          · rw [hother x h] at hq; exact hB.dj b x B Bq (Ne.symm h) hBb hq g' hg'
        refine ⟨dropLB LB b, .box g B.c.untags, hd, by simp [L.er, q1], rfl, ⟨?_, q4 hm.2⟩, hfree, q7, ⟨fun x => ?_, fun x => ?_, fun x hx' Bq hq => ?_, fun x hx' Bq hq => ?_⟩, ?_⟩
        · obtain ⟨cur, e, h1, h2⟩ := hm.1 g hg
          exact ⟨cur, e, h1, by rw [q3]; exact h2⟩
        · by_cases h : x = b
          · subst h; rw [box_cons_same]; exact Nat.le_refl _
          · rw [box_cons_other _ _ _ h]; exact Nat.le_refl _
        · by_cases h : x = b
          · subst h; rw [box_cons_same]; exact Nat.le_refl _
          · rw [box_cons_other _ _ _ h]; exact Nat.le_refl _
        · by_cases h : x = b
          · subst h; simp [dropLB] at hq
          · rw [hother x h] at hq; exact ⟨Bq, hq, rfl⟩
        · by_cases h : x = b
          · subst h; simp [dropLB] at hq
          · rw [hother x h] at hq; exact ⟨Bq, hq, rfl, rfl⟩
        · intro w' S' lo us out hB1 hfr hSS hlm hnd hlf hhdr hle hbk
          simp only [St.back1] at hbk
          have hlo : ∃ c', out = .box c' := by
            cases out <;> simp at hbk
            exact ⟨_, rfl⟩
          obtain ⟨c', rfl⟩ := hlo
          simp only [Option.some.injEq] at hbk
          subst hbk
          have hlo : ∃ c2, lo = .box g c2 ∧ lo.clean := by
            rcases hhdr with ⟨v, rfl⟩ | ⟨g1, c1, c2, h1, rfl, h2⟩ | ⟨t, h, es, es', h1, _⟩ | ⟨cs, ds, h1, _⟩
            · simp [L.er] at hle
            · simp only [L.box.injEq] at h1; obtain ⟨rfl, -⟩ := h1; exact ⟨c2, rfl, h2⟩
            · simp at h1
            · simp at h1
          obtain ⟨c2, rfl, hcl⟩ := hlo
          simp only [L.er, X.box.injEq] at hle
          subst hle
          have hset := hB1.set (bx' := (st.withB [(b, { st.box b with ver := (st.box b).ver + 1, c := some c2.er })]).box) (b := b) (B' := ⟨some g, c2⟩) (w' := w')
            (fun x hx => by rw [box_cons_other _ _ _ hx, box_cons_other _ _ _ hx]) (by rw [box_cons_same]; exact ⟨rfl, hcond.2, ⟨fun g' hg' => by cases hg'; exact hlm.1, hlm.2⟩⟩) hnd
            (fun g' hg' => by
              obtain ⟨h1, h2, h3⟩ := hlf g' hg'
              refine ⟨fun b2 hb2 B2 hB2 hg2 => ?_, h1, h2, ?_⟩
              · rcases h3 with h3 | h3
                · exact hfree.dj b2 B2 hB2 g' h3 hg2
                · have := (hd.fr b2 B2 hB2 g' hg2).2.1; omega
              · rcases h3 with h3 | h3
                · exact (hfree.fr g' h3).2.2
                · exact .inr (Nat.le_trans hB.frame.size h3))
            (fun _ _ _ _ _ _ => rfl) (fun _ _ => rfl) (Nat.le_refl _) hB1.frame (fun i t hh es hi => absurd hi (hcl i t hh es))
            (fun hb' g' hg' => by
              have := hB.pb B (hb' ▸ hBb) g' hg'
              rw [hg] at this; exact this)
          refine ⟨_, hset, ⟨fun x => ?_, fun x => ?_, fun x hx' Bq hq => ?_, fun x hx' Bq hq => ?_⟩, fun x Bq hq => ?_⟩
          · by_cases h : x = b
            · subst h; rw [box_cons_same]; exact Nat.le_refl _
            · rw [box_cons_other _ _ _ h]; exact Nat.le_refl _
          · by_cases h : x = b
            · subst h; rw [box_cons_same]; exact Nat.le_succ _
            · rw [box_cons_other _ _ _ h]; exact Nat.le_refl _
          · by_cases h : x = b
            · subst h; rw [setLB_same] at hq; cases hq; exact ⟨B, hBb, hg⟩
            · rw [setLB_other _ _ h, hother x h] at hq; exact ⟨Bq, hq, rfl⟩
          · by_cases h : x = b
            · subst h; rw [box_cons_same] at hx'; simp at hx'
            · rw [setLB_other _ _ h, hother x h] at hq; exact ⟨Bq, hq, rfl, rfl⟩
          · by_cases h : x = b
            · subst h; rw [setLB_same] at hq; cases hq
              exact .inr fun g' hg' => .inr hg'
            · rw [setLB_other _ _ h] at hq; exact .inl ⟨Bq, hq, rfl⟩
      · simp at ho
  · have hot : st.own x = (st.take1 x).map fun y => (y.1.untags, y.2) := by
      have h1 : st.own x = (st.take x).map fun y => (y.1.untags, y.2) := by
        unfold St.own
        split
        · exact absurd ⟨_, _, rfl⟩ hpt
        · rfl
      have h2 : st.take x = st.take1 x := by cases x <;> first | rfl | simp [X.isAgg] at hag
      rw [h1, h2]
    rw [hot] at ho
    cases h1 : st.take1 x with
    | none => simp [h1] at ho
    | some z =>
      obtain ⟨z, us1⟩ := z
      simp only [h1, Option.map_some, Option.some.injEq, Prod.mk.injEq] at ho
      obtain ⟨rfl, rfl⟩ := ho
      obtain ⟨tm, bl⟩ := st
      obtain ⟨LB1, l, k1, k2, k3, k4, k5, k6, k7⟩ := take1_full (tm := tm) (bl := bl) hB h1 hx
      have hna : ∀ cs, l ≠ .agg cs := by
        rintro cs rfl
        have h1 := k3.one; have h2 := k3.flat
        subst h2; simp [L.flat, Value.oneCell'] at h1
      have hnt : ∀ cs, l ≠ .tup cs := by
        rintro cs rfl
        have h1 := k3.one; have h2 := k3.flat
        subst h2; simp [L.flat, Value.oneCell'] at h1
      have hnbx : ∀ g c, l ≠ .box g c := by
        rintro g c rfl
        exact (take1_nobox h1).1 _ k3.er.symm
      have hzu : z.untags = z.untag := by
        rw [← k3.er]
        cases l <;> first | rfl | exact absurd rfl (hna _)
      obtain ⟨q1, q2, q3, q4, q5⟩ := L.untag_gen w S l
      have hnb : l.untag.nobox := by
        cases l with
        | agg cs => exact absurd rfl (hna _)
        | tup cs => exact absurd rfl (hnt _)
        | box g c => exact absurd rfl (hnbx _ _)
        | _ => trivial
      refine ⟨LB1, l.untag, k1, by rw [q1, k3.er, hzu], by rw [q2]; exact k3.flat, q3 k3.mem, by rw [q4]; exact k4, L.clean_nobox hnb, k2, ?_⟩
      intro w' S' lo us out hB1 hfr hSS hlm hnd hlf hhdr hle hbk
      cases x with
      | sc v0 =>
        simp only [St.back1, Option.some.injEq] at hbk; subst hbk
        have : us1 = [] := take1_sc h1
        subst this
        exact keep hB1 k2
      | sl t0 es0 =>
        cases t0 with
        | zero =>
          simp only [St.back1, Option.some.injEq] at hbk; subst hbk
          simp only [St.take1, Option.some.injEq, Prod.mk.injEq] at h1
          obtain ⟨-, rfl⟩ := h1
          exact keep hB1 k2
        | succ t0 => simp [St.take1] at h1
      | view b ver p c =>
        obtain ⟨B, le, t, hh, ls, hBb, hln, hcc, hl, hLB1⟩ := k7 b ver p c rfl
        simp only [St.take1] at h1
        simp only [St.back1] at hbk
        cases hs : slAt ((St.mk tm bl).box b) ver p c with
        | none => simp [hs] at h1
        | some te =>
          obtain ⟨t1, es1⟩ := te
          simp only [hs, Option.map_some, Option.some.injEq, Prod.mk.injEq] at h1 hbk
          obtain ⟨-, rfl⟩ := h1
          have hjk : us = [(b, ((St.mk tm bl).box b).kill p c)] → ∃ LB2, SimB Γ ((St.mk tm bl).withB us).box w' LB2 S' ∧ Adv (St.mk tm bl).box ((St.mk tm bl).withB us).box LB LB2 ∧
              (∀ b B', LB2 b = some B' → (∃ B, LB1 b = some B ∧ B' = B) ∨ ∀ g ∈ B'.fp, (∃ B, LB1 b = some B ∧ g ∈ B.fp) ∨ g ∈ lo.fp) := by
            rintro rfl; exact keep hB1 k2
          split at hbk
          · rename_i es' 
            simp only [Option.some.injEq] at hbk
            obtain ⟨hv, x0, e0, hc0, hn0, he0⟩ := slAt_some hs
            obtain ⟨B', hBb', her, hreal, hm⟩ := (hB.bx b).get hc0
            rw [hBb] at hBb'; cases hBb'
            subst her
            have ht1 : t1 = t := by
              rw [L.nav_er, hln] at hn0
              simp only [Option.map_some, Option.some.injEq] at hn0; subst hn0
              rw [L.er_cells, List.getElem?_map, hcc] at he0
              simp only [Option.map_some, L.er, Option.some.injEq, X.sl.injEq, Nat.add_right_cancel_iff] at he0
              exact he0.1.symm
            subst ht1
            -- what comes back
            have hlo : ∃ es2, lo = .own 0 hh es2 ∧ L.sks es2 = L.sks ls := by
              rcases hhdr with ⟨v, rfl⟩ | ⟨g1, c1, c2, h1, rfl, h2⟩ | ⟨t2, h2, es2, es3, h1, rfl, h3⟩ | ⟨cs, ds, h1, rfl, -⟩
              · simp [L.er] at hle
              · simp [L.er] at hle
              · rw [hl] at h1
                have h4 : (L.own (bif p.isEmpty then t1 else 0) hh ls).untag = .own 0 hh ls := rfl
                rw [h4] at h1
                simp only [L.own.injEq] at h1
                obtain ⟨-, rfl, rfl⟩ := h1
                rw [hl] at h3
                simp only [h4, L.sk, Sk.own.injEq, true_and] at h3
                exact ⟨es3, rfl, h3⟩
              · simp [L.er] at hle
            obtain ⟨es2, rfl, hsk⟩ := hlo
            have hes : X.sl 1 es' = .sl 1 (L.ers es2) := by rw [← hle]; rfl
            simp only [X.sl.injEq, true_and] at hes
            subst hes
            have hlen : es2.length = ls.length := by
              have := congrArg List.length hsk
              simpa [L.sks_eq] using this
            let vj : Value := (L.own t1 hh ls).flat
            let lo' : L := .own t1 hh es2
            have hflat : lo'.flat = vj := by
              simp only [lo', vj, L.own_flat, hlen]
            have hlom : lo'.mem w' S' := by cases hh with | none => exact hlm | some gc => obtain ⟨g, cap⟩ := gc; exact hlm
            have hlof : lo'.fp = (L.own 0 hh es2).fp := by cases hh with | none => rfl | some gc => obtain ⟨g, cap⟩ := gc; rfl
            have hlaf : l.untag.fp = (L.own t1 hh ls).fp := by rw [hl]; cases hh with | none => rfl | some gc => obtain ⟨g, cap⟩ := gc; rfl
            have hlm0 := L.nav_mem p B.c hm.2 hln
            have hndB := hB.nd b B hBb
            let ej : L := le.put c (.junk vj)
            let B0 : BL := ⟨B.blk, B.c.upd false p fun _ => ej⟩
            let B2 : BL := ⟨B.blk, B.c.upd false p fun _ => le.put c lo'⟩
            obtain ⟨A1, C1, hf1, hf2⟩ := L.put_fp' hcc
            obtain ⟨A2, C2, hf3, hf4⟩ := L.upd_fp' false p hln
            let A := B.blk.toList ++ A2 ++ A1
            let C := C1 ++ C2
            have hBfp : B.fp = A ++ l.untag.fp ++ C := by rw [hlaf]; simp only [BL.fp, hf3, hf1, A, C, List.append_assoc]
            have hB0fp : B0.fp = A ++ C := by simp only [B0, BL.fp, hf4, ej, hf2, L.fp, A, C, List.append_nil, List.append_assoc]
            have hB2fp : B2.fp = A ++ lo'.fp ++ C := by simp only [B2, BL.fp, hf4, hf2, A, C, List.append_assoc]
            have hnd1 := hndB
            rw [hBfp] at hnd1
            have hACnd : (A ++ C).Nodup := List.nodup_append.2 ⟨(List.nodup_append.1 (List.nodup_append.1 hnd1).1).1, (List.nodup_append.1 hnd1).2.1, fun x hx y hy => (List.nodup_append.1 hnd1).2.2 x (List.mem_append.2 (.inl hx)) y hy⟩
            have hAC : ∀ g ∈ A ++ C, g ∈ B.fp ∧ g ∉ l.untag.fp := by
              intro g hg
              rw [hBfp]
              rcases List.mem_append.1 hg with hg | hg
              · exact ⟨by simp [hg], fun hm => (List.nodup_append.1 (List.nodup_append.1 hnd1).1).2.2 g hg g hm rfl⟩
              · exact ⟨by simp [hg], fun hm => (List.nodup_append.1 hnd1).2.2 g (List.mem_append.2 (.inr hm)) g hg rfl⟩
            have hloAC : ∀ g ∈ lo'.fp, g ∉ A ++ C := by
              intro g hg hm
              rw [hlof] at hg
              rcases (hlf g hg).2.2 with h | h
              · exact (hAC g hm).2 h
              · have := (hB.fr b B hBb g (hAC g hm).1).2.1; omega
            have hB2nd : B2.fp.Nodup := by
              rw [hB2fp]
              have hlnd : lo'.fp.Nodup := by rw [hlof]; exact hnd
              refine List.nodup_append.2 ⟨List.nodup_append.2 ⟨(List.nodup_append.1 hACnd).1, hlnd, fun x hx y hy he => ?_⟩, (List.nodup_append.1 hACnd).2.1, fun x hx y hy he => ?_⟩
              · subst he; exact hloAC x hy (by simp [hx])
              · subst he
                rcases List.mem_append.1 hx with hx | hx
                · exact (List.nodup_append.1 hACnd).2.2 x hx x hy rfl
                · exact hloAC x hx (by simp [hy])
            have hq0 : B0.mem w S := BL.quiet (B := B) false (t' := ej) hm hndB hln (L.put_cflat (x := .junk vj) hcc rfl rfl).1 (L.put_cflat (x := .junk vj) hcc rfl rfl).2
              (L.put_mem (fun _ h => h) (fun _ _ => rfl) hlm0 hcc trivial rfl (fun _ _ _ _ _ => rfl))
            have hSb : ∀ g, S g → w'.heap[g]? = w.heap[g]? := fun g hg => hfr.block g (hB.Sw g hg) (fun hm => by rw [q4] at hm; exact (k4.fr g hm).1 hg)
            have hq1 : B0.mem w' S' := BL.mem_frame hSS hSb hq0 (fun g hg => by
              rw [hB0fp] at hg
              exact hfr.block g (hB.fr b B hBb g (hAC g hg).1).2.1 (hAC g hg).2)
            have hnav0 : B0.c.nav p = some ej := L.nav_upd false ej p hln
            have hejc : ej.cells[c]? = some (.junk vj) := L.put_get hcc rfl
            have hej2 : ej.put c lo' = le.put c lo' := L.put_put (by simp)
            have hejm := L.nav_mem p B0.c hq1.2 hnav0
            have hq2 := BL.quiet (B := B0) false (t' := ej.put c lo') hq1 (by rw [hB0fp]; exact hACnd) hnav0 (L.put_cflat (x := lo') hejc hflat rfl).1 (L.put_cflat (x := lo') hejc hflat rfl).2
              (L.put_mem (fun _ h => h) (fun _ _ => rfl) hejm hejc hlom rfl (fun _ _ _ _ _ => rfl))
            rw [hej2] at hq2
            have hB2m : B2.mem w' S' := by
              have : (BL.mk B0.blk (B0.c.upd false p fun _ => le.put c lo')) = B2 := by
                simp only [B0, B2]; rw [L.upd_upd _ _ p hln]
              rw [← this]; exact hq2
            have hsk2 : B2.c.sk = B.c.sk := L.upd_sk false p _ hln (L.put_sk hcc (by simp [lo', L.sk, hsk]))
            have hLBo : ∀ x, x ≠ b → LB1 x = LB x := fun x h => by rw [hLB1, setLB_other _ _ h]
            have hsplit : ∀ g ∈ B2.fp, g ∈ A ++ C ∨ g ∈ lo'.fp := by
              intro g hg
              rw [hB2fp] at hg
              rcases List.mem_append.1 hg with hg | hg
              · rcases List.mem_append.1 hg with hg | hg
                · exact .inl (by simp [hg])
                · exact .inr hg
              · exact .inl (by simp [hg])
            have hinB : ∀ g ∈ A ++ C, ∃ B1, LB1 b = some B1 ∧ g ∈ B1.fp := by
              intro g hg
              refine ⟨_, by rw [hLB1, setLB_same], ?_⟩
              obtain ⟨A3, C3, hf5, hf6⟩ := L.upd_fp' true p hln
              have hh1 : B.blk.toList ++ (A3 ++ (A1 ++ (L.own t1 hh ls).fp ++ C1) ++ C3) = A ++ l.untag.fp ++ C := by
                rw [← hBfp, BL.fp, hf5, hf1]
              have hgB : g ∈ B.blk.toList ++ (A3 ++ (A1 ++ (L.own t1 hh ls).fp ++ C1) ++ C3) := by rw [hh1, ← hBfp]; exact (hAC g hg).1
              have hgn : g ∉ (L.own t1 hh ls).fp := by rw [← hlaf]; exact (hAC g hg).2
              simp only [BL.fp, hf6, hf2, L.fp, List.append_nil]
              simp only [List.mem_append] at hgB ⊢
              rcases hgB with h | ((h | ((h | h) | h)) | h)
              · exact .inl h
              · exact .inr (.inl (.inl h))
              · exact .inr (.inl (.inr (.inl h)))
              · exact absurd h hgn
              · exact .inr (.inl (.inr (.inr h)))
              · exact .inr (.inr h)
            subst hbk
            have hset := hB1.set (bx' := ((St.mk tm bl).withB [(b, { (St.mk tm bl).box b with c := ((St.mk tm bl).box b).c.map fun y => y.upd false p (·.put c (.sl (t1 + 1) (L.ers es2))) })]).box) (b := b) (B' := B2) (w' := w')
              (fun x hx => by rw [box_cons_other _ _ _ hx, box_cons_other _ _ _ hx])
              (by
                rw [box_cons_same]
                unfold BxRel
                rw [hc0]
                simp only [Option.map_some]
                refine ⟨?_, hreal, hB2m⟩
                rw [← L.upd_er false (fun e => e.put c lo') (fun e => e.put c (.sl (t1 + 1) (L.ers es2))) (fun e => L.put_er e c _)]
                rw [L.upd_const false _ p hln])
              hB2nd (fun g hg => by
                rcases hsplit g hg with hg | hg
                · obtain ⟨B1, hLBb, hin⟩ := hinB g hg
                  have h2 := hB1.fr b _ hLBb g hin
                  exact ⟨fun b2 h3 B2' hB2' => hB1.dj b b2 _ B2' (Ne.symm h3) hLBb hB2' g hin, h2⟩
                · rw [hlof] at hg
                  obtain ⟨h1, h2, h3⟩ := hlf g hg
                  refine ⟨fun b2 hb2 B2' hB2' hg2 => ?_, h1, h2, ?_⟩
                  · rcases h3 with h3 | h3
                    · rw [q4] at h3; exact k4.dj b2 B2' hB2' g h3 hg2
                    · have := (k1.fr b2 B2' hB2' g hg2).2.1; omega
                  · rcases h3 with h3 | h3
                    · rw [q4] at h3; exact (k4.fr g h3).2.2
                    · exact .inr (Nat.le_trans hB.frame.size h3))
              (fun _ _ _ _ _ _ => rfl) (fun _ _ => rfl) (Nat.le_refl _) hB1.frame
              (fun i t hh' es hi => by
                rcases L.upd_tag false hln (fun _ => L.put_sk hcc (by simp [lo', L.sk, hsk])) hi with h | ⟨es0, h, rest⟩
                · obtain ⟨hp, h2⟩ := h
                  have hle0 : B.c = le := by rw [hp] at hln; simpa [L.nav] using hln
                  rcases L.put_tag (x := lo') rfl h2 with h1 | h1
                  · obtain ⟨h1, -⟩ := h1
                    simp only [lo', L.own.injEq] at h1
                    obtain ⟨rfl, rfl, rfl⟩ := h1
                    rw [hB.tag b B hBb c t hh ls (by rw [hle0]; exact hcc)]
                    simp [L.sk, hsk]
                  · exact hB.tag b B hBb i t hh' es (by rw [hle0]; exact h1)
                · rw [hB.tag b B hBb i t hh' _ h, rest])
              (fun hb' q hq => hB.pb B (hb' ▸ hBb) q hq)
            refine ⟨_, hset, ⟨fun x => ?_, fun x => ?_, fun x hx' Bq hq => ?_, fun x hx' Bq hq => ?_⟩, fun x Bq hq => ?_⟩
            · by_cases h : x = b
              · subst h; rw [box_cons_same]; exact Nat.le_refl _
              · rw [box_cons_other _ _ _ h]; exact Nat.le_refl _
            · by_cases h : x = b
              · subst h; rw [box_cons_same]; exact Nat.le_refl _
              · rw [box_cons_other _ _ _ h]; exact Nat.le_refl _
            · by_cases h : x = b
              · subst h; rw [setLB_same] at hq; cases hq; exact ⟨B, hBb, rfl⟩
              · rw [setLB_other _ _ h, hLBo x h] at hq; exact ⟨Bq, hq, rfl⟩
            · by_cases h : x = b
              · subst h; rw [setLB_same] at hq; cases hq; exact ⟨B, hBb, rfl, hsk2.symm⟩
              · rw [setLB_other _ _ h, hLBo x h] at hq; exact ⟨Bq, hq, rfl, rfl⟩
            · by_cases h : x = b
              · subst h; rw [setLB_same] at hq; cases hq
                refine .inr fun g hg => ?_
                rcases hsplit g hg with hg | hg
                · exact .inl (hinB g hg)
                · rw [hlof] at hg; exact .inr hg
              · rw [setLB_other _ _ h] at hq; exact .inl ⟨Bq, hq, rfl⟩
          · simp only [Option.some.injEq] at hbk
            exact hjk hbk.symm
          · simp at hbk
      | ptr b bn off => simp [St.take1] at h1
      | ep b ver p off => simp [St.take1] at h1
      | rp e off => simp [St.take1] at h1
      | opq => simp [St.back1] at hbk
      | junk => simp [St.take1] at h1
      | box c => simp [St.take1] at h1
      | agg cs => simp [X.isAgg] at hag
      | tup cs => simp [St.take1] at h1


def OutHdr1 (c d : L) : Prop := (∃ t h es es', c = .own t h es ∧ d = .own 0 h es' ∧ d.sk = c.sk) ∨ ((∀ t h es, c ≠ .own t h es) ∧ ∃ v, d = .junk v)
theorem sks_len {a b : List L} (h : L.sks a = L.sks b) : a.length = b.length := by
  have := congrArg List.length h
  simpa [L.sks_eq] using this
theorem own_flat {t t' : Nat} {h : Option (Nat × Nat)} {a b : List L} (hl : a.length = b.length) : (L.own t h a).flat = (L.own t' h b).flat := by
  cases h with
  | none => rfl
  | some gc => obtain ⟨g, c⟩ := gc; simp [L.flat, hl]
theorem own_fp (t t' : Nat) (h : Option (Nat × Nat)) (a : List L) : (L.own t h a).fp = (L.own t' h a).fp := by
  cases h with
  | none => rfl
  | some gc => rfl
theorem own_mem {w : World} {S : Nat → Prop} (t t' : Nat) (h : Option (Nat × Nat)) (a : List L) (hm : (L.own t h a).mem w S) : (L.own t' h a).mem w S := by
  cases h with
  | none => exact hm
  | some gc => exact hm
/-- One cell that is lent. -/
theorem lend1_L {bx : Nat → Bx} {b v i : Nat} {x : X} {ly : L} {a : X × X} {u : Value} (h : lend1 b v i x ly.er = some a) (hx : TRel bx LB w S x u) (hm : ly.mem w S)
    (hvw : TRel bx LB w S (.view b v [] i) u → ∀ t hh es, ly = .own t hh es → u = ly.flat) :
    ∃ la ly' : L, la.er = a.1 ∧ la.flat = u ∧ la.mem w S ∧ la.nobox ∧ ly'.er = a.2 ∧ ly'.flat = ly.flat ∧ ly'.mem w S ∧ ly.fp.Perm (la.fp ++ ly'.fp) ∧ (∀ t hh es, ly' = .own (t + 1) hh es → ly = ly') ∧
      ∀ (lo : L) (w' : World) (S' : Nat → Prop) (y2 : X), OutHdr1 la lo → lo.mem w' S' → ly'.mem w' S' → fill1 x lo.er ly.er = some y2 →
        ∃ l2 : L, l2.er = y2 ∧ l2.flat = ly.flat ∧ l2.mem w' S' ∧ l2.fp.Perm (lo.fp ++ ly'.fp) ∧ (∀ t hh es, l2 = .own (t + 1) hh es → ∃ es0, ly = .own (t + 1) hh es0 ∧ l2.sk = ly.sk) := by
  have same : ∀ (la : L), (∀ t hh es, la ≠ .own t hh es) → a = (la.er, ly.er) → la.flat = u → la.mem w S → la.nobox → la.fp = [] → (∀ o y, fill1 x o y = some y) →
      ∃ la ly' : L, la.er = a.1 ∧ la.flat = u ∧ la.mem w S ∧ la.nobox ∧ ly'.er = a.2 ∧ ly'.flat = ly.flat ∧ ly'.mem w S ∧ ly.fp.Perm (la.fp ++ ly'.fp) ∧ (∀ t hh es, ly' = .own (t + 1) hh es → ly = ly') ∧
      ∀ (lo : L) (w' : World) (S' : Nat → Prop) (y2 : X), OutHdr1 la lo → lo.mem w' S' → ly'.mem w' S' → fill1 x lo.er ly.er = some y2 →
        ∃ l2 : L, l2.er = y2 ∧ l2.flat = ly.flat ∧ l2.mem w' S' ∧ l2.fp.Perm (lo.fp ++ ly'.fp) ∧ (∀ t hh es, l2 = .own (t + 1) hh es → ∃ es0, ly = .own (t + 1) hh es0 ∧ l2.sk = ly.sk) := by
    intro la hno ha hf hlm hnb hfp hfill
    subst ha
    refine ⟨la, ly, rfl, hf, hlm, hnb, rfl, rfl, hm, by rw [hfp]; exact List.Perm.refl _, fun _ _ _ _ => rfl, fun lo w' S' y2 ho hlo hly hfi => ?_⟩
    rw [hfill] at hfi
    cases hfi
    have hlofp : lo.fp = [] := by
      rcases ho with ⟨t, hh, es, es', h1, -⟩ | ⟨-, v, rfl⟩
      · exact absurd h1 (hno _ _ _)
      · rfl
    exact ⟨ly, rfl, rfl, hly, by rw [hlofp]; exact List.Perm.refl _, fun t hh es he => ⟨es, he, rfl⟩⟩
  unfold lend1 at h
  cases x with
  | view b2 v2 p c =>
    simp only at h
    split at h
    · rename_i t es hes
      split at h
      · rename_i hc
        obtain ⟨rfl, rfl, rfl, hp⟩ := hc
        have hp : p = [] := by simpa using hp
        subst hp
        cases h
        obtain ⟨hh, ls, rfl, hls⟩ := L.er_own_iff hes
        have hu := hvw hx t hh ls rfl
        refine ⟨.own 0 hh ls, .junk (L.own t hh ls).flat, by simp only [L.er, L.ers_eq, hls], by rw [hu]; exact own_flat rfl, own_mem _ _ _ _ hm, trivial, rfl, rfl, trivial, ?_, fun _ _ _ h => by simp at h, fun lo w' S' y2 ho hlo hly hfi => ?_⟩
        · rw [own_fp 0 t]; simp [L.fp]
        · rcases ho with ⟨t', hh', es1, es2, h1, rfl, hsk⟩ | ⟨hno, -⟩
          · simp only [L.own.injEq] at h1
            obtain ⟨rfl, rfl, rfl⟩ := h1
            simp only [fill1, L.er, Option.some.injEq] at hfi
            subst hfi
            have hs : L.sks es2 = L.sks ls := by simpa [L.sk] using hsk
            refine ⟨.own t hh es2, rfl, own_flat (sks_len hs), own_mem _ _ _ _ hlo, ?_, fun t2 hh2 es3 h3 => ?_⟩
            · rw [own_fp t 0]; simp [L.fp]
            · simp only [L.own.injEq] at h3
              obtain ⟨rfl, rfl, rfl⟩ := h3
              exact ⟨ls, rfl, by simp [L.sk, hs]⟩
          · exact absurd rfl (hno _ _ _)
      · simp at h
    · simp at h
  | sc u0 =>
    simp only [Option.some.injEq] at h
    obtain ⟨rfl, ho⟩ := hx
    exact same (.sc u) (by simp) h.symm rfl ho trivial rfl (fun _ _ => rfl)
  | opq =>
    simp only [Option.some.injEq] at h
    exact same (.opq u) (by simp) h.symm rfl hx trivial rfl (fun _ _ => rfl)
  | sl t es =>
    cases t with
    | zero =>
      simp only [Option.some.injEq] at h
      exact same (.ro u es) (by simp) h.symm rfl hx trivial rfl (fun _ _ => rfl)
    | succ t => simp at h
  | _ => simp at h

/-- The cells of a struct that are lent. -/
theorem lendA_L {bx : Nat → Bx} {b v : Nat} : ∀ (xs : List X) (i : Nat) (rest : List L) (vs : List Value) (l : List X × List X), lendA b v i xs (L.ers rest) = some l → TRels bx LB w S xs vs → L.mems w S rest →
    (∀ (j : Nat) (u : Value), TRel bx LB w S (.view b v [] (i + j)) u → ∀ t hh es, rest[j]? = some (.own t hh es) → u = (L.own t hh es).flat) →
    ∃ la rest' : List L, L.ers la = l.1 ∧ L.flats la = vs ∧ L.mems w S la ∧ L.noboxes la ∧ L.ers rest' = l.2 ∧ L.flats rest' = L.flats rest ∧ L.mems w S rest' ∧ (L.fps rest).Perm (L.fps la ++ L.fps rest') ∧
      (∀ (j t : Nat) (hh : Option (Nat × Nat)) (es : List L), rest'[j]? = some (.own (t + 1) hh es) → rest[j]? = some (.own (t + 1) hh es)) ∧
      ∀ (los : List L) (w' : World) (S' : Nat → Prop) (C2 : List X), OutHdrs la los → L.mems w' S' los → L.mems w' S' rest' → fillA xs (L.ers los) (L.ers rest) = some C2 →
        ∃ rest2 : List L, L.ers rest2 = C2 ∧ L.flats rest2 = L.flats rest ∧ L.mems w' S' rest2 ∧ (L.fps rest2).Perm (L.fps los ++ L.fps rest') ∧
          (∀ (j t : Nat) (hh : Option (Nat × Nat)) (es : List L), rest2[j]? = some (.own (t + 1) hh es) → ∃ es0, rest[j]? = some (.own (t + 1) hh es0) ∧ (L.own (t + 1) hh es).sk = (L.own (t + 1) hh es0).sk)
  | [], i, rest, vs, l, h, hx, hm, hv => by
    simp only [lendA, Option.some.injEq] at h
    subst h
    have hvs : vs = [] := by cases vs with | nil => rfl | cons a b => exact hx.elim
    subst hvs
    refine ⟨[], rest, rfl, rfl, trivial, trivial, rfl, rfl, hm, by simp [L.fps], fun _ _ _ _ h => h, fun los w' S' C2 ho hlo hre hf => ?_⟩
    cases los with
    | nil =>
      simp only [L.ers, fillA, Option.some.injEq] at hf
      subst hf
      exact ⟨rest, rfl, rfl, hre, by simp [L.fps], fun j t hh es h => ⟨es, h, rfl⟩⟩
    | cons a b => exact ho.elim
  | x :: xs, i, [], vs, l, h, hx, hm, hv => by simp [L.ers, lendA] at h
  | x :: xs, i, ly :: rest, vs, l, h, hx, hm, hv => by
    cases vs with
    | nil => exact hx.elim
    | cons u vs =>
      simp only [L.ers, lendA] at h
      cases h1 : lend1 b v i x ly.er with
      | none => simp [h1] at h
      | some a =>
        simp only [h1, Option.bind_some] at h
        cases h2 : lendA b v (i + 1) xs (L.ers rest) with
        | none => simp [h2] at h
        | some l2 =>
          simp only [h2, Option.map_some, Option.some.injEq] at h
          subst h
          obtain ⟨la, ly', q1, q2, q3, q4, q5, q6, q7, q8, q9, q10⟩ := lend1_L h1 hx.1 hm.1 (fun hT t hh es he => by rw [he]; exact hv 0 u (by simpa using hT) t hh es (by simp [he]))
          obtain ⟨las, rest', p1, p2, p3, p4, p5, p6, p7, p8, p9, p10⟩ := lendA_L xs (i + 1) rest vs l2 h2 hx.2 hm.2 (fun j u' hT t hh es he => hv (j + 1) u' (by rw [show i + (j + 1) = i + 1 + j by omega]; exact hT) t hh es (by simpa using he))
          refine ⟨la :: las, ly' :: rest', by simp [L.ers, q1, p1], by simp [L.flats, q2, p2], ⟨q3, p3⟩, ⟨q4, p4⟩, by simp [L.ers, q5, p5], by simp [L.flats, q6, p6], ⟨q7, p7⟩, ?_, fun j t hh es he => ?_, fun los w' S' C2 ho hlo hre hf => ?_⟩
          · simp only [L.fps]
            refine (List.Perm.append q8 p8).trans ?_
            rw [List.append_assoc, List.append_assoc]
            refine List.Perm.append_left _ ?_
            rw [← List.append_assoc, ← List.append_assoc]
            exact List.Perm.append_right _ List.perm_append_comm
          · cases j with
            | zero =>
              simp only [List.getElem?_cons_zero, Option.some.injEq] at he ⊢
              rw [q9 t hh es he]; exact he
            | succ j => exact p9 j t hh es (by simpa using he)
          · cases los with
            | nil => exact ho.elim
            | cons lo los =>
              simp only [L.ers, fillA] at hf
              cases f1 : fill1 x lo.er ly.er with
              | none => simp [f1] at hf
              | some y2 =>
                simp only [f1, Option.bind_some] at hf
                cases f2 : fillA xs (L.ers los) (L.ers rest) with
                | none => simp [f2] at hf
                | some C3 =>
                  simp only [f2, Option.map_some, Option.some.injEq] at hf
                  subst hf
                  obtain ⟨l2', r1, r2, r3, r4, r5⟩ := q10 lo w' S' y2 ho.1 hlo.1 hre.1 f1
                  obtain ⟨rest2, s1, s2, s3, s4, s5⟩ := p10 los w' S' C3 ho.2 hlo.2 hre.2 f2
                  refine ⟨l2' :: rest2, by simp [L.ers, r1, s1], by simp [L.flats, r2, s2], ⟨r3, s3⟩, ?_, fun j t hh es he => ?_⟩
                  · simp only [L.fps]
                    refine (List.Perm.append r4 s4).trans ?_
                    rw [List.append_assoc, List.append_assoc]
                    refine List.Perm.append_left _ ?_
                    rw [← List.append_assoc, ← List.append_assoc]
                    exact List.Perm.append_right _ List.perm_append_comm
                  · cases j with
                    | zero =>
                      simp only [List.getElem?_cons_zero, Option.some.injEq] at he ⊢
                      obtain ⟨es0, h3, h4⟩ := r5 t hh es he
                      refine ⟨es0, h3, ?_⟩
                      rw [← he, ← h3]; exact h4
                    | succ j => exact s5 j t hh es (by simpa using he)

/-- A struct's own slices are moved out together; what comes back is put where it was. -/
theorem own_backA (hB : SimB Γ st.box w LB S) {xs : List X} {y : X} {v : Value} {us1 : List (Nat × Bx)} (ho : st.ownA xs = some (y, us1)) (hx : TRel st.box LB w S (.agg xs) v) :
    ∃ (LB1 : Nat → Option BL) (la : L), SimB Γ (st.withB us1).box w LB1 S ∧ la.er = y ∧ la.flat = v ∧ la.mem w S ∧ Free Γ w S LB1 la.fp ∧ la.clean ∧ Adv st.box (st.withB us1).box LB LB1 ∧
      ∀ (w' : World) (S' : Nat → Prop) (lo : L) (us : List (Nat × Bx)) (out : X), SimB Γ (st.withB us1).box w' LB1 S' → Fr la.fp w w' → (∀ g, S g → S' g) → lo.mem w' S' → lo.fp.Nodup →
        (∀ g ∈ lo.fp, ¬ S' g ∧ g < w'.heap.size ∧ (g ∈ la.fp ∨ w.heap.size ≤ g)) → OutHdr la lo → lo.er = out → st.backA xs out = some us →
        ∃ LB2, SimB Γ (st.withB us).box w' LB2 S' ∧ Adv st.box (st.withB us).box LB LB2 ∧
          (∀ b B', LB2 b = some B' → (∃ B, LB1 b = some B ∧ B' = B) ∨ ∀ g ∈ B'.fp, (∃ B, LB1 b = some B ∧ g ∈ B.fp) ∨ g ∈ lo.fp) := by
  unfold St.ownA at ho
  cases hvo : viewOf 0 xs with
  | none => simp [hvo] at ho
  | some bvo =>
    obtain ⟨b, ver, off⟩ := bvo
    simp only [hvo] at ho
    cases hc : (st.box b).c with
    | none => simp [hc] at ho
    | some c0 =>
      cases c0 with
      | agg C =>
        simp only [hc] at ho
        split at ho
        · rename_i hver
          cases hl : lendA b ver off xs (C.drop off) with
          | none => simp [hl] at ho
          | some l =>
            simp only [hl, Option.map_some, Option.some.injEq, Prod.mk.injEq] at ho
            obtain ⟨rfl, rfl⟩ := ho
            obtain ⟨B, hBb, her, hreal, hm⟩ := (hB.bx b).get hc
            obtain ⟨blk, Bc⟩ := B
            simp only at her hreal hm
            cases Bc <;> simp [L.er] at her
            rename_i Cl
            subst her
            obtain ⟨us, rfl, hus⟩ := hx
            have hdrop : (L.ers Cl).drop off = L.ers (Cl.drop off) := by rw [L.ers_eq, L.ers_eq, List.map_drop]
            have htake : (L.ers Cl).take off = L.ers (Cl.take off) := by rw [L.ers_eq, L.ers_eq, List.map_take]
            rw [hdrop] at hl
            have hmall : L.mems w S Cl := hm.2
            have hmr : L.mems w S (Cl.drop off) := (L.mems_iff _).2 fun z hz => (L.mems_iff _).1 hmall z (List.mem_of_mem_drop hz)
            have hmt : L.mems w S (Cl.take off) := (L.mems_iff _).2 fun z hz => (L.mems_iff _).1 hmall z (List.mem_of_mem_take hz)
            obtain ⟨la, rest', q1, q2, q3, q4, q5, q6, q7, q8, q9, q10⟩ := lendA_L (bx := st.box) (LB := LB) xs off (Cl.drop off) us.toList l hl hus hmr (fun j u hT t hh es he => by
              have h1 := hT.2 hver ⟨blk, .agg Cl⟩ hBb
              rw [List.getElem?_drop] at he
              simp only [Sk.hdr, Sk.nav, L.sk, L.sks_eq, Sk.cells, List.getElem?_map, he, Option.map_some, List.length_map, Option.some.injEq] at h1
              rw [← h1]
              cases hh with
              | none => rfl
              | some gc => rfl)
            have hcat : ∀ (r : List L), L.flats r = L.flats (Cl.drop off) → L.flats (Cl.take off ++ r) = L.flats Cl := fun r hr => by
              rw [L.flats_eq, List.map_append, ← L.flats_eq, ← L.flats_eq, hr, L.flats_eq, L.flats_eq, ← List.map_append, List.take_append_drop, L.flats_eq]
            have hfpC : L.fps Cl = L.fps (Cl.take off) ++ L.fps (Cl.drop off) := by
              rw [L.fps_eq, L.fps_eq, L.fps_eq, ← List.flatMap_append, List.take_append_drop]
            have happ : ∀ a r : List L, L.fps (a ++ r) = L.fps a ++ L.fps r := fun a r => by rw [L.fps_eq, L.fps_eq, L.fps_eq, List.flatMap_append]
            have hers : ∀ a r : List L, L.ers (a ++ r) = L.ers a ++ L.ers r := fun a r => by rw [L.ers_eq, L.ers_eq, L.ers_eq, List.map_append]
            have hmemA : ∀ {w : World} {S : Nat → Prop} {a r : List L}, L.mems w S a → L.mems w S r → L.mems w S (a ++ r) := fun h1 h2 => (L.mems_iff _).2 fun z hz => by
              rcases List.mem_append.1 hz with hz | hz
              · exact (L.mems_iff _).1 h1 z hz
              · exact (L.mems_iff _).1 h2 z hz
            have hperm : (BL.mk blk (.agg Cl)).fp.Perm (L.fps la ++ (BL.mk blk (.agg (Cl.take off ++ rest'))).fp) := by
              simp only [BL.fp, L.fp, hfpC, happ]
              refine (List.Perm.append_left _ (List.Perm.append_left _ q8)).trans ?_
              rw [← List.append_assoc, ← List.append_assoc, ← List.append_assoc, ← List.append_assoc]
              refine List.Perm.append_right _ ?_
              rw [List.append_assoc (L.fps la)]
              exact List.perm_append_comm
            have hndB := hB.nd b _ hBb
            have hnd2 := List.nodup_append.1 ((hperm.nodup_iff).1 hndB)
            have hsub1 : ∀ g ∈ (BL.mk blk (.agg (Cl.take off ++ rest'))).fp, g ∈ (BL.mk blk (.agg Cl)).fp := fun g hg => (hperm.mem_iff).2 (List.mem_append_right _ hg)
            have hsubl : ∀ g ∈ L.fps la, g ∈ (BL.mk blk (.agg Cl)).fp := fun g hg => (hperm.mem_iff).2 (List.mem_append_left _ hg)
            have htag0 := hB.tag b _ hBb
            let us1 : List (Nat × Bx) := [(b, { st.box b with ver := (st.box b).ver + 1, c := some (.agg ((L.ers Cl).take off ++ l.2)) })]
            have hb1 : (st.withB us1).box b = { st.box b with ver := (st.box b).ver + 1, c := some (.agg ((L.ers Cl).take off ++ l.2)) } := box_cons_same _ _ _ _
            have ho1 : ∀ x, x ≠ b → (st.withB us1).box x = st.box x := fun x hx => by rw [box_cons_other _ _ _ hx]; rfl
            have hset := hB.set (bx' := (st.withB us1).box) (b := b) (B' := ⟨blk, .agg (Cl.take off ++ rest')⟩) (w' := w) ho1
              (by
                rw [hb1]
                refine ⟨by simp only [L.er, hers, htake, q5], hreal, fun g hg => ?_, hmemA hmt q7⟩
                obtain ⟨cur, e, h1, h2⟩ := hm.1 g hg
                refine ⟨cur, e, h1, h2.trans ?_⟩
                show L.flats Cl = L.flats (Cl.take off ++ rest')
                rw [hcat _ q6])
              hnd2.2.1 (fun g hg => ⟨fun b2 hb2 B2 hB2 hg2 => hB.dj b b2 _ B2 (Ne.symm hb2) hBb hB2 g (hsub1 g hg) hg2, hB.fr b _ hBb g (hsub1 g hg)⟩)
              (fun _ _ _ _ _ _ => rfl) (fun _ _ => rfl) (Nat.le_refl _) hB.frame
              (fun j t hh es he => by
                simp only [L.cells] at he
                refine htag0 j t hh es ?_
                simp only [L.cells]
                by_cases hj : j < (Cl.take off).length
                · rw [List.getElem?_append_left hj] at he
                  rw [← List.take_append_drop off Cl, List.getElem?_append_left hj]; exact he
                · rw [List.getElem?_append_right (by omega)] at he
                  rw [← List.take_append_drop off Cl, List.getElem?_append_right (by omega)]
                  exact q9 _ t hh es he)
              (fun hbp g hg => hB.pb ⟨blk, .agg Cl⟩ (hbp ▸ hBb) g hg)
            have hfree : Free Γ w S (setLB LB b ⟨blk, .agg (Cl.take off ++ rest')⟩) (L.agg la).fp := by
              refine ⟨hnd2.1, fun b2 B2 hB2 g hg hg2 => ?_, fun g hg => hB.fr b _ hBb g (hsubl g hg)⟩
              by_cases hbb : b2 = b
              · subst hbb; rw [setLB_same] at hB2; cases hB2
                exact hnd2.2.2 g hg g hg2 rfl
              · rw [setLB_other _ _ hbb] at hB2
                exact hB.dj b b2 _ B2 (Ne.symm hbb) hBb hB2 g (hsubl g hg) hg2
            refine ⟨_, .agg la, hset, by simp only [L.er, q1], by simp only [L.flat, q2], q3, hfree, L.clean_nobox (l := .agg la) q4, ⟨fun x => ?_, fun x => ?_, fun x hx' Bq hq => ?_, fun x hx' Bq hq => ?_⟩, ?_⟩
            · by_cases h : x = b
              · subst h; rw [hb1]; exact Nat.le_refl _
              · rw [ho1 x h]; exact Nat.le_refl _
            · by_cases h : x = b
              · subst h; rw [hb1]; exact Nat.le_succ _
              · rw [ho1 x h]; exact Nat.le_refl _
            · by_cases h : x = b
              · subst h; rw [setLB_same] at hq; cases hq; exact ⟨⟨blk, .agg Cl⟩, hBb, rfl⟩
              · rw [setLB_other _ _ h] at hq; exact ⟨Bq, hq, rfl⟩
            · by_cases h : x = b
              · subst h; rw [hb1] at hx'; simp at hx'
              · rw [setLB_other _ _ h] at hq; exact ⟨Bq, hq, rfl, rfl⟩
            · intro w' S' lo us2 out hB1 hfr hSS hlm hnd hlf hhdr hle hbk
              unfold St.backA at hbk
              simp only [hvo, hc] at hbk
              cases out with
              | agg os =>
                simp only at hbk
                cases hfi : fillA xs os ((L.ers Cl).drop off) with
                | none => simp [hfi] at hbk
                | some C' =>
                  simp only [hfi, Option.map_some, Option.some.injEq] at hbk
                  subst hbk
                  have hlo : ∃ los, lo = .agg los ∧ OutHdrs la los := by
                    rcases hhdr with ⟨v, rfl⟩ | ⟨g1, c1, c2, h1, rfl, h2⟩ | ⟨t, h, es, es', h1, rfl, _⟩ | ⟨cs, ds, h1, rfl, h2⟩
                    · simp [L.er] at hle
                    · simp [L.er] at hle
                    · simp [L.er] at hle
                    · cases h1; exact ⟨ds, rfl, h2⟩
                  obtain ⟨los, rfl, hoh⟩ := hlo
                  simp only [L.er, X.agg.injEq] at hle
                  subst hle
                  rw [hdrop] at hfi
                  have hBq := hB1.bx b
                  rw [hb1, setLB_same] at hBq
                  obtain ⟨-, -, hm1⟩ := hBq
                  have hm1' : L.mems w' S' (Cl.take off ++ rest') := hm1.2
                  have hm1r : L.mems w' S' rest' := (L.mems_iff _).2 fun z hz => (L.mems_iff _).1 hm1' z (List.mem_append_right _ hz)
                  have hm1t : L.mems w' S' (Cl.take off) := (L.mems_iff _).2 fun z hz => (L.mems_iff _).1 hm1' z (List.mem_append_left _ hz)
                  obtain ⟨rest2, r1, r2, r3, r4, r5⟩ := q10 los w' S' C' hoh hlm hm1r hfi
                  have hperm2 : (BL.mk blk (.agg (Cl.take off ++ rest2))).fp.Perm (L.fps los ++ (BL.mk blk (.agg (Cl.take off ++ rest'))).fp) := by
                    simp only [BL.fp, L.fp, happ]
                    refine (List.Perm.append_left _ (List.Perm.append_left _ r4)).trans ?_
                    rw [← List.append_assoc, ← List.append_assoc, ← List.append_assoc, ← List.append_assoc]
                    refine List.Perm.append_right _ ?_
                    rw [List.append_assoc (L.fps los)]
                    exact List.perm_append_comm
                  let us3 : List (Nat × Bx) := [(b, { st.box b with ver := (st.box b).ver + 1, c := some (.agg ((L.ers Cl).take off ++ C')) })]
                  have hb3 : (st.withB us3).box b = { st.box b with ver := (st.box b).ver + 1, c := some (.agg ((L.ers Cl).take off ++ C')) } := box_cons_same _ _ _ _
                  have ho3 : ∀ x, x ≠ b → (st.withB us3).box x = st.box x := fun x hx => by rw [box_cons_other _ _ _ hx]; rfl
                  have hlfp : ∀ g ∈ L.fps los, ¬ S' g ∧ g < w'.heap.size ∧ (g ∈ L.fps la ∨ w.heap.size ≤ g) := hlf
                  have hold := hB1.nd b _ (setLB_same _ _ _)
                  have hdis : ∀ g ∈ L.fps los, ∀ b2 B2, setLB LB b ⟨blk, .agg (Cl.take off ++ rest')⟩ b2 = some B2 → g ∉ B2.fp := fun g hg b2 B2 hB2 hg2 => by
                    rcases (hlfp g hg).2.2 with h3 | h3
                    · exact hfree.dj b2 B2 hB2 g h3 hg2
                    · have := (hset.fr b2 B2 hB2 g hg2).2.1; omega
                  have hset2 := hB1.set (bx' := (st.withB us3).box) (b := b) (B' := ⟨blk, .agg (Cl.take off ++ rest2)⟩) (w' := w') (fun x hx => by rw [ho3 x hx, ho1 x hx])
                    (by
                      rw [hb3]
                      refine ⟨by simp only [L.er, hers, htake, r1], hreal, fun g hg => ?_, hmemA hm1t r3⟩
                      obtain ⟨cur, e, h1, h2⟩ := hm1.1 g hg
                      refine ⟨cur, e, h1, h2.trans ?_⟩
                      show L.flats (Cl.take off ++ rest') = L.flats (Cl.take off ++ rest2)
                      rw [hcat _ q6, hcat _ r2])
                    ((hperm2.nodup_iff).2 (List.nodup_append.2 ⟨hnd, hold, fun g hg g' hg' he => by subst he; exact hdis g hg b _ (setLB_same _ _ _) hg'⟩))
                    (fun g hg => by
                      rcases List.mem_append.1 ((hperm2.mem_iff).1 hg) with hg | hg
                      · refine ⟨fun b2 hb2 B2 hB2 => hdis g hg b2 B2 hB2, (hlfp g hg).1, (hlfp g hg).2.1, ?_⟩
                        rcases (hlfp g hg).2.2 with h3 | h3
                        · exact (hfree.fr g h3).2.2
                        · exact .inr (Nat.le_trans hB.frame.size h3)
                      · exact ⟨fun b2 hb2 B2 hB2 => hB1.dj b b2 _ B2 (Ne.symm hb2) (setLB_same _ _ _) hB2 g hg, hB1.fr b _ (setLB_same _ _ _) g hg⟩)
                    (fun _ _ _ _ _ _ => rfl) (fun _ _ => rfl) (Nat.le_refl _) hB1.frame
                    (fun j t hh es he => by
                      simp only [L.cells] at he
                      by_cases hj : j < (Cl.take off).length
                      · rw [List.getElem?_append_left hj] at he
                        refine htag0 j t hh es ?_
                        simp only [L.cells]
                        rw [← List.take_append_drop off Cl, List.getElem?_append_left hj]; exact he
                      · rw [List.getElem?_append_right (by omega)] at he
                        obtain ⟨es0, h3, h4⟩ := r5 _ t hh es he
                        rw [h4]
                        refine htag0 j t hh es0 ?_
                        simp only [L.cells]
                        rw [← List.take_append_drop off Cl, List.getElem?_append_right (by omega)]; exact h3)
                    (fun hbp g hg => hB.pb ⟨blk, .agg Cl⟩ (hbp ▸ hBb) g hg)
                  refine ⟨_, hset2, ⟨fun x => ?_, fun x => ?_, fun x hx' Bq hq => ?_, fun x hx' Bq hq => ?_⟩, fun x Bq hq => ?_⟩
                  · by_cases h : x = b
                    · subst h; rw [hb3]; exact Nat.le_refl _
                    · rw [ho3 x h]; exact Nat.le_refl _
                  · by_cases h : x = b
                    · subst h; rw [hb3]; exact Nat.le_succ _
                    · rw [ho3 x h]; exact Nat.le_refl _
                  · by_cases h : x = b
                    · subst h; rw [setLB_same] at hq; cases hq; exact ⟨⟨blk, .agg Cl⟩, hBb, rfl⟩
                    · rw [setLB_other _ _ h, setLB_other _ _ h] at hq; exact ⟨Bq, hq, rfl⟩
                  · by_cases h : x = b
                    · subst h; rw [hb3] at hx'; simp at hx'
                    · rw [setLB_other _ _ h, setLB_other _ _ h] at hq; exact ⟨Bq, hq, rfl, rfl⟩
                  · by_cases h : x = b
                    · subst h; rw [setLB_same] at hq; cases hq
                      refine .inr fun g hg => ?_
                      rcases List.mem_append.1 ((hperm2.mem_iff).1 hg) with hg | hg
                      · exact .inr hg
                      · exact .inl ⟨_, setLB_same _ _ _, hg⟩
                    · rw [setLB_other _ _ h] at hq; exact .inl ⟨Bq, hq, rfl⟩
              | _ => simp at hbk
        · simp at ho
      | _ => simp [hc] at ho

end Go.Proofs.Ytncjcbdbdocjaaa.Ax

/- A call is sound. -/
namespace Go.Proofs.Ytncjcbdbdocjaaa.Ax
open Go

variable {P : Program} {Γ : Ctx} {st : St} {a : Act} {w w' : World} {LB LB' : Nat → Option BL} {S : Nat → Prop}

mutual
theorem noRo_mem {S1 S2 : Nat → Prop} : ∀ (l : L), l.er.noRo = true → l.mem w S1 → l.mem w S2
  | .sc _, _, h => h
  | .opq _, _, h => h
  | .ro v es, hr, h => by
    simp only [L.er, X.noRo, Bool.and_eq_true, bne_self_eq_false, Bool.false_or, List.isEmpty_iff] at hr
    obtain ⟨rfl, -⟩ := hr
    have h' : Ro w S1 (.sl 0 []) v := h
    show Ro w S2 (.sl 0 []) v
    cases h' with
    | nil a c => exact .nil a c
    | sl g o n cap sz es f h1 h2 hmx h3 h4 h5 h6 h7 => simp at h1; subst h1; exact .nil _ _
  | .own t h es, hr, hm => by
    have hr' : X.noRos (L.ers es) = true := by simp only [L.er, X.noRo, Bool.and_eq_true] at hr; exact hr.2
    have key : L.mems w S1 es → L.mems w S2 es := noRos_mem es hr'
    cases h with
    | none => exact hm
    | some gc => obtain ⟨g, cap⟩ := gc; exact ⟨hm.1, key hm.2⟩
  | .agg cs, hr, hm => noRos_mem cs hr hm
  | .tup cs, hr, hm => noRos_mem cs hr hm
  | .box g c, hr, hm => ⟨hm.1, noRo_mem c hr hm.2⟩
  | .junk _, _, _ => trivial
theorem noRos_mem {S1 S2 : Nat → Prop} : ∀ (l : List L), X.noRos (L.ers l) = true → L.mems w S1 l → L.mems w S2 l
  | [], _, _ => trivial
  | x :: r, hr, hm => by
    simp only [L.ers, X.noRos, Bool.and_eq_true] at hr
    exact ⟨noRo_mem x hr.1 hm.1, noRos_mem r hr.2 hm.2⟩
end

theorem snapBut_sound (hB : SimB Γ st.box w LB S) {Sp : Nat → Prop} (hs : ∀ g, S g → Sp g) {k : Option Nat} {la : L} (hla : la.mem w Sp) : ∀ (xs : List X) (vs : List Value) (i : Nat) (ts : List X),
    TRels st.box LB w S xs vs → (∀ j x, xs[j]? = some x → some (i + j) ≠ k → ∀ b ∈ x.roots, ∀ B, LB b = some B → ∀ g ∈ B.fp, Sp g) → (∀ j v, vs[j]? = some v → some (i + j) = k → la.flat = v) →
    st.snapBut k la.er i xs = some ts → ∃ las : List L, las.map L.er = ts ∧ las.map L.flat = vs ∧ (∀ l ∈ las, l.mem w Sp) ∧ (∀ j l, las[j]? = some l → some (i + j) = k → l = la)
  | [], vs, i, ts, hx, hr, hk, h => by
    simp only [St.snapBut, Option.some.injEq] at h; subst h
    cases vs with
    | nil => exact ⟨[], rfl, rfl, by simp, by simp⟩
    | cons v vs => exact hx.elim
  | x :: xs, vs, i, ts, hx, hr, hk, h => by
    cases vs with
    | nil => exact hx.elim
    | cons v vs =>
      have ih := fun ts h => snapBut_sound hB hs hla xs vs (i + 1) ts hx.2 (fun j x hj hne => hr (j + 1) x (by simpa using hj) (by rw [show i + (j + 1) = i + 1 + j by omega]; exact hne))
        (fun j v hj he => hk (j + 1) v (by simpa using hj) (by rw [show i + (j + 1) = i + 1 + j by omega]; exact he)) h
      simp only [St.snapBut] at h
      by_cases hik : some i = k
      · rw [if_pos hik] at h
        cases h1 : st.snapBut k la.er (i + 1) xs with
        | none => simp [h1] at h
        | some l =>
          simp only [h1, Option.map_some, Option.some.injEq] at h; subst h
          obtain ⟨las, m1, m2, m3, m4⟩ := ih l h1
          refine ⟨la :: las, by simp [m1], by simp [m2]; exact hk 0 v rfl hik, fun l hl => ?_, fun j l hj he => ?_⟩
          · rcases List.mem_cons.1 hl with rfl | hl
            · exact hla
            · exact m3 l hl
          · cases j with
            | zero => simp at hj; exact hj.symm
            | succ j => exact m4 j l (by simpa using hj) (by rw [show i + 1 + j = i + (j + 1) by omega]; exact he)
      · rw [if_neg hik] at h
        cases h0 : st.snap x with
        | none => simp [h0] at h
        | some y =>
          simp only [h0, Option.bind_some] at h
          cases h1 : st.snapBut k la.er (i + 1) xs with
          | none => simp [h1] at h
          | some l =>
            simp only [h1, Option.map_some, Option.some.injEq] at h; subst h
            obtain ⟨las, m1, m2, m3, m4⟩ := ih l h1
            obtain ⟨l0, k1, k2, k3, k4⟩ := snap_sound hB hs (hr 0 x rfl (by simpa using hik)) h0 hx.1
            refine ⟨l0 :: las, by simp [m1, k1], by simp [m2, k2], fun l hl => ?_, fun j l hj he => ?_⟩
            · rcases List.mem_cons.1 hl with rfl | hl
              · exact k3
              · exact m3 l hl
            · cases j with
              | zero => simp only [Nat.add_zero] at he; exact absurd he hik
              | succ j => exact m4 j l (by simpa using hj) (by rw [show i + 1 + j = i + (j + 1) by omega]; exact he)

theorem rootsBut_false {k : Option Nat} : ∀ {xs : List X} {i : Nat}, rootsBut k i xs = false → ∀ j x, xs[j]? = some x → some (i + j) ≠ k → x.roots = []
  | [], i, h, j, x, hj, hk => by simp at hj
  | y :: r, i, h, j, x, hj, hk => by
    simp only [rootsBut, Bool.or_eq_false_iff] at h
    cases j with
    | zero =>
      simp at hj; subst hj
      have h1 := h.1
      simp only [Nat.add_zero] at hk
      simp only [Bool.and_eq_false_iff, Bool.not_eq_false', beq_iff_eq, hk, false_or, hasRoots, List.isEmpty_iff] at h1
      exact h1
    | succ j => exact rootsBut_false h.2 j x (by simpa using hj) (by rw [show i + 1 + j = i + (j + 1) by omega]; exact hk)

/-- What is lent and what comes back, for all the arguments. -/
theorem lend (hB : SimB Γ st.box w LB S) {k : Option Nat} {xs ts : List X} {vs : List Value} (ha : st.args k xs = some ts) (hx : TRels st.box LB w S xs vs) :
    ∃ (LB1 : Nat → Option BL) (us1 : List (Nat × Bx)) (la : L), SimB Γ (st.withB us1).box w LB1 S ∧ la.mem w S ∧ Free Γ w S LB1 la.fp ∧ la.clean ∧ Adv st.box (st.withB us1).box LB LB1 ∧
      (st.withB us1).snapBut k la.er 0 xs = some ts ∧ (∀ j v, vs[j]? = some v → some j = k → la.flat = v) ∧ (k = none → la = .junk undef) ∧ (∀ j, k = some j → j < xs.length) ∧
      ∀ (w' : World) (S' : Nat → Prop) (lo : L) (us : List (Nat × Bx)) (out : X), SimB Γ (st.withB us1).box w' LB1 S' → Fr la.fp w w' → (∀ g, S g → S' g) → lo.mem w' S' → lo.fp.Nodup →
        (∀ g ∈ lo.fp, ¬ S' g ∧ g < w'.heap.size ∧ (g ∈ la.fp ∨ w.heap.size ≤ g)) → OutHdr la lo → lo.er = out → st.backs k xs out = some us →
        ∃ LB2, SimB Γ (st.withB us).box w' LB2 S' ∧ Adv st.box (st.withB us).box LB LB2 ∧
          (∀ b B', LB2 b = some B' → (∃ B, LB1 b = some B ∧ B' = B) ∨ ∀ g ∈ B'.fp, (∃ B, LB1 b = some B ∧ g ∈ B.fp) ∨ g ∈ lo.fp) := by
  cases k with
  | none =>
    simp only [St.args] at ha
    refine ⟨LB, [], .junk undef, hB, trivial, Free.nil, trivial, Adv.refl _ _, ha, by simp, fun _ => rfl, by simp, ?_⟩
    intro w' S' lo us out hB1 _ _ _ _ _ _ _ hbk
    simp only [St.backs, Option.some.injEq] at hbk; subst hbk
    exact ⟨LB, hB1, Adv.refl _ _, fun b B' h => .inl ⟨B', h, rfl⟩⟩
  | some k =>
    simp only [St.args] at ha
    cases hxk : xs[k]? with
    | none => simp [hxk] at ha
    | some x =>
      simp only [hxk] at ha
      cases ho : st.lend x with
      | none => simp [ho] at ha
      | some y =>
        obtain ⟨y, us1⟩ := y
        simp only [ho, Option.bind_some] at ha
        obtain ⟨v, hv, hT⟩ := TRels.get hx hxk
        have key : ∃ (LB1 : Nat → Option BL) (la : L), SimB Γ (st.withB us1).box w LB1 S ∧ la.er = y ∧ la.flat = v ∧ la.mem w S ∧ Free Γ w S LB1 la.fp ∧ la.clean ∧ Adv st.box (st.withB us1).box LB LB1 ∧
            ∀ (w' : World) (S' : Nat → Prop) (lo : L) (us : List (Nat × Bx)) (out : X), SimB Γ (st.withB us1).box w' LB1 S' → Fr la.fp w w' → (∀ g, S g → S' g) → lo.mem w' S' → lo.fp.Nodup →
              (∀ g ∈ lo.fp, ¬ S' g ∧ g < w'.heap.size ∧ (g ∈ la.fp ∨ w.heap.size ≤ g)) → OutHdr la lo → lo.er = out → st.back x out = some us →
              ∃ LB2, SimB Γ (st.withB us).box w' LB2 S' ∧ Adv st.box (st.withB us).box LB LB2 ∧
                (∀ b B', LB2 b = some B' → (∃ B, LB1 b = some B ∧ B' = B) ∨ ∀ g ∈ B'.fp, (∃ B, LB1 b = some B ∧ g ∈ B.fp) ∨ g ∈ lo.fp) := by
          cases x with
          | agg cs => exact own_backA hB ho hT
          | sc v => exact own_back hB (x := .sc v) rfl ho hT
          | sl t es => exact own_back hB (x := .sl t es) rfl ho hT
          | box c => exact own_back hB (x := .box c) rfl ho hT
          | tup cs => exact own_back hB (x := .tup cs) rfl ho hT
          | ptr b n o => exact own_back hB (x := .ptr b n o) rfl ho hT
          | view b v p c => exact own_back hB (x := .view b v p c) rfl ho hT
          | ep b v p o => exact own_back hB (x := .ep b v p o) rfl ho hT
          | rp e o => exact own_back hB (x := .rp e o) rfl ho hT
          | opq => exact own_back hB (x := .opq) rfl ho hT
          | junk => exact own_back hB (x := .junk) rfl ho hT
        obtain ⟨LB1, la, k1, k2, k3, k4, k5, k6, k7, k8⟩ := key
        refine ⟨LB1, us1, la, k1, k4, k5, k6, k7, by rw [k2]; exact ha, fun j v' hj he => ?_, by simp, fun j hj => ?_, fun w' S' lo us out h1 h2 h3 h4 h5 h6 h7 h8 hbk => ?_⟩
        · cases he
          rw [hv] at hj; cases hj; exact k3
        · cases hj; exact (List.getElem?_eq_some_iff.1 hxk).1
        · simp only [St.backs, hxk, Option.bind_some] at hbk
          exact k8 w' S' lo us out h1 h2 h3 h4 h5 h6 h7 h8 hbk

theorem call_sound (h : SimL Γ st a w LB S) {o : Oper} (hd : DstOK Γ.n o) {cv : Nat → Option Nat} {g : Nat} {ts : List X} {K : X → X → Option (X × List (Nat × Bx))} (he : evC cv st o = some (g, ts, K))
    {r out : X} (hsp : Spec P g (cv g) ts r out) {x : X} {us : List (Nat × Bx)} (hk : K r out = some (x, us)) :
    ∃ args, (execOp a.eval o).run P w = .ok (.enter g args) w ∧ Calls P g args w fun e w' => ∃ v, e = .returned v ∧ Sim Γ (st.put o.dst x us) (a.put o.dst v) w' := by
  unfold evC at he
  split at he
  · rename_i c ho
    split at he
    · rename_i f hc
      split at he
      · rename_i g' fs cs hf
        split at he
        · rename_i hemp
          simp only [Bool.and_eq_true] at hemp
          have hfs : fs = #[] := by simpa using hemp.1
          have hcs : cs = #[] := by simpa using hemp.2
          subst hfs; subst hcs
          unfold evCall at he
          split at he
          · simp at he
          · rename_i ts' hts
            simp only [Option.some.injEq, Prod.mk.injEq] at he
            obtain ⟨rfl, rfl, rfl⟩ := he
            obtain ⟨⟨fn, hfn, hnm, hbody⟩, hcall⟩ := hsp
            have hop := h.opd
            have hfv := hop f
            rw [hf] at hfv
            have hrun : (execOp a.eval o).run P w = .ok (.enter g' (c.args.map a.eval)) w := by
              have h1 : a.eval f = .func (.func g') #[] #[] := hfv.1
              have h2 : execOp a.eval o = callFunc g' (#[] ++ c.args.map a.eval ++ #[]) := by
                simp only [execOp, ho, resolve, hc, h1, Deferred.ofValue]; rfl
              rw [h2]
              have hnm' : fn.name ≠ "runtime.NumGoroutine" := by simpa using hnm
              have hb' : fn.body ≠ none := by cases hbb : fn.body with
                | none => simp [hbb] at hbody
                | some b => simp
              simp [callFunc, hfn, hnm', hb']
            refine ⟨_, hrun, ?_⟩
            have hvs : TRels st.box LB w S (c.args.toList.map st.opd) (c.args.toList.map a.eval) := by
              generalize c.args.toList = l
              induction l with
              | nil => trivial
              | cons y l ih => exact ⟨hop y, ih⟩
            obtain ⟨LB1, us1, la, k1, k2, k3, k4, k5, k6, k7, k8, k9, k10⟩ := lend h.toB hts hvs
            simp only at hk
            split at hk
            · simp at hk
            · rename_i hbr
              cases hbk : st.backs (cv g') (c.args.toList.map st.opd) out with
              | none => simp [hbk] at hk
              | some us2 =>
                simp only [hbk, Option.map_some, Option.some.injEq, Prod.mk.injEq] at hk
                obtain ⟨hx1, hus1⟩ := hk
                -- what the callee may read
                have main : ∀ (Sp : Nat → Prop), (∀ g, S g → Sp g) → (∀ g, Sp g → S g ∨ ∃ b B, LB1 b = some B ∧ g ∈ B.fp) →
                    (∀ j x, (c.args.toList.map st.opd)[j]? = some x → some (0 + j) ≠ cv g' → ∀ b ∈ x.roots, ∀ B, LB1 b = some B → ∀ g ∈ B.fp, Sp g) →
                    (∀ (w' : World) (S2 : Nat → Prop) (lr lo : L), lr.er = r → lo.er = out → RetOK w Sp la lr lo w' S2 → ∃ S' : Nat → Prop, (∀ g, S g → S' g) ∧ (∀ g, S' g → S2 g) ∧ (∀ g, S' g → S g ∨ g ∈ la.fp ∨ w.heap.size ≤ g) ∧ lr.mem w' S' ∧ lo.mem w' S') →
                    Calls P g' (c.args.map a.eval) w fun e w' => ∃ v, e = .returned v ∧ Sim Γ (st.put o.dst x us) (a.put o.dst v) w' := by
                  subst hx1; subst hus1
                  intro Sp hSp1 hSp2 hroots hret
                  obtain ⟨las, m1, m2, m3, m4⟩ := snapBut_sound k1 hSp1 (L.mem_frame hSp1 (fun _ _ => rfl) la k2 (fun _ _ => rfl)) _ _ 0 ts' (TRels.adv k5 (fun _ h => h) (fun _ _ => rfl) _ _ hvs) hroots
                    (fun j v hj hjk => k7 j v hj (by simpa using hjk)) k6
                  have hown : ownL (cv g') las = la := by
                    cases hcv : cv g' with
                    | none => rw [k8 hcv]; rfl
                    | some j =>
                      have hj := k9 j hcv
                      have hlen : las.length = (c.args.toList.map st.opd).length := by
                        have := congrArg List.length m2
                        simpa using this
                      have : j < las.length := by omega
                      have h1 := m4 j las[j] (by simp [this]) (by simp [hcv])
                      simp only [ownL, List.getD_eq_getElem?_getD, List.getElem?_eq_getElem this, Option.getD_some]
                      exact h1
                  have hA : ArgsOK (cv g') las w Sp := by
                    refine ⟨m3, by rw [hown]; exact k3.nd, fun q hq => ?_, fun q hq => ?_, by rw [hown]; exact k4⟩
                    · rw [hown] at hq
                      refine ⟨fun hs => ?_, (k3.fr q hq).2.1⟩
                      rcases hSp2 q hs with hs | ⟨b, B, hb, hqB⟩
                      · exact (k3.fr q hq).1 hs
                      · exact k3.dj b B hb q hq hqB
                    · rcases hSp2 q hq with hs | ⟨b, B, hb, hqB⟩
                      · exact h.Sw q hs
                      · exact (k1.fr b B hb q hqB).2.1
                  have hc2 := hcall w Sp las m1 hA
                  rw [m2] at hc2
                  have hargs : (c.args.toList.map a.eval).toArray = c.args.map a.eval := by
                    apply Array.ext'; simp
                  rw [hargs] at hc2
                  refine Calls.mono hc2 fun e w' hR => ?_
                  obtain ⟨lr, lo, S2, rfl, hr1, ho1, hR⟩ := hR
                  rw [hown] at hR
                  obtain ⟨S', hS1, hS2, hS3, hmr, hmo⟩ := hret w' S2 lr lo hr1 ho1 hR
                  refine ⟨_, rfl, ?_⟩
                  have hSw' : ∀ q, S' q → q < w'.heap.size := fun q hq => hR.hSw q (hS2 q hq)
                  have hB1 : SimB Γ (st.withB us1).box w' LB1 S' := k1.after k3 hR.frame hS1 hS3 hSw'
                  have hndA := List.nodup_append.1 hR.nd
                  have hfrA : ∀ q ∈ lr.fp ++ lo.fp, ¬ S' q ∧ q < w'.heap.size ∧ (q ∈ la.fp ∨ w.heap.size ≤ q) := fun q hq => ⟨fun hs => (hR.fr q hq).1 (hS2 q hs), (hR.fr q hq).2⟩
                  obtain ⟨LB2, n1, n2, n3⟩ := k10 w' S' lo us2 out hB1 hR.frame hS1 hmo hndA.2.1 (fun q hq => hfrA q (by simp [hq])) hR.hdr ho1 hbk
                  have hfree : Free Γ w' S' LB2 lr.fp := by
                    refine ⟨hndA.1, fun b B' hb q hq hqB => ?_, fun q hq => ?_⟩
                    · have hq2 := (hfrA q (by simp [hq])).2.2
                      have hnot : ∀ B, LB1 b = some B → q ∉ B.fp := by
                        intro B hB hqB
                        rcases hq2 with h1 | h1
                        · exact k3.dj b B hB q h1 hqB
                        · have := (k1.fr b B hB q hqB).2.1; omega
                      rcases n3 b B' hb with ⟨B, hB, rfl⟩ | hall
                      · exact hnot _ hB hqB
                      · rcases hall q hqB with ⟨B, hB, hqB⟩ | hqo
                        · exact hnot B hB hqB
                        · exact hndA.2.2 q hq q hqo rfl
                    · obtain ⟨h1, h2, h3⟩ := hfrA q (by simp [hq])
                      refine ⟨h1, h2, ?_⟩
                      rcases h3 with h3 | h3
                      · exact (k3.fr q h3).2.2
                      · exact .inr (Nat.le_trans h.frame.size h3)
                  have hdlt : o.dst.getD 8999 < 9000 := by
                    cases hdst : o.dst with
                    | none => simp
                    | some d => have h1 := hd.2 d hdst; have h2 := hd.1; simp only [Option.getD_some]; exact Nat.lt_of_lt_of_le h1 (Nat.le_trans h2 (by omega))
                  obtain ⟨hI, -⟩ := inst_sound (Γ := Γ) (st := st.withB us2) (tg := fun _ => 1) (d := o.dst.getD 8999) (Nat.le_of_lt hdlt) lr 0 [] LB2 (by simp) n1 hmr hfree (.inl ⟨hdlt, fun _ => rfl⟩)
                    (fun he => absurd he (Nat.ne_of_lt hdlt)) hR.clean
                  obtain ⟨LB3, i1, i2, i3, i4⟩ := hI.ex
                  simp only [List.append_nil, withB_app, hr1] at i1 i2 i3
                  refine ⟨LB3, S', ?_⟩
                  refine h.next (n2.trans i2) hS1 (fun q hq => hR.frame.block q (h.Sw q hq) (fun hm => (k3.fr q hm).1 hq)) i1 hd.2 i3
                by_cases hb : rootsBut (cv g') 0 (c.args.toList.map st.opd) = true
                · rw [hb] at hbr
                  have hno : r.noRo = true ∧ out.noRo = true := by simpa using hbr
                  refine main (fun q => S q ∨ ∃ b B, LB1 b = some B ∧ q ∈ B.fp) (fun q hq => .inl hq) (fun q hq => hq) (fun j x hx hne b hbx B hB q hq => .inr ⟨b, B, hB, hq⟩) (fun w' S2 lr lo hr1 ho1 hR => ?_)
                  exact ⟨S, fun _ h => h, fun q hq => hR.hS q (.inl hq), fun q hq => .inl hq, noRo_mem lr (by rw [hr1]; exact hno.1) hR.memr, noRo_mem lo (by rw [ho1]; exact hno.2) hR.memo⟩
                · have hb' : rootsBut (cv g') 0 (c.args.toList.map st.opd) = false := by simpa using hb
                  refine main S (fun _ h => h) (fun q hq => .inl hq) (fun j x hx hne b hbx B hB q hq => ?_) (fun w' S2 lr lo hr1 ho1 hR => ⟨S2, hR.hS, fun _ h => h, hR.hSn, hR.memr, hR.memo⟩)
                  rw [rootsBut_false hb' j x hx hne] at hbx
                  simp at hbx
        · simp at he
      · simp at he
    · simp at he
  · simp at he

end Go.Proofs.Ytncjcbdbdocjaaa.Ax

/- What an operation looks at. -/
namespace Go.Proofs.Ytncjcbdbdocjaaa.Ax
open Go

variable {P : Program} {st s2 : St}

theorem withB_congr : ∀ (us : List (Nat × Bx)) (b : Nat), s2.box b = st.box b → (s2.withB us).box b = (st.withB us).box b
  | [], b, h => h
  | (k, B) :: r, b, h => by
    by_cases hb : b = k
    · subst hb; rw [box_cons_same, box_cons_same]
    · rw [box_cons_other _ _ _ hb, box_cons_other _ _ _ hb]; exact withB_congr r b h
theorem slE_agr {x : X} (h : ∀ b ∈ x.roots, s2.box b = st.box b) : s2.slE x = st.slE x := by
  cases x with
  | view b ver p c => simp only [St.slE, h b (by simp [X.roots])]
  | sl t es => cases t <;> rfl
  | sc v => unfold St.slE; split <;> first | rfl | contradiction
  | _ => rfl
theorem snap1_agr {x : X} (h : ∀ b ∈ x.roots, s2.box b = st.box b) : s2.snap1 x = st.snap1 x := by
  cases x with
  | view b ver p c => simp only [St.snap1, h b (by simp [X.roots])]
  | sl t es => cases t <;> rfl
  | sc v => unfold St.snap1; split <;> first | rfl | contradiction
  | _ => rfl
theorem snaps_agr : ∀ {cs : List X}, (∀ b ∈ X.rootss cs, s2.box b = st.box b) → s2.snaps cs = st.snaps cs
  | [], _ => rfl
  | x :: r, h => by
    simp only [St.snaps]
    rw [snap1_agr (fun b hb => h b (by simp [X.rootss, hb])), snaps_agr (fun b hb => h b (by simp [X.rootss, hb]))]
theorem snap_agr {x : X} (h : ∀ b ∈ x.roots, s2.box b = st.box b) : s2.snap x = st.snap x := by
  by_cases hag : ∃ cs, x = .agg cs
  · obtain ⟨cs, rfl⟩ := hag
    simp only [St.snap]; rw [snaps_agr (fun b hb => h b (by simp [X.roots, hb]))]
  · have e : ∀ st : St, st.snap x = st.snap1 x := fun st => by cases x <;> first | rfl | exact absurd ⟨_, rfl⟩ hag
    rw [e, e, snap1_agr h]
theorem take1_agr {x : X} (h : ∀ b ∈ x.roots, s2.box b = st.box b) : s2.take1 x = st.take1 x := by
  cases x with
  | view b ver p c => simp only [St.take1, h b (by simp [X.roots])]
  | sl t es => cases t <;> rfl
  | sc v => unfold St.take1; split <;> first | rfl | contradiction
  | _ => rfl
theorem bumpX_roots (y z : X) : (bumpX y z).roots = z.roots := by
  unfold bumpX
  split
  · split <;> rfl
  · rfl
theorem bumps_roots : ∀ (done : List X) (z : X), (bumps done z).roots = z.roots
  | [], z => rfl
  | y :: r, z => by
    show (bumps r (bumpX y z)).roots = z.roots
    rw [bumps_roots r, bumpX_roots]
theorem takesG_agr : ∀ {cs done : List X} {st s2 : St}, (∀ b ∈ X.rootss cs, s2.box b = st.box b) → s2.takesG done cs = st.takesG done cs
  | [], _, _, _, _ => rfl
  | x :: r, done, st, s2, h => by
    simp only [St.takesG]
    rw [take1_agr (fun b hb => h b (by rw [bumps_roots] at hb; simp [X.rootss, hb]))]
    congr 1
    funext y
    rw [takesG_agr (st := st.withB y.2) (s2 := s2.withB y.2) (fun b hb => withB_congr _ b (h b (by simp [X.rootss, hb])))]
theorem takes_agr {cs : List X} {st s2 : St} (h : ∀ b ∈ X.rootss cs, s2.box b = st.box b) : s2.takes cs = st.takes cs := takesG_agr h
theorem take_agr {x : X} (h : ∀ b ∈ x.roots, s2.box b = st.box b) : s2.take x = st.take x := by
  by_cases hag : ∃ cs, x = .agg cs
  · obtain ⟨cs, rfl⟩ := hag
    simp only [St.take]; rw [takes_agr (fun b hb => h b (by simp [X.roots, hb]))]
  · have e : ∀ st : St, st.take x = st.take1 x := fun st => by cases x <;> first | rfl | exact absurd ⟨_, rfl⟩ hag
    rw [e, e, take1_agr h]
theorem elems_agr : ∀ {cs : List X} {st s2 : St}, (∀ x ∈ cs, ∀ b ∈ x.roots, s2.box b = st.box b) → s2.elems cs = st.elems cs
  | [], _, _, _ => rfl
  | x :: r, st, s2, h => by
    simp only [St.elems]
    rw [take_agr (h x (by simp))]
    congr 1
    funext y
    rw [elems_agr (st := st.withB y.2) (s2 := s2.withB y.2) (fun x hx b hb => withB_congr _ b (h x (by simp [hx]) b hb))]
theorem own_agr {x : X} (h : ∀ b ∈ x.roots, s2.box b = st.box b) : s2.own x = st.own x := by
  unfold St.own
  split
  · rename_i b bn
    rw [h b (by simp [X.roots])]
  · rw [take_agr h]
theorem back1_agr {x o : X} (h : ∀ b ∈ x.roots, s2.box b = st.box b) : s2.back1 x o = st.back1 x o := by
  cases x with
  | view b ver p c => simp only [St.back1, h b (by simp [X.roots])]
  | ptr b bn off => cases off <;> simp only [St.back1, h b (by simp [X.roots])]
  | sl t es => cases t <;> rfl
  | _ => rfl
theorem viewOf_root : ∀ {xs : List X} {j b v off : Nat}, viewOf j xs = some (b, v, off) → b ∈ X.rootss xs
  | [], j, b, v, off, h => by simp [viewOf] at h
  | x :: r, j, b, v, off, h => by
    have hrec : viewOf (j + 1) r = some (b, v, off) → b ∈ X.rootss (x :: r) := fun h => by
      simp only [X.rootss]
      exact List.mem_append_right _ (viewOf_root h)
    cases x with
    | view b2 v2 p c =>
      simp only [viewOf] at h
      split at h
      · simp only [Option.some.injEq, Prod.mk.injEq] at h
        obtain ⟨rfl, -⟩ := h
        simp [X.rootss, X.roots]
      · simp at h
    | _ => exact hrec (by simpa only [viewOf] using h)
theorem lend_agr {x : X} (h : ∀ b ∈ x.roots, s2.box b = st.box b) : s2.lend x = st.lend x := by
  cases x with
  | agg cs =>
    simp only [St.lend, St.ownA]
    cases hv : viewOf 0 cs with
    | none => rfl
    | some z =>
      obtain ⟨b, v, off⟩ := z
      simp only
      rw [h b (by simp only [X.roots]; exact viewOf_root hv)]
  | sc v => exact own_agr (x := .sc v) h
  | sl t es => exact own_agr (x := .sl t es) h
  | box c => exact own_agr (x := .box c) h
  | tup cs => exact own_agr (x := .tup cs) h
  | ptr b n o => exact own_agr (x := .ptr b n o) h
  | view b v p c => exact own_agr (x := .view b v p c) h
  | ep b v p o => exact own_agr (x := .ep b v p o) h
  | rp e o => exact own_agr (x := .rp e o) h
  | opq => exact own_agr (x := .opq) h
  | junk => exact own_agr (x := .junk) h
theorem back_agr {x o : X} (h : ∀ b ∈ x.roots, s2.box b = st.box b) : s2.back x o = st.back x o := by
  cases x with
  | agg cs =>
    simp only [St.back, St.backA]
    cases hv : viewOf 0 cs with
    | none => rfl
    | some z =>
      obtain ⟨b, v, off⟩ := z
      simp only
      rw [h b (by simp only [X.roots]; exact viewOf_root hv)]
  | sc v => exact back1_agr (o := o) (x := .sc v) h
  | sl t es => exact back1_agr (o := o) (x := .sl t es) h
  | box c => exact back1_agr (o := o) (x := .box c) h
  | tup cs => exact back1_agr (o := o) (x := .tup cs) h
  | ptr b n q => exact back1_agr (o := o) (x := .ptr b n q) h
  | view b v p c => exact back1_agr (o := o) (x := .view b v p c) h
  | ep b v p q => exact back1_agr (o := o) (x := .ep b v p q) h
  | rp e q => exact back1_agr (o := o) (x := .rp e q) h
  | opq => exact back1_agr (o := o) (x := .opq) h
  | junk => exact back1_agr (o := o) (x := .junk) h
theorem src_agr {x : X} (h : ∀ b ∈ x.roots, s2.box b = st.box b) : s2.src x = st.src x := by
  cases x with
  | view b ver p c => simp only [St.src, h b (by simp [X.roots])]
  | sl t es => cases t <;> rfl
  | sc v => unfold St.src; split <;> first | rfl | contradiction
  | _ => rfl
theorem base_agr {x : X} (h : ∀ b ∈ x.roots, s2.box b = st.box b) : s2.base x = st.base x := by
  cases x with
  | view b ver p c => simp only [St.base, h b (by simp [X.roots])]
  | sc v => unfold St.base; split <;> first | rfl | contradiction
  | _ => rfl
theorem okX_agr {x : X} (h : ∀ b ∈ x.roots, s2.box b = st.box b) : s2.okX x = st.okX x := by
  have h1 : ∀ x : X, (∀ b ∈ x.roots, s2.box b = st.box b) → s2.okX1 x = st.okX1 x := by
    intro x h
    cases x with
    | view b ver p c => simp only [St.okX1, h b (by simp [X.roots])]
    | sl t es => cases t <;> rfl
    | _ => rfl
  by_cases hag : ∃ cs, x = .agg cs
  · obtain ⟨cs, rfl⟩ := hag
    simp only [St.okX]
    have : ∀ cs : List X, (∀ b ∈ X.rootss cs, s2.box b = st.box b) → cs.all s2.okX1 = cs.all st.okX1 := by
      intro cs
      induction cs with
      | nil => intro _; rfl
      | cons c cs ih =>
        intro h
        simp only [List.all_cons]
        rw [h1 c (fun b hb => h b (by simp [X.rootss, hb])), ih (fun b hb => h b (by simp [X.rootss, hb]))]
    exact this cs (fun b hb => h b (by simp [X.roots, hb]))
  · have e : ∀ st : St, st.okX x = st.okX1 x := fun st => by cases x <;> first | rfl | exact absurd ⟨_, rfl⟩ hag
    rw [e, e, h1 x h]
theorem snapBut_agr {k : Option Nat} {o : X} : ∀ {xs : List X} {i : Nat}, (∀ x ∈ xs, ∀ b ∈ x.roots, s2.box b = st.box b) → s2.snapBut k o i xs = st.snapBut k o i xs
  | [], _, _ => rfl
  | x :: r, i, h => by
    simp only [St.snapBut]
    rw [snap_agr (h x (by simp)), snapBut_agr (fun x hx => h x (by simp [hx]))]

mutual
theorem inst_agr {tg : Nat → Nat} {d : Nat} : ∀ (x : X) (k : Nat), (∀ y ∈ (st.inst tg d x k).2.1, s2.box y.1 = st.box y.1) → s2.inst tg d x k = st.inst tg d x k
  | .sc v, k, h => rfl
  | .opq, k, h => rfl
  | .sl 0 es, k, h => rfl
  | .sl (t + 1) es, k, h => by
    have := h (vid d k, _) (by simp only [St.inst]; exact List.mem_singleton.2 rfl)
    simp only at this
    simp only [St.inst, this]
  | .box c, k, h => by
    have := h (vid d k, _) (by simp only [St.inst]; exact List.mem_singleton.2 rfl)
    simp only at this
    simp only [St.inst, this]
  | .agg cs, k, h => by simp only [St.inst] at h ⊢; rw [insts_agr cs k h]
  | .tup cs, k, h => by simp only [St.inst] at h ⊢; rw [insts_agr cs k h]
  | .ptr .., k, h => rfl
  | .view .., k, h => rfl
  | .ep .., k, h => rfl
  | .rp .., k, h => rfl
  | .junk, k, h => rfl
theorem insts_agr {tg : Nat → Nat} {d : Nat} : ∀ (xs : List X) (k : Nat), (∀ y ∈ (st.insts tg d xs k).2.1, s2.box y.1 = st.box y.1) → s2.insts tg d xs k = st.insts tg d xs k
  | [], k, h => rfl
  | x :: r, k, h => by
    simp only [St.insts] at h ⊢
    have h1 := inst_agr x k (fun y hy => h y (List.mem_append.2 (.inr hy)))
    rw [h1]
    rw [insts_agr r _ (fun y hy => h y (List.mem_append.2 (.inl hy)))]
end

/-- The boxes of an operation's operands; those that are only asked for. -/
def opRoots (st : St) (o : Oper) : List Nat := o.op.operands.toList.flatMap fun x => (st.opd x).roots
def X.isPtr : X → Bool
  | .ptr _ _ _ => true
  | _ => false
def asks (st : St) (o : Oper) : Bool :=
  match o.op with
  | .nilCheck x => (st.opd x).isPtr
  | .fieldAddr _ x _ => (st.opd x).isPtr
  | _ => false

structure Agr (st s2 : St) (o : Oper) (us : List (Nat × Bx)) : Prop where
  look : ∀ x ∈ o.op.operands, s2.opd x = st.opd x
  box : asks st o = false → ∀ b ∈ opRoots st o, s2.box b = st.box b
  ex : asks st o = true → ∀ b ∈ opRoots st o, (s2.box b).bn = (st.box b).bn ∧ (s2.box b).c.isSome = (st.box b).c.isSome
  own : ∀ y ∈ us, s2.box y.1 = st.box y.1

theorem Agr.root {o : Oper} {us : List (Nat × Bx)} (h : Agr st s2 o us) (ha : asks st o = false) {x : Operand} (hx : x ∈ o.op.operands) : ∀ b ∈ (st.opd x).roots, s2.box b = st.box b :=
  fun b hb => h.box ha b (List.mem_flatMap.2 ⟨x, by simpa using hx, hb⟩)

theorem evConvert_congr {s d : TypeId} {x : X} (h : s2.slE x = st.slE x) : evConvert P s2 s d x = evConvert P st s d x := by
  unfold evConvert
  split
  · rfl
  · rfl
  · rw [h]
theorem evIndexAddr_congr {t : TypeId} {x i : X} (h : s2.slE x = st.slE x) : evIndexAddr P s2 t x i = evIndexAddr P st t x i := by
  unfold evIndexAddr
  split
  · rw [h]
  · rfl
theorem evLen_congr {t : TypeId} {x : X} (h : s2.slE x = st.slE x) : evLen P s2 t x = evLen P st t x := by
  unfold evLen
  split
  · rfl
  · rw [h]

theorem evOp_agr {o : Oper} {side : Prop} {x : X} {us : List (Nat × Bx)} (h : Agr st s2 o us) (he : evOp P st o = .ok side x us) : evOp P s2 o = .ok side x us := by
  cases ho : o.op with
  | move y => 
    have h1 := h.look y (by simp [ho, Op.operands])
    simp only [evOp, ho] at he ⊢; rw [h1]; exact he
  | assign y =>
    have h1 := h.look y (by simp [ho, Op.operands])
    simp only [evOp, ho] at he ⊢; rw [h1]; exact he
  | pick c y z =>
    have h1 := h.look c (by simp [ho, Op.operands]); have h2 := h.look y (by simp [ho, Op.operands]); have h3 := h.look z (by simp [ho, Op.operands])
    simp only [evOp, ho] at he ⊢; rw [h1, h2, h3]; exact he
  | alloc t =>
    simp only [evOp, ho] at he ⊢
    split at he
    · rename_i d z hd hz
      have he' := he
      simp only [Ev.ok.injEq] at he
      obtain ⟨h1, h2, h3⟩ := he
      have := h.own (d, _) (by rw [← h3]; exact List.mem_singleton.2 rfl)
      simp only at this
      simp only [hd, hz, this]
      exact he'
    · simp at he
  | box t y =>
    have ha : asks st o = false := by simp [asks, ho]
    have h1 := h.look y (by simp [ho, Op.operands])
    have h2 := h.root ha (x := y) (by simp [ho, Op.operands])
    simp only [evOp, ho] at he ⊢
    split at he
    · rename_i d hd
      simp only [hd, evBox, h1, take_agr h2] at he ⊢
      cases ht : st.take (st.opd y) with
      | none => simp [ht] at he
      | some z =>
        obtain ⟨z, vs⟩ := z
        simp only [ht] at he ⊢
        have he' := he
        simp only [Ev.ok.injEq] at he
        have := h.own (d, _) (by rw [← he.2.2]; exact List.mem_cons_self ..)
        simp only at this
        rw [withB_congr vs d this]
        exact he'
    · simp at he
  | build t ps =>
    have ha : asks st o = false := by simp [asks, ho]
    have hl : ∀ y ∈ ps.toList, s2.opd y.2 = st.opd y.2 := fun y hy => h.look y.2 (by simp only [ho, Op.operands]; simp; exact ⟨y.1, by simpa using hy⟩)
    have hr : ∀ y ∈ ps.toList, s2.okX (s2.opd y.2) = st.okX (st.opd y.2) := fun y hy => by
      rw [hl y hy]; exact okX_agr (h.root ha (by simp only [ho, Op.operands]; simp; exact ⟨y.1, by simpa using hy⟩))
    simp only [evOp, ho, evBuild] at he ⊢
    have e1 : (ps.toList.all fun x => s2.okX (s2.opd x.2)) = ps.toList.all fun x => st.okX (st.opd x.2) := by
      revert hr; generalize ps.toList = l; intro hr
      induction l with
      | nil => rfl
      | cons y l ih => simp only [List.all_cons]; rw [hr y (by simp), ih (fun y hy => hr y (by simp [hy]))]
    have e2 : (ps.toList.map fun x => (x.1, s2.opd x.2)) = ps.toList.map fun x => (x.1, st.opd x.2) := List.map_congr_left fun y hy => by rw [hl y hy]
    rw [e1, e2]; exact he
  | buildSlice t n ps =>
    have ha : asks st o = false := by simp [asks, ho]
    have hl : ∀ y ∈ ps.toList, s2.opd y.2 = st.opd y.2 := fun y hy => h.look y.2 (by simp only [ho, Op.operands]; simp; exact ⟨y.1, by simpa using hy⟩)
    have e2 : (ps.toList.map fun x => s2.opd x.2) = ps.toList.map fun x => st.opd x.2 := List.map_congr_left fun y hy => by rw [hl y hy]
    have e3 : s2.elems (ps.toList.map fun x => st.opd x.2) = st.elems (ps.toList.map fun x => st.opd x.2) := elems_agr fun x hx b hb => by
      obtain ⟨y, hy, rfl⟩ := List.mem_map.1 hx
      exact h.root ha (by simp only [ho, Op.operands]; simp; exact ⟨y.1, by simpa using hy⟩) b hb
    simp only [evOp, ho] at he ⊢
    split at he
    · rename_i d hd
      simp only [hd, evBuildSlice, e2, e3] at he ⊢
      cases h1 : tElem P t with
      | none => simp [h1] at he
      | some e =>
        simp only [h1] at he ⊢
        cases h2 : tZero P e with
        | none => simp [h2] at he
        | some z =>
          simp only [h2] at he ⊢
          split at he
          · rename_i hc
            rw [if_pos hc]
            cases ht : st.elems (ps.toList.map fun x => st.opd x.2) with
            | none => simp [ht] at he
            | some zz =>
              obtain ⟨zz, vs⟩ := zz
              simp only [ht] at he ⊢
              have he' := he
              simp only [Ev.ok.injEq] at he
              have := h.own (d, _) (by rw [← he.2.2]; exact List.mem_cons_self ..)
              simp only at this
              rw [withB_congr vs d this]
              exact he'
          · simp at he
    · simp at he
  | load t y =>
    have ha : asks st o = false := by simp [asks, ho]
    have h1 := h.look y (by simp [ho, Op.operands])
    have h2 := h.root ha (x := y) (by simp [ho, Op.operands])
    simp only [evOp, ho] at he ⊢
    rw [h1]
    unfold evLoad at he ⊢
    cases hg : tAgg P t with
    | none => simp [hg] at he
    | some ag =>
      simp only [hg] at he ⊢
      cases hy : st.opd y with
      | ptr b bn off => rw [hy] at h2 he; simp only [h2 b (by simp [X.roots])]; exact he
      | ep b ver p off => rw [hy] at h2 he; simp only [h2 b (by simp [X.roots])]; exact he
      | rp e off => rw [hy] at he; exact he
      | _ => rw [hy] at he; exact he
  | store t y z =>
    have ha : asks st o = false := by simp [asks, ho]
    have h1 := h.look y (by simp [ho, Op.operands]); have h1' := h.look z (by simp [ho, Op.operands])
    have h2 := h.root ha (x := y) (by simp [ho, Op.operands]); have h2' := h.root ha (x := z) (by simp [ho, Op.operands])
    simp only [evOp, ho] at he ⊢
    rw [h1, h1']
    unfold evStore at he ⊢
    have e1 : s2.takes (st.opd z).cells = st.takes (st.opd z).cells := takes_agr (fun b hb => h2' b (by
      cases hz : st.opd z <;> simp only [hz, X.cells, X.rootss, X.roots, List.append_nil] at hb ⊢ <;> exact hb))
    rw [e1]
    cases ht : st.takes (st.opd z).cells with
    | none => simp [ht] at he
    | some w =>
      obtain ⟨xs, vs⟩ := w
      simp only [ht] at he ⊢
      split at he
      · simp at he
      · rename_i hn
        simp only [hn, if_false]
        cases hy : st.opd y with
        | ptr b bn off => rw [hy] at h2 he; simp only [withB_congr vs b (h2 b (by simp [X.roots]))]; exact he
        | ep b ver p off => rw [hy] at h2 he; simp only [withB_congr vs b (h2 b (by simp [X.roots]))]; exact he
        | _ => rw [hy] at he; exact he
  | nilCheck y =>
    have h1 := h.look y (by simp [ho, Op.operands])
    simp only [evOp, ho] at he ⊢
    rw [h1]
    have e1 : s2.okP (st.opd y) = st.okP (st.opd y) := by
      cases hy : st.opd y with
      | ptr b bn off =>
        have := h.ex (by simp [asks, ho, hy, X.isPtr]) b (by simp [opRoots, ho, Op.operands, hy, X.roots])
        simp only [St.okP, this]
      | ep b ver p off =>
        have := h.box (by simp [asks, ho, hy, X.isPtr]) b (by simp [opRoots, ho, Op.operands, hy, X.roots])
        simp only [St.okP, this]
      | _ => rfl
    unfold evNilCheck at he ⊢
    split at he
    · exact he
    · rw [e1]; exact he
  | binOp op t y z u =>
    have h1 := h.look y (by simp [ho, Op.operands]); have h2 := h.look z (by simp [ho, Op.operands])
    simp only [evOp, ho] at he ⊢; rw [h1, h2]; exact he
  | unOp op t y =>
    have h1 := h.look y (by simp [ho, Op.operands])
    simp only [evOp, ho] at he ⊢; rw [h1]; exact he
  | convert s d y =>
    have ha : asks st o = false := by simp [asks, ho]
    have h1 := h.look y (by simp [ho, Op.operands])
    have h2 := h.root ha (x := y) (by simp [ho, Op.operands])
    simp only [evOp, ho] at he ⊢; rw [h1]
    rw [evConvert_congr (slE_agr h2)]; exact he
  | makeFunc fn fs cs => simp only [evOp, ho] at he ⊢; exact he
  | makeSlice t y z =>
    have h1 := h.look y (by simp [ho, Op.operands]); have h1' := h.look z (by simp [ho, Op.operands])
    simp only [evOp, ho] at he ⊢
    split at he
    · rename_i d hd
      simp only [hd, h1, h1']
      unfold evMakeSlice at he ⊢
      cases h5 : tElem P t with
      | none => simp [h5] at he
      | some e =>
        simp only [h5] at he ⊢
        split at he
        · rename_i z n m h6 h7 h8
          split at he
          · simp at he
          · rename_i h9
            have he' := he
            simp only [Ev.ok.injEq] at he
            have := h.own (d, _) (by rw [← he.2.2]; exact List.mem_singleton.2 rfl)
            simp only at this
            rw [if_neg h9, this]
            exact he'
        · simp at he
    · simp at he
  | slice t y lo hi mx =>
    have h1 := h.look y (by simp [ho, Op.operands])
    simp only [evOp, ho] at he ⊢
    rw [h1]
    have e1 : lo.map s2.opd = lo.map st.opd := by
      cases lo with
      | none => rfl
      | some l => simp only [Option.map_some, h.look l (by simp [ho, Op.operands])]
    have e2 : hi.map s2.opd = hi.map st.opd := by
      cases hi with
      | none => rfl
      | some l => simp only [Option.map_some, h.look l (by simp [ho, Op.operands])]
    rw [e1, e2]
    exact he
  | fieldAddr t y f =>
    have h1 := h.look y (by simp [ho, Op.operands])
    simp only [evOp, ho] at he ⊢
    rw [h1]
    have e1 : s2.okP (st.opd y) = st.okP (st.opd y) := by
      cases hy : st.opd y with
      | ptr b bn off =>
        have := h.ex (by simp [asks, ho, hy, X.isPtr]) b (by simp [opRoots, ho, Op.operands, hy, X.roots])
        simp only [St.okP, this]
      | ep b ver p off =>
        have := h.box (by simp [asks, ho, hy, X.isPtr]) b (by simp [opRoots, ho, Op.operands, hy, X.roots])
        simp only [St.okP, this]
      | _ => rfl
    unfold evFieldAddr at he ⊢
    rw [e1]; exact he
  | field t y f =>
    have h1 := h.look y (by simp [ho, Op.operands])
    simp only [evOp, ho] at he ⊢; rw [h1]; exact he
  | indexAddr t y z =>
    have ha : asks st o = false := by simp [asks, ho]
    have h1 := h.look y (by simp [ho, Op.operands]); have h1' := h.look z (by simp [ho, Op.operands])
    have h2 := h.root ha (x := y) (by simp [ho, Op.operands])
    simp only [evOp, ho] at he ⊢; rw [h1, h1']
    rw [evIndexAddr_congr (slE_agr h2)]; exact he
  | index t y z =>
    have h1 := h.look y (by simp [ho, Op.operands]); have h1' := h.look z (by simp [ho, Op.operands])
    simp only [evOp, ho] at he ⊢; rw [h1, h1']; exact he
  | extract y i =>
    have h1 := h.look y (by simp [ho, Op.operands])
    simp only [evOp, ho] at he ⊢; rw [h1]; exact he
  | call c =>
    have ha : asks st o = false := by simp [asks, ho]
    have hl : ∀ y ∈ c.args.toList, s2.opd y = st.opd y := fun y hy => h.look y (by simp [ho, Op.operands, Call.operands]; exact .inr (by simpa using hy))
    have hr : ∀ y ∈ c.args.toList, ∀ b ∈ (st.opd y).roots, s2.box b = st.box b := fun y hy => h.root ha (by simp [ho, Op.operands, Call.operands]; exact .inr (by simpa using hy))
    simp only [evOp, ho] at he ⊢
    cases hb : c.callee with
    | builtin b =>
      simp only [hb] at he ⊢
      split at he
      · rename_i y t h1 h2
        simp only [h1, h2] at hl hr
        try simp only [h1, h2]
        rw [hl y (by simp)]
        rw [evLen_congr (slE_agr (hr y (by simp)))]; exact he
      · rename_i s y t u h1 h2
        simp only [h1, h2] at hl hr
        try simp only [h1, h2]
        split at he
        · rename_i htu
          try simp only [htu, if_true]
          split at he
          · rename_i d hd
            try simp only [hd]
            rw [hl s (by simp), hl y (by simp)]
            subst htu
            unfold evAppend at he ⊢
            split at he
            · simp at he
            · rename_i e hte
              try simp only [hte]
              split at he
              · simp at he
              · rename_i z hz
                try simp only [hz]
                rw [base_agr (hr s (by simp))]
                split at he
                · simp at he
                · rename_i es vs hbs
                  try simp only [hbs]
                  rw [src_agr (st := st.withB vs) (fun b hb => withB_congr vs b (hr y (by simp) b hb))]
                  split at he
                  · simp at he
                  · rename_i xs ws hsr
                    try simp only [hsr]
                    split at he
                    · simp at he
                    · rename_i hz2
                      try simp only [hz2, if_false]
                      have he' := he
                      simp only [Ev.ok.injEq] at he
                      have := h.own (d, _) (by rw [← he.2.2]; exact List.mem_cons_self ..)
                      simp only at this
                      rw [withB_congr ws d (withB_congr vs d this)]
                      exact he'
          · simp at he
        · simp at he
      · rename_i y z h1
        simp only [h1] at hl hr
        try simp only [h1]
        rw [hl y (by simp), hl z (by simp)]; exact he
      · rename_i y z h1
        simp only [h1] at hl hr
        try simp only [h1]
        rw [hl y (by simp), hl z (by simp)]; exact he
      · simp at he
    | value f => simp [hb] at he
    | invoke r m => simp [hb] at he
  | _ => simp [evOp, ho] at he

end Go.Proofs.Ytncjcbdbdocjaaa.Ax
