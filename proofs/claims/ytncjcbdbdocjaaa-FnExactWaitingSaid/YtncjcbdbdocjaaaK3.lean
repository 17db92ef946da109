/- The proof layer, part 3: regions, loops, readings of arguments. -/
import Derived.Test.YtncjcbdbdocjaaaK2
import Derived.LoopN
import Derived.OpenShut
import Derived.ChangeOld
import Derived.Below
set_option linter.unusedVariables false
set_option linter.unusedSimpArgs false

/- Regions in text order. -/
namespace Go.Proofs.Ytncjcbdbdocjaaa.Ax
open Go

variable {P : Program} {Γ : Ctx} {st s2 : St} {a : Act} {w w' : World} {LB LB' : Nat → Option BL} {S : Nat → Prop}

/-- Is the operation wanted? -/
def gd (ops : List Oper) (st : St) (o : Oper) : Option Bool :=
  match o.guard with
  | none => some true
  | some (g, want) =>
    match (ops[g]?).bind (·.dst) with
    | some d => match st.look d with | .sc (.bool b) => some (b == want) | .tup [] => some false | _ => none
    | none => none

def StepOK (P : Program) (cv : Nat → Option Nat) (ops : List Oper) (st : St) (o : Oper) (x : X) (us : List (Nat × Bx)) : Prop :=
  (gd ops st o = some false ∧ x = .tup [] ∧ us = []) ∨
  (gd ops st o = some true ∧ ((∃ side : Prop, evOp P st o = .ok side x us ∧ side) ∨
    (∃ g ts K r out, evC cv st o = some (g, ts, K) ∧ Spec P g (cv g) ts r out ∧ K r out = some (x, us))))

theorem gd_wanted {ops : Array Oper} (h : SimL Γ st a w LB S) {o : Oper} {b : Bool} (hg : gd ops.toList st o = some b) : Region.wanted o (yielded ops a.tmps) = b := by
  unfold gd at hg
  unfold Region.wanted
  cases hgd : o.guard with
  | none => simp only [hgd, Option.some.injEq] at hg ⊢; exact hg
  | some gw =>
    obtain ⟨g, want⟩ := gw
    simp only [hgd] at hg ⊢
    cases hd : (ops.toList[g]?).bind (·.dst) with
    | none => simp only [hd, reduceCtorEq] at hg
    | some d =>
      simp only [hd] at hg
      split at hg
      · rename_i c hl
        simp only [Option.some.injEq] at hg
        have ht := h.tm d
        rw [hl] at ht
        have hv : a.tmps.getD d undef = .bool c := ht.1
        have hv2 : a.tmps[d]? = some (.bool c) := by
          rw [Array.getD_eq_getD_getElem?] at hv
          cases hx : a.tmps[d]? with
          | none => rw [hx] at hv; simp [undef] at hv
          | some u => rw [hx] at hv; simpa using hv
        have hd' : (ops[g]?).bind (·.dst) = some d := by rw [← hd]; simp
        have : yielded ops a.tmps g = some c := by
          unfold yielded
          rw [hd']
          simp only [Option.bind_some, hv2]
        rw [this, ← hg]
        cases c <;> cases want <;> rfl
      · rename_i hl
        simp only [Option.some.injEq] at hg
        have ht := h.tm d
        rw [hl] at ht
        obtain ⟨us, hv, hus⟩ := ht
        have hu : us = #[] := by
          cases us with
          | mk l => cases l with
            | nil => rfl
            | cons x r => exact hus.elim
        subst hu
        have hd' : (ops[g]?).bind (·.dst) = some d := by rw [← hd]; simp
        have : yielded ops a.tmps g = none := by
          unfold yielded
          rw [hd']
          simp only [Option.bind_some]
          rw [Array.getD_eq_getD_getElem?] at hv
          cases hx : a.tmps[d]? with
          | none => rfl
          | some u => rw [hx] at hv; simp only [Option.getD_some] at hv; subst hv; rfl
        rw [this, ← hg]; rfl
      · simp at hg

theorem step_sound (h : Sim Γ st a w) {ops : Array Oper} {o : Oper} (hd : DstOK Γ.n o) {cv : Nat → Option Nat} {x : X} {us : List (Nat × Bx)} (hs : StepOK P cv ops.toList st o x us)
    {K : Act → World → Prop} {Q : Exit → Act → World → Prop} (hK : ∀ a' w', Sim Γ (st.put o.dst x us) a' w' → K a' w') :
    if Region.wanted o (yielded ops a.tmps) = true then o.wp P a w K Q ∨ (o.asks P a w ∧ LetsOut Q) else K (a.put o.dst undef) w := by
  obtain ⟨LB, S, h⟩ := h
  rcases hs with ⟨hg, rfl, rfl⟩ | ⟨hg, hs⟩
  · rw [gd_wanted h hg]
    simp only [Bool.false_eq_true, if_false]
    exact hK _ _ ⟨LB, S, h.next0 hd.2 ⟨#[], rfl, trivial⟩⟩
  · rw [gd_wanted h hg]
    simp only [if_true]
    refine .inl ?_
    rcases hs with ⟨side, he, hside⟩ | ⟨g, ts, k, r, out, he, hsp, hk⟩
    · obtain ⟨n, w', LB', S', hrun, hn⟩ := evOp_sound h hd he hside
      unfold Oper.wp
      rw [hrun]
      rcases hn with ⟨v, rfl, hsim⟩ | ⟨rfl, hsim⟩
      · exact hK _ _ ⟨LB', S', hsim⟩
      · exact hK _ _ ⟨LB', S', hsim⟩
    · obtain ⟨args, hrun, hc⟩ := call_sound h hd he hsp hk
      unfold Oper.wp
      rw [hrun]
      refine Calls.mono hc fun e w' hR => ?_
      obtain ⟨v, rfl, hsim⟩ := hR
      exact hK _ _ hsim

/-- One step in text order. -/
def stepX (P : Program) (cv : Nat → Option Nat) (st : St) (o : Oper) (K : X → List (Nat × Bx) → Prop) : Prop :=
  match evC cv st o with
  | some (g, ts, k) => ∃ r out, Spec P g (cv g) ts r out ∧ ∃ x us, k r out = some (x, us) ∧ K x us
  | none =>
    match evOp P st o with
    | .ok side x us => side ∧ K x us
    | _ => False
def Reg (P : Program) (cv : Nat → Option Nat) (ops : List Oper) : List Oper → St → (St → Prop) → Prop
  | [], st, K => K st
  | o :: r, st, K =>
    match o.guard with
    | none => stepX P cv st o fun x us => Reg P cv ops r (st.put o.dst x us) K
    | some _ => (gd ops st o = some true → stepX P cv st o fun x us => Reg P cv ops r (st.put o.dst x us) K) ∧
        (gd ops st o = some false → Reg P cv ops r (st.put o.dst (.tup []) []) K) ∧ (gd ops st o).isSome = true

theorem stepX_ok {cv : Nat → Option Nat} {ops : List Oper} {o : Oper} {K : X → List (Nat × Bx) → Prop} (hg : gd ops st o = some true) (h : stepX P cv st o K) : ∃ x us, StepOK P cv ops st o x us ∧ K x us := by
  unfold stepX at h
  split at h
  · rename_i g ts k he
    obtain ⟨r, out, hsp, x, us, hk, hK⟩ := h
    exact ⟨x, us, .inr ⟨hg, .inr ⟨g, ts, k, r, out, he, hsp, hk⟩⟩, hK⟩
  · split at h
    · rename_i side x us he
      exact ⟨x, us, .inr ⟨hg, .inl ⟨side, he, h.1⟩⟩, h.2⟩
    · exact h.elim
theorem Reg_step {cv : Nat → Option Nat} {ops : List Oper} {o : Oper} {r : List Oper} {K : St → Prop} (h : Reg P cv ops (o :: r) st K) : ∃ x us, StepOK P cv ops st o x us ∧ Reg P cv ops r (st.put o.dst x us) K := by
  simp only [Reg] at h
  split at h
  · rename_i hg
    exact stepX_ok (by simp [gd, hg]) h
  · rename_i gw hg
    obtain ⟨h1, h2, h3⟩ := h
    cases hb : gd ops st o with
    | none => simp [hb] at h3
    | some b =>
      cases b with
      | true => exact stepX_ok hb (h1 hb)
      | false => exact ⟨.tup [], [], .inl ⟨hb, rfl, rfl⟩, h2 hb⟩

def regD (n : Nat) (ops : Array Oper) : Bool := Nat.ble n 8999 && ops.toList.all fun o => match o.dst with | some d => Nat.blt d n | none => true
theorem regD_dst {n : Nat} {ops : Array Oper} (h : regD n ops = true) {o : Oper} (ho : o ∈ ops.toList) : DstOK n o := by
  simp only [regD, Bool.and_eq_true, List.all_eq_true] at h
  refine ⟨Nat.le_of_ble_eq_true h.1, fun d' ht => ?_⟩
  have := h.2 o ho
  simp only [ht] at this
  have h2 : d' + 1 ≤ n := by simpa [Nat.blt] using this
  exact h2

theorem Reg_sound {cv : Nat → Option Nat} {ops : Array Oper} {Q : Exit → Act → World → Prop} {K : St → Prop} (hd : regD Γ.n ops = true) (hQ : ∀ st a w, Sim Γ st a w → K st → Q .normal a w) :
    ∀ (l : List Oper) (k : Nat) (st : St) (a : Act) (w : World), (∀ j, l[j]? = ops[k + j]?) → Reg P cv ops.toList l st K → Sim Γ st a w → wpOps P ops Q (List.range' k l.length) a w
  | [], k, st, a, w, hl, h, hs => hQ st a w hs h
  | o :: r, k, st, a, w, hl, h, hs => by
    have ho : ops[k]? = some o := by have := hl 0; simpa using this.symm
    obtain ⟨x, us, hst, hr⟩ := Reg_step h
    have hmem : o ∈ ops.toList := by
      have : ops.toList[k]? = some o := by simpa using ho
      exact List.mem_of_getElem? this
    simp only [List.length_cons, List.range'_succ, wpOps, ho]
    exact step_sound hs (regD_dst hd hmem) hst fun a' w' hs' =>
      Reg_sound hd hQ r (k + 1) _ a' w' (fun j => by have := hl (j + 1); simpa [Nat.add_assoc, Nat.add_comm 1] using this) hr hs'

theorem runs_region {cv : Nat → Option Nat} {id : Nat} {ops : Array Oper} {Q : Exit → St → Prop} (hd : regD Γ.n ops = true) (h : Reg P cv ops.toList ops.toList st (Q .normal)) : Runs P Γ (.region id ops false) st Q := by
  intro a w hs
  refine wp_region ?_
  have := Reg_sound (Q := fun e a' w' => ∃ st', Sim Γ st' a' w' ∧ Q e st') hd (fun st a w hs hq => ⟨st, hs, hq⟩) ops.toList 0 st a w (fun j => by simp) h hs
  rw [List.range_eq_range']
  simpa using this

end Go.Proofs.Ytncjcbdbdocjaaa.Ax

/- Regions that are drawn: operations that do not meet may change places. -/
namespace Go.Proofs.Ytncjcbdbdocjaaa.Ax
open Go

variable {P : Program} {Γ : Ctx} {st s2 : St} {a : Act} {w w' : World} {LB LB' : Nat → Option BL} {S : Nat → Prop}

/-- Two states that say the same. -/
structure Same (st s2 : St) : Prop where
  look : ∀ t, s2.look t = st.look t
  box : ∀ b, s2.box b = st.box b
theorem Same.refl (st : St) : Same st st := ⟨fun _ => rfl, fun _ => rfl⟩
theorem Same.symm (h : Same st s2) : Same s2 st := ⟨fun t => (h.look t).symm, fun b => (h.box b).symm⟩
theorem Same.trans {s3 : St} (h : Same st s2) (k : Same s2 s3) : Same st s3 := ⟨fun t => (k.look t).trans (h.look t), fun b => (k.box b).trans (h.box b)⟩
theorem Same.sim (h : Same st s2) (hs : Sim Γ st a w) : Sim Γ s2 a w := by
  obtain ⟨LB, S, hs⟩ := hs
  have hb : s2.box = st.box := funext h.box
  refine ⟨LB, S, hs.defers, hs.size, fun t => ?_, ?_, hs.nd, hs.dj, hs.fr, hs.S0, hs.Sw, hs.frame, hs.tag, hs.pb, hs.Sn⟩
  · rw [hb, h.look]; exact hs.tm t
  · rw [hb]; exact hs.bx

theorem put_look (st : St) (d : Option Nat) (x : X) (us : List (Nat × Bx)) (t : Nat) : (st.put d x us).look t = if d = some t then x else st.look t := by
  cases d with
  | none => simp [St.put, consD, St.look]
  | some d =>
    simp only [St.put, consD, St.look, lookT, Option.some.injEq]
theorem put_box (st : St) (d : Option Nat) (x : X) (us : List (Nat × Bx)) (b : Nat) : (st.put d x us).box b = (st.withB us).box b := rfl
theorem withB_skip : ∀ (us : List (Nat × Bx)) (st : St) (b : Nat), (∀ y ∈ us, y.1 ≠ b) → (st.withB us).box b = st.box b := fun us st b h => box_skip st us b h
theorem withB_hit : ∀ (us : List (Nat × Bx)) (st s2 : St) (b : Nat), (∃ y ∈ us, y.1 = b) → (s2.withB us).box b = (st.withB us).box b
  | [], _, _, _, h => by simp at h
  | (k, B) :: r, st, s2, b, h => by
    by_cases hb : b = k
    · subst hb; rw [box_cons_same, box_cons_same]
    · rw [box_cons_other _ _ _ hb, box_cons_other _ _ _ hb]
      refine withB_hit r st s2 b ?_
      obtain ⟨y, hy, he⟩ := h
      rcases List.mem_cons.1 hy with rfl | hy
      · exact absurd he.symm hb
      · exact ⟨y, hy, he⟩
theorem Same.put (h : Same st s2) (d : Option Nat) (x : X) (us : List (Nat × Bx)) : Same (st.put d x us) (s2.put d x us) :=
  ⟨fun t => by rw [put_look, put_look, h.look], fun b => by rw [put_box, put_box]; exact withB_congr us b (h.box b)⟩

theorem evC_agr {cv : Nat → Option Nat} {o : Oper} {g : Nat} {ts : List X} {K : X → X → Option (X × List (Nat × Bx))} {r out x : X} {us : List (Nat × Bx)} (h : Agr st s2 o us)
    (he : evC cv st o = some (g, ts, K)) (hk : K r out = some (x, us)) : ∃ K2, evC cv s2 o = some (g, ts, K2) ∧ K2 r out = some (x, us) := by
  unfold evC at he ⊢
  cases ho : o.op with
  | call c =>
    simp only [ho] at he ⊢
    cases hc : c.callee with
    | value f =>
      simp only [hc] at he ⊢
      have ha : asks st o = false := by simp [asks, ho]
      have hf : s2.opd f = st.opd f := h.look f (by simp [ho, Op.operands, Call.operands, hc])
      have hl : ∀ y ∈ c.args.toList, s2.opd y = st.opd y := fun y hy => h.look y (by simp [ho, Op.operands, Call.operands]; exact .inr (by simpa using hy))
      have hr : ∀ y ∈ c.args.toList.map st.opd, ∀ b ∈ y.roots, s2.box b = st.box b := fun y hy => by
        obtain ⟨z, hz, rfl⟩ := List.mem_map.1 hy
        exact h.root ha (by simp [ho, Op.operands, Call.operands]; exact .inr (by simpa using hz))
      have hm : c.args.toList.map s2.opd = c.args.toList.map st.opd := List.map_congr_left hl
      rw [hf, hm]
      split at he
      · rename_i g' fs cs hfv
        split at he
        · rename_i hem
          try rw [if_pos hem]
          unfold evCall at he ⊢
          generalize hxs : c.args.toList.map st.opd = xs at he hr ⊢
          have hargs : s2.args (cv g') xs = st.args (cv g') xs := by
            unfold St.args
            cases cv g' with
            | none => exact snapBut_agr hr
            | some k =>
              simp only
              cases hx : xs[k]? with
              | none => rfl
              | some y =>
                simp only
                rw [lend_agr (hr y (List.mem_of_getElem? hx))]
                congr 1
                funext z
                exact snapBut_agr fun x hx b hb => withB_congr _ b (hr x hx b hb)
          rw [hargs]
          cases hts : st.args (cv g') xs with
          | none => simp [hts] at he
          | some ts' =>
            simp only [hts, Option.some.injEq, Prod.mk.injEq] at he ⊢
            obtain ⟨rfl, rfl, rfl⟩ := he
            refine ⟨_, ⟨rfl, rfl, rfl⟩, ?_⟩
            simp only at hk ⊢
            split at hk
            · simp at hk
            · rename_i hb
              rw [if_neg hb]
              have hbk : s2.backs (cv g') xs out = st.backs (cv g') xs out := by
                unfold St.backs
                cases cv g' with
                | none => rfl
                | some k =>
                  simp only
                  cases hx : xs[k]? with
                  | none => rfl
                  | some y => simp only [Option.bind_some]; exact back_agr (hr y (List.mem_of_getElem? hx))
              rw [hbk]
              cases hb2 : st.backs (cv g') xs out with
              | none => simp [hb2] at hk
              | some us0 =>
                simp only [hb2, Option.map_some, Option.some.injEq, Prod.mk.injEq] at hk ⊢
                have hi : (s2.withB us0).inst (fun _ => 1) (o.dst.getD 8999) r 0 = (st.withB us0).inst (fun _ => 1) (o.dst.getD 8999) r 0 :=
                  inst_agr r 0 fun y hy => withB_congr us0 y.1 (h.own y (by rw [← hk.2]; exact List.mem_append.2 (.inl hy)))
                rw [hi]; exact hk
        · simp at he
      · simp at he
    | _ => simp [hc] at he
  | _ => simp [ho] at he

/-- The tmp's that decide whether an operation runs. -/
theorem gd_agr {ops : List Oper} {o : Oper} (h : ∀ g want d, o.guard = some (g, want) → (ops[g]?).bind (·.dst) = some d → s2.look d = st.look d) : gd ops s2 o = gd ops st o := by
  unfold gd
  cases hg : o.guard with
  | none => rfl
  | some gw =>
    obtain ⟨g, want⟩ := gw
    simp only
    cases hd : (ops[g]?).bind (·.dst) with
    | none => rfl
    | some d => simp only [h g want d hg hd]

theorem StepOK.agr {cv : Nat → Option Nat} {ops : List Oper} {o : Oper} {x : X} {us : List (Nat × Bx)} (h : StepOK P cv ops st o x us) (ha : Agr st s2 o us)
    (hg : ∀ g want d, o.guard = some (g, want) → (ops[g]?).bind (·.dst) = some d → s2.look d = st.look d) : StepOK P cv ops s2 o x us := by
  unfold StepOK
  rw [gd_agr hg]
  rcases h with h | ⟨h1, h2⟩
  · exact .inl h
  · refine .inr ⟨h1, ?_⟩
    rcases h2 with ⟨side, he, hs⟩ | ⟨g, ts, K, r, out, he, hsp, hk⟩
    · exact .inl ⟨side, evOp_agr ha he, hs⟩
    · obtain ⟨K2, he2, hk2⟩ := evC_agr ha he hk
      exact .inr ⟨g, ts, K2, r, out, he2, hsp, hk2⟩
theorem opd_of_look {x : Operand} (h : ∀ t, x = .tmp t → s2.look t = st.look t) : s2.opd x = st.opd x := by
  cases x <;> first | rfl | exact h _ rfl
theorem Same.agr (h : Same st s2) (o : Oper) (us : List (Nat × Bx)) : Agr st s2 o us :=
  ⟨fun x _ => opd_of_look fun t _ => h.look t, fun _ b _ => h.box b, fun _ b _ => by rw [h.box b]; exact ⟨rfl, rfl⟩, fun y _ => h.box y.1⟩

/-- Footprints. -/
structure Ent where
  e : List Nat
  r : List Nat
  w : List Nat
  n : List Nat
def ent (st : St) (o : Oper) (us : List (Nat × Bx)) : Ent :=
  { e := bif asks st o then opRoots st o else []
    r := bif asks st o then [] else opRoots st o
    w := us.map (·.1)
    n := (us.filter fun y => !((st.box y.1).bn == y.2.bn && (st.box y.1).c.isSome == y.2.c.isSome)).map (·.1) }
def disj (x y : List Nat) : Bool := x.all fun b => !y.contains b
def apartL (ops : List Oper) (x y : Oper) : Bool := x.apart ops.toArray y
def indep (ops : List Oper) (x y : Oper × Ent) : Bool :=
  apartL ops x.1 y.1 && (disj x.2.w (y.2.r ++ y.2.w) && (disj y.2.w (x.2.r ++ x.2.w) && (disj x.2.n y.2.e && disj y.2.n x.2.e)))

inductive Tr (P : Program) (cv : Nat → Option Nat) (ops : List Oper) : St → List (Oper × Ent) → St → Prop
  | nil {st st' : St} : Same st st' → Tr P cv ops st [] st'
  | cons {st st' : St} {o : Oper} {x : X} {us : List (Nat × Bx)} {l : List (Oper × Ent)} : StepOK P cv ops st o x us → Tr P cv ops (st.put o.dst x us) l st' → Tr P cv ops st ((o, ent st o us) :: l) st'

theorem opRoots_agr {o : Oper} (h : ∀ x ∈ o.op.operands, s2.opd x = st.opd x) : opRoots s2 o = opRoots st o ∧ asks s2 o = asks st o := by
  constructor
  · unfold opRoots
    have : ∀ l : List Operand, (∀ x ∈ l, s2.opd x = st.opd x) → l.flatMap (fun x => (s2.opd x).roots) = l.flatMap fun x => (st.opd x).roots := by
      intro l
      induction l with
      | nil => intro _; rfl
      | cons y l ih => intro h; simp only [List.flatMap_cons]; rw [h y (by simp), ih (fun x hx => h x (by simp [hx]))]
    exact this _ fun x hx => h x (by simpa using hx)
  · unfold asks
    cases ho : o.op with
    | nilCheck x => simp only [h x (by simp [ho, Op.operands])]
    | fieldAddr t x f => simp only [h x (by simp [ho, Op.operands])]
    | _ => rfl
theorem ent_agr {o : Oper} {us : List (Nat × Bx)} (h : ∀ x ∈ o.op.operands, s2.opd x = st.opd x) (hb : ∀ y ∈ us, s2.box y.1 = st.box y.1) : ent s2 o us = ent st o us := by
  unfold ent
  rw [(opRoots_agr h).1, (opRoots_agr h).2]
  congr 2
  refine List.filter_congr fun y hy => ?_
  rw [hb y hy]

theorem Tr.same {cv : Nat → Option Nat} {ops : List Oper} {l : List (Oper × Ent)} {st' : St} (h : Tr P cv ops st l st') : ∀ {s2 : St}, Same st s2 → Tr P cv ops s2 l st' := by
  induction h with
  | nil h => exact fun k => .nil (k.symm.trans h)
  | cons hs _ ih =>
    intro s2 k
    rename_i st st' o x us l _
    have e : ent st o us = ent s2 o us := (ent_agr (fun x _ => opd_of_look fun t _ => k.look t) (fun y _ => k.box y.1)).symm
    rw [e]
    exact .cons (hs.agr (k.agr o us) (fun _ _ d _ _ => k.look d)) (ih (k.put _ _ _))

theorem disj_spec {x y : List Nat} (h : disj x y = true) {b : Nat} (hx : b ∈ x) : b ∉ y := by
  simp only [disj, List.all_eq_true] at h
  simpa using h b hx

/-- One operation's effect is out of the other's sight. -/
theorem agr_put {ops : List Oper} {p o : Oper} {xp : X} {usp uso : List (Nat × Bx)} {ep : Ent} (hep : ep = ent st p usp) (hap : ∀ d, p.dst = some d → d ∉ o.looksAt ops.toArray)
    (h1 : disj ep.w ((bif asks st o then [] else opRoots st o) ++ uso.map (·.1)) = true) (h2 : disj ep.n (bif asks st o then opRoots st o else []) = true) :
    Agr st (st.put p.dst xp usp) o uso ∧ (∀ g want d, o.guard = some (g, want) → (ops[g]?).bind (·.dst) = some d → (st.put p.dst xp usp).look d = st.look d) := by
  subst hep
  have hlook : ∀ x ∈ o.op.operands, (st.put p.dst xp usp).opd x = st.opd x := fun x hx => opd_of_look fun t ht => by
    rw [put_look, if_neg]
    intro hd
    exact hap t hd (List.mem_append_left _ (List.mem_filterMap.2 ⟨x, by simpa using hx, by rw [ht]⟩))
  have hsk : ∀ b, b ∉ usp.map (·.1) → (st.put p.dst xp usp).box b = st.box b := fun b hb => withB_skip usp st b fun y hy he => hb (List.mem_map.2 ⟨y, hy, he⟩)
  refine ⟨⟨hlook, fun ha b hb => hsk b fun hm => ?_, fun ha b hb => ?_, fun y hy => hsk y.1 fun hm => ?_⟩, fun g want d hg hd => ?_⟩
  · rw [ha] at h1
    exact disj_spec h1 hm (by simp only [cond_false, List.mem_append]; exact .inl hb)
  · rw [ha] at h2
    by_cases hm : b ∈ usp.map (·.1)
    · rw [put_box]
      -- the last of the updates of b
      have key : ∀ (us : List (Nat × Bx)), (∀ y ∈ us, y.1 = b → (st.box b).bn = y.2.bn ∧ (st.box b).c.isSome = y.2.c.isSome) → ((st.withB us).box b).bn = (st.box b).bn ∧ ((st.withB us).box b).c.isSome = (st.box b).c.isSome := by
        intro us
        induction us with
        | nil => intro _; exact ⟨rfl, rfl⟩
        | cons y us ih =>
          intro hy
          obtain ⟨k, B⟩ := y
          by_cases hk : b = k
          · subst hk
            rw [box_cons_same]
            have := hy (b, B) (by simp) rfl
            exact ⟨this.1.symm, this.2.symm⟩
          · rw [box_cons_other _ _ _ hk]
            exact ih fun y hm he => hy y (by simp [hm]) he
      refine key usp fun y hy he => ?_
      by_cases hq : ((st.box y.1).bn == y.2.bn && (st.box y.1).c.isSome == y.2.c.isSome) = true
      · simp only [Bool.and_eq_true, beq_iff_eq] at hq
        rw [he] at hq
        exact hq
      · exact absurd hb (by
          have hn : b ∈ (ent st p usp).n := by
            simp only [ent]
            refine List.mem_map.2 ⟨y, List.mem_filter.2 ⟨hy, ?_⟩, he⟩
            simp only [Bool.not_eq_true] at hq
            rw [hq]; rfl
          have := disj_spec h2 hn
          simpa using this)
    · rw [hsk b hm]; exact ⟨rfl, rfl⟩
  · exact disj_spec h1 hm (List.mem_append.2 (.inr (List.mem_map.2 ⟨y, hy, rfl⟩)))
  · rw [put_look, if_neg]
    intro hdd
    refine hap d hdd (List.mem_append_right _ ?_)
    rw [hg]
    simp only [Option.mem_toList, Option.mem_def]
    have : (ops.toArray[g]?) = ops[g]? := by simp
    rw [this]; exact hd

theorem Tr.swap {cv : Nat → Option Nat} {ops : List Oper} {p o : Oper × Ent} {l : List (Oper × Ent)} {st' : St} (h : Tr P cv ops st (p :: o :: l) st') (hi : indep ops p o = true) :
    Tr P cv ops st (o :: p :: l) st' := by
  cases h with
  | cons hs ht =>
    rename_i p xp usp
    cases ht with
    | cons hs2 ht2 =>
      rename_i o xo uso
      simp only [indep, apartL, Bool.and_eq_true] at hi
      obtain ⟨hap, h1, h2, h3, h4⟩ := hi
      obtain ⟨a1, a2, a3⟩ := Oper.apart_spec hap
      have hlo : ∀ x ∈ o.op.operands, (st.put p.dst xp usp).opd x = st.opd x := fun x hx => opd_of_look fun t ht => by
        rw [put_look, if_neg]
        intro hd
        exact a1 t hd (List.mem_append_left _ (List.mem_filterMap.2 ⟨x, by simpa using hx, by rw [ht]⟩))
      have hro := opRoots_agr hlo
      have he1 : disj (ent st p usp).w ((bif asks st o then [] else opRoots st o) ++ uso.map (·.1)) = true := by
        have := h1
        simp only [ent, hro.1, hro.2] at this ⊢
        exact this
      have he2 : disj (ent st p usp).n (bif asks st o then opRoots st o else []) = true := by
        have := h3
        simp only [ent, hro.1, hro.2] at this ⊢
        exact this
      obtain ⟨ag, gg⟩ := agr_put (xp := xp) (uso := uso) (ops := ops) (o := o) (ep := ent st p usp) rfl a1 he1 he2
      have agr' : Agr (st.put p.dst xp usp) st o uso := ⟨fun x hx => (ag.look x hx).symm, fun ha b hb => (ag.box (by rw [← hro.2]; exact ha) b (by rw [← hro.1]; exact hb)).symm,
        fun ha b hb => by
          have := ag.ex (by rw [← hro.2]; exact ha) b (by rw [← hro.1]; exact hb)
          exact ⟨this.1.symm, this.2.symm⟩, fun y hy => (ag.own y hy).symm⟩
      have hso : StepOK P cv ops st o xo uso := hs2.agr agr' fun g want d hg hd => (gg g want d hg hd).symm
      have hento : ent (st.put p.dst xp usp) o uso = ent st o uso := ent_agr ag.look ag.own
      -- the first one, after the second
      have he3 : disj (ent st o uso).w ((bif asks st p then [] else opRoots st p) ++ usp.map (·.1)) = true := by
        have := h2
        simp only [ent] at this ⊢
        exact this
      have he4 : disj (ent st o uso).n (bif asks st p then opRoots st p else []) = true := by
        have := h4
        rw [hento] at this
        exact this
      obtain ⟨ag2, gg2⟩ := agr_put (xp := xo) (uso := usp) (ops := ops) (o := p) (ep := ent st o uso) rfl a3 he3 he4
      have hsp : StepOK P cv ops (st.put o.dst xo uso) p xp usp := hs.agr ag2 gg2
      have hentp : ent (st.put o.dst xo uso) p usp = ent st p usp := ent_agr ag2.look ag2.own
      rw [hento, ← hentp]
      refine .cons hso (.cons hsp (ht2.same ⟨fun t => ?_, fun b => ?_⟩))
      · rw [put_look, put_look, put_look, put_look]
        by_cases hp : p.dst = some t
        · have : o.dst ≠ some t := fun ho => a2 t hp ho
          simp [hp, this]
        · simp [hp]
      · rw [put_box, put_box]
        by_cases hb : b ∈ usp.map (·.1)
        · have hnb : ∀ y ∈ uso, y.1 ≠ b := fun y hy he => disj_spec he1 hb (List.mem_append.2 (.inr (List.mem_map.2 ⟨y, hy, he⟩)))
          rw [withB_skip uso (st.put p.dst xp usp) b hnb, put_box]
          obtain ⟨y, hy, he⟩ := List.mem_map.1 hb
          exact withB_hit usp st _ b ⟨y, hy, he⟩
        · have hnb : ∀ y ∈ usp, y.1 ≠ b := fun y hy he => hb (List.mem_map.2 ⟨y, hy, he⟩)
          rw [withB_skip usp (st.put o.dst xo uso) b hnb, put_box]
          exact withB_congr uso b ((put_box ..).trans (withB_skip usp st b hnb)).symm

theorem Tr.bubble {cv : Nat → Option Nat} {ops : List Oper} {o : Oper × Ent} {l2 : List (Oper × Ent)} {st' : St} : ∀ {l1 : List (Oper × Ent)} {st : St}, Tr P cv ops st (l1 ++ o :: l2) st' →
    (∀ p ∈ l1, indep ops p o = true) → Tr P cv ops st (o :: (l1 ++ l2)) st'
  | [], st, h, _ => h
  | p :: l1, st, h, hi => by
    cases h with
    | cons hs ht =>
      have := Tr.bubble ht (fun q hq => hi q (by simp [hq]))
      exact Tr.swap (.cons hs this) (hi _ (by simp))

end Go.Proofs.Ytncjcbdbdocjaaa.Ax

/- Regions that are drawn: every order does the same. -/
namespace Go.Proofs.Ytncjcbdbdocjaaa.Ax
open Go

variable {P : Program} {Γ : Ctx} {st s2 : St} {a : Act} {w w' : World} {LB LB' : Nat → Option BL} {S : Nat → Prop}

/-- What comes before an operation, as the bits of a number. -/
def maskOf (acc : List Nat) (o : Oper) : Nat := o.after.toList.foldl (fun s e => if Region.binds .any e = true then s ||| 2 ^ e.on ||| acc.getD e.on 0 else s) 0
def ancGo : List Nat → List Oper → List Nat
  | acc, [] => acc
  | acc, o :: r => ancGo (acc ++ [maskOf acc o]) r
def anc (ops : List Oper) : List Nat := ancGo [] ops

theorem maskOf_bit {acc : List Nat} {o : Oper} {i : Nat} (h : (maskOf acc o).testBit i = true) : ∃ e ∈ o.after.toList, Region.binds .any e = true ∧ (e.on = i ∨ (acc.getD e.on 0).testBit i = true) := by
  have key : ∀ (l : List Edge) (s : Nat), (l.foldl (fun s e => if Region.binds .any e = true then s ||| 2 ^ e.on ||| acc.getD e.on 0 else s) s).testBit i = true →
      s.testBit i = true ∨ ∃ e ∈ l, Region.binds .any e = true ∧ (e.on = i ∨ (acc.getD e.on 0).testBit i = true) := by
    intro l
    induction l with
    | nil => intro s h; exact .inl h
    | cons e l ih =>
      intro s h
      simp only [List.foldl_cons] at h
      rcases ih _ h with h1 | ⟨e', he', h1⟩
      · split at h1
        · rename_i hb
          simp only [Nat.testBit_or, Bool.or_eq_true, Nat.testBit_two_pow, decide_eq_true_eq] at h1
          rcases h1 with (h1 | h1) | h1
          · exact .inl h1
          · exact .inr ⟨e, by simp, hb, .inl h1⟩
          · exact .inr ⟨e, by simp, hb, .inr h1⟩
        · exact .inl h1
      · exact .inr ⟨e', by simp [he'], h1⟩
  rcases key _ _ h with h1 | h1
  · simp at h1
  · exact h1
theorem ancGo_len : ∀ (l : List Oper) (acc : List Nat), (ancGo acc l).length = acc.length + l.length
  | [], acc => rfl
  | o :: r, acc => by simp only [ancGo, ancGo_len r, List.length_append, List.length_cons, List.length_nil]; omega
theorem ancGo_pre : ∀ (l : List Oper) (acc : List Nat) (j : Nat), j < acc.length → (ancGo acc l)[j]? = acc[j]?
  | [], acc, j, h => rfl
  | o :: r, acc, j, h => by
    simp only [ancGo]
    rw [ancGo_pre r _ j (by simp; omega), List.getElem?_append_left h]
theorem ancGo_at : ∀ (l : List Oper) (acc : List Nat) (j : Nat) (o : Oper), l[j]? = some o → ∃ A : List Nat, A.length = acc.length + j ∧ (ancGo acc l)[acc.length + j]? = some (maskOf A o) ∧ ∀ k, k < A.length → (ancGo acc l)[k]? = A[k]?
  | [], acc, j, o, h => by simp at h
  | o' :: r, acc, 0, o, h => by
    simp at h; subst h
    refine ⟨acc, by simp, ?_, fun k hk => ?_⟩
    · simp only [ancGo, Nat.add_zero]
      rw [ancGo_pre r _ _ (by simp), List.getElem?_append_right (Nat.le_refl _)]
      simp
    · simp only [ancGo]
      rw [ancGo_pre r _ k (by simp; omega), List.getElem?_append_left hk]
  | o' :: r, acc, j + 1, o, h => by
    obtain ⟨A, h1, h2, h3⟩ := ancGo_at r (acc ++ [maskOf acc o']) j o (by simpa using h)
    simp only [List.length_append, List.length_cons, List.length_nil] at h1 h2
    refine ⟨A, by omega, ?_, fun k hk => ?_⟩
    · simp only [ancGo]; rw [← h2]; congr 1; omega
    · simp only [ancGo]; exact h3 k hk

/-- What is listed is closed under what comes before. -/
theorem anc_listed {ops : Array Oper} {lst : Nat → Bool} (hcl : ∀ k o, ops.toList[k]? = some o → lst k = true → ∀ e ∈ o.after.toList, Region.binds .any e = true → lst e.on = true) :
    ∀ (j : Nat) (o : Oper), ops.toList[j]? = some o → (∀ e ∈ o.after.toList, Region.binds .any e = true → lst e.on = true) → ∀ i, ((anc ops.toList).getD j 0).testBit i = true → lst i = true := by
  intro j
  induction j using Nat.strongRecOn with
  | _ j ih =>
    intro o ho hd i hi
    obtain ⟨A, h1, h2, h3⟩ := ancGo_at ops.toList [] j o ho
    simp only [List.length_nil, Nat.zero_add] at h1 h2
    have : (anc ops.toList).getD j 0 = maskOf A o := by unfold anc; rw [List.getD_eq_getElem?_getD, h2]; rfl
    rw [this] at hi
    obtain ⟨e, he, hb, hor⟩ := maskOf_bit hi
    rcases hor with rfl | hbit
    · exact hd e he hb
    · have hlt : e.on < A.length := by
        by_cases h : e.on < A.length
        · exact h
        · rw [List.getD_eq_getElem?_getD, List.getElem?_eq_none (by omega)] at hbit
          simp at hbit
      have hon : ∃ o2, ops.toList[e.on]? = some o2 := by
        have hj : j < ops.toList.length := (List.getElem?_eq_some_iff.1 ho).1
        have hlt2 : e.on < ops.toList.length := by omega
        exact ⟨_, List.getElem?_eq_getElem hlt2⟩
      obtain ⟨o2, ho2⟩ := hon
      refine ih e.on (by omega) o2 ho2 (hcl e.on o2 ho2 (hd e he hb)) i ?_
      have : (anc ops.toList).getD e.on 0 = A.getD e.on 0 := by
        unfold anc
        rw [List.getD_eq_getElem?_getD, List.getD_eq_getElem?_getD, h3 e.on hlt]
      rw [this]; exact hbit

def pairOK (ops : List Oper) (A : List Nat) (p : Oper × Ent) (i : Nat) : Nat → List (Oper × Ent) → Bool
  | _, [] => true
  | j, o :: r => ((A.getD j 0).testBit i || indep ops p o) && pairOK ops A p i (j + 1) r
def pairsOK (ops : List Oper) (A : List Nat) : Nat → List (Oper × Ent) → Bool
  | _, [] => true
  | i, p :: r => pairOK ops A p i (i + 1) r && pairsOK ops A (i + 1) r
def fwdGo : Nat → List Oper → Bool
  | _, [] => true
  | i, o :: r => (o.after.toList.all fun e => !Region.binds .any e || Nat.blt e.on i) && fwdGo (i + 1) r

theorem pairOK_spec {ops : List Oper} {A : List Nat} {p : Oper × Ent} {i : Nat} : ∀ {l : List (Oper × Ent)} {j k : Nat} {o : Oper × Ent}, pairOK ops A p i j l = true → l[k]? = some o → (A.getD (j + k) 0).testBit i = true ∨ indep ops p o = true
  | [], j, k, o, h, hk => by simp at hk
  | q :: r, j, k, o, h, hk => by
    simp only [pairOK, Bool.and_eq_true, Bool.or_eq_true] at h
    cases k with
    | zero => simp at hk; subst hk; exact h.1
    | succ k => have := pairOK_spec h.2 (k := k) (by simpa using hk); rw [show j + (k + 1) = j + 1 + k by omega]; exact this
theorem pairsOK_spec {ops : List Oper} {A : List Nat} : ∀ {l : List (Oper × Ent)} {i j k : Nat} {p o : Oper × Ent}, pairsOK ops A i l = true → l[j]? = some p → l[k]? = some o → j < k → (A.getD (i + k) 0).testBit (i + j) = true ∨ indep ops p o = true
  | [], i, j, k, p, o, h, hj, hk, hlt => by simp at hj
  | q :: r, i, j, k, p, o, h, hj, hk, hlt => by
    simp only [pairsOK, Bool.and_eq_true] at h
    cases j with
    | zero =>
      simp at hj; subst hj
      cases k with
      | zero => omega
      | succ k => have := pairOK_spec h.1 (k := k) (by simpa using hk); rw [show i + (k + 1) = i + 1 + k by omega]; exact this
    | succ j =>
      cases k with
      | zero => omega
      | succ k =>
        have := pairsOK_spec h.2 (j := j) (k := k) (by simpa using hj) (by simpa using hk) (by omega)
        rw [show i + (k + 1) = i + 1 + k by omega, show i + (j + 1) = i + 1 + j by omega]; exact this
theorem fwd_spec : ∀ {l : List Oper} {i j : Nat} {o : Oper}, fwdGo i l = true → l[j]? = some o → ∀ e ∈ o.after.toList, Region.binds .any e = true → e.on < i + j
  | [], i, j, o, h, hj => by simp at hj
  | q :: r, i, j, o, h, hj => by
    simp only [fwdGo, Bool.and_eq_true, List.all_eq_true, Bool.or_eq_true, Bool.not_eq_true'] at h
    cases j with
    | zero =>
      simp at hj; subst hj
      intro e he hb
      rcases h.1 e he with h1 | h1
      · rw [hb] at h1; simp at h1
      · have : e.on + 1 ≤ i := by simpa [Nat.blt] using h1
        omega
    | succ j =>
      intro e he hb
      have := fwd_spec h.2 (j := j) (by simpa using hj) e he hb
      omega

def remG {α : Type} (lst : Nat → Bool) : Nat → List α → List (Nat × α)
  | _, [] => []
  | i, x :: r => bif lst i then remG lst (i + 1) r else (i, x) :: remG lst (i + 1) r
theorem remG_congr {α : Type} {f g : Nat → Bool} : ∀ {l : List α} {i : Nat}, (∀ k, i ≤ k → f k = g k) → remG f i l = remG g i l
  | [], i, h => rfl
  | x :: r, i, h => by simp only [remG]; rw [h i (Nat.le_refl _), remG_congr fun k hk => h k (by omega)]
theorem remG_split {α : Type} {f g : Nat → Bool} {j : Nat} {x : α} (hj : f j = false) (hg : g j = true) (ho : ∀ k, k ≠ j → g k = f k) : ∀ {l : List α} {i : Nat}, i ≤ j → l[j - i]? = some x →
    ∃ l1 l2, remG f i l = l1 ++ (j, x) :: l2 ∧ remG g i l = l1 ++ l2 ∧ ∀ y ∈ l1, i ≤ y.1 ∧ y.1 < j ∧ f y.1 = false ∧ l[y.1 - i]? = some y.2
  | [], i, h, hx => by simp at hx
  | y :: r, i, h, hx => by
    by_cases hij : i = j
    · subst hij
      simp at hx; subst hx
      refine ⟨[], remG f (i + 1) r, by simp [remG, hj], ?_, by simp⟩
      simp only [remG, hg, cond_true, List.nil_append]
      exact remG_congr fun k hk => ho k (by omega)
    · obtain ⟨l1, l2, h1, h2, h3⟩ := remG_split hj hg ho (l := r) (i := i + 1) (by omega) (by
        rw [show j - i = (j - (i + 1)) + 1 by omega] at hx; simpa using hx)
      have hsh : ∀ y' ∈ l1, i ≤ y'.1 ∧ y'.1 < j ∧ f y'.1 = false ∧ (y :: r)[y'.1 - i]? = some y'.2 := fun y' hy' => by
        obtain ⟨q1, q2, q3, q4⟩ := h3 y' hy'
        refine ⟨by omega, q2, q3, ?_⟩
        rw [show y'.1 - i = (y'.1 - (i + 1)) + 1 by omega]; simpa using q4
      cases hf : f i with
      | true => exact ⟨l1, l2, by simp [remG, hf, h1], by simp [remG, ho i hij, hf, h2], hsh⟩
      | false =>
        refine ⟨(i, y) :: l1, l2, by simp [remG, hf, h1], by simp [remG, ho i hij, hf, h2], fun y' hy' => ?_⟩
        rcases List.mem_cons.1 hy' with rfl | hy'
        · exact ⟨Nat.le_refl _, by omega, hf, by simp⟩
        · exact hsh y' hy'
theorem remG_nil {α : Type} {f : Nat → Bool} : ∀ {l : List α} {i : Nat}, (∀ k, k < l.length → f (i + k) = true) → remG f i l = []
  | [], i, h => rfl
  | x :: r, i, h => by
    simp only [remG]
    have := h 0 (by simp)
    simp only [Nat.add_zero] at this
    rw [this]
    exact remG_nil fun k hk => by have := h (k + 1) (by simp; omega); rw [show i + 1 + k = i + (k + 1) by omega]; exact this
theorem remG_all {α : Type} {f : Nat → Bool} : ∀ {l : List α} {i : Nat}, (∀ k, k < l.length → f (i + k) = false) → (remG f i l).map (·.2) = l
  | [], i, h => rfl
  | x :: r, i, h => by
    have := h 0 (by simp)
    simp only [Nat.add_zero] at this
    simp only [remG, this, cond_false, List.map_cons]
    rw [remG_all fun k hk => by have := h (k + 1) (by simp; omega); rw [show i + 1 + k = i + (k + 1) by omega]; exact this]
theorem remG_len_set {α : Type} {f g : Nat → Bool} {j : Nat} {x : α} (hj : f j = false) (hg : g j = true) (ho : ∀ k, k ≠ j → g k = f k) {l : List α} {i : Nat} (h : i ≤ j) (hx : l[j - i]? = some x) :
    (remG f i l).length = (remG g i l).length + 1 := by
  obtain ⟨l1, l2, h1, h2, -⟩ := remG_split hj hg ho h hx
  rw [h1, h2]; simp; omega

theorem draw_sound {cv : Nat → Option Nat} {ops : Array Oper} {Q : Exit → Act → World → Prop} {K : St → Prop} (hd : regD Γ.n ops = true) {FL : List (Oper × Ent)} (hFL : FL.map (·.1) = ops.toList)
    (hp : pairsOK ops.toList (anc ops.toList) 0 FL = true) (hf : fwdGo 0 ops.toList = true) {fin : St} (hQ : ∀ a w, Sim Γ fin a w → Q .normal a w) :
    ∀ (fuel : Nat) (listed : Array Bool) (st : St) (a : Act) (w : World), listed.size = ops.size →
      (∀ k o, ops.toList[k]? = some o → listed.getD k true = true → ∀ e ∈ o.after.toList, Region.binds .any e = true → listed.getD e.on true = true) →
      Sim Γ st a w → Tr P cv ops.toList st ((remG (fun i => listed.getD i true) 0 FL).map (·.2)) fin → (remG (fun i => listed.getD i true) 0 FL).length ≤ fuel → wpAny P .any ops Q fuel listed a w := by
  have hlen : FL.length = ops.size := by have := congrArg List.length hFL; simpa using this
  -- where nothing is ready all is listed
  have hall : ∀ (listed : Array Bool), listed.size = ops.size → Region.ready .any ops listed = [] → ∀ k, k < FL.length → listed.getD (0 + k) true = true := by
    intro listed hsz hr k
    induction k using Nat.strongRecOn with
    | _ k ih =>
      intro hk
      cases hl : listed.getD (0 + k) true with
      | true => rfl
      | false =>
        exfalso
        have ho : ∃ o, ops[k]? = some o := ⟨ops[k]'(by omega), by simp⟩
        obtain ⟨o, ho⟩ := ho
        have : k ∈ Region.ready .any ops listed := by
          rw [mem_ready]
          refine ⟨by simpa using hl, o, ho, fun e he hb => ?_⟩
          have hlt := fwd_spec hf (j := k) (o := o) (by simpa using ho) e (by simpa using he) hb
          have := ih e.on (by omega) (by omega)
          have hin : e.on < listed.size := by omega
          simp [hin] at this ⊢
          exact this
        rw [hr] at this
        cases this
  have hdone : ∀ (listed : Array Bool) (st : St) (a : Act) (w : World), (∀ k, k < FL.length → listed.getD (0 + k) true = true) → Sim Γ st a w → Tr P cv ops.toList st ((remG (fun i => listed.getD i true) 0 FL).map (·.2)) fin → Q .normal a w := by
    intro listed st a w hl hs ht
    rw [remG_nil (f := fun i => listed.getD i true) hl] at ht
    cases ht with
    | nil h => exact hQ a w (h.sim hs)
  intro fuel
  induction fuel with
  | zero =>
    intro listed st a w hsz hcl hs ht hfu
    have hnil : remG (fun i => listed.getD i true) 0 FL = [] := by
      have := Nat.le_zero.1 hfu
      exact List.eq_nil_of_length_eq_zero this
    have hr : Region.ready .any ops listed = [] := by
      cases hr : Region.ready .any ops listed with
      | nil => rfl
      | cons j r =>
        exfalso
        have hj : j ∈ Region.ready .any ops listed := by rw [hr]; simp
        obtain ⟨h1, o, ho, -⟩ := mem_ready.1 hj
        have hjl : j < FL.length := by rw [hlen]; exact (Array.getElem?_eq_some_iff.1 ho).1
        have := remG_len_set (f := fun i => listed.getD i true) (g := fun i => if i = j then true else listed.getD i true) (j := j) (x := FL[j]) (l := FL) (i := 0) h1 (by simp) (fun k hk => by simp [hk]) (Nat.zero_le _) (by simp [hjl])
        rw [hnil] at this
        simp at this
    exact ⟨hr, hdone listed st a w (hall listed hsz hr) hs ht⟩
  | succ fuel ih =>
    intro listed st a w hsz hcl hs ht hfu
    refine ⟨fun hr => hdone listed st a w (hall listed hsz hr) hs ht, fun j hj => ?_⟩
    obtain ⟨h1, o, ho, hdir⟩ := mem_ready.1 hj
    have hjs : j < ops.size := (Array.getElem?_eq_some_iff.1 ho).1
    have hjl : j < FL.length := by omega
    have hol : ops.toList[j]? = some o := by simpa using ho
    have hFj : ∃ e, FL[j]? = some (o, e) := by
      have hh : (FL.map (·.1))[j]? = some o := by rw [hFL]; exact hol
      rw [List.getElem?_map] at hh
      cases hx : FL[j]? with
      | none => simp [hx] at hh
      | some y => simp only [hx, Option.map_some, Option.some.injEq] at hh; exact ⟨y.2, by rw [← hh]⟩
    obtain ⟨e, hFj⟩ := hFj
    have hget : ∀ k, (listed.setIfInBounds j true).getD k true = if k = j then true else listed.getD k true := by
      intro k
      by_cases hk : k = j
      · subst hk; rw [if_pos rfl]; simp [hsz, hjs]
      · rw [if_neg hk]; exact getD_set_ne true (Ne.symm hk)
    obtain ⟨l1, l2, r1, r2, r3⟩ := remG_split (f := fun i => listed.getD i true) (g := fun i => (listed.setIfInBounds j true).getD i true) (j := j) (x := (o, e)) (l := FL) (i := 0) h1 (by simp only [hget]; simp)
      (fun k hk => by simp only [hget, if_neg hk]) (Nat.zero_le _) (by simpa using hFj)
    have hdirl : ∀ e ∈ o.after.toList, Region.binds .any e = true → listed.getD e.on true = true := fun e he hb => by
      have h2 := hdir e (by simpa using he) hb
      rcases Nat.lt_or_ge e.on listed.size with h' | h'
      · simp [h'] at h2 ⊢; exact h2
      · simp [Array.getElem?_eq_none h'] at h2
    rw [r1, List.map_append, List.map_cons] at ht
    have ht2 := Tr.bubble ht (fun p hp' => by
      obtain ⟨y, hy, rfl⟩ := List.mem_map.1 hp'
      obtain ⟨q1, q2, q3, q4⟩ := r3 y hy
      rcases pairsOK_spec hp (by simpa using q4) hFj q2 with hbit | hin
      · have := anc_listed (lst := fun k => listed.getD k true) hcl j o hol hdirl y.1 (by simpa using hbit)
        rw [q3] at this; simp at this
      · exact hin)
    rw [← List.map_append] at ht2
    unfold wpOp
    rw [ho]
    simp only
    cases ht2 with
    | cons hst hrest =>
      rename_i x us
      refine step_sound hs (regD_dst hd (List.mem_of_getElem? hol)) hst fun a' w' hs' => ?_
      refine ih (listed.setIfInBounds j true) _ a' w' (by simp [hsz]) (fun k o' ho' hk e' he' hb' => ?_) hs' ?_ ?_
      · rw [hget] at hk ⊢
        split
        · rfl
        · by_cases hkj : k = j
          · subst hkj
            rw [hol] at ho'; cases ho'
            exact hdirl e' he' hb'
          · rw [if_neg hkj] at hk
            exact hcl k o' ho' hk e' he' hb'
      · rw [r2]; exact hrest
      · rw [r2]
        have : (remG (fun i => listed.getD i true) 0 FL).length = l1.length + (l2.length + 1) := by rw [r1]; simp
        simp only [List.length_append]
        omega

theorem SimL.world (h : SimL Γ st a w LB S) (hh : w'.heap = w.heap) (ho : w'.os = w.os) (ht : w'.tape = w.tape) (hp : w'.output = w.output) : SimL Γ st a w' LB S := by
  have hb : ∀ g : Nat, w'.heap[g]? = w.heap[g]? := fun g => by rw [hh]
  refine ⟨h.defers, h.size, fun t => TRel.adv (Adv.refl _ _) (fun _ h => h) (fun g _ => hb g) _ _ (h.tm t), fun b => ?_, h.nd, h.dj, fun b B hB g hg => by rw [hh]; exact h.fr b B hB g hg, h.S0, fun g hg => by rw [hh]; exact h.Sw g hg,
    ⟨ho.trans h.frame.os, ht.trans h.frame.tape, hp.trans h.frame.output, by rw [hh]; exact h.frame.size, fun k hk hn => by rw [hh]; exact h.frame.block k hk hn⟩, h.tag, h.pb, h.Sn⟩
  have := h.bx b
  unfold BxRel at this ⊢
  cases hc : (st.box b).c with
  | none => rw [hc] at this; cases hl : LB b <;> rw [hl] at this <;> simp_all
  | some c =>
    rw [hc] at this
    cases hl : LB b with
    | none => rw [hl] at this; exact this.elim
    | some B =>
      rw [hl] at this
      exact ⟨this.1, this.2.1, BL.mem_frame (fun _ h => h) (fun g _ => hb g) this.2.2 (fun g _ => hb g)⟩

/-- Text order, with the footprints on the way. -/
def RegT (P : Program) (cv : Nat → Option Nat) (ops : List Oper) : List Oper → St → List (Oper × Ent) → (St → List (Oper × Ent) → Prop) → Prop
  | [], st, tr, K => K st tr
  | o :: r, st, tr, K =>
    match o.guard with
    | none => stepX P cv st o fun x us => RegT P cv ops r (st.put o.dst x us) (tr ++ [(o, ent st o us)]) K
    | some _ => (gd ops st o = some true → stepX P cv st o fun x us => RegT P cv ops r (st.put o.dst x us) (tr ++ [(o, ent st o us)]) K) ∧
        (gd ops st o = some false → RegT P cv ops r (st.put o.dst (.tup []) []) (tr ++ [(o, ent st o [])]) K) ∧ (gd ops st o).isSome = true

theorem RegT_tr {cv : Nat → Option Nat} {ops : List Oper} {K : St → List (Oper × Ent) → Prop} : ∀ (l : List Oper) (st : St) (tr : List (Oper × Ent)), RegT P cv ops l st tr K →
    ∃ (L : List (Oper × Ent)) (fin : St), L.map (·.1) = l ∧ Tr P cv ops st L fin ∧ K fin (tr ++ L)
  | [], st, tr, h => ⟨[], st, rfl, .nil (Same.refl _), by simpa [RegT] using h⟩
  | o :: r, st, tr, h => by
    have key : ∃ x us, StepOK P cv ops st o x us ∧ RegT P cv ops r (st.put o.dst x us) (tr ++ [(o, ent st o us)]) K := by
      simp only [RegT] at h
      split at h
      · rename_i hg
        exact stepX_ok (by simp [gd, hg]) h
      · obtain ⟨h1, h2, h3⟩ := h
        cases hb : gd ops st o with
        | none => simp [hb] at h3
        | some b =>
          cases b with
          | true => exact stepX_ok hb (h1 hb)
          | false => exact ⟨.tup [], [], .inl ⟨hb, rfl, rfl⟩, h2 hb⟩
    obtain ⟨x, us, hst, hr⟩ := key
    obtain ⟨L, fin, h1, h2, h3⟩ := RegT_tr r _ _ hr
    exact ⟨(o, ent st o us) :: L, fin, by simp [h1], .cons hst h2, by simpa using h3⟩

theorem runs_draw {cv : Nat → Option Nat} {id : Nat} {ops : Array Oper} {Q : Exit → St → Prop} (hm : P.follows .mixedOrders = true) (hd : regD Γ.n ops = true) (hf : fwdGo 0 ops.toList = true)
    (h : RegT P cv ops.toList ops.toList st [] fun st' tr => pairsOK ops.toList (anc ops.toList) 0 tr = true ∧ Q .normal st') : Runs P Γ (.region id ops true) st Q := by
  intro a w hs
  obtain ⟨L, fin, h1, h2, hp, hq⟩ := RegT_tr _ _ _ h
  simp only [List.nil_append] at hp
  have hlen : L.length = ops.size := by have := congrArg List.length h1; simpa using this
  have hs' : Sim Γ st a { w with drawn := w.drawn + 1 } := by
    obtain ⟨LB, S, hs⟩ := hs
    exact ⟨LB, S, hs.world rfl rfl rfl rfl⟩
  refine wp_region_any hm ?_
  have hrep : ∀ k, k < L.length → (Array.replicate ops.size false).getD (0 + k) true = false := fun k hk => by
    have hk' : k < ops.size := by omega
    simp [hk']
  refine draw_sound (K := fun _ => True) (cv := cv) hd h1 hp hf (fun a w hs => ⟨fin, hs, hq⟩) ops.size _ st a _ (by simp) (fun k o ho hk => ?_) hs' ?_ ?_
  · have hks : k < ops.size := by have := (List.getElem?_eq_some_iff.1 ho).1; simpa using this
    have := hrep k (by omega)
    rw [Nat.zero_add] at this
    rw [this] at hk; simp at hk
  · rw [remG_all (f := fun i => (Array.replicate ops.size false).getD i true) hrep]; exact h2
  · have := congrArg List.length (remG_all (f := fun i => (Array.replicate ops.size false).getD i true) (l := L) (i := 0) hrep)
    simp only [List.length_map] at this
    omega

end Go.Proofs.Ytncjcbdbdocjaaa.Ax

/- Code: sequences, branches, blocks, loops. -/
namespace Go.Proofs.Ytncjcbdbdocjaaa.Ax
open Go

variable {P : Program} {Γ : Ctx} {st s2 : St} {a : Act} {w w' : World} {LB LB' : Nat → Option BL} {S : Nat → Prop}

theorem Runs.mono {c : Code} {Q Q' : Exit → St → Prop} (h : Runs P Γ c st Q) (hq : ∀ e st, Q e st → Q' e st) : Runs P Γ c st Q' :=
  fun a w hs => wp_mono (h a w hs) fun e a' w' ⟨st', h1, h2⟩ => ⟨st', h1, hq _ _ h2⟩
theorem runs_skip {Q : Exit → St → Prop} (h : Q .normal st) : Runs P Γ .skip st Q := fun a w hs => wp_skip ⟨st, hs, h⟩
theorem runs_exit {id : Nat} {Q : Exit → St → Prop} (h : Q (.exit id) st) : Runs P Γ (.exit id) st Q := fun a w hs => wp_exit ⟨st, hs, h⟩
theorem runs_ret {Q : Exit → St → Prop} (h : Q .ret st) : Runs P Γ .ret st Q := fun a w hs => wp_ret ⟨st, hs, h⟩

def thenX (K : St → Prop) (Q : Exit → St → Prop) : Exit → St → Prop
  | .normal, st => K st
  | e, st => Q e st
theorem runs_seq {x y : Code} {Q : Exit → St → Prop} (h : Runs P Γ x st (thenX (fun st' => Runs P Γ y st' Q) Q)) : Runs P Γ (.seq x y) st Q := by
  intro a w hs
  refine wp_seq (wp_mono (h a w hs) fun e a' w' ⟨st', h1, h2⟩ => ?_)
  cases e with
  | normal => exact h2 a' w' h1
  | _ => exact ⟨st', h1, h2⟩
theorem runs_seq_k {x y : Code} {Q : Exit → St → Prop} (h : ∀ K : St → Prop, (∀ st, Runs P Γ y st Q → K st) → Runs P Γ x st (thenX K Q)) : Runs P Γ (.seq x y) st Q :=
  runs_seq (h _ fun _ h => h)
theorem runs_cond {c : Operand} {x y : Code} {Q : Exit → St → Prop} {b : Bool} (hc : st.opd c = .sc (.bool b)) (ht : b = true → Runs P Γ x st Q) (hf : b = false → Runs P Γ y st Q) : Runs P Γ (.cond c x y) st Q := by
  intro a w hs
  obtain ⟨LB, S, h⟩ := hs
  have := h.opd c
  rw [hc] at this
  exact wp_cond_split this.1 (fun e => ht e a w ⟨LB, S, h⟩) (fun e => hf e a w ⟨LB, S, h⟩)

def blockX (id : Nat) (Q : Exit → St → Prop) : Exit → St → Prop
  | .exit i, st => if i = id then Q .normal st else Q (.exit i) st
  | e, st => Q e st
theorem runs_block {id : Nat} {c : Code} {Q : Exit → St → Prop} (h : Runs P Γ c st (blockX id Q)) : Runs P Γ (.block id c) st Q := by
  intro a w hs
  refine wp_block (wp_mono (h a w hs) fun e a' w' ⟨st', h1, h2⟩ => ?_)
  cases e with
  | exit i =>
    simp only [blockX, Exit.inBlock] at h2 ⊢
    split <;> simp_all
    · exact ⟨st', h1, h2⟩
    · exact ⟨st', h1, h2⟩
  | _ => exact ⟨st', h1, h2⟩

/-! What a loop's round may forget, and the numbers of places begun anew. -/
def X.reset (st : St) : X → X
  | .ptr b bn off => if (st.box b).bn = bn ∧ (st.box b).c.isSome = true then .ptr b 0 off else .junk
  | .view b ver p c => if (st.box b).ver = ver ∧ (st.box b).c.isSome = true then .view b 0 p c else .junk
  | .sc v => .sc v
  | .opq => .opq
  | .sl 0 es => .sl 0 es
  | .agg cs => .agg (cs.map fun
    | .sc v => .sc v
    | .opq => .opq
    | .sl 0 es => .sl 0 es
    | _ => .junk)
  | _ => .junk
/-- `Fits st s2`: s2 says no more than st, its numbers begin anew. -/
structure Fits (st s2 : St) : Prop where
  tm : ∀ t, s2.look t = .junk ∨ s2.look t = (st.look t).reset st
  bx : ∀ b, (s2.box b).c = none ∨ ((s2.box b).c = (st.box b).c ∧ (s2.box b).real = (st.box b).real)
  z : ∀ b, (s2.box b).bn = 0 ∧ (s2.box b).ver = 0

theorem Fits.sim (h : Fits st s2) (hs : Sim Γ st a w) : Sim Γ s2 a w := by
  obtain ⟨LB, S, hs⟩ := hs
  let LB2 : Nat → Option BL := fun b => if (s2.box b).c.isSome = true then LB b else none
  have hLB : ∀ b B, LB2 b = some B → LB b = some B := fun b B hb => by
    simp only [LB2] at hb
    split at hb
    · exact hb
    · simp at hb
  have hsome : ∀ b B, LB2 b = some B → (s2.box b).c.isSome = true ∧ (st.box b).c.isSome = true := fun b B hb => by
    simp only [LB2] at hb
    split at hb
    · rename_i hq
      refine ⟨hq, ?_⟩
      rcases h.bx b with h1 | h1
      · rw [h1] at hq; simp at hq
      · rw [← h1.1]; exact hq
    · simp at hb
  have hT : ∀ (x : X) (v : Value), TRel st.box LB w S x v → TRel s2.box LB2 w S (x.reset st) v := by
    intro x v hx
    cases x with
    | sc u => exact hx
    | opq => exact hx
    | sl t es =>
      cases t with
      | zero => exact hx
      | succ t => exact trivial
    | ptr b bn off =>
      simp only [X.reset]
      split
      · rename_i hc
        exact ⟨Nat.zero_le _, fun _ B hB => hx.2 hc.1 B (hLB b B hB)⟩
      · trivial
    | view b ver p c =>
      simp only [X.reset]
      split
      · rename_i hc
        exact ⟨Nat.zero_le _, fun _ B hB => hx.2 hc.1 B (hLB b B hB)⟩
      · trivial
    | agg cs =>
      obtain ⟨us, rfl, hu⟩ := hx
      refine ⟨us, rfl, ?_⟩
      revert hu
      generalize us.toList = l
      induction cs generalizing l with
      | nil => intro hu; cases l with | nil => trivial | cons v vs => exact hu
      | cons c cs ih =>
        intro hu
        cases l with
        | nil => exact hu.elim
        | cons v vs =>
          refine ⟨?_, ih vs hu.2⟩
          have h1 := hu.1
          cases c with
          | sc u => exact h1
          | opq => exact h1
          | sl t es => cases t with
            | zero => exact h1
            | succ t => trivial
          | _ => trivial
    | _ => trivial
  refine ⟨LB2, S, hs.defers, hs.size, fun t => ?_, fun b => ?_, fun b B hB => hs.nd b B (hLB b B hB), fun b b' B B' hne hB hB' => hs.dj b b' B B' hne (hLB b B hB) (hLB b' B' hB'), fun b B hB => hs.fr b B (hLB b B hB), hs.S0, hs.Sw, hs.frame,
    fun b B hB => hs.tag b B (hLB b B hB), fun B hB => hs.pb B (hLB PB B hB), hs.Sn⟩
  · rcases h.tm t with h1 | h1
    · rw [h1]; trivial
    · rw [h1]; exact hT _ _ (hs.tm t)
  · have hb := hs.bx b
    unfold BxRel at hb ⊢
    rcases h.bx b with h1 | ⟨h1, h2⟩
    · rw [h1]
      simp only [LB2, h1]
      trivial
    · rw [h1, h2]
      cases hc : (st.box b).c with
      | none => simp only [LB2, h1, hc]; trivial
      | some c => simp only [LB2, h1, hc, Option.isSome_some, if_true]; rw [hc] at hb; exact hb

/-- A loop whose rounds are counted. -/
theorem runs_loop {σ : Type} {c : Code} {Q : Exit → St → Prop} (inv : σ → St) (J : Nat → σ → Prop) (N : Nat) (s0 : σ) (hJ : J 0 s0) (h0 : Fits st (inv s0))
    (hr : ∀ i s, i ≤ N → J i s → Runs P Γ c (inv s) (thenX (fun st' => ∃ s', i < N ∧ J (i + 1) s' ∧ Fits st' (inv s')) Q)) : Runs P Γ (.loop c) st Q := by
  intro a w hs
  have key : ∀ k i s a w, i + k = N → J i s → Sim Γ (inv s) a w → Code.rounds P c (fun e a' w' => ∃ st', Sim Γ st' a' w' ∧ Q e st') (k + 1) a w := by
    intro k
    induction k with
    | zero =>
      intro i s a w hi hj hs
      rw [rounds_succ]
      refine wp_mono (hr i s (by omega) hj a w hs) fun e a' w' ⟨st', h1, h2⟩ => ?_
      cases e with
      | normal => obtain ⟨s', h3, -⟩ := h2; exact absurd h3 (by omega)
      | _ => exact ⟨st', h1, h2⟩
    | succ k ih =>
      intro i s a w hi hj hs
      rw [rounds_succ]
      refine wp_mono (hr i s (by omega) hj a w hs) fun e a' w' ⟨st', h1, h2⟩ => ?_
      cases e with
      | normal => obtain ⟨s', h3, h4, h5⟩ := h2; exact ih (i + 1) s' a' w' (by omega) h4 (h5.sim h1)
      | _ => exact ⟨st', h1, h2⟩
  exact wp_loop_rounds _ (key N 0 s0 a w (by omega) hJ (h0.sim hs))

theorem info_of {t : TypeId} {i : TypeInfo} (h : P.types[t]? = some i) : P.info? t = some i := by
  have hlt := (Array.getElem?_eq_some_iff.1 h).1
  simp only [Tables.info?, if_pos hlt]; exact h
theorem tZero_of {t : TypeId} {i : TypeInfo} {v : Value} (h : P.types[t]? = some i) (hz : i.zero = some v) (hs : (v.cells.size == i.size) = true) : tZero P t = some (ofV v) := by
  simp only [tZero, info_of h, hz]
  rw [if_pos (by simpa using hs)]

/-- Fits, for lists that are written out. -/
def fitT (st : St) : List (Nat × X) → Prop
  | [] => True
  | (t, x) :: r => x = (st.look t).reset st ∧ fitT st r
def fitB (st : St) : List (Nat × Bx) → Prop
  | [] => True
  | (b, B) :: r => (B.bn = 0 ∧ B.ver = 0 ∧ B.c = (st.box b).c ∧ B.real = (st.box b).real) ∧ fitB st r
theorem fits_of {tm : List (Nat × X)} {bx : List (Nat × Bx)} (ht : fitT st tm) (hb : fitB st bx) : Fits st ⟨tm, bx⟩ := by
  refine ⟨fun t => ?_, fun b => ?_, fun b => ?_⟩
  · show lookT tm t = _ ∨ lookT tm t = _
    induction tm with
    | nil => exact .inl rfl
    | cons y r ih =>
      obtain ⟨k, x⟩ := y
      simp only [lookT]
      split
      · rename_i hk; subst hk; exact .inr ht.1
      · exact ih ht.2
  · show (lookB bx b).c = _ ∨ (lookB bx b).c = _ ∧ (lookB bx b).real = _
    induction bx with
    | nil => exact .inl rfl
    | cons y r ih =>
      obtain ⟨k, B⟩ := y
      simp only [lookB]
      split
      · rename_i hk; subst hk; exact .inr ⟨hb.1.2.2.1, hb.1.2.2.2⟩
      · exact ih hb.2
  · show (lookB bx b).bn = 0 ∧ (lookB bx b).ver = 0
    induction bx with
    | nil => exact ⟨rfl, rfl⟩
    | cons y r ih =>
      obtain ⟨k, B⟩ := y
      simp only [lookB]
      split
      · exact ⟨hb.1.1, hb.1.2.1⟩
      · exact ih hb.2

end Go.Proofs.Ytncjcbdbdocjaaa.Ax

/- Regions, some operations at a time, by computation. -/
namespace Go.Proofs.Ytncjcbdbdocjaaa.Ax
open Go

variable {P : Program} {Γ : Ctx} {st s2 : St} {cv : Nat → Option Nat} {ops : List Oper} {o : Oper} {r : List Oper} {l : List Oper} {K : St → Prop}

/-- A region's walk, closed to unfolding. -/
structure RegP (P : Program) (cv : Nat → Option Nat) (ops l : List Oper) (st : St) (K : St → Prop) : Prop where
  h : Reg P cv ops l st K
structure RegTP (P : Program) (cv : Nat → Option Nat) (ops l : List Oper) (st : St) (tr : List (Oper × Ent)) (K : St → List (Oper × Ent) → Prop) : Prop where
  h : RegT P cv ops l st tr K

/-- n operations: what is owed on the way, the state after them, what was laid. -/
def evalN (P : Program) (ops : List Oper) : Nat → List Oper → St → List (Oper × Ent) → Option (List Prop × St × List (Oper × Ent))
  | 0, _, st, tr => some ([], st, tr)
  | _ + 1, [], _, _ => none
  | n + 1, o :: r, st, tr =>
    match gd ops st o with
    | some true =>
      match evC (fun _ => none) st o with
      | some _ => none
      | none =>
        match evOp P st o with
        | .ok side x us => (evalN P ops n r (st.put o.dst x us) (tr ++ [(o, ent st o us)])).map fun y => (side :: y.1, y.2)
        | _ => none
    | some false => evalN P ops n r (st.put o.dst (.tup []) []) (tr ++ [(o, ent st o [])])
    | none => none
def sides : List Prop → Prop
  | [] => True
  | p :: r => p ∧ sides r
def evalS (P : Program) (ops : List Oper) (n : Nat) (l : List Oper) (st : St) : Option (List Prop × St) := (evalN P ops n l st []).map fun y => (y.1, y.2.1)
def evalT (P : Program) (ops : List Oper) (n : Nat) (l : List Oper) (st : St) (tr : List (Oper × Ent)) : List (Oper × Ent) := match evalN P ops n l st tr with | some y => y.2.2 | none => []

theorem evC_none {cv2 : Nat → Option Nat} (h : evC cv2 st o = none) : (∀ c, o.op = .call c → ∀ f, c.callee = .value f → False) ∨ True := .inr trivial

/-- Is it a call of a function? -/
def isCall (o : Oper) : Bool :=
  match o.op with
  | .call c => match c.callee with | .value _ => true | _ => false
  | _ => false
theorem evC_of_not {cv : Nat → Option Nat} (h : isCall o = false) : evC cv st o = none := by
  unfold isCall at h
  unfold evC
  cases ho : o.op with
  | call c =>
    simp only [ho] at h ⊢
    cases hc : c.callee with
    | value f => simp [hc] at h
    | _ => rfl
  | _ => rfl
theorem evOp_not {side : Prop} {x : X} {us : List (Nat × Bx)} (h : evOp P st o = .ok side x us) : isCall o = false := by
  unfold isCall
  cases ho : o.op with
  | call c =>
    simp only
    cases hc : c.callee with
    | value f => simp [evOp, ho, hc] at h
    | _ => rfl
  | _ => rfl

theorem evalN_tr : ∀ (n : Nat) (l : List Oper) (st : St) (tr tr2 : List (Oper × Ent)) {ps : List Prop} {s2 : St} {t2 : List (Oper × Ent)}, evalN P ops n l st tr = some (ps, s2, t2) →
    ∃ t3, evalN P ops n l st tr2 = some (ps, s2, t3)
  | 0, l, st, tr, tr2, ps, s2, t2, h => by
    simp only [evalN, Option.some.injEq, Prod.mk.injEq] at h
    obtain ⟨rfl, rfl, rfl⟩ := h
    exact ⟨tr2, rfl⟩
  | n + 1, [], st, tr, tr2, ps, s2, t2, h => by simp [evalN] at h
  | n + 1, o :: r, st, tr, tr2, ps, s2, t2, h => by
    simp only [evalN] at h ⊢
    split at h
    · split at h
      · simp at h
      · split at h
        · rename_i side x us _
          cases h1 : evalN P ops n r (st.put o.dst x us) (tr ++ [(o, ent st o us)]) with
          | none => simp [h1] at h
          | some y =>
            obtain ⟨y1, y2, y3⟩ := y
            simp only [h1, Option.map_some, Option.some.injEq, Prod.mk.injEq] at h
            obtain ⟨rfl, rfl, rfl⟩ := h
            obtain ⟨t3, h3⟩ := evalN_tr n r _ _ (tr2 ++ [(o, ent st o us)]) h1
            exact ⟨t3, by rw [h3]; rfl⟩
        · simp at h
    · exact evalN_tr n r _ _ _ h
    · simp at h

theorem Reg_one {x : X} {us : List (Nat × Bx)} {side : Prop} (hg : gd ops st o = some true) (he : evOp P st o = .ok side x us) (hs : side) (h : Reg P cv ops r (st.put o.dst x us) K) : Reg P cv ops (o :: r) st K := by
  have hC : evC cv st o = none := evC_of_not (evOp_not he)
  simp only [Reg]
  split
  · simp only [stepX, hC, he]; exact ⟨hs, h⟩
  · refine ⟨fun _ => by simp only [stepX, hC, he]; exact ⟨hs, h⟩, fun h0 => ?_, by rw [hg]; rfl⟩
    rw [hg] at h0; simp at h0
theorem Reg_skip (hg : gd ops st o = some false) (h : Reg P cv ops r (st.put o.dst (.tup []) []) K) : Reg P cv ops (o :: r) st K := by
  simp only [Reg]
  split
  · rename_i h0; simp [gd, h0] at hg
  · refine ⟨fun h0 => ?_, fun _ => h, by rw [hg]; rfl⟩
    rw [hg] at h0; simp at h0
theorem RegT_one {KT : St → List (Oper × Ent) → Prop} {tr : List (Oper × Ent)} {x : X} {us : List (Nat × Bx)} {side : Prop} (hg : gd ops st o = some true) (he : evOp P st o = .ok side x us) (hs : side)
    (h : RegT P cv ops r (st.put o.dst x us) (tr ++ [(o, ent st o us)]) KT) : RegT P cv ops (o :: r) st tr KT := by
  have hC : evC cv st o = none := evC_of_not (evOp_not he)
  simp only [RegT]
  split
  · simp only [stepX, hC, he]; exact ⟨hs, h⟩
  · refine ⟨fun _ => by simp only [stepX, hC, he]; exact ⟨hs, h⟩, fun h0 => ?_, by rw [hg]; rfl⟩
    rw [hg] at h0; simp at h0
theorem RegT_skip {KT : St → List (Oper × Ent) → Prop} {tr : List (Oper × Ent)} (hg : gd ops st o = some false) (h : RegT P cv ops r (st.put o.dst (.tup []) []) (tr ++ [(o, ent st o [])]) KT) : RegT P cv ops (o :: r) st tr KT := by
  simp only [RegT]
  split
  · rename_i h0; simp [gd, h0] at hg
  · refine ⟨fun h0 => ?_, fun _ => h, by rw [hg]; rfl⟩
    rw [hg] at h0; simp at h0

theorem Reg_evalN : ∀ (n : Nat) (l : List Oper) (st : St) (tr : List (Oper × Ent)) {ps : List Prop} {s2 : St} {t2 : List (Oper × Ent)}, evalN P ops n l st tr = some (ps, s2, t2) → sides ps →
    Reg P cv ops (l.drop n) s2 K → Reg P cv ops l st K
  | 0, l, st, tr, ps, s2, t2, h, hs, hr => by
    simp only [evalN, Option.some.injEq, Prod.mk.injEq] at h
    obtain ⟨rfl, rfl, rfl⟩ := h
    exact hr
  | n + 1, [], st, tr, ps, s2, t2, h, hs, hr => by simp [evalN] at h
  | n + 1, o :: r, st, tr, ps, s2, t2, h, hs, hr => by
    simp only [evalN] at h
    split at h
    · rename_i hg
      split at h
      · simp at h
      · split at h
        · rename_i side x us he
          cases h1 : evalN P ops n r (st.put o.dst x us) (tr ++ [(o, ent st o us)]) with
          | none => simp [h1] at h
          | some y =>
            obtain ⟨y1, y2, y3⟩ := y
            simp only [h1, Option.map_some, Option.some.injEq, Prod.mk.injEq] at h
            obtain ⟨rfl, rfl, rfl⟩ := h
            exact Reg_one hg he hs.1 (Reg_evalN n r _ _ h1 hs.2 hr)
        · simp at h
    · rename_i hg
      exact Reg_skip hg (Reg_evalN n r _ _ h hs hr)
    · simp at h
theorem RegT_evalN {KT : St → List (Oper × Ent) → Prop} : ∀ (n : Nat) (l : List Oper) (st : St) (tr : List (Oper × Ent)) {ps : List Prop} {s2 : St} {t2 : List (Oper × Ent)}, evalN P ops n l st tr = some (ps, s2, t2) → sides ps →
    RegT P cv ops (l.drop n) s2 t2 KT → RegT P cv ops l st tr KT
  | 0, l, st, tr, ps, s2, t2, h, hs, hr => by
    simp only [evalN, Option.some.injEq, Prod.mk.injEq] at h
    obtain ⟨rfl, rfl, rfl⟩ := h
    exact hr
  | n + 1, [], st, tr, ps, s2, t2, h, hs, hr => by simp [evalN] at h
  | n + 1, o :: r, st, tr, ps, s2, t2, h, hs, hr => by
    simp only [evalN] at h
    split at h
    · rename_i hg
      split at h
      · simp at h
      · split at h
        · rename_i side x us he
          cases h1 : evalN P ops n r (st.put o.dst x us) (tr ++ [(o, ent st o us)]) with
          | none => simp [h1] at h
          | some y =>
            obtain ⟨y1, y2, y3⟩ := y
            simp only [h1, Option.map_some, Option.some.injEq, Prod.mk.injEq] at h
            obtain ⟨rfl, rfl, rfl⟩ := h
            exact RegT_one hg he hs.1 (RegT_evalN n r _ _ h1 hs.2 hr)
        · simp at h
    · rename_i hg
      exact RegT_skip hg (RegT_evalN n r _ _ h hs hr)
    · simp at h

theorem region_of {id : Nat} {l : Array Oper} {Q : Exit → St → Prop} (hd : regD Γ.n l = true) (h : RegP P cv l.toList (l.toList.drop 0) st (Q .normal)) : Runs P Γ (.region id l false) st Q := runs_region hd h.h
theorem draw_of {id : Nat} {l : Array Oper} {Q : Exit → St → Prop} (hm : P.follows .mixedOrders = true) (hd : regD Γ.n l = true) (hf : fwdGo 0 l.toList = true)
    (h : RegTP P cv l.toList (l.toList.drop 0) st [] fun st' tr => pairsOK l.toList (anc l.toList) 0 tr = true ∧ Q .normal st') : Runs P Γ (.region id l true) st Q := runs_draw hm hd hf h.h

/-- Some operations, none of them a call. -/
theorem reg_ops (k n : Nat) {ps : List Prop} (he : evalS P ops n (l.drop k) st = some (ps, s2)) (hs : sides ps) (h : RegP P cv ops (l.drop (k + n)) s2 K) : RegP P cv ops (l.drop k) st K := by
  unfold evalS at he
  cases h1 : evalN P ops n (l.drop k) st [] with
  | none => simp [h1] at he
  | some y =>
    obtain ⟨y1, y2, y3⟩ := y
    simp only [h1, Option.map_some, Option.some.injEq, Prod.mk.injEq] at he
    obtain ⟨rfl, rfl⟩ := he
    refine ⟨Reg_evalN n _ _ _ h1 hs ?_⟩
    rw [List.drop_drop]; exact h.h
theorem regT_ops (k n : Nat) {KT : St → List (Oper × Ent) → Prop} {tr : List (Oper × Ent)} {ps : List Prop} (he : evalS P ops n (l.drop k) st = some (ps, s2)) (hs : sides ps)
    (h : RegTP P cv ops (l.drop (k + n)) s2 (evalT P ops n (l.drop k) st tr) KT) : RegTP P cv ops (l.drop k) st tr KT := by
  unfold evalS at he
  cases h1 : evalN P ops n (l.drop k) st [] with
  | none => simp [h1] at he
  | some y =>
    obtain ⟨y1, y2, y3⟩ := y
    simp only [h1, Option.map_some, Option.some.injEq, Prod.mk.injEq] at he
    obtain ⟨rfl, rfl⟩ := he
    obtain ⟨t3, h3⟩ := evalN_tr n (l.drop k) st [] tr h1
    have ht : evalT P ops n (l.drop k) st tr = t3 := by simp only [evalT, h3]
    refine ⟨RegT_evalN n _ _ _ h3 hs ?_⟩
    rw [List.drop_drop, ← ht]; exact h.h

/-- A call, its contract known. -/
def callAt (cv : Nat → Option Nat) (ops : List Oper) (l : List Oper) (st : St) (y out : X) : Option (Nat × List X × St × List (Nat × Bx)) :=
  match l with
  | o :: _ =>
    match gd ops st o with
    | some true => match evC cv st o with | some (g, ts, k) => (k y out).map fun z => (g, ts, st.put o.dst z.1 z.2, z.2) | none => none
    | _ => none
  | [] => none
def callS (cv : Nat → Option Nat) (ops : List Oper) (l : List Oper) (st : St) (y out : X) : Option (Nat × List X × St) := (callAt cv ops l st y out).map fun z => (z.1, z.2.1, z.2.2.1)
def callT (cv : Nat → Option Nat) (ops : List Oper) (l : List Oper) (st : St) (y out : X) (tr : List (Oper × Ent)) : List (Oper × Ent) :=
  match l, callAt cv ops l st y out with
  | o :: _, some z => tr ++ [(o, ent st o z.2.2.2)]
  | _, _ => []
theorem callAt_some {y out : X} {g : Nat} {ts : List X} {us : List (Nat × Bx)} (h : callAt cv ops l st y out = some (g, ts, s2, us)) : ∃ o r k x, l = o :: r ∧ gd ops st o = some true ∧ evC cv st o = some (g, ts, k) ∧ k y out = some (x, us) ∧
    s2 = st.put o.dst x us := by
  unfold callAt at h
  cases l with
  | nil => simp at h
  | cons o r =>
    simp only at h
    split at h
    · rename_i hg
      split at h
      · rename_i g' ts' k' he
        cases hk : k' y out with
        | none => simp [hk] at h
        | some z =>
          simp only [hk, Option.map_some, Option.some.injEq, Prod.mk.injEq] at h
          obtain ⟨rfl, rfl, rfl, rfl⟩ := h
          exact ⟨o, r, k', z.1, rfl, hg, he, hk, rfl⟩
      · simp at h
    · simp at h
theorem callS_some {y out : X} {g : Nat} {ts : List X} (h : callS cv ops l st y out = some (g, ts, s2)) : ∃ us, callAt cv ops l st y out = some (g, ts, s2, us) := by
  unfold callS at h
  cases h1 : callAt cv ops l st y out with
  | none => simp [h1] at h
  | some z =>
    obtain ⟨z1, z2, z3, z4⟩ := z
    simp only [h1, Option.map_some, Option.some.injEq, Prod.mk.injEq] at h
    obtain ⟨rfl, rfl, rfl⟩ := h
    exact ⟨z4, rfl⟩
theorem reg_call (k : Nat) {y out : X} {g : Nat} {ts : List X} (he : callS cv ops (l.drop k) st y out = some (g, ts, s2)) (hsp : Spec P g (cv g) ts y out) (h : RegP P cv ops (l.drop (k + 1)) s2 K) : RegP P cv ops (l.drop k) st K := by
  obtain ⟨us, hc⟩ := callS_some he
  obtain ⟨o, r, k', x, hl, hg, hC, hk, rfl⟩ := callAt_some hc
  have hr : l.drop (k + 1) = r := by rw [← List.drop_drop, hl]; rfl
  rw [hl]
  rw [hr] at h
  refine ⟨?_⟩
  have hst : stepX P cv st o fun x us => Reg P cv ops r (st.put o.dst x us) K := by
    simp only [stepX, hC]; exact ⟨y, out, hsp, x, us, hk, h.h⟩
  simp only [Reg]
  split
  · exact hst
  · refine ⟨fun _ => hst, fun h0 => ?_, by rw [hg]; rfl⟩
    rw [hg] at h0; simp at h0
theorem regT_call (k : Nat) {KT : St → List (Oper × Ent) → Prop} {tr : List (Oper × Ent)} {y out : X} {g : Nat} {ts : List X} (he : callS cv ops (l.drop k) st y out = some (g, ts, s2)) (hsp : Spec P g (cv g) ts y out)
    (h : RegTP P cv ops (l.drop (k + 1)) s2 (callT cv ops (l.drop k) st y out tr) KT) : RegTP P cv ops (l.drop k) st tr KT := by
  obtain ⟨us, hc⟩ := callS_some he
  have htr : ∀ o r, l.drop k = o :: r → callT cv ops (l.drop k) st y out tr = tr ++ [(o, ent st o us)] := fun o r hl => by
    unfold callT; rw [hc, hl]
  obtain ⟨o, r, k', x, hl, hg, hC, hk, rfl⟩ := callAt_some hc
  have hr : l.drop (k + 1) = r := by rw [← List.drop_drop, hl]; rfl
  rw [htr o r hl, hr] at h
  rw [hl]
  refine ⟨?_⟩
  have hst : stepX P cv st o fun x us => RegT P cv ops r (st.put o.dst x us) (tr ++ [(o, ent st o us)]) KT := by
    simp only [stepX, hC]; exact ⟨y, out, hsp, x, us, hk, h.h⟩
  simp only [RegT]
  split
  · exact hst
  · refine ⟨fun _ => hst, fun h0 => ?_, by rw [hg]; rfl⟩
    rw [hg] at h0; simp at h0
theorem reg_end (k : Nat) (hk : l.drop k = []) (h : K st) : RegP P cv ops (l.drop k) st K := by rw [hk]; exact ⟨h⟩
theorem regT_end (k : Nat) {KT : St → List (Oper × Ent) → Prop} {tr : List (Oper × Ent)} (hk : l.drop k = []) (h : KT st tr) : RegTP P cv ops (l.drop k) st tr KT := by rw [hk]; exact ⟨h⟩
/-- A truth value is told apart. -/
theorem same_bool {t : Nat} {b c : Bool} (h : st.look t = .sc (.bool b)) (hb : b = c) : Same (st.put (some t) (.sc (.bool c)) []) st := by
  subst hb
  refine ⟨fun t' => ?_, fun b' => rfl⟩
  rw [put_look]
  split
  · rename_i he; cases he; exact h
  · rfl

end Go.Proofs.Ytncjcbdbdocjaaa.Ax

/- Steps with something owed: places in lists that are not written out, calls. -/
namespace Go.Proofs.Ytncjcbdbdocjaaa.Ax
open Go

variable {P : Program} {Γ : Ctx} {st s2 : St} {cv : Nat → Option Nat} {ops : List Oper} {o : Oper} {r : List Oper} {l : List Oper} {K : St → Prop}

/-- One operation, what it gives being given; what is owed is said. -/
def oneAt (P : Program) (ops : List Oper) (e : X) (l : List Oper) (st : St) : Option (List Prop × X × List (Nat × Bx)) :=
  match l with
  | [] => none
  | o :: _ =>
    match gd ops st o with
    | some true =>
      match o.op with
      | .indexAddr t x i =>
        match st.opd i, st.slE (st.opd x), tElem P t with
        | .sc (.int _ n), some es, some et =>
          match st.opd x with
          | .sl 0 _ => some ([es[n.toNat]? = some e, 0 ≤ n, e.cells.length = tSize P et], .rp e 0, [])
          | .view b ver p c => some ([es[n.toNat]? = some e, 0 ≤ n, e.cells.length = tSize P et], .ep b ver (p ++ [(c, n.toNat)]) 0, [])
          | _ => none
        | _, _, _ => none
      | .index t x i =>
        match st.opd x, st.opd i, e with
        | .sc (.string s), .sc (.int _ n), .sc (.int .u8 b) => if tIsStr P t = true then some ([0 ≤ n, (s.data[n.toNat]?).map (fun u : UInt8 => (u.toNat : Int)) = some b], .sc (.int .u8 b), []) else none
        | _, _, _ => none
      | .load t a =>
        match tAgg P t, st.opd a with
        | some ag, .ep b ver p off =>
          match (st.box b).c with
          | some c =>
            if (st.box b).ver = ver ∧ off + tSize P t ≤ e.cells.length then some ([c.nav p = some e], mkAgg ag (loadCells' b ver p off (slice' e.cells off (tSize P t))), []) else none
          | none => none
        | _, _ => none
      | _ => none
    | _ => none
def oneS (P : Program) (ops : List Oper) (e : X) (l : List Oper) (st : St) : Option (List Prop × St) :=
  match l, oneAt P ops e l st with
  | o :: _, some y => some (y.1, st.put o.dst y.2.1 y.2.2)
  | _, _ => none
def oneT (P : Program) (ops : List Oper) (e : X) (l : List Oper) (st : St) (tr : List (Oper × Ent)) : List (Oper × Ent) :=
  match l, oneAt P ops e l st with
  | o :: _, some y => tr ++ [(o, ent st o y.2.2)]
  | _, _ => []
theorem oneAt_ok {e : X} {ps : List Prop} {x : X} {us : List (Nat × Bx)} (h : oneAt P ops e l st = some (ps, x, us)) (hs : sides ps) : ∃ o r, l = o :: r ∧ gd ops st o = some true ∧ ∃ side : Prop, evOp P st o = .ok side x us ∧ side := by
  unfold oneAt at h
  cases l with
  | nil => simp at h
  | cons o r =>
    simp only at h
    split at h
    · rename_i hg
      refine ⟨o, r, rfl, hg, ?_⟩
      split at h
      · rename_i t y i ho
        split at h
        · rename_i n es et h1 h2 h3
          split at h
          · rename_i h4
            simp only [Option.some.injEq, Prod.mk.injEq] at h
            obtain ⟨rfl, rfl, rfl⟩ := h
            obtain ⟨q1, q2, q3, -⟩ := hs
            refine ⟨0 ≤ n ∧ e.cells.length = tSize P et, ?_, q2, q3⟩
            rw [h4] at h2
            simp only [evOp, ho, evIndexAddr, h1, h2, q1, h4, h3, Option.isSome_some, if_true, Option.map_some, Option.getD_some]
          · rename_i h4
            simp only [Option.some.injEq, Prod.mk.injEq] at h
            obtain ⟨rfl, rfl, rfl⟩ := h
            obtain ⟨q1, q2, q3, -⟩ := hs
            refine ⟨0 ≤ n ∧ e.cells.length = tSize P et, ?_, q2, q3⟩
            rw [h4] at h2
            simp only [evOp, ho, evIndexAddr, h1, h2, q1, h4, h3, Option.isSome_some, if_true, Option.map_some, Option.getD_some]
          · simp at h
        · simp at h
      · rename_i t y i ho
        split at h
        · rename_i s kk n b h1 h2
          split at h
          · rename_i h3
            simp only [Option.some.injEq, Prod.mk.injEq] at h
            obtain ⟨rfl, rfl, rfl⟩ := h
            obtain ⟨q1, q2, -⟩ := hs
            cases hb : s.data[n.toNat]? with
            | none => simp [hb] at q2
            | some u =>
              simp only [hb, Option.map_some, Option.some.injEq] at q2
              subst q2
              refine ⟨0 ≤ n, ?_, q1⟩
              simp only [evOp, ho, h1, h2, evIndex, h3, hb, Bool.true_eq_false, if_false]
          · simp at h
        · simp at h
      · rename_i t y ho
        split at h
        · rename_i ag b ver p off h1 h2
          split at h
          · rename_i c hc
            split at h
            · rename_i hcond
              simp only [Option.some.injEq, Prod.mk.injEq] at h
              obtain ⟨rfl, rfl, rfl⟩ := h
              obtain ⟨q1, -⟩ := hs
              refine ⟨True, ?_, trivial⟩
              simp only [evOp, ho, evLoad, h1, h2, hc, q1, if_pos hcond]
            · simp at h
          · simp at h
        · simp at h
      · simp at h
    · simp at h
theorem reg_one (k : Nat) (e : X) {ps : List Prop} (he : oneS P ops e (l.drop k) st = some (ps, s2)) (hs : sides ps) (h : RegP P cv ops (l.drop (k + 1)) s2 K) : RegP P cv ops (l.drop k) st K := by
  unfold oneS at he
  split at he
  · rename_i o r y hl hy
    simp only [Option.some.injEq, Prod.mk.injEq] at he
    obtain ⟨rfl, rfl⟩ := he
    obtain ⟨y1, y2, y3⟩ := y
    obtain ⟨o', r', hl', hg, side, hev, hsd⟩ := oneAt_ok hy hs
    rw [hl] at hl'
    simp only [List.cons.injEq] at hl'
    obtain ⟨rfl, rfl⟩ := hl'
    have hr : l.drop (k + 1) = r := by rw [← List.drop_drop, hl]; rfl
    rw [hl]; rw [hr] at h
    exact ⟨Reg_one hg hev hsd h.h⟩
  · simp at he
theorem regT_one (k : Nat) (e : X) {KT : St → List (Oper × Ent) → Prop} {tr : List (Oper × Ent)} {ps : List Prop} (he : oneS P ops e (l.drop k) st = some (ps, s2)) (hs : sides ps)
    (h : RegTP P cv ops (l.drop (k + 1)) s2 (oneT P ops e (l.drop k) st tr) KT) : RegTP P cv ops (l.drop k) st tr KT := by
  unfold oneS at he
  unfold oneT at h
  split at he
  · rename_i o r y hl hy
    simp only [Option.some.injEq, Prod.mk.injEq] at he
    obtain ⟨rfl, rfl⟩ := he
    obtain ⟨y1, y2, y3⟩ := y
    obtain ⟨o', r', hl', hg, side, hev, hsd⟩ := oneAt_ok hy hs
    rw [hl] at hl'
    simp only [List.cons.injEq] at hl'
    obtain ⟨rfl, rfl⟩ := hl'
    have hr : l.drop (k + 1) = r := by rw [← List.drop_drop, hl]; rfl
    simp only [hl] at h hy ⊢
    simp only [hy] at h
    rw [hr] at h
    exact ⟨RegT_one hg hev hsd h.h⟩
  · simp at he

/-- A call whose arguments' trees are given. -/
def calAt (cv : Nat → Option Nat) (ops : List Oper) (l : List Oper) (st : St) (ts : List X) (y out : X) : Option (List Prop × Nat × X × List (Nat × Bx)) :=
  match l with
  | [] => none
  | o :: _ =>
    match gd ops st o with
    | some true =>
      match o.op with
      | .call c =>
        match c.callee with
        | .value f =>
          match st.opd f with
          | .sc (.func (.func g) fs cs) =>
            if fs.isEmpty && cs.isEmpty then
              (st.backs (cv g) (c.args.toList.map st.opd) out).map fun us =>
                ([st.args (cv g) (c.args.toList.map st.opd) = some ts, (rootsBut (cv g) 0 (c.args.toList.map st.opd) && !(y.noRo && out.noRo)) = false], g,
                  (St.inst (st.withB us) (fun _ => 1) (o.dst.getD 8999) y 0).1, (St.inst (st.withB us) (fun _ => 1) (o.dst.getD 8999) y 0).2.1 ++ us)
            else none
          | _ => none
        | _ => none
      | _ => none
    | _ => none
theorem calAt_ok {ts : List X} {y out : X} {ps : List Prop} {g : Nat} {x : X} {us : List (Nat × Bx)} (h : calAt cv ops l st ts y out = some (ps, g, x, us)) (hs : sides ps) :
    callAt cv ops l st y out = some (g, ts, (match l with | o :: _ => st.put o.dst x us | [] => st), us) := by
  unfold calAt at h
  cases l with
  | nil => simp at h
  | cons o r =>
    simp only at h
    split at h
    · rename_i hg
      split at h
      · rename_i c ho
        split at h
        · rename_i f hc
          split at h
          · rename_i g' fs cs hf
            split at h
            · rename_i hem
              cases hb : st.backs (cv g') (c.args.toList.map st.opd) out with
              | none => simp [hb] at h
              | some us0 =>
                simp only [hb, Option.map_some, Option.some.injEq, Prod.mk.injEq] at h
                obtain ⟨rfl, rfl, rfl, rfl⟩ := h
                obtain ⟨q1, q2, -⟩ := hs
                simp only [callAt, hg, evC, ho, hc, hf, hem, if_true, evCall, q1, q2, Bool.false_eq_true, if_false, hb, Option.map_some]
            · simp at h
          · simp at h
        · simp at h
      · simp at h
    · simp at h
def calS (cv : Nat → Option Nat) (ops : List Oper) (l : List Oper) (st : St) (ts : List X) (y out : X) : Option (List Prop × Nat × St) :=
  match l, calAt cv ops l st ts y out with
  | o :: _, some z => some (z.1, z.2.1, st.put o.dst z.2.2.1 z.2.2.2)
  | _, _ => none
def calT (cv : Nat → Option Nat) (ops : List Oper) (l : List Oper) (st : St) (ts : List X) (y out : X) (tr : List (Oper × Ent)) : List (Oper × Ent) :=
  match l, calAt cv ops l st ts y out with
  | o :: _, some z => tr ++ [(o, ent st o z.2.2.2)]
  | _, _ => []
theorem calS_ok {ts : List X} {y out : X} {ps : List Prop} {g : Nat} (h : calS cv ops l st ts y out = some (ps, g, s2)) (hs : sides ps) : callS cv ops l st y out = some (g, ts, s2) ∧
    ∀ tr, callT cv ops l st y out tr = calT cv ops l st ts y out tr := by
  unfold calS at h
  split at h
  · rename_i o r z hz
    obtain ⟨z1, z2, z3, z4⟩ := z
    simp only [Option.some.injEq, Prod.mk.injEq] at h
    obtain ⟨rfl, rfl, rfl⟩ := h
    have := calAt_ok hz hs
    refine ⟨by simp only [callS, this, Option.map_some], fun tr => ?_⟩
    simp only [callT, calT, this, hz]
  · simp at h
theorem reg_cal (k : Nat) {ts : List X} {y out : X} {ps : List Prop} {g : Nat} (hsp : Spec P g (cv g) ts y out) (he : calS cv ops (l.drop k) st ts y out = some (ps, g, s2)) (hs : sides ps)
    (h : RegP P cv ops (l.drop (k + 1)) s2 K) : RegP P cv ops (l.drop k) st K := reg_call k (calS_ok he hs).1 hsp h
theorem regT_cal (k : Nat) {KT : St → List (Oper × Ent) → Prop} {tr : List (Oper × Ent)} {ts : List X} {y out : X} {ps : List Prop} {g : Nat} (hsp : Spec P g (cv g) ts y out)
    (he : calS cv ops (l.drop k) st ts y out = some (ps, g, s2)) (hs : sides ps) (h : RegTP P cv ops (l.drop (k + 1)) s2 (calT cv ops (l.drop k) st ts y out tr) KT) : RegTP P cv ops (l.drop k) st tr KT :=
  regT_call k (calS_ok he hs).1 hsp (by rw [(calS_ok he hs).2]; exact h)

theorem cond_true {c : Operand} {x y : Code} {Q : Exit → St → Prop} (hc : st.opd c = .sc (.bool true)) (h : Runs P Γ x st Q) : Runs P Γ (.cond c x y) st Q := runs_cond hc (fun _ => h) (fun h => by cases h)
theorem cond_false {c : Operand} {x y : Code} {Q : Exit → St → Prop} (hc : st.opd c = .sc (.bool false)) (h : Runs P Γ y st Q) : Runs P Γ (.cond c x y) st Q := runs_cond hc (fun h => by cases h) (fun _ => h)

end Go.Proofs.Ytncjcbdbdocjaaa.Ax

/- Lengths are bounded; counted loops. -/
namespace Go.Proofs.Ytncjcbdbdocjaaa.Ax
open Go

variable {P : Program} {Γ : Ctx} {st s2 : St} {a : Act} {w w' : World} {LB LB' : Nat → Option BL} {S : Nat → Prop}

theorem slE_len (h : SimL Γ st a w LB S) {x : X} {v : Value} {es : List X} (hx : TRel st.box LB w S x v) (he : st.slE x = some es) : es.length ≤ maxLen := by
  cases x with
  | sl t es' =>
    cases t with
    | zero =>
      simp only [St.slE, Option.some.injEq] at he; subst he
      have hr : Ro w S (.sl 0 es') v := hx
      cases hr with
      | nil => simp
      | sl g o n cap sz es f h1 h2 hmx h3 h4 h5 h6 h7 => omega
    | succ t => simp [St.slE] at he
  | sc u =>
    unfold St.slE at he
    split at he
    · rename_i heq; cases heq
    · simp only [Option.some.injEq] at he; subst he; simp
    · rename_i heq; cases heq
    · simp at he
  | view b ver p c =>
    simp only [St.slE] at he
    cases hsl : slAt (st.box b) ver p c with
    | none => simp [hsl] at he
    | some te =>
      obtain ⟨tg, es1⟩ := te
      simp only [hsl, Option.map_some, Option.some.injEq] at he
      subst he
      obtain ⟨hv, x0, e0, hc0, hn0, he0⟩ := slAt_some hsl
      obtain ⟨B, hBb, her, hreal, hm⟩ := (h.bx b).get hc0
      subst her
      rw [L.nav_er] at hn0
      cases hln : B.c.nav p with
      | none => simp [hln] at hn0
      | some le =>
        simp only [hln, Option.map_some, Option.some.injEq] at hn0
        subst hn0
        rw [L.er_cells, List.getElem?_map] at he0
        cases hcc : le.cells[c]? with
        | none => simp [hcc] at he0
        | some lc =>
          simp only [hcc, Option.map_some, Option.some.injEq] at he0
          obtain ⟨hh, ls, rfl, hls⟩ := L.er_own_iff he0
          have hlm := L.nav_mem p B.c hm.2 hln
          have hom := L.mem_cells hlm _ (List.mem_of_getElem? hcc)
          rw [← hls, List.length_map]
          cases hh with
          | none => have : ls = [] := hom; subst this; simp
          | some gc =>
            obtain ⟨g, cap⟩ := gc
            obtain ⟨sz, k1, k2, k3, k4⟩ := row_cell hom.1
            omega
  | _ => simp [St.slE] at he

/-- Whatever lies in memory is no longer than Go allows. -/
theorem runs_len {c : Code} {Q : Exit → St → Prop} (t : Nat) {es : List X} (he : st.slE (st.look t) = some es) (h : es.length ≤ maxLen → Runs P Γ c st Q) : Runs P Γ c st Q := by
  intro a w hs
  obtain ⟨LB, S, hs'⟩ := hs
  exact h (slE_len hs' (hs'.tm t) he) a w ⟨LB, S, hs'⟩

/-- A loop that counts. -/
theorem runs_for {c : Code} {Q : Exit → St → Prop} (inv : Nat → St) (J : Nat → Prop) (N : Nat) (hJ : J 0) (h0 : Fits st (inv 0))
    (hr : ∀ i, i ≤ N → J i → Runs P Γ c (inv i) (thenX (fun st' => i < N ∧ J (i + 1) ∧ Fits st' (inv (i + 1))) Q)) : Runs P Γ (.loop c) st Q :=
  runs_loop (fun i : Nat => inv i) (fun i s => s = i ∧ J i) N 0 ⟨rfl, hJ⟩ h0 fun i s hi hs => by
    obtain ⟨rfl, hs⟩ := hs
    exact (hr s hi hs).mono fun e st' he => by
      cases e with
      | normal => exact ⟨s + 1, he.1, ⟨rfl, he.2.1⟩, he.2.2⟩
      | _ => exact he

theorem wrap_nat {n : Nat} (h : n ≤ maxLen) : IntKind.i64.wrap (n : Int) = n := by
  have h2 : n ≤ 9223372036854775807 := h
  rw [IntKind.wrap_i64]; omega
theorem idx_succ {i n : Nat} (h : i < n) (hn : n ≤ maxLen) : X.sc (.int .i64 ((i + 1 : Nat) : Int)) = X.sc (.int .i64 (IntKind.i64.wrap ((i : Int) + 1))) := by
  rw [show ((i : Int) + 1) = ((i + 1 : Nat) : Int) by omega, wrap_nat (by omega)]

/-- Some temporaries and boxes alone; the numbers begin anew. -/
def onlyT (st : St) : List Nat → List (Nat × X)
  | [] => []
  | t :: r => (t, (st.look t).reset st) :: onlyT st r
def onlyB (st : St) : List Nat → List (Nat × Bx)
  | [] => []
  | b :: r => (b, ⟨0, 0, (st.box b).real, (st.box b).c⟩) :: onlyB st r
def St.only (st : St) (ts bs : List Nat) : St := ⟨onlyT st ts, onlyB st bs⟩
theorem fits_only (st : St) (ts bs : List Nat) : Fits st (st.only ts bs) := by
  refine fits_of ?_ ?_
  · induction ts with
    | nil => trivial
    | cons t r ih => exact ⟨rfl, ih⟩
  · induction bs with
    | nil => trivial
    | cons t r ih => exact ⟨⟨rfl, rfl, rfl, rfl⟩, ih⟩
theorem fits_eq (ts bs : List Nat) {s3 : St} (he : st.only ts bs = s2) (h : s2 = s3) : Fits st s3 := by subst h; subst he; exact fits_only st ts bs
theorem runs_only {c : Code} {Q : Exit → St → Prop} (ts bs : List Nat) (he : st.only ts bs = s2) (h : Runs P Γ c s2 Q) : Runs P Γ c st Q :=
  fun a w hs => h a w ((fits_eq ts bs he rfl).sim hs)
theorem runs_eq {c : Code} {Q : Exit → St → Prop} (he : st = s2) (h : Runs P Γ c s2 Q) : Runs P Γ c st Q := by subst he; exact h

theorem block_here {id : Nat} {Q : Exit → St → Prop} (h : Q .normal st) : blockX id Q (.exit id) st := by simpa [blockX] using h
theorem block_pass {id i : Nat} {Q : Exit → St → Prop} (hi : Nat.beq i id = false) (h : Q (.exit i) st) : blockX id Q (.exit i) st := by
  have : i ≠ id := by rintro rfl; simp at hi
  simpa [blockX, this] using h
theorem ret_end {fn : Func} {k : Option Nat} {args : List X} {r r' out out' : X} (e : Exit) (he : e = .normal ∨ e = .ret) (h : retX P fn k args st = some (r', out')) (hr : r' = r) (ho : out' = out) :
    (e = .normal ∨ e = .ret) ∧ retX P fn k args st = some (r, out) := by subst hr; subst ho; exact ⟨he, h⟩

theorem sides_true : ∀ n, sides (List.replicate n True)
  | 0 => trivial
  | n + 1 => ⟨trivial, sides_true n⟩
theorem reg_opsT {cv : Nat → Option Nat} {ops l : List Oper} {K : St → Prop} (k n : Nat) (he : evalS P ops n (l.drop k) st = some (List.replicate n True, s2)) (h : RegP P cv ops (l.drop (k + n)) s2 K) : RegP P cv ops (l.drop k) st K :=
  reg_ops k n he (sides_true n) h
theorem regT_opsT {cv : Nat → Option Nat} {ops l : List Oper} {tr : List (Oper × Ent)} {KT : St → List (Oper × Ent) → Prop} (k n : Nat) (he : evalS P ops n (l.drop k) st = some (List.replicate n True, s2))
    (h : RegTP P cv ops (l.drop (k + n)) s2 (evalT P ops n (l.drop k) st tr) KT) : RegTP P cv ops (l.drop k) st tr KT :=
  regT_ops k n he (sides_true n) h
/-- An element of a list, by its number. -/
def at_ {α : Type} [Inhabited α] (l : List α) (i : Nat) : α := l.getD i default
theorem at_map {α : Type} [Inhabited α] {f : α → X} {l : List α} {i : Nat} (h : i < l.length) : (l.map f)[i]? = some (f (at_ l i)) := by
  simp [at_, List.getD_eq_getElem?_getD, h]
theorem at_int {α : Type} [Inhabited α] {f : α → X} {l : List α} {i : Nat} (h : i < l.length) : (l.map f)[(i : Int).toNat]? = some (f (at_ l i)) := at_map h

theorem all_succ {p : Nat → Prop} {i : Nat} (h : ∀ j, j < i → p j) (hi : p i) : ∀ j, j < i + 1 → p j := by
  intro j hj
  by_cases he : j = i
  · subst he; exact hi
  · exact h j (by omega)
theorem all_zero {p : Nat → Prop} : ∀ j, j < 0 → p j := fun j h => absurd h (by omega)

theorem thenX_exit {K : St → Prop} {Q : Exit → St → Prop} {i : Nat} (h : Q (.exit i) st) : thenX K Q (.exit i) st := h

theorem fnil {p : X → Prop} : ∀ y ∈ ([] : List X), p y := by simp
theorem fall {p : X → Prop} {x : X} {l : List X} (h : p x) (t : ∀ y ∈ l, p y) : ∀ y ∈ x :: l, p y := by
  intro y hy
  rcases List.mem_cons.1 hy with rfl | hy
  · exact h
  · exact t y hy
theorem fmap {α : Type} {f : α → X} {n : Nat} {l : List α} (h : ∀ a, (f a).cells.length = n) : ∀ y ∈ l.map f, y.cells.length = n := by
  intro y hy
  obtain ⟨a, -, rfl⟩ := List.mem_map.1 hy
  exact h a
theorem fapp {p : X → Prop} {l r : List X} (h : ∀ y ∈ l, p y) (t : ∀ y ∈ r, p y) : ∀ y ∈ l ++ r, p y := by
  intro y hy
  rcases List.mem_append.1 hy with hy | hy
  · exact h y hy
  · exact t y hy
theorem frep {n k : Nat} {x : X} (h : x.cells.length = n) : ∀ y ∈ List.replicate k x, y.cells.length = n := by
  intro y hy
  rw [(List.mem_replicate.1 hy).2]; exact h

end Go.Proofs.Ytncjcbdbdocjaaa.Ax

/- What a join or a loop forgets: boxes renamed, owners' tags dropped, nil slices laid; the loop rule. -/
namespace Go.Proofs.Ytncjcbdbdocjaaa.Ax
open Go

variable {P : Program} {Γ : Ctx} {st s2 s3 : St} {a : Act} {w w' : World} {LB LB' : Nat → Option BL} {S : Nat → Prop}

/-- Whatever fits st fits s2. -/
def Wk (st s2 : St) : Prop := ∀ (Γ : Ctx) (a : Act) (w : World), Sim Γ st a w → Sim Γ s2 a w
theorem Wk.refl (st : St) : Wk st st := fun _ _ _ h => h
theorem Wk.trans (h : Wk st s2) (k : Wk s2 s3) : Wk st s3 := fun Γ a w x => k Γ a w (h Γ a w x)
theorem runs_wk {c : Code} {Q : Exit → St → Prop} (h : Wk st s2) (hr : Runs P Γ c s2 Q) : Runs P Γ c st Q := fun a w hs => hr a w (h Γ a w hs)

/-- Boxes: the new name, the old one, whether tags go. -/
def renB : List (Nat × Nat × Bool) → Nat → Option Nat
  | [], _ => none
  | (n, o, _) :: r, b => if o = b then some n else renB r b
def findN : List (Nat × Nat × Bool) → Nat → Option (Nat × Bool)
  | [], _ => none
  | (n, o, u) :: r, b => if n = b then some (o, u) else findN r b
def X.re1 (st : St) (bs : List (Nat × Nat × Bool)) : X → X
  | .ptr b bn off => if (st.box b).bn = bn ∧ (st.box b).c.isSome = true then (match renB bs b with | some n => .ptr n 0 off | none => .junk) else .junk
  | .view b ver p c => if (st.box b).ver = ver ∧ (st.box b).c.isSome = true then (match renB bs b with | some n => .view n 0 p c | none => .junk) else .junk
  | .ep b ver p off => if (st.box b).ver = ver ∧ (st.box b).c.isSome = true then (match renB bs b with | some n => .ep n 0 p off | none => .junk) else .junk
  | .sc v => .sc v
  | .opq => .opq
  | .sl 0 es => .sl 0 es
  | .rp e off => .rp e off
  | _ => .junk
def X.re (st : St) (bs : List (Nat × Nat × Bool)) : X → X
  | .agg cs => .agg (cs.map (X.re1 st bs))
  | x => x.re1 st bs
def reT (st : St) (bs : List (Nat × Nat × Bool)) : List Nat → List (Nat × X)
  | [] => []
  | t :: r => (t, (st.look t).re st bs) :: reT st bs r
def reC (u : Bool) (c : Option X) : Option X := bif u then c.map X.untags else c
def reB (st : St) : List (Nat × Nat × Bool) → List (Nat × Bx)
  | [] => []
  | (n, o, u) :: r => (n, ⟨0, 0, (st.box o).real, reC u (st.box o).c⟩) :: reB st r
def nodupB : List Nat → Bool
  | [] => true
  | x :: r => (r.all fun y => !(x == y)) && nodupB r
def okRe (bs : List (Nat × Nat × Bool)) : Bool := nodupB (bs.map (·.1)) && nodupB (bs.map (·.2.1)) && bs.all fun x => !(x.1 == PB) || x.2.1 == PB
def St.reS (st : St) (ts : List Nat) (bs : List (Nat × Nat × Bool)) : Option St := bif okRe bs then some ⟨reT st bs ts, reB st bs⟩ else none

theorem nodupB_iff : ∀ {l : List Nat}, nodupB l = true → l.Nodup
  | [], _ => List.nodup_nil
  | x :: r, h => by
    simp only [nodupB, Bool.and_eq_true, List.all_eq_true, Bool.not_eq_true', beq_eq_false_iff_ne, ne_eq] at h
    exact List.nodup_cons.2 ⟨fun hm => h.1 x hm rfl, nodupB_iff h.2⟩
theorem findN_mem : ∀ {bs : List (Nat × Nat × Bool)} {b o : Nat} {u : Bool}, findN bs b = some (o, u) → (b, o, u) ∈ bs
  | [], b, o, u, h => by simp [findN] at h
  | (n, o', u') :: r, b, o, u, h => by
    simp only [findN] at h
    split at h
    · rename_i hn; subst hn; cases h; simp
    · exact List.mem_cons_of_mem _ (findN_mem h)
theorem renB_mem : ∀ {bs : List (Nat × Nat × Bool)} {b n : Nat}, renB bs b = some n → ∃ u, (n, b, u) ∈ bs
  | [], b, n, h => by simp [renB] at h
  | (n', o', u') :: r, b, n, h => by
    simp only [renB] at h
    split at h
    · rename_i hn; subst hn; cases h; exact ⟨u', by simp⟩
    · obtain ⟨u, hu⟩ := renB_mem h; exact ⟨u, List.mem_cons_of_mem _ hu⟩
theorem findN_of_mem : ∀ {bs : List (Nat × Nat × Bool)} {b o : Nat} {u : Bool}, (bs.map (·.1)).Nodup → (b, o, u) ∈ bs → findN bs b = some (o, u)
  | [], b, o, u, _, h => by simp at h
  | (n', o', u') :: r, b, o, u, hd, h => by
    simp only [List.map_cons, List.nodup_cons] at hd
    simp only [findN]
    rcases List.mem_cons.1 h with h | h
    · cases h; simp
    · have : n' ≠ b := by
        rintro rfl
        exact hd.1 (List.mem_map.2 ⟨_, h, rfl⟩)
      rw [if_neg this]; exact findN_of_mem hd.2 h
theorem findN_inj : ∀ {bs : List (Nat × Nat × Bool)} {b b' o : Nat} {u u' : Bool}, (bs.map (·.2.1)).Nodup → (b, o, u) ∈ bs → (b', o, u') ∈ bs → b = b'
  | [], b, b', o, u, u', _, h, _ => by simp at h
  | (n, o', v) :: r, b, b', o, u, u', hd, h, h' => by
    simp only [List.map_cons, List.nodup_cons] at hd
    rcases List.mem_cons.1 h with h | h <;> rcases List.mem_cons.1 h' with h' | h'
    · cases h; cases h'; rfl
    · cases h; exact absurd (List.mem_map.2 ⟨_, h', rfl⟩) hd.1
    · cases h'; exact absurd (List.mem_map.2 ⟨_, h, rfl⟩) hd.1
    · exact findN_inj hd.2 h h'
theorem reB_look (st : St) : ∀ (bs : List (Nat × Nat × Bool)) (b : Nat), lookB (reB st bs) b = match findN bs b with | some (o, u) => ⟨0, 0, (st.box o).real, reC u (st.box o).c⟩ | none => Bx.none
  | [], b => rfl
  | (n, o, u) :: r, b => by
    simp only [reB, lookB, findN]
    split
    · rfl
    · exact reB_look st r b
def reL (u : Bool) (B : BL) : BL := bif u then ⟨B.blk, B.c.untags⟩ else B
theorem reL_spec (u : Bool) (B : BL) : (reL u B).blk = B.blk ∧ (reL u B).c.er = (bif u then B.c.er.untags else B.c.er) ∧ (reL u B).c.sk = B.c.sk ∧ (reL u B).fp = B.fp ∧ (∀ w S, B.mem w S → (reL u B).mem w S) ∧
    (∀ (i t : Nat) (hh : Option (Nat × Nat)) (es : List L), (reL u B).c.cells[i]? = some (.own (t + 1) hh es) → B.c.cells[i]? = some (.own (t + 1) hh es)) := by
  cases u with
  | false => exact ⟨rfl, rfl, rfl, rfl, fun _ _ h => h, fun _ _ _ _ h => h⟩
  | true =>
    refine ⟨rfl, ?_, ?_, ?_, fun w S h => ⟨fun g hg => ?_, ?_⟩, fun i t hh es h => ?_⟩
    · exact (L.untags_gen default (fun _ => True) B.c).1
    · exact (L.untags_gen default (fun _ => True) B.c).2.2.2.2.2.1
    · show B.blk.toList ++ B.c.untags.fp = B.blk.toList ++ B.c.fp
      rw [(L.untags_gen default (fun _ => True) B.c).2.2.2.2.1]
    · obtain ⟨cur, e, h1, h2⟩ := h.1 g hg
      exact ⟨cur, e, h1, by rw [h2]; exact (L.untags_gen w S B.c).2.2.1.symm⟩
    · exact (L.untags_gen w S B.c).2.2.2.1 h.2
    · exact absurd h ((L.untags_gen default (fun _ => True) B.c).2.2.2.2.2.2 i t hh es)

theorem Wk.re (ts : List Nat) (bs : List (Nat × Nat × Bool)) (h : st.reS ts bs = some s2) : Wk st s2 := by
  intro Γ a w ⟨LB, S, hs⟩
  unfold St.reS at h
  cases hok : okRe bs with
  | false => simp [hok] at h
  | true =>
  rw [hok] at h
  replace h := Option.some.inj (show some _ = some s2 from h)
  subst h
  simp only [okRe, Bool.and_eq_true, List.all_eq_true, Bool.or_eq_true, Bool.not_eq_true', beq_iff_eq, beq_eq_false_iff_ne, ne_eq] at hok
  obtain ⟨⟨hn1, hn2⟩, hpb⟩ := hok
  replace hn1 := nodupB_iff hn1
  replace hn2 := nodupB_iff hn2
  let LB2 : Nat → Option BL := fun b => match findN bs b with | some (o, u) => (LB o).map (reL u) | none => none
  have hbox : ∀ b, (St.mk (reT st bs ts) (reB st bs)).box b = match findN bs b with | some (o, u) => ⟨0, 0, (st.box o).real, reC u (st.box o).c⟩ | none => Bx.none := fun b => reB_look st bs b
  have hLB : ∀ b B', LB2 b = some B' → ∃ o u B, (b, o, u) ∈ bs ∧ LB o = some B ∧ B' = reL u B := fun b B' hb => by
    simp only [LB2] at hb
    cases hf : findN bs b with
    | none => simp [hf] at hb
    | some ou =>
      obtain ⟨o, u⟩ := ou
      simp only [hf] at hb
      cases hl : LB o with
      | none => simp [hl] at hb
      | some B =>
        simp only [hl, Option.map_some, Option.some.injEq] at hb
        exact ⟨o, u, B, findN_mem hf, hl, hb.symm⟩
  have hren : ∀ b n B', renB bs b = some n → LB2 n = some B' → ∃ u B, LB b = some B ∧ B' = reL u B := fun b n B' hb hB => by
    obtain ⟨u, hm⟩ := renB_mem hb
    have hf := findN_of_mem hn1 hm
    simp only [LB2, hf] at hB
    cases hl : LB b with
    | none => simp [hl] at hB
    | some B =>
      simp only [hl, Option.map_some, Option.some.injEq] at hB
      exact ⟨u, B, rfl, hB.symm⟩
  have hT1 : ∀ (x : X) (v : Value), TRel st.box LB w S x v → TRel (St.mk (reT st bs ts) (reB st bs)).box LB2 w S (x.re1 st bs) v := by
    intro x v hx
    cases x with
    | sc u => exact hx
    | opq => exact hx
    | sl t es =>
      cases t with
      | zero => exact hx
      | succ t => exact trivial
    | ptr b bn off =>
      simp only [X.re1]
      split
      · rename_i hc
        split
        · rename_i n hn
          refine ⟨Nat.zero_le _, fun _ B' hB' => ?_⟩
          obtain ⟨u, B, hB, rfl⟩ := hren b n B' hn hB'
          obtain ⟨g, h1, h2⟩ := hx.2 hc.1 B hB
          exact ⟨g, by rw [(reL_spec u B).1]; exact h1, h2⟩
        · trivial
      · trivial
    | view b ver p c =>
      simp only [X.re1]
      split
      · rename_i hc
        split
        · rename_i n hn
          refine ⟨Nat.zero_le _, fun _ B' hB' => ?_⟩
          obtain ⟨u, B, hB, rfl⟩ := hren b n B' hn hB'
          rw [(reL_spec u B).2.2.1]
          exact hx.2 hc.1 B hB
        · trivial
      · trivial
    | ep b ver p off =>
      simp only [X.re1]
      split
      · rename_i hc
        split
        · rename_i n hn
          refine ⟨Nat.zero_le _, fun _ B' hB' => ?_⟩
          obtain ⟨u, B, hB, rfl⟩ := hren b n B' hn hB'
          rw [(reL_spec u B).2.2.1, (reL_spec u B).1]
          exact hx.2 hc.1 B hB
        · trivial
      · trivial
    | rp e off => exact hx
    | _ => trivial
  have hT : ∀ (x : X) (v : Value), TRel st.box LB w S x v → TRel (St.mk (reT st bs ts) (reB st bs)).box LB2 w S (x.re st bs) v := by
    intro x v hx
    cases x with
    | agg cs =>
      obtain ⟨us, rfl, hu⟩ := hx
      refine ⟨us, rfl, ?_⟩
      revert hu
      generalize us.toList = l
      induction cs generalizing l with
      | nil => intro hu; cases l with | nil => trivial | cons v vs => exact hu
      | cons c cs ih =>
        intro hu
        cases l with
        | nil => exact hu.elim
        | cons v vs => exact ⟨hT1 c v hu.1, ih vs hu.2⟩
    | _ => exact hT1 _ v hx
  refine ⟨LB2, S, hs.defers, hs.size, fun t => ?_, fun b => ?_, fun b B' hB' => ?_, fun b b' B1 B2 hne h1 h2 => ?_, fun b B' hB' => ?_, hs.S0, hs.Sw, hs.frame, fun b B' hB' => ?_, fun B' hB' => ?_, hs.Sn⟩
  · show TRel _ _ _ _ (lookT (reT st bs ts) t) _
    clear hbox hLB hren
    induction ts with
    | nil => trivial
    | cons t' r ih =>
      simp only [reT, lookT]
      split
      · rename_i he; subst he; exact hT _ _ (hs.tm t')
      · exact ih (fun x v hx => hT1 x v hx) (fun x v hx => hT x v hx)
  · rw [hbox]
    simp only [LB2]
    cases hf : findN bs b with
    | none => trivial
    | some ou =>
      obtain ⟨o, u⟩ := ou
      have hb := hs.bx o
      simp only [BxRel] at hb ⊢
      cases hc : (st.box o).c with
      | none =>
        rw [hc] at hb
        cases hl : LB o with
        | none => cases u <;> trivial
        | some B => rw [hl] at hb; exact hb.elim
      | some c =>
        rw [hc] at hb
        cases hl : LB o with
        | none => rw [hl] at hb; exact hb.elim
        | some B =>
          rw [hl] at hb
          obtain ⟨h1, h2, h3⟩ := hb
          obtain ⟨q1, q2, q3, q4, q5, q6⟩ := reL_spec u B
          cases u with
          | false => exact ⟨h1, h2, h3⟩
          | true => exact ⟨by rw [q2, h1]; rfl, by rw [q1]; exact h2, q5 _ _ h3⟩
  · obtain ⟨o, u, B, hm, hl, rfl⟩ := hLB b B' hB'
    rw [(reL_spec u B).2.2.2.1]; exact hs.nd o B hl
  · obtain ⟨o1, u1, C1, hm1, hl1, rfl⟩ := hLB b B1 h1
    obtain ⟨o2, u2, C2, hm2, hl2, rfl⟩ := hLB b' B2 h2
    rw [(reL_spec u1 C1).2.2.2.1, (reL_spec u2 C2).2.2.2.1]
    refine hs.dj o1 o2 C1 C2 (fun he => ?_) hl1 hl2
    subst he
    exact hne (findN_inj hn2 hm1 hm2)
  · obtain ⟨o, u, B, hm, hl, rfl⟩ := hLB b B' hB'
    rw [(reL_spec u B).2.2.2.1]; exact hs.fr o B hl
  · obtain ⟨o, u, B, hm, hl, rfl⟩ := hLB b B' hB'
    intro i t hh es hi
    exact hs.tag o B hl i t hh es ((reL_spec u B).2.2.2.2.2 i t hh es hi)
  · obtain ⟨o, u, B, hm, hl, rfl⟩ := hLB PB B' hB'
    have ho : o = PB := by
      have := hpb _ hm
      simpa using this
    subst ho
    rw [(reL_spec u B).1]
    exact hs.pb B hl

/-- A nil slice is an empty one of our own. -/
def St.nilv (st : St) (t b : Nat) : Option St :=
  match st.look t with
  | .sc (.slice none 0 0) => bif b == PB then none else some ⟨(t, .view b ((st.box b).ver + 1) [] 0) :: st.tm, (b, newBx (st.box b) false (.sl 1 [])) :: st.bx⟩
  | _ => none
theorem Wk.nil (t b : Nat) (h : st.nilv t b = some s2) : Wk st s2 := by
  intro Γ a w ⟨LB, S, hs⟩
  unfold St.nilv at h
  split at h
  · rename_i hl
    cases hb : b == PB with
    | true => simp [hb] at h
    | false =>
      rw [hb] at h
      replace h := Option.some.inj (show some _ = some s2 from h)
      subst h
      have hbp : b ≠ PB := by simpa using hb
      have hB : SimB Γ (st.withB []).box w LB S := hs.toB
      obtain ⟨k1, k2, k3⟩ := hB.newOwn (w' := w) (d := b) (h := none) (es := []) hbp rfl ⟨by simp [L.fp, L.fps], fun b B hb g hg => by simp [L.fp, L.fps] at hg, fun g hg => by simp [L.fp, L.fps] at hg⟩ (fun _ _ _ _ _ => rfl) (fun _ _ => rfl) (Nat.le_refl _) hs.frame
      refine ⟨setLB LB b ⟨none, .own 0 none []⟩, S, hs.defers, hs.size, fun t' => ?_, k1.bx, k1.nd, k1.dj, k1.fr, k1.S0, k1.Sw, k1.frame, k1.tag, k1.pb, k1.Sn⟩
      show TRel _ _ _ _ (lookT ((t, _) :: st.tm) t') _
      simp only [lookT]
      split
      · rename_i he
        subst he
        have := hs.tm t
        rw [hl] at this
        have hv : a.tmps.getD t undef = .slice none 0 0 := this.1
        rw [hv]
        exact k3
      · exact TRel.adv k2 (fun _ h => h) (fun _ _ => rfl) _ _ (hs.tm t')
  · simp at h

/-- A slice of our own is forgotten. -/
def St.dropV (st : St) (b c : Nat) : St := match st.take1 (.view b (st.box b).ver [] c) with | some z => st.withB z.2 | none => st
theorem wdrop (b c : Nat) : Wk st (st.dropV b c) := by
  intro Γ a w ⟨LB, S, hs⟩
  unfold St.dropV
  cases h : st.take1 (.view b (st.box b).ver [] c) with
  | none => exact ⟨LB, S, hs⟩
  | some z =>
    obtain ⟨y, us⟩ := z
    simp only
    have h0 := h
    simp only [St.take1] at h
    cases hsl : slAt (st.box b) (st.box b).ver [] c with
    | none => simp [hsl] at h
    | some te =>
      obtain ⟨hv, x0, e0, hc0, hn0, he0⟩ := slAt_some hsl
      obtain ⟨B, hBb, her, hreal, hm⟩ := (hs.bx b).get hc0
      simp only [X.nav, Option.some.injEq] at hn0
      subst hn0
      subst her
      rw [L.er_cells, List.getElem?_map] at he0
      cases hcc : B.c.cells[c]? with
      | none => simp [hcc] at he0
      | some lc =>
        simp only [hcc, Option.map_some, Option.some.injEq] at he0
        obtain ⟨hh, ls, rfl, hls⟩ := L.er_own_iff he0
        have hT : TRel st.box LB w S (.view b (st.box b).ver [] c) (hdrV hh ls.length) := by
          refine ⟨Nat.le_refl _, fun _ B' hB' => ?_⟩
          rw [hBb] at hB'; cases hB'
          simp [Sk.hdr, Sk.nav, L.sk_cells, hcc, L.sk, L.sks_eq]
        obtain ⟨tm, bl⟩ := st
        obtain ⟨LB1, l, k1, k2, -⟩ := take1_sound (tm := tm) (bl := bl) hs.toB h0 hT
        exact ⟨LB1, S, hs.defers, hs.size, fun t => TRel.adv k2 (fun _ h => h) (fun _ _ => rfl) _ _ (hs.tm t), k1.bx, k1.nd, k1.dj, k1.fr, k1.S0, k1.Sw, k1.frame, k1.tag, k1.pb, k1.Sn⟩

/-- A loop whose rounds make something smaller. -/
theorem runs_loopM {σ : Type} {c : Code} {Q : Exit → St → Prop} (inv : σ → St) (J : σ → Prop) (μ : σ → Nat) (s0 : σ) (hJ : J s0) (h0 : Wk st (inv s0))
    (hr : ∀ s, J s → Runs P Γ c (inv s) (thenX (fun st' => ∃ s', μ s' < μ s ∧ J s' ∧ Wk st' (inv s')) Q)) : Runs P Γ (.loop c) st Q := by
  intro a w hs
  have key : ∀ k s a w, μ s ≤ k → J s → Sim Γ (inv s) a w → Code.rounds P c (fun e a' w' => ∃ st', Sim Γ st' a' w' ∧ Q e st') (k + 1) a w := by
    intro k
    induction k with
    | zero =>
      intro s a w hi hj hs
      rw [rounds_succ]
      refine wp_mono (hr s hj a w hs) fun e a' w' ⟨st', h1, h2⟩ => ?_
      cases e with
      | normal => obtain ⟨s', h3, -⟩ := h2; exact absurd h3 (by omega)
      | _ => exact ⟨st', h1, h2⟩
    | succ k ih =>
      intro s a w hi hj hs
      rw [rounds_succ]
      refine wp_mono (hr s hj a w hs) fun e a' w' ⟨st', h1, h2⟩ => ?_
      cases e with
      | normal => obtain ⟨s', h3, h4, h5⟩ := h2; exact ih s' a' w' (by omega) h4 (h5 _ _ _ h1)
      | _ => exact ⟨st', h1, h2⟩
  exact wp_loop_rounds _ (key (μ s0) s0 a w (Nat.le_refl _) hJ (h0 _ _ _ hs))

end Go.Proofs.Ytncjcbdbdocjaaa.Ax

/- Assisted steps: results that are given, appends of own plain slices, stores through places with unknown numbers; calls whose snapshots are given. -/
namespace Go.Proofs.Ytncjcbdbdocjaaa.Ax
open Go

variable {P : Program} {Γ : Ctx} {st s2 : St} {cv : Nat → Option Nat} {ops : List Oper} {o : Oper} {r : List Oper} {l : List Oper} {K : St → Prop}

def asAt (P : Program) (ops : List Oper) (e y : X) (l : List Oper) (st : St) : Option (List Prop × X × List (Nat × Bx)) :=
  match l with
  | [] => none
  | o :: _ =>
    match gd ops st o with
    | some true =>
      match o.op with
      | .binOp op t p q _ =>
        match st.opd p, st.opd q, e with
        | .sc (.int k a), .sc (.int j b), .sc v => some ([binV op (.int k a) (.int j b) = some v], .sc v, [])
        | _, _, _ => none
      | .store t a x =>
        match st.takes (st.opd x).cells, st.opd a with
        | some (xs, us), .ep b ver p off =>
          match ((st.withB us).box b).c with
          | some c =>
            if xs.length = tSize P t ∧ 0 < tSize P t ∧ ((st.withB us).box b).ver = ver ∧ off + tSize P t ≤ e.cells.length then
              some ([c.nav p = some e, c.upd (!((slice' e.cells off (tSize P t)).all X.isSc && (xs.map X.untag).all X.isSc)) p (·.puts off (xs.map X.untag)) = y], .junk,
                (b, { (st.withB us).box b with
                  ver := if ((slice' e.cells off (tSize P t)).all X.isSc && (xs.map X.untag).all X.isSc) = true then ((st.withB us).box b).ver else ((st.withB us).box b).ver + 1
                  c := some y }) :: us)
            else none
          | none => none
        | _, _ => none
      | .call c =>
        match c.callee with
        | .builtin .append =>
          match c.args.toList, c.argTypes.toList, o.dst with
          | [s, x], [t, u], some d =>
            if t = u then
              match tElem P t with
              | none => none
              | some e =>
                match tZero P e with
                | none => none
                | some z =>
                  match st.base (st.opd s) with
                  | none => none
                  | some (es, us) =>
                    match st.opd x with
                    | .view b ver p c =>
                      match slAt ((st.withB us).box b) ver p c with
                      | some (tg, xs) =>
                        if tSize P e = 0 then none else
                        some ([xs.all X.plain = true, (es.length + xs.length) * tBytes P e ≤ 140737488355328 ∧ es.length + xs.length ≤ 140737488355328 ∧ (∀ y ∈ es, y.cells.length = tSize P e) ∧ ∀ y ∈ xs, y.cells.length = tSize P e],
                          .view d (((st.withB us).box d).ver + 1) [] 0, (d, newBx ((st.withB us).box d) false (.sl 1 (es ++ xs))) :: us)
                      | none => none
                    | _ => none
            else none
          | _, _, _ => none
        | _ => none
      | _ => none
    | _ => none
theorem asAt_ok {e y : X} {ps : List Prop} {x : X} {us : List (Nat × Bx)} (h : asAt P ops e y l st = some (ps, x, us)) (hs : sides ps) : ∃ o r, l = o :: r ∧ gd ops st o = some true ∧ ∃ side : Prop, evOp P st o = .ok side x us ∧ side := by
  unfold asAt at h
  cases l with
  | nil => simp at h
  | cons o r =>
    simp only at h
    split at h
    · rename_i hg
      refine ⟨o, r, rfl, hg, ?_⟩
      split at h
      · rename_i op t p q f ho
        split at h
        · rename_i k a j b v h1 h2
          simp only [Option.some.injEq, Prod.mk.injEq] at h
          obtain ⟨rfl, rfl, rfl⟩ := h
          obtain ⟨q1, -⟩ := hs
          exact ⟨True, by simp only [evOp, ho, h1, h2, evBin, q1], trivial⟩
        · simp at h
      · rename_i t a x' ho
        split at h
        · rename_i xs us' b ver p off h1 h2
          split at h
          · rename_i c hc
            split at h
            · rename_i hcond
              simp only [Option.some.injEq, Prod.mk.injEq] at h
              obtain ⟨rfl, rfl, rfl⟩ := h
              obtain ⟨q1, q2, -⟩ := hs
              refine ⟨True, ?_, trivial⟩
              have hn : ¬ (xs.length ≠ tSize P t ∨ tSize P t = 0) := by
                rintro (h | h)
                · exact h hcond.1
                · have := hcond.2.1; omega
              simp only [evOp, ho, evStore, h1, h2, if_neg hn, hc, q1]
              rw [if_pos ⟨hcond.2.2.1, hcond.2.2.2⟩]
              simp only [Bx.store, hc, Option.map_some, q2]
            · simp at h
          · simp at h
        · simp at h
      · rename_i c ho
        split at h
        · rename_i hcal
          split at h
          · rename_i s x' t u d h1 h2 h3
            split at h
            · rename_i htu
              split at h
              · simp at h
              · rename_i et he
                split at h
                · simp at h
                · rename_i z hz
                  split at h
                  · simp at h
                  · rename_i es us' hb
                    split at h
                    · rename_i b ver p cc hx
                      split at h
                      · rename_i tg xs hsl
                        split at h
                        · simp at h
                        · rename_i hne
                          simp only [Option.some.injEq, Prod.mk.injEq] at h
                          obtain ⟨rfl, rfl, rfl⟩ := h
                          obtain ⟨q1, q2, -⟩ := hs
                          refine ⟨_, ?_, q2⟩
                          simp only [evOp, ho, hcal, h1, h2, h3, if_pos htu, evAppend, he, hz, hb, hx, St.src, hsl, if_pos q1, if_neg hne]
                          simp [St.withB]
                      · simp at h
                    · simp at h
            · simp at h
          · simp at h
        · simp at h
      · simp at h
    · simp at h
def asS (P : Program) (ops : List Oper) (e y : X) (l : List Oper) (st : St) : Option (List Prop × St) :=
  match l, asAt P ops e y l st with
  | o :: _, some z => some (z.1, st.put o.dst z.2.1 z.2.2)
  | _, _ => none
def asT (P : Program) (ops : List Oper) (e y : X) (l : List Oper) (st : St) (tr : List (Oper × Ent)) : List (Oper × Ent) :=
  match l, asAt P ops e y l st with
  | o :: _, some z => tr ++ [(o, ent st o z.2.2)]
  | _, _ => []
theorem reg_as (k : Nat) (e y : X) {ps : List Prop} (he : asS P ops e y (l.drop k) st = some (ps, s2)) (hs : sides ps) (h : RegP P cv ops (l.drop (k + 1)) s2 K) : RegP P cv ops (l.drop k) st K := by
  unfold asS at he
  split at he
  · rename_i o r z hl hz
    simp only [Option.some.injEq, Prod.mk.injEq] at he
    obtain ⟨rfl, rfl⟩ := he
    obtain ⟨y1, y2, y3⟩ := z
    obtain ⟨o', r', hl', hg, side, hev, hsd⟩ := asAt_ok hz hs
    rw [hl] at hl'
    simp only [List.cons.injEq] at hl'
    obtain ⟨rfl, rfl⟩ := hl'
    have hr : l.drop (k + 1) = r := by rw [← List.drop_drop, hl]; rfl
    rw [hl]; rw [hr] at h
    exact ⟨Reg_one hg hev hsd h.h⟩
  · simp at he
theorem regT_as (k : Nat) (e y : X) {KT : St → List (Oper × Ent) → Prop} {tr : List (Oper × Ent)} {ps : List Prop} (he : asS P ops e y (l.drop k) st = some (ps, s2)) (hs : sides ps)
    (h : RegTP P cv ops (l.drop (k + 1)) s2 (asT P ops e y (l.drop k) st tr) KT) : RegTP P cv ops (l.drop k) st tr KT := by
  unfold asS at he
  unfold asT at h
  split at he
  · rename_i o r z hl hz
    simp only [Option.some.injEq, Prod.mk.injEq] at he
    obtain ⟨rfl, rfl⟩ := he
    obtain ⟨y1, y2, y3⟩ := z
    obtain ⟨o', r', hl', hg, side, hev, hsd⟩ := asAt_ok hz hs
    rw [hl] at hl'
    simp only [List.cons.injEq] at hl'
    obtain ⟨rfl, rfl⟩ := hl'
    have hr : l.drop (k + 1) = r := by rw [← List.drop_drop, hl]; rfl
    simp only [hl] at h hz ⊢
    simp only [hz] at h
    rw [hr] at h
    exact ⟨RegT_one hg hev hsd h.h⟩
  · simp at he

/-! Calls whose snapshots are given -/
def snapH1 (st : St) (H : List (List X)) : X → Option (List Prop × X × List (List X))
  | .view b ver p c =>
    match slAt (st.box b) ver p c, H with
    | some (_, es), ro :: H' => some ([X.rds es = true, X.roifys es = ro], .sl 0 ro, H')
    | _, _ => none
  | x => (st.snap1 x).map fun y => ([], y, H)
def snapsH (st : St) : List (List X) → List X → Option (List Prop × List X × List (List X))
  | H, [] => some ([], [], H)
  | H, x :: r => (snapH1 st H x).bind fun a => (snapsH st a.2.2 r).map fun b => (a.1 ++ b.1, a.2.1 :: b.2.1, b.2.2)
def snapH (st : St) (H : List (List X)) : X → Option (List Prop × X × List (List X))
  | .agg cs => (snapsH st H cs).map fun a => (a.1, .agg a.2.1, a.2.2)
  | x => snapH1 st H x
def snapButH (st : St) (k : Option Nat) (own : X) : List (List X) → Nat → List X → Option (List Prop × List X)
  | _, _, [] => some ([], [])
  | H, i, x :: r =>
    if some i = k then (snapButH st k own H (i + 1) r).map fun l => (l.1, own :: l.2)
    else (snapH st H x).bind fun a => (snapButH st k own a.2.2 (i + 1) r).map fun b => (a.1 ++ b.1, a.2.1 :: b.2)
def argsH (st : St) (k : Option Nat) (H : List (List X)) (xs : List X) : Option (List Prop × List X) :=
  match k with
  | none => snapButH st none .junk H 0 xs
  | some k =>
    match xs[k]? with
    | none => none
    | some x => (st.lend x).bind fun y => snapButH (st.withB y.2) (some k) y.1 H 0 xs

theorem sides_app : ∀ {p q : List Prop}, sides (p ++ q) → sides p ∧ sides q
  | [], q, h => ⟨trivial, h⟩
  | a :: p, q, h => ⟨⟨h.1, (sides_app h.2).1⟩, (sides_app h.2).2⟩
theorem snapH1_ok {H H' : List (List X)} {x y : X} {ps : List Prop} (h : snapH1 st H x = some (ps, y, H')) (hs : sides ps) : st.snap1 x = some y := by
  have hgen : ∀ x, (∀ b ver p c, x ≠ .view b ver p c) → snapH1 st H x = some (ps, y, H') → st.snap1 x = some y := by
    intro x hx h
    have : snapH1 st H x = (st.snap1 x).map fun y => ([], y, H) := by
      cases x <;> first | rfl | exact absurd rfl (hx _ _ _ _)
    rw [this] at h
    cases hq : st.snap1 x with
    | none => simp [hq] at h
    | some z => simp only [hq, Option.map_some, Option.some.injEq, Prod.mk.injEq] at h; rw [h.2.1]
  cases x with
  | view b ver p c =>
    simp only [snapH1] at h
    split at h
    · rename_i tg es ro H2 hsl
      simp only [Option.some.injEq, Prod.mk.injEq] at h
      obtain ⟨rfl, rfl, rfl⟩ := h
      simp only [St.snap1, hsl, Option.bind_some, hs.1, if_true, hs.2.1]
    · simp at h
  | _ => exact hgen _ (fun _ _ _ _ h => by cases h) h
theorem snapsH_ok : ∀ {xs : List X} {H H' : List (List X)} {ys : List X} {ps : List Prop}, snapsH st H xs = some (ps, ys, H') → sides ps → st.snaps xs = some ys
  | [], H, H', ys, ps, h, hs => by
    simp only [snapsH, Option.some.injEq, Prod.mk.injEq] at h
    obtain ⟨rfl, rfl, rfl⟩ := h; rfl
  | x :: r, H, H', ys, ps, h, hs => by
    simp only [snapsH] at h
    cases ha : snapH1 st H x with
    | none => simp [ha] at h
    | some a =>
      obtain ⟨p1, y1, H1⟩ := a
      simp only [ha, Option.bind_some] at h
      cases hb : snapsH st H1 r with
      | none => simp [hb] at h
      | some b =>
        obtain ⟨p2, y2, H2⟩ := b
        simp only [hb, Option.map_some, Option.some.injEq, Prod.mk.injEq] at h
        obtain ⟨rfl, rfl, rfl⟩ := h
        obtain ⟨q1, q2⟩ := sides_app hs
        simp only [St.snaps, snapH1_ok ha q1, Option.bind_some, snapsH_ok hb q2, Option.map_some]
theorem snapH_ok {H H' : List (List X)} {x y : X} {ps : List Prop} (h : snapH st H x = some (ps, y, H')) (hs : sides ps) : st.snap x = some y := by
  cases x with
  | agg cs =>
    simp only [snapH] at h
    cases ha : snapsH st H cs with
    | none => simp [ha] at h
    | some a =>
      obtain ⟨p1, y1, H1⟩ := a
      simp only [ha, Option.map_some, Option.some.injEq, Prod.mk.injEq] at h
      obtain ⟨rfl, rfl, rfl⟩ := h
      simp only [St.snap, snapsH_ok ha hs, Option.map_some]
  | sc v => exact snapH1_ok (st := st) (H := H) (x := .sc v) h hs
  | sl t es => exact snapH1_ok (st := st) (H := H) (x := .sl t es) h hs
  | box c => exact snapH1_ok (st := st) (H := H) (x := .box c) h hs
  | tup cs => exact snapH1_ok (st := st) (H := H) (x := .tup cs) h hs
  | ptr b n o => exact snapH1_ok (st := st) (H := H) (x := .ptr b n o) h hs
  | view b v p c => exact snapH1_ok (st := st) (H := H) (x := .view b v p c) h hs
  | ep b v p o => exact snapH1_ok (st := st) (H := H) (x := .ep b v p o) h hs
  | rp e o => exact snapH1_ok (st := st) (H := H) (x := .rp e o) h hs
  | opq => exact snapH1_ok (st := st) (H := H) (x := .opq) h hs
  | junk => exact snapH1_ok (st := st) (H := H) (x := .junk) h hs
theorem snapButH_ok {k : Option Nat} {own : X} : ∀ {xs : List X} {H : List (List X)} {i : Nat} {ys : List X} {ps : List Prop}, snapButH st k own H i xs = some (ps, ys) → sides ps → st.snapBut k own i xs = some ys
  | [], H, i, ys, ps, h, hs => by
    simp only [snapButH, Option.some.injEq, Prod.mk.injEq] at h
    obtain ⟨rfl, rfl⟩ := h; rfl
  | x :: r, H, i, ys, ps, h, hs => by
    simp only [snapButH] at h
    simp only [St.snapBut]
    split at h
    · rename_i hk
      rw [if_pos hk]
      cases hb : snapButH st k own H (i + 1) r with
      | none => simp [hb] at h
      | some b =>
        simp only [hb, Option.map_some, Option.some.injEq, Prod.mk.injEq] at h
        obtain ⟨rfl, rfl⟩ := h
        simp only [snapButH_ok (ps := b.1) (ys := b.2) hb hs, Option.map_some]
    · rename_i hk
      rw [if_neg hk]
      cases ha : snapH st H x with
      | none => simp [ha] at h
      | some a =>
        obtain ⟨p1, y1, H1⟩ := a
        simp only [ha, Option.bind_some] at h
        cases hb : snapButH st k own H1 (i + 1) r with
        | none => simp [hb] at h
        | some b =>
          obtain ⟨p2, y2⟩ := b
          simp only [hb, Option.map_some, Option.some.injEq, Prod.mk.injEq] at h
          obtain ⟨rfl, rfl⟩ := h
          obtain ⟨q1, q2⟩ := sides_app hs
          simp only [snapH_ok ha q1, Option.bind_some, snapButH_ok hb q2, Option.map_some]
theorem argsH_ok {k : Option Nat} {H : List (List X)} {xs ts : List X} {ps : List Prop} (h : argsH st k H xs = some (ps, ts)) (hs : sides ps) : st.args k xs = some ts := by
  unfold argsH at h
  unfold St.args
  cases k with
  | none => exact snapButH_ok h hs
  | some k =>
    simp only at h ⊢
    cases hx : xs[k]? with
    | none => simp [hx] at h
    | some x =>
      simp only [hx] at h ⊢
      cases ho : st.lend x with
      | none => simp [ho] at h
      | some y =>
        simp only [ho, Option.bind_some] at h ⊢
        exact snapButH_ok h hs

def calH (cv : Nat → Option Nat) (ops : List Oper) (H : List (List X)) (l : List Oper) (st : St) (y out : X) : Option (List Prop × Nat × List X × X × List (Nat × Bx)) :=
  match l with
  | [] => none
  | o :: _ =>
    match gd ops st o with
    | some true =>
      match o.op with
      | .call c =>
        match c.callee with
        | .value f =>
          match st.opd f with
          | .sc (.func (.func g) fs cs) =>
            if fs.isEmpty && cs.isEmpty then
              match argsH st (cv g) H (c.args.toList.map st.opd), st.backs (cv g) (c.args.toList.map st.opd) out with
              | some (ps, ts), some us =>
                some (ps ++ [rootsBut (cv g) 0 (c.args.toList.map st.opd) = false ∨ (y.noRo = true ∧ out.noRo = true)], g, ts,
                  (St.inst (st.withB us) (fun _ => 1) (o.dst.getD 8999) y 0).1, (St.inst (st.withB us) (fun _ => 1) (o.dst.getD 8999) y 0).2.1 ++ us)
              | _, _ => none
            else none
          | _ => none
        | _ => none
      | _ => none
    | _ => none
theorem calH_ok {H : List (List X)} {ts : List X} {y out : X} {ps : List Prop} {g : Nat} {x : X} {us : List (Nat × Bx)} (h : calH cv ops H l st y out = some (ps, g, ts, x, us)) (hs : sides ps) :
    callAt cv ops l st y out = some (g, ts, (match l with | o :: _ => st.put o.dst x us | [] => st), us) := by
  unfold calH at h
  cases l with
  | nil => simp at h
  | cons o r =>
    simp only at h
    split at h
    · rename_i hg
      split at h
      · rename_i c ho
        split at h
        · rename_i f hc
          split at h
          · rename_i g' fs cs hf
            split at h
            · rename_i hem
              split at h
              · rename_i ps' ts' us' ha hb
                simp only [Option.some.injEq, Prod.mk.injEq] at h
                obtain ⟨rfl, rfl, rfl, rfl, rfl⟩ := h
                obtain ⟨q1, q2, -⟩ := sides_app hs
                have q3 : (rootsBut (cv g') 0 (c.args.toList.map st.opd) && !(y.noRo && out.noRo)) = false := by
                  rcases q2 with q2 | ⟨q2, q3⟩
                  · rw [q2]; rfl
                  · rw [q2, q3]; simp
                simp only [callAt, hg, evC, ho, hc, hf, hem, if_true, evCall, argsH_ok ha q1, q3, Bool.false_eq_true, if_false, hb, Option.map_some]
              · simp at h
            · simp at h
          · simp at h
        · simp at h
      · simp at h
    · simp at h
def calHS (cv : Nat → Option Nat) (ops : List Oper) (H : List (List X)) (l : List Oper) (st : St) (y out : X) : Option (List Prop × Nat × List X × St) :=
  match l, calH cv ops H l st y out with
  | o :: _, some z => some (z.1, z.2.1, z.2.2.1, st.put o.dst z.2.2.2.1 z.2.2.2.2)
  | _, _ => none
def calHT (cv : Nat → Option Nat) (ops : List Oper) (H : List (List X)) (l : List Oper) (st : St) (y out : X) (tr : List (Oper × Ent)) : List (Oper × Ent) :=
  match l, calH cv ops H l st y out with
  | o :: _, some z => tr ++ [(o, ent st o z.2.2.2.2)]
  | _, _ => []
theorem calHS_ok {H : List (List X)} {ts : List X} {y out : X} {ps : List Prop} {g : Nat} (h : calHS cv ops H l st y out = some (ps, g, ts, s2)) (hs : sides ps) : callS cv ops l st y out = some (g, ts, s2) ∧
    ∀ tr, callT cv ops l st y out tr = calHT cv ops H l st y out tr := by
  unfold calHS at h
  split at h
  · rename_i o r z hz
    obtain ⟨z1, z2, z3, z4, z5⟩ := z
    simp only [Option.some.injEq, Prod.mk.injEq] at h
    obtain ⟨rfl, rfl, rfl, rfl⟩ := h
    have := calH_ok hz hs
    refine ⟨by simp only [callS, this, Option.map_some], fun tr => ?_⟩
    simp only [callT, calHT, this, hz]
  · simp at h
theorem reg_calH (k : Nat) (H : List (List X)) {ts : List X} {y out : X} {ps : List Prop} {g : Nat} (hsp : Spec P g (cv g) ts y out) (he : calHS cv ops H (l.drop k) st y out = some (ps, g, ts, s2)) (hs : sides ps)
    (h : RegP P cv ops (l.drop (k + 1)) s2 K) : RegP P cv ops (l.drop k) st K := reg_call k (calHS_ok he hs).1 hsp h
theorem regT_calH (k : Nat) (H : List (List X)) {KT : St → List (Oper × Ent) → Prop} {tr : List (Oper × Ent)} {ts : List X} {y out : X} {ps : List Prop} {g : Nat} (hsp : Spec P g (cv g) ts y out)
    (he : calHS cv ops H (l.drop k) st y out = some (ps, g, ts, s2)) (hs : sides ps) (h : RegTP P cv ops (l.drop (k + 1)) s2 (calHT cv ops H (l.drop k) st y out tr) KT) : RegTP P cv ops (l.drop k) st tr KT :=
  regT_call k (calHS_ok he hs).1 hsp (by rw [(calHS_ok he hs).2]; exact h)

end Go.Proofs.Ytncjcbdbdocjaaa.Ax

/- Structs of ints: '==' goes cell by cell. -/
namespace Go.Proofs.Ytncjcbdbdocjaaa.Ax
open Go

variable {P : Program}

def okFl (P : Program) (r : TypeId → Nat → Bool) : List Field → Nat → Nat → Bool
  | [], off, n => off == n
  | f :: fs, off, n => (f.name != "_") && (f.offset == off) && (match P.underlying f.type with
    | some (.int _) => Nat.ble (off + 1) n && okFl P r fs (off + 1) n
    | some (.struct _) => (match P.info? f.type with | some i => Nat.ble (off + i.size) n && r f.type i.size && okFl P r fs (off + i.size) n | none => false)
    | _ => false)
def okEq (P : Program) : Nat → TypeId → Nat → Bool
  | 0, _, _ => false
  | d + 1, t, n => match P.underlying t with
    | some (.struct fs) => !(P.stoodInHeld t) && okFl P (okEq P d) fs.toList 0 n
    | _ => false

def ints (a : List Int) : Array Value := (a.map (Value.int .i64)).toArray
theorem ints_get (a : List Int) (i : Nat) (h : i < a.length) : (ints a)[i]? = some (.int .i64 a[i]) := by simp [ints, h]
theorem ints_ext (a : List Int) (i s : Nat) : (ints a).extract i (i + s) = ints ((a.drop i).take s) := by
  apply Array.toList_inj.1
  simp only [ints, Array.toList_extract, List.extract_eq_take_drop, List.map_take, List.map_drop]
  congr 1; omega

theorem eqFl_ok (w : World) {D n : Nat} {r : TypeId → Nat → Bool} (hr : ∀ t s, r t s = true → ∀ a b : List Int, a.length = s → b.length = s → (Op.equalIn D t (.agg (ints a)) (.agg (ints b))).run P w = .ok (a == b) w)
    (hD : ∃ e, D = e + 1) {a b : List Int} (ha : a.length = n) (hb : b.length = n) :
    ∀ (fs : List Field) (off : Nat), okFl P r fs off n = true → (Op.eqFields D (ints a) (ints b) fs).run P w = .ok (a.drop off == b.drop off) w
  | [], off, h => by
    simp only [okFl, beq_iff_eq] at h
    rw [List.drop_eq_nil_of_le (by omega), List.drop_eq_nil_of_le (by omega)]
    simp [Op.eqFields]
  | f :: fs, off, h => by
    obtain ⟨e, rfl⟩ := hD
    simp only [okFl, Bool.and_eq_true, bne_iff_ne, ne_eq, beq_iff_eq] at h
    obtain ⟨⟨h1, h2⟩, h3⟩ := h
    simp only [Op.eqFields]
    rw [if_pos h1, h2]
    split at h3
    · rename_i k hu
      simp only [Bool.and_eq_true] at h3
      have hlt : off + 1 ≤ n := Nat.le_of_ble_eq_true h3.1
      have ih := eqFl_ok w hr ⟨e, rfl⟩ ha hb fs (off + 1) h3.2
      have p1 : (part f.type (ints a) off).run P w = .ok (.int .i64 (a[off]'(by omega))) w := by simp [part, isAgg, run_underlying hu, ints_get a off (by omega)]
      have p2 : (part f.type (ints b) off).run P w = .ok (.int .i64 (b[off]'(by omega))) w := by simp [part, isAgg, run_underlying hu, ints_get b off (by omega)]
      simp only [Sem.run_bind, p1, Result.andThen_ok, p2, run_equalIn_int w e f.type .i64 k _ _ hu]
      have d1 := List.drop_eq_getElem_cons (l := a) (i := off) (by omega)
      have d2 := List.drop_eq_getElem_cons (l := b) (i := off) (by omega)
      rw [d1, d2]
      by_cases hq : a[off]'(by omega) = b[off]'(by omega)
      · simp only [hq, ih, beq_self_eq_true, Bool.not_true, Bool.false_eq_true, if_false, List.cons_beq_cons, Bool.true_and]
      · have hf : (a[off]'(by omega) == b[off]'(by omega)) = false := by simpa using hq
        simp only [hf, List.cons_beq_cons, Bool.false_and, Bool.not_false, if_true, Sem.run_pure]
    · rename_i ffs hu
      split at h3
      · rename_i i hi
        simp only [Bool.and_eq_true] at h3
        have hlt : off + i.size ≤ n := Nat.le_of_ble_eq_true h3.1.1
        have ih := eqFl_ok w hr ⟨e, rfl⟩ ha hb fs (off + i.size) h3.2
        have p1 : (part f.type (ints a) off).run P w = .ok (.agg (ints ((a.drop off).take i.size))) w := by simp [part, isAgg, run_underlying hu, sizeOf, typeInfo, hi, ints_ext]
        have p2 : (part f.type (ints b) off).run P w = .ok (.agg (ints ((b.drop off).take i.size))) w := by simp [part, isAgg, run_underlying hu, sizeOf, typeInfo, hi, ints_ext]
        have p3 := hr f.type i.size h3.1.2 ((a.drop off).take i.size) ((b.drop off).take i.size) (by rw [List.length_take, List.length_drop]; omega) (by rw [List.length_take, List.length_drop]; omega)
        simp only [Sem.run_bind, p1, Result.andThen_ok, p2, p3]
        have e1 : a.drop off = (a.drop off).take i.size ++ a.drop (off + i.size) := by rw [← List.drop_drop, List.take_append_drop]
        have e2 : b.drop off = (b.drop off).take i.size ++ b.drop (off + i.size) := by rw [← List.drop_drop, List.take_append_drop]
        by_cases hq : (a.drop off).take i.size = (b.drop off).take i.size
        · rw [hq]
          have hz : (a.drop off == b.drop off) = (a.drop (off + i.size) == b.drop (off + i.size)) := by
            rw [Bool.eq_iff_iff]
            simp only [beq_iff_eq]
            constructor
            · intro h
              have h' := congrArg (List.drop i.size) h
              simpa only [List.drop_drop] using h'
            · intro h
              rw [e1, e2, hq, h]
          rw [hz]
          simp only [beq_self_eq_true, Bool.not_true, Bool.false_eq_true, if_false]
          exact ih
        · have hf : ((a.drop off).take i.size == (b.drop off).take i.size) = false := by simpa using hq
          have hg : (a.drop off == b.drop off) = false := by
            simp only [beq_eq_false_iff_ne, ne_eq]
            intro h
            exact hq (by rw [h])
          rw [hf, hg]
          simp
      · simp at h3
    · simp at h3

theorem okEq_run (w : World) : ∀ (d e : Nat) (t : TypeId) (n : Nat), okEq P d t n = true → ∀ a b : List Int, a.length = n → b.length = n → (Op.equalIn (d + (e + 1)) t (.agg (ints a)) (.agg (ints b))).run P w = .ok (a == b) w
  | 0, e, t, n, h, a, b, ha, hb => by simp [okEq] at h
  | d + 1, e, t, n, h, a, b, ha, hb => by
    simp only [okEq] at h
    split at h
    · rename_i fs hu
      simp only [Bool.and_eq_true, Bool.not_eq_true'] at h
      have hf : P.fieldsOf t = fs := by simp [Program.fieldsOf, hu]
      have hd : d + 1 + (e + 1) = (d + (e + 1)) + 1 := by omega
      rw [hd, run_equalIn_struct w (d + (e + 1)) t _ _ (by rw [hf]; exact hu) h.1, hf]
      exact eqFl_ok w (fun t s hs a b ha hb => okEq_run w d e t s hs a b ha hb) ⟨d + e, rfl⟩ ha hb fs.toList 0 h.2
    · simp at h
theorem eqok_of {t : TypeId} (h : okEq P 3 t (tSize P t) = true) (hg : P.eqGuardType P.depth t = false) : EqOK P t := by
  intro a b p q w ha hb
  have key := okEq_run w 3 9996 t (tSize P t) h a b ha hb
  have k2 : (Op.equalIn 10000 t (.agg (ints a)) (.agg (ints b))).run P w = .ok (a == b) w := key
  refine ⟨?_, ?_⟩
  · show ((do eqGuard .eql t p q (.agg (ints a)) (.agg (ints b)); binOp .eql t (.agg (ints a)) (.agg (ints b))) : Sem Value).run P w = _
    simp only [Sem.run_bind, run_eqGuard_agg w .eql t p q _ _ hg, Result.andThen_ok, run_eql_struct w t _ _, k2]
  · show ((do eqGuard .neq t p q (.agg (ints a)) (.agg (ints b)); binOp .neq t (.agg (ints a)) (.agg (ints b))) : Sem Value).run P w = _
    simp only [Sem.run_bind, run_eqGuard_agg w .neq t p q _ _ hg, Result.andThen_ok, run_neq_struct w t _ _, k2]

end Go.Proofs.Ytncjcbdbdocjaaa.Ax

/- From the reading of a statement's arguments to read-only trees. -/
namespace Go.Proofs.Ytncjcbdbdocjaaa.Ax
open Go

variable {P : Program} {W : World}

/-- Descriptions of types. -/
inductive D where
  | int (k : IntKind)
  | bool
  | str
  | sl (e : D)
  | st (fs : List D)
mutual
def D.size : D → Nat
  | .st fs => D.sizes fs
  | _ => 1
def D.sizes : List D → Nat
  | [] => 0
  | d :: r => d.size + D.sizes r
end
mutual
def okD (P : Program) : D → TypeId → Bool
  | .int k, t => (match P.underlying t with | some (.int k') => decide (k' = k) | _ => false) && P.cellsOf t == 1
  | .bool, t => (match P.underlying t with | some .bool => true | _ => false) && P.cellsOf t == 1
  | .str, t => (match P.underlying t with | some .string => true | _ => false) && P.cellsOf t == 1
  | .sl e, t => (match P.underlying t with | some (.slice u) => okD P e u && Nat.blt 0 e.size | _ => false) && P.cellsOf t == 1
  | .st fs, t => (match P.underlying t with | some (.struct gs) => okDs P fs gs.toList 0 | _ => false) && P.cellsOf t == D.sizes fs
def okDs (P : Program) : List D → List Field → Nat → Bool
  | [], [], _ => true
  | d :: r, f :: gs, off => f.offset == off && okD P d f.type && okDs P r gs (off + d.size)
  | _, _, _ => false
end
mutual
/-- Cells of a described type. -/
def OfD : D → List X → Prop
  | .int k, xs => ∃ n, xs = [.sc (.int k n)] ∧ (Lit.int k n).wf = true
  | .bool, xs => ∃ b, xs = [.sc (.bool b)]
  | .str, xs => ∃ s, xs = [.sc (.string s)] ∧ s.size ≤ maxLen
  | .sl e, xs => ∃ es, xs = [.sl 0 es] ∧ es.length ≤ maxLen ∧ ∀ y ∈ es, OfE e y
  | .st fs, xs => OfDs fs xs
def OfDs : List D → List X → Prop
  | [], xs => xs = []
  | d :: r, xs => ∃ a b, xs = a ++ b ∧ OfD d a ∧ OfDs r b
/-- An element. -/
def OfE : D → X → Prop
  | .st fs, y => ∃ cs, y = .agg cs ∧ OfDs fs cs
  | .int k, y => ∃ n, y = .sc (.int k n) ∧ (Lit.int k n).wf = true
  | .bool, y => ∃ b, y = .sc (.bool b)
  | .str, y => ∃ s, y = .sc (.string s) ∧ s.size ≤ maxLen
  | .sl e, y => ∃ es, y = .sl 0 es ∧ es.length ≤ maxLen ∧ ∀ y ∈ es, OfE e y
end
def D.pack : D → List X → X
  | .st _, xs => .agg xs
  | _, xs => xs.headD .junk
theorem okD_size {d : D} {t : TypeId} (h : okD P d t = true) : P.cellsOf t = d.size := by
  cases d <;> simp only [okD, Bool.and_eq_true, beq_iff_eq] at h <;> simp [D.size, h.2]
theorem pack_ofE {d : D} {xs : List X} (h : OfD d xs) : OfE d (d.pack xs) ∧ (d.pack xs).cells = xs := by
  cases d with
  | int k => obtain ⟨n, rfl, hw⟩ := h; exact ⟨⟨n, rfl, hw⟩, rfl⟩
  | bool => obtain ⟨n, rfl⟩ := h; exact ⟨⟨n, rfl⟩, rfl⟩
  | str => obtain ⟨n, rfl, hw⟩ := h; exact ⟨⟨n, rfl, hw⟩, rfl⟩
  | sl e => obtain ⟨es, rfl, hw⟩ := h; exact ⟨⟨es, rfl, hw⟩, rfl⟩
  | st fs => exact ⟨⟨xs, rfl, h⟩, rfl⟩

def Inb (W : World) (g : Nat) : Prop := g < W.heap.size
def Reads (W : World) (xs : List X) (cs : List Value) : Prop := ∀ (i : Nat) (c : X), xs[i]? = some c → ∃ v, cs[i]? = some v ∧ Ro W (Inb W) c v

section
variable {H : Type} {enc : TypeId × Value → H} {spare : Nat → Bool} {held : Bool} {base : Nat}
theorem reads_of_trod : ∀ (n : Nat) (d : D) (t : TypeId) (cs : List Value) (x : DataW H × List MemPlace), okD P d t = true → DataW.trod enc P W base spare held n t cs = some x →
    ∃ xs, OfD d xs ∧ xs.length = d.size ∧ cs.length = d.size ∧ Reads W xs cs
  | 0, d, t, cs, x, hd, h => by simp [DataW.trod] at h
  | n + 1, .int k, t, cs, x, hd, h => by
    simp only [okD, Bool.and_eq_true] at hd
    have hd := hd.1
    split at hd
    · rename_i k' hu
      obtain rfl := of_decide_eq_true hd
      obtain ⟨m, rfl, -, hw⟩ := DataW.trod_int hu h
      exact ⟨[.sc (.int _ m)], ⟨m, rfl, hw⟩, rfl, rfl, fun i c hc => by
        cases i with
        | zero => cases hc; exact ⟨_, rfl, .sc _ rfl⟩
        | succ i => simp at hc⟩
    · simp at hd
  | n + 1, .bool, t, cs, x, hd, h => by
    simp only [okD, Bool.and_eq_true] at hd
    have hd := hd.1
    split at hd
    · rename_i hu
      obtain ⟨m, rfl, -⟩ := DataW.trod_bool hu h
      exact ⟨[.sc (.bool m)], ⟨m, rfl⟩, rfl, rfl, fun i c hc => by
        cases i with
        | zero => cases hc; exact ⟨_, rfl, .sc _ rfl⟩
        | succ i => simp at hc⟩
    · simp at hd
  | n + 1, .str, t, cs, x, hd, h => by
    simp only [okD, Bool.and_eq_true] at hd
    have hd := hd.1
    split at hd
    · rename_i hu
      obtain ⟨m, rfl, -, hw⟩ := DataW.trod_string hu h
      exact ⟨[.sc (.string m)], ⟨m, rfl, hw⟩, rfl, rfl, fun i c hc => by
        cases i with
        | zero => cases hc; exact ⟨_, rfl, .sc _ rfl⟩
        | succ i => simp at hc⟩
    · simp at hd
  | n + 1, .st fs, t, cs, x, hd, h => by
    have hsz := okD_size hd
    simp only [okD, Bool.and_eq_true] at hd
    obtain ⟨hd, hc⟩ := hd
    split at hd
    · rename_i gs hu
      obtain ⟨ys, m, hm, -, hlen, hyl, hy⟩ := DataW.trod_struct hu h
      have hmn : m = n := by omega
      subst hmn
      have key : ∀ (ds : List D) (gl : List Field) (off : Nat), okDs P ds gl off = true → (∀ f ∈ gl, ∃ z, DataW.trod enc P W base spare held m f.type ((cs.drop f.offset).take (P.cellsOf f.type)) = some z) → off + D.sizes ds ≤ cs.length →
          ∃ xs, OfDs ds xs ∧ xs.length = D.sizes ds ∧ Reads W xs (cs.drop off) := by
        intro ds
        induction ds with
        | nil =>
          intro gl off ho hf hl
          exact ⟨[], rfl, rfl, fun i c hc => by simp at hc⟩
        | cons d r ih =>
          intro gl off ho hf hl
          cases gl with
          | nil => simp [okDs] at ho
          | cons f gl =>
            simp only [okDs, Bool.and_eq_true, beq_iff_eq] at ho
            obtain ⟨⟨h1, h2⟩, h3⟩ := ho
            obtain ⟨z, hz⟩ := hf f (by simp)
            obtain ⟨xs, q1, q2, q3, q4⟩ := reads_of_trod m d f.type _ z h2 hz
            simp only [D.sizes] at hl
            obtain ⟨xs2, p1, p2, p3⟩ := ih gl (off + d.size) h3 (fun f hf2 => hf f (by simp [hf2])) (by omega)
            refine ⟨xs ++ xs2, ⟨xs, xs2, rfl, q1, p1⟩, by simp [q2, p2, D.sizes], fun i c hc => ?_⟩
            rw [h1, okD_size h2] at q4
            by_cases hi : i < xs.length
            · rw [List.getElem?_append_left hi] at hc
              obtain ⟨v, hv, hr⟩ := q4 i c hc
              rw [List.getElem?_take_of_lt (by omega)] at hv
              exact ⟨v, hv, hr⟩
            · rw [List.getElem?_append_right (by omega)] at hc
              obtain ⟨v, hv, hr⟩ := p3 _ c hc
              rw [List.getElem?_drop] at hv ⊢
              exact ⟨v, by rw [← hv]; congr 1; omega, hr⟩
      obtain ⟨xs, k1, k2, k3⟩ := key fs gs.toList 0 hd (fun f hf => by
        obtain ⟨i, hi, rfl⟩ := List.getElem_of_mem hf
        have := hy i gs.toList[i] (by simp)
        rw [this]
        have hlt : i < ys.length := by rw [hyl]; simpa using hi
        exact ⟨ys[i], by simp [hlt]⟩) (by rw [hlen, hsz]; simp [D.size])
      exact ⟨xs, k1, k2, by rw [hlen, hsz], by simpa using k3⟩
    · simp at hd
  | n + 1, .sl e, t, cs, x, hd, h => by
    simp only [okD, Bool.and_eq_true] at hd
    have hd := hd.1
    split at hd
    · rename_i u hu
      simp only [Bool.and_eq_true] at hd
      obtain ⟨he, hpos⟩ := hd
      have hpos : 0 < e.size := Nat.le_of_ble_eq_true hpos
      rcases DataW.trod_slice hu h with ⟨rfl, -⟩ | ⟨a, len, cap, elems, rest, m, hm, rfl, -, hb, hl, hc, hel, hget, -, -⟩
      · exact ⟨[.sl 0 []], ⟨[], rfl, by simp, by simp⟩, rfl, rfl, fun i c hc => by
          cases i with
          | zero => cases hc; exact ⟨_, rfl, .nil none 0⟩
          | succ i => simp at hc⟩
      · have hmn : m = n := by omega
        subst hmn
        have hce := okD_size he
        -- the elements
        have hex : ∀ i, i < len → ∃ ci xi, W.cells? base (a.add (i * e.size)) e.size = some ci ∧ OfD e xi ∧ xi.length = e.size ∧ ci.length = e.size ∧ Reads W xi ci := by
          intro i hi
          have hg := hget i hi
          rw [hce] at hg
          have hsome : elems[i]? = some (elems[i]'(by omega)) := by simp [show i < elems.length by omega]
          rw [hsome] at hg
          cases hcs : W.cells? base (a.add (i * e.size)) e.size with
          | none => simp [hcs] at hg
          | some ci =>
            simp only [hcs, Option.bind_some] at hg
            obtain ⟨xi, q1, q2, q3, q4⟩ := reads_of_trod m e u ci _ he hg
            exact ⟨ci, xi, rfl, q1, q2, q3, q4⟩
        have hlist : ∀ k, k ≤ len → ∃ L : List (List X × List Value), L.length = k ∧ ∀ i (p : List X × List Value), L[i]? = some p → W.cells? base (a.add (i * e.size)) e.size = some p.2 ∧ OfD e p.1 ∧ p.1.length = e.size ∧ p.2.length = e.size ∧ Reads W p.1 p.2 := by
          intro k
          induction k with
          | zero => intro _; exact ⟨[], rfl, fun i p hp => by simp at hp⟩
          | succ k ih =>
            intro hk
            obtain ⟨L, h1, h2⟩ := ih (by omega)
            obtain ⟨ci, xi, q1, q2, q3, q4, q5⟩ := hex k (by omega)
            refine ⟨L ++ [(xi, ci)], by simp [h1], fun i p hp => ?_⟩
            by_cases hi : i < L.length
            · rw [List.getElem?_append_left hi] at hp; exact h2 i p hp
            · rw [List.getElem?_append_right (by omega)] at hp
              have : i - L.length = 0 := by
                rcases Nat.eq_zero_or_pos (i - L.length) with h0 | h0
                · exact h0
                · rw [List.getElem?_eq_none (by simp; omega)] at hp; cases hp
              rw [this] at hp
              cases hp
              obtain rfl : i = k := by omega
              exact ⟨q1, q2, q3, q4, q5⟩
        obtain ⟨L, hL1, hL2⟩ := hlist len (Nat.le_refl _)
        have hes : ∀ y ∈ L.map (fun p => e.pack p.1), OfE e y := by
          intro y hy
          obtain ⟨p, hp, rfl⟩ := List.mem_map.1 hy
          obtain ⟨i, hi⟩ := List.mem_iff_getElem?.1 hp
          exact (pack_ofE (hL2 i p hi).2.1).1
        refine ⟨[.sl 0 (L.map fun p => e.pack p.1)], ⟨_, rfl, by simp; omega, hes⟩, rfl, rfl, fun i c hic => ?_⟩
        cases i with
        | succ i => simp at hic
        | zero =>
          cases hic
          refine ⟨_, rfl, ?_⟩
          by_cases h0 : len = 0
          · subst h0
            have : L = [] := List.length_eq_zero_iff.1 hL1
            subst this
            exact .nil _ _
          · obtain ⟨g, o, sp⟩ := a
            obtain ⟨p0, hp0⟩ : ∃ p, L[0]? = some p := ⟨L[0]'(by omega), by simp [show 0 < L.length by omega]⟩
            have hc0 := World.cells?_some (hL2 0 p0 hp0).1
            have hsp : sp = none := by
              have := hc0.2.2 0 (by omega)
              have h2 : ∃ v, p0.2[0]? = some v := ⟨p0.2[0]'(by have := (hL2 0 p0 hp0).2.2.2.1; omega), by simp⟩
              obtain ⟨v, hv⟩ := h2
              rw [hv] at this
              simpa [Addr.add] using World.cell?_spot this
            subst hsp
            have hgb : Inb W g := by
              have := World.cells?_block (hL2 0 p0 hp0).1 (by omega)
              simpa [Addr.add, Inb] using this
            refine .sl g o len cap e.size (L.map fun p => e.pack p.1) (fun j i => ((L[j]?).bind fun p => p.2[i]?).getD undef) (by simp [hL1]) hl hc hgb hpos (fun j y hj => ?_) (fun j y i c hj hi => ?_) (fun j y i c hj hi => ?_)
            · rw [List.getElem?_map, Option.map_eq_some_iff] at hj
              obtain ⟨p, hp, rfl⟩ := hj
              rw [(pack_ofE (hL2 j p hp).2.1).2]; exact (hL2 j p hp).2.2.1
            · rw [List.getElem?_map, Option.map_eq_some_iff] at hj
              obtain ⟨p, hp, rfl⟩ := hj
              rw [(pack_ofE (hL2 j p hp).2.1).2] at hi
              obtain ⟨q1, q2, q3, q4, q5⟩ := hL2 j p hp
              obtain ⟨v, hv, -⟩ := q5 i c hi
              have hlt : i < e.size := by rw [← q3]; exact (List.getElem?_eq_some_iff.1 hi).1
              have := (World.cells?_some q1).2.2 i hlt
              simp only [hp, Option.bind_some, hv, Option.getD_some]
              rw [hv] at this
              rw [← this]
              rw [Go.WideShapes.add_plain, Go.WideShapes.add_plain]
            · rw [List.getElem?_map, Option.map_eq_some_iff] at hj
              obtain ⟨p, hp, rfl⟩ := hj
              rw [(pack_ofE (hL2 j p hp).2.1).2] at hi
              obtain ⟨v, hv, hr⟩ := (hL2 j p hp).2.2.2.2 i c hi
              simp only [hp, Option.bind_some, hv, Option.getD_some]
              exact hr
    · simp at hd

/-- A value that is handed over, and the tree that it reads as. -/
def ArgOK (W : World) (x : X) (v : Value) : Prop := ∃ l : L, l.er = x ∧ l.flat = v ∧ l.mem W (Inb W)
theorem arg_cell {x : X} {v : Value} {d : D} {xs : List X} (h : Ro W (Inb W) x v) (hx : x ∈ xs) (ho : OfD d xs) : ∃ l : L, l.er = x ∧ l.flat = v ∧ l.mem W (Inb W) := by
  cases h with
  | sc v h => exact ⟨.sc v, rfl, rfl, h⟩
  | opq t y => exact ⟨.opq (.iface t y), rfl, rfl, _, _, rfl⟩
  | nil a cap => exact ⟨.ro _ [], rfl, rfl, .nil a cap⟩
  | sl g o n cap sz es f h1 h2 h3 h4 h5 h6 h7 h8 => exact ⟨.ro _ es, rfl, rfl, .sl g o n cap sz es f h1 h2 h3 h4 h5 h6 h7 h8⟩
theorem args_cells {d : D} {ys : List X} (ho : OfD d ys) : ∀ (xs : List X) (cs : List Value), (∀ x ∈ xs, x ∈ ys) → xs.length = cs.length → Reads W xs cs → ∃ ls : List L, L.ers ls = xs ∧ L.flats ls = cs ∧ L.mems W (Inb W) ls
  | [], [], _, _, _ => ⟨[], rfl, rfl, trivial⟩
  | x :: xs, c :: cs, hm, hl, hr => by
    obtain ⟨v, hv, hro⟩ := hr 0 x rfl
    cases hv
    obtain ⟨l, h1, h2, h3⟩ := arg_cell hro (hm x (by simp)) ho
    obtain ⟨ls, k1, k2, k3⟩ := args_cells ho xs cs (fun x hx => hm x (by simp [hx])) (by simpa using hl) (fun i c hc => hr (i + 1) c hc)
    exact ⟨l :: ls, by simp [L.ers, h1, k1], by simp [L.flats, h2, k2], h3, k3⟩
  | [], _ :: _, _, h, _ => by simp at h
  | _ :: _, [], _, h, _ => by simp at h
theorem arg_of {r : Reach} {b0 : Nat} {d : D} {t : TypeId} {v : Value} {dd : DataW H} {ps : List MemPlace} (hd : okD P d t = true) (hT : DataW.Trod enc P W base spare held t v dd ps) (hv : Value.okWide P W r b0 t v) : ∃ x, OfE d x ∧ ArgOK W x v := by
  obtain ⟨fuel, hf⟩ := hT
  obtain ⟨xs, h1, h2, h3, h4⟩ := reads_of_trod fuel d t _ _ hd hf
  have hns : (∀ fs, d ≠ .st fs) → v.cells.toList = [v] → ∃ x, OfE d x ∧ ArgOK W x v := by
    intro hn hc
    rw [hc] at h3 h4
    have hx : ∃ x, xs = [x] := by
      cases xs with
      | nil => simp at h2; rw [← h2] at h3; simp at h3
      | cons x r => cases r with
        | nil => exact ⟨x, rfl⟩
        | cons y r => simp at h2 h3; omega
    obtain ⟨x, rfl⟩ := hx
    have hp : d.pack [x] = x := by cases d <;> first | rfl | exact absurd rfl (hn _)
    obtain ⟨v', hv', hro⟩ := h4 0 x rfl
    cases hv'
    exact ⟨x, hp ▸ (pack_ofE h1).1, arg_cell hro (by simp) h1⟩
  cases d with
  | st fs =>
    simp only [okD, Bool.and_eq_true] at hd
    obtain ⟨hd, hc⟩ := hd
    split at hd
    · rename_i gs hu
      simp only [Value.okWide, hu] at hv
      obtain ⟨cs, rfl, -, -⟩ := hv
      obtain ⟨ls, k1, k2, k3⟩ := args_cells h1 xs cs.toList (fun x hx => hx) (by rw [h2]; exact h3.symm) h4
      exact ⟨.agg xs, ⟨xs, rfl, h1⟩, .agg ls, by simp [L.er, k1], by simp [L.flat, k2], k3⟩
    · simp at hd
  | int k =>
    refine hns (fun _ h => by cases h) ?_
    simp only [okD, Bool.and_eq_true] at hd
    obtain ⟨hd, hc⟩ := hd
    split at hd
    · rename_i k' hu
      simp only [Value.okWide, hu, Cell.okWide] at hv
      cases v <;> simp_all [Cell.ok, Value.cells]
    · simp at hd
  | bool =>
    refine hns (fun _ h => by cases h) ?_
    simp only [okD, Bool.and_eq_true] at hd
    obtain ⟨hd, hc⟩ := hd
    split at hd
    · rename_i hu
      simp only [Value.okWide, hu, Cell.okWide] at hv
      cases v <;> simp_all [Cell.ok, Value.cells]
    · simp at hd
  | str =>
    refine hns (fun _ h => by cases h) ?_
    simp only [okD, Bool.and_eq_true] at hd
    obtain ⟨hd, hc⟩ := hd
    split at hd
    · rename_i hu
      simp only [Value.okWide, hu, Cell.okWide] at hv
      cases v <;> simp_all [Cell.ok, Value.cells]
    · simp at hd
  | sl e =>
    refine hns (fun _ h => by cases h) ?_
    simp only [okD, Bool.and_eq_true] at hd
    obtain ⟨hd, hc⟩ := hd
    split at hd
    · rename_i u hu
      simp only [Value.okWide, hu, Cell.okWide] at hv
      cases v <;> simp_all [Cell.ok, Value.cells]
    · simp at hd
end

inductive ArgsR (W : World) : List X → List Value → Prop
  | nil : ArgsR W [] []
  | cons {x : X} {v : Value} {xs : List X} {vs : List Value} : ArgOK W x v → ArgsR W xs vs → ArgsR W (x :: xs) (v :: vs)
theorem ArgsR.ls {W : World} {xs : List X} {vs : List Value} (h : ArgsR W xs vs) : ∃ ls : List L, ls.map L.er = xs ∧ ls.map L.flat = vs ∧ ∀ l ∈ ls, l.mem W (Inb W) := by
  induction h with
  | nil => exact ⟨[], rfl, rfl, by simp⟩
  | cons h _ ih =>
    obtain ⟨l, h1, h2, h3⟩ := h
    obtain ⟨ls, k1, k2, k3⟩ := ih
    exact ⟨l :: ls, by simp [h1, k1], by simp [h2, k2], by simpa [h3] using k3⟩
/-- A law that answers true. -/
theorem law_calls {f : FuncId} {xs : List X} {vs : List Value} (hsp : Spec P f none xs (.sc (.bool true)) .junk) (ha : ArgsR W xs vs) : Calls P f vs.toArray W fun e w' => e = .returned (.bool true) ∧ RowKit.Below W.heap.size W w' := by
  obtain ⟨ls, h1, h2, h3⟩ := ha.ls
  have h := hsp.2 W (Inb W) ls h1 ⟨h3, by simp [ownL, L.fp], by simp [ownL, L.fp], fun g hg => hg, trivial⟩
  rw [h2] at h
  refine Calls.mono h fun e w' hq => ?_
  obtain ⟨lr, lo, S', rfl, hr, -, hR⟩ := hq
  have hlr : lr = .sc (.bool true) := by
    cases lr <;> simp [L.er] at hr
    rw [hr]
  subst hlr
  have fr := hR.frame
  simp only [ownL, L.fp] at fr
  exact ⟨rfl, fr.os, fr.tape, fr.output, fr.size, fun k hk => fr.block k hk (by simp)⟩

end Go.Proofs.Ytncjcbdbdocjaaa.Ax

/- A region whose last operation stores a struct with slices into an element of a list: the views of the list itself stay good. -/
namespace Go.Proofs.Ytncjcbdbdocjaaa.Ax
open Go

variable {P : Program} {Γ : Ctx} {st s2 : St} {cv : Nat → Option Nat} {ops : List Oper} {l : List Oper} {K : St → Prop} {a : Act} {w : World} {LB : Nat → Option BL} {S : Nat → Prop}

/-- Temporaries that hold the list, again under the box's number. -/
def reView (b ver : Nat) (ts : List (Nat × Nat)) (st : St) : St := ⟨ts.map (fun x => (x.1, X.view b ver [] x.2)) ++ st.tm, st.bx⟩
def keepAt (P : Program) (ops : List Oper) (e y : X) (ts : List (Nat × Nat)) (l : List Oper) (st : St) : Option (List Prop × St) :=
  match l with
  | [o] =>
    match o.op, o.dst with
    | .store _ p _, none =>
      match st.opd p with
      | .ep b ver (_ :: _) _ =>
        bif ts.all fun x => match st.look x.1 with | .view b' v' [] c' => Nat.beq b b' && Nat.beq ver v' && Nat.beq x.2 c' | _ => false then
          match asAt P ops e y [o] st with
          | some z => some (z.1, reView b ((st.put none z.2.1 z.2.2).box b).ver ts (st.put none z.2.1 z.2.2))
          | none => none
        else none
      | _ => none
    | _, _ => none
  | _ => none
theorem look_app {bx : Nat → Bx} {tm : List (Nat × X)} {f : Nat → Value} {b ver : Nat} : ∀ ts : List (Nat × Nat), (∀ x ∈ ts, TRel bx LB w S (.view b ver [] x.2) (f x.1)) → (∀ t, TRel bx LB w S (lookT tm t) (f t)) →
    ∀ t, TRel bx LB w S (lookT (ts.map (fun x => (x.1, X.view b ver [] x.2)) ++ tm) t) (f t)
  | [], _, h, t => h t
  | x :: ts, hx, h, t => by
    simp only [List.map_cons, List.cons_append, lookT]
    split
    · rename_i ht; subst ht; exact hx x (by simp)
    · exact look_app ts (fun y hy => hx y (by simp [hy])) h t
theorem keepAt_sound {ops : Array Oper} {k : Nat} {o : Oper} (ho : ops[k]? = some o) (hd : regD Γ.n ops = true) {e y : X} {ts : List (Nat × Nat)} {ps : List Prop} (he : keepAt P ops.toList e y ts [o] st = some (ps, s2)) (hs : sides ps)
    (h : Sim Γ st a w) {Q : Exit → Act → World → Prop} (hK : ∀ a' w', Sim Γ s2 a' w' → Q .normal a' w') : wpOps P ops Q [k] a w := by
  obtain ⟨LB, S, h⟩ := h
  have hmem : o ∈ ops.toList := by
    have : ops.toList[k]? = some o := by simpa using ho
    exact List.mem_of_getElem? this
  unfold keepAt at he
  simp only at he
  split at he
  · rename_i t p q hop hdst
    split at he
    · rename_i b ver q0 p0 off hep
      cases hall : ts.all fun x => match st.look x.1 with | .view b' v' [] c' => Nat.beq b b' && Nat.beq ver v' && Nat.beq x.2 c' | _ => false with
      | false => rw [hall] at he; simp at he
      | true =>
        rw [hall, _root_.cond_true] at he
        split at he
        · rename_i z hz
          simp only [Option.some.injEq, Prod.mk.injEq] at he
          obtain ⟨rfl, rfl⟩ := he
          obtain ⟨z1, z2, z3⟩ := z
          obtain ⟨o', r', hl', hg, side, hev, hsd⟩ := asAt_ok hz hs
          simp only [List.cons.injEq] at hl'
          obtain ⟨rfl, rfl⟩ := hl'
          have hev' : evStore P st t (st.opd p) (st.opd q) = .ok side z2 z3 := by
            simpa only [evOp, hop] using hev
          obtain ⟨w', LB', hrun, hsim, hvw⟩ := store_sound2 h (regD_dst hd hmem) hop hev'
          simp only [wpOps, ho]
          rw [gd_wanted h hg]
          simp only [if_true]
          refine .inl ?_
          unfold Oper.wp
          rw [hrun]
          refine hK _ _ ⟨LB', S, ?_⟩
          rw [hdst] at hsim hvw ⊢
          refine ⟨hsim.defers, hsim.size, ?_, hsim.bx, hsim.nd, hsim.dj, hsim.fr, hsim.S0, hsim.Sw, hsim.frame, hsim.tag, hsim.pb, hsim.Sn⟩
          refine look_app ts (fun x hx => ?_) hsim.tm
          have hx' := List.all_eq_true.1 hall x hx
          split at hx'
          · rename_i b' v' c' hlk
            simp only [Bool.and_eq_true] at hx'
            obtain rfl := Nat.eq_of_beq_eq_true hx'.1.1
            obtain rfl := Nat.eq_of_beq_eq_true hx'.1.2
            have e3 := Nat.eq_of_beq_eq_true hx'.2
            have h0 := h.tm x.1
            rw [hlk, ← e3] at h0
            exact hvw b ver q0 p0 off hep x.2 _ h0
          · simp at hx'
        · simp at he
    · simp at he
  · simp at he
theorem Reg_sound_k {cv : Nat → Option Nat} {ops : Array Oper} {Q : Exit → Act → World → Prop} {K : St → Prop} {rest : List Nat} (hd : regD Γ.n ops = true) (hQ : ∀ st a w, Sim Γ st a w → K st → wpOps P ops Q rest a w) :
    ∀ (l : List Oper) (k : Nat) (st : St) (a : Act) (w : World), (∀ j o, l[j]? = some o → ops[k + j]? = some o) → Reg P cv ops.toList l st K → Sim Γ st a w → wpOps P ops Q (List.range' k l.length ++ rest) a w
  | [], k, st, a, w, hl, h, hs => hQ st a w hs h
  | o :: r, k, st, a, w, hl, h, hs => by
    have ho : ops[k]? = some o := by have := hl 0 o rfl; simpa using this
    obtain ⟨x, us, hst, hr⟩ := Reg_step h
    have hmem : o ∈ ops.toList := by
      have : ops.toList[k]? = some o := by simpa using ho
      exact List.mem_of_getElem? this
    simp only [List.length_cons, List.range'_succ, List.cons_append, wpOps, ho]
    exact step_sound hs (regD_dst hd hmem) hst fun a' w' hs' =>
      Reg_sound_k hd hQ r (k + 1) _ a' w' (fun j o' hj => by have := hl (j + 1) o' (by simpa using hj); simpa [Nat.add_assoc, Nat.add_comm 1] using this) hr hs'
theorem region_keep {id : Nat} {ops : Array Oper} {Q : Exit → St → Prop} (n : Nat) (o : Oper) (hl : ops.toList = ops.toList.take n ++ [o]) (hn : (ops.toList.take n).length = n) (hd : regD Γ.n ops = true)
    (h : RegP P cv ops.toList ((ops.toList.take n).drop 0) st fun st1 => ∃ e y ts ps s2, keepAt P ops.toList e y ts [o] st1 = some (ps, s2) ∧ sides ps ∧ Q .normal s2) : Runs P Γ (.region id ops false) st Q := by
  intro a w hs
  refine wp_region ?_
  have ho : ops[n]? = some o := by
    have : ops.toList[n]? = some o := by rw [hl, List.getElem?_append_right (by omega), hn, Nat.sub_self]; rfl
    simpa using this
  have hsz : ops.size = n + 1 := by
    have := congrArg List.length hl
    simpa [hn] using this
  have hr : List.range ops.size = List.range' 0 (ops.toList.take n).length ++ [n] := by
    rw [hsz, hn, ← List.range_eq_range', List.range_succ]
  rw [hr]
  have h1 : Reg P cv ops.toList (ops.toList.take n) st _ := h.h
  refine Reg_sound_k (cv := cv) (Q := fun e a' w' => ∃ st', Sim Γ st' a' w' ∧ Q e st') hd (fun st1 a1 w1 hs1 hk => ?_) (ops.toList.take n) 0 st a w (fun j o' hj => ?_) h1 hs
  · obtain ⟨e, y, ts, ps, s2, hk1, hk2, hk3⟩ := hk
    exact keepAt_sound ho hd hk1 hk2 hs1 fun a' w' hs' => ⟨s2, hs', hk3⟩
  · have : ops.toList[j]? = some o' := by
      rw [hl, List.getElem?_append_left (List.getElem?_eq_some_iff.1 hj).1]; exact hj
    simpa using this
/-- After all but the last operation. -/
def Keep (P : Program) (ops : List Oper) (n : Nat) (st : St) (K : St → Prop) : Prop := ∃ e y ts ps s2, keepAt P ops e y ts (ops.drop n) st = some (ps, s2) ∧ sides ps ∧ K s2
theorem region_kept {id : Nat} {ops : Array Oper} {Q : Exit → St → Prop} (n : Nat) (hsz : ops.size = n + 1) (hd : regD Γ.n ops = true)
    (h : RegP P cv ops.toList ((ops.toList.take n).drop 0) st fun st1 => Keep P ops.toList n st1 (Q .normal)) : Runs P Γ (.region id ops false) st Q := by
  have hlen : ops.toList.length = n + 1 := by simpa using hsz
  have ho : ops.toList[n]? = some (ops.toList[n]'(by omega)) := List.getElem?_eq_getElem (by omega)
  have hdr : ops.toList.drop n = [ops.toList[n]'(by omega)] := by
    rw [List.drop_eq_getElem_cons (by omega), List.drop_eq_nil_of_le (by omega)]
  refine region_keep (cv := cv) n (ops.toList[n]'(by omega)) ?_ ?_ hd ?_
  · rw [← hdr, List.take_append_drop]
  · rw [List.length_take]; omega
  · simp only [Keep, hdr] at h
    exact h

end Go.Proofs.Ytncjcbdbdocjaaa.Ax
