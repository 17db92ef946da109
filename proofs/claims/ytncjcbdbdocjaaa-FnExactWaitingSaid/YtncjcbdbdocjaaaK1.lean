/- The proof layer, part 1: abstract values and what they say of memory. -/
import Derived.Orders
import Derived.Laws.AppendOwn
import Derived.Laws.OwnMore
import Derived.Laws.StructEq
import Derived.Laws.Concat
import Derived.Laws.BytesArg
import Derived.Laws.BytesString
import Derived.Below
import Derived.Great.BuildSlice
set_option linter.unusedVariables false
set_option linter.unusedSimpArgs false

/- The abstract values, states and the symbolic evaluator of the proof layer: definitions only. -/
namespace Go.Proofs.Ytncjcbdbdocjaaa.Ax
open Go

abbrev Path := List (Nat × Nat)

/-- Abstract values: trees. `sl 0` is a slice that is only read, `sl (t+1)` one of our own; `box`: a pointer to a variable of our own
(arguments and results alone); `ptr`, `view`, `ep`: places in boxes; `rp`: a pointer to an element that is only read. -/
inductive X where
  | sc (v : Value)
  | sl (t : Nat) (es : List X)
  | box (c : X)
  | agg (cs : List X)
  | tup (cs : List X)
  | ptr (b bn off : Nat)
  | view (b ver : Nat) (p : Path) (c : Nat)
  | ep (b ver : Nat) (p : Path) (off : Nat)
  | rp (e : X) (off : Nat)
  | opq
  | junk
  deriving Inhabited

def X.cells : X → List X
  | .agg cs => cs
  | x => [x]

mutual
def X.roify : X → X
  | .sc v => .sc v
  | .sl _ es => .sl 0 (X.roifys es)
  | .agg cs => .agg (X.roifys cs)
  | .opq => .opq
  | _ => .junk
def X.roifys : List X → List X
  | [] => []
  | e :: r => e.roify :: X.roifys r
end

mutual
/-- A callee may read it: a cell, an element, elements, cells. -/
def X.rd : X → Bool
  | .sc _ => true
  | .opq => true
  | .sl _ es => X.rds es
  | _ => false
def X.rde : X → Bool
  | .agg cs => X.rdc cs
  | .sc _ => true
  | .opq => true
  | .sl _ es => X.rds es
  | _ => false
def X.rds : List X → Bool
  | [] => true
  | e :: r => e.rde && X.rds r
def X.rdc : List X → Bool
  | [] => true
  | e :: r => e.rd && X.rdc r
end

mutual
/-- Nothing read-only inside. -/
def X.noRo : X → Bool
  | .sc _ => true
  | .opq => true
  | .sl t es => (t != 0 || es.isEmpty) && X.noRos es
  | .agg cs => X.noRos cs
  | .tup cs => X.noRos cs
  | .box c => c.noRo
  | .junk => true
  | _ => false
def X.noRos : List X → Bool
  | [] => true
  | e :: r => e.noRo && X.noRos r
end

def X.isSc : X → Bool
  | .sc _ => true
  | _ => false
/-- No slice inside: it may be copied. -/
def X.plain : X → Bool
  | .sc _ => true
  | .agg cs => cs.all X.isSc
  | _ => false

/-- Nothing moved out of it. -/
def X.solid1 : X → Bool
  | .sc _ => true
  | .opq => true
  | .sl _ _ => true
  | _ => false
def X.solid : X → Bool
  | .agg cs => cs.all X.solid1
  | x => x.solid1

mutual
def X.roots : X → List Nat
  | .ptr b _ _ => [b]
  | .view b _ _ _ => [b]
  | .ep b _ _ _ => [b]
  | .agg cs => X.rootss cs
  | .tup cs => X.rootss cs
  | _ => []
def X.rootss : List X → List Nat
  | [] => []
  | e :: r => e.roots ++ X.rootss r
end

structure Bx where
  bn : Nat
  ver : Nat
  real : Bool
  c : Option X
  deriving Inhabited

def Bx.none : Bx := ⟨0, 0, false, .none⟩

structure St where
  tm : List (Nat × X)
  bx : List (Nat × Bx)

def lookT : List (Nat × X) → Nat → X
  | [], _ => .junk
  | (k, v) :: r, i => if k = i then v else lookT r i
def lookB : List (Nat × Bx) → Nat → Bx
  | [], _ => Bx.none
  | (k, v) :: r, i => if k = i then v else lookB r i
def St.look (st : St) (i : Nat) : X := lookT st.tm i
def St.box (st : St) (i : Nat) : Bx := lookB st.bx i
def consD (d : Option Nat) (x : X) (tm : List (Nat × X)) : List (Nat × X) :=
  match d with
  | some d => (d, x) :: tm
  | none => tm
def St.put (st : St) (d : Option Nat) (x : X) (us : List (Nat × Bx)) : St := ⟨consD d x st.tm, us ++ st.bx⟩
def St.withB (st : St) (us : List (Nat × Bx)) : St := ⟨st.tm, us ++ st.bx⟩

def ofV1 : Value → X
  | .agg _ => .junk
  | .tuple _ => .junk
  | v => .sc v
def ofV : Value → X
  | .agg cs => .agg (cs.toList.map ofV1)
  | v => ofV1 v
def St.opd (st : St) : Operand → X
  | .tmp t => st.look t
  | .const v => ofV v
  | .func f => .sc (.func (.func f) #[] #[])
  | .global _ => .junk

/-! Places -/
def X.nav : X → Path → Option X
  | e, [] => some e
  | e, (c, j) :: p =>
    match e.cells[c]? with
    | some (.sl (_ + 1) es) => (es[j]?).bind fun e' => X.nav e' p
    | _ => none
def X.put (e : X) (c : Nat) (x : X) : X :=
  match e with
  | .agg cs => .agg (cs.set c x)
  | _ => x
def X.puts (e : X) (c : Nat) : List X → X
  | [] => e
  | x :: xs => (e.put c x).puts (c + 1) xs
/-- An element is changed; where u is set the slices on the way lose their tags (their skeletons change). -/
def X.upd (u : Bool) : X → Path → (X → X) → X
  | e, [], f => f e
  | e, (c, j) :: p, f =>
    match e.cells[c]? with
    | some (.sl (t + 1) es) =>
      match es[j]? with
      | some e' => e.put c (.sl (bif u then 1 else t + 1) (es.set j (X.upd u e' p f)))
      | none => e
    | _ => e

/-- The tag and the elements of a slice at a place. -/
def slAt (B : Bx) (ver : Nat) (p : Path) (c : Nat) : Option (Nat × List X) :=
  if B.ver = ver then
    match B.c with
    | some x =>
      match x.nav p with
      | some e =>
        match e.cells[c]? with
        | some (.sl (t + 1) es) => some (t, es)
        | _ => none
      | none => none
    | none => none
  else none
/-- The elements of a slice. -/
def St.slE (st : St) : X → Option (List X)
  | .sl 0 es => some es
  | .sc (.slice none 0 0) => some []
  | .view b ver p c => (slAt (st.box b) ver p c).map (·.2)
  | _ => none

/-- What a callee sees that only reads. -/
def St.snap1 (st : St) : X → Option X
  | .sc (.slice none 0 0) => some (.sl 0 [])
  | .sc v => some (.sc v)
  | .sl 0 es => some (.sl 0 es)
  | .view b ver p c => (slAt (st.box b) ver p c).bind fun x => if X.rds x.2 = true then some (.sl 0 (X.roifys x.2)) else none
  | .opq => some .opq
  | _ => none
def St.snaps (st : St) : List X → Option (List X)
  | [] => some []
  | x :: r => (st.snap1 x).bind fun y => (st.snaps r).map fun l => y :: l
def St.snap (st : St) : X → Option X
  | .agg cs => (st.snaps cs).map .agg
  | x => st.snap1 x

/-- A slice leaves its place. -/
def Bx.kill (B : Bx) (p : Path) (c : Nat) : Bx := { B with ver := B.ver + 1, c := B.c.map fun x => x.upd true p (·.put c .junk) }
/-- An owner's tag is forgotten. -/
def X.untag : X → X
  | .sl (_ + 1) es => .sl 1 es
  | x => x
def X.untags : X → X
  | .agg cs => .agg (cs.map X.untag)
  | x => x.untag

/-- Moved out: the tree, and the boxes that change. -/
def St.take1 (st : St) : X → Option (X × List (Nat × Bx))
  | .sc (.slice none 0 0) => some (.sl 1 [], [])
  | .sc v => some (.sc v, [])
  | .sl 0 es => some (.sl 0 es, [])
  | .view b ver p c => (slAt (st.box b) ver p c).map fun x => (.sl (bif p.isEmpty then x.1 + 1 else 1) x.2, [(b, (st.box b).kill p c)])
  | .opq => some (.opq, [])
  | _ => none
/-- A place beside one that has just been moved out of the same box is still known. -/
def bumpX : X → X → X
  | .view b v [] c, .view b2 v2 [] c2 => if b2 = b ∧ v2 = v ∧ c2 ≠ c then .view b2 (v2 + 1) [] c2 else .view b2 v2 [] c2
  | _, z => z
def bumps (done : List X) (z : X) : X := done.foldl (fun z y => bumpX y z) z
def St.takesG (st : St) (done : List X) : List X → Option (List X × List (Nat × Bx))
  | [] => some ([], [])
  | x :: r => (st.take1 (bumps done x)).bind fun y => (St.takesG (st.withB y.2) (done ++ [bumps done x]) r).map fun l => (y.1 :: l.1, l.2 ++ y.2)
def St.takes (st : St) (xs : List X) : Option (List X × List (Nat × Bx)) := st.takesG [] xs
def St.take (st : St) : X → Option (X × List (Nat × Bx))
  | .agg cs => (st.takes cs).map fun l => (.agg l.1, l.2)
  | x => st.take1 x

def vid (d k : Nat) : Nat := d + 10000 * k
/-- The boxes of parameters. -/
def PB : Nat := 9000

mutual
/-- A tree is laid: its own slices get boxes of their own, numbered from k on. -/
def St.inst (st : St) (tg : Nat → Nat) (d : Nat) : X → Nat → X × List (Nat × Bx) × Nat
  | .sc v, k => (.sc v, [], k)
  | .opq, k => (.opq, [], k)
  | .sl 0 es, k => (.sl 0 es, [], k)
  | .sl (_ + 1) es, k =>
    let B := st.box (vid d k)
    (.view (vid d k) (B.ver + 1) [] 0, [(vid d k, ⟨B.bn + 1, B.ver + 1, false, some (.sl (tg k) es)⟩)], k + 1)
  | .agg cs, k => let r := St.insts st tg d cs k; (.agg r.1, r.2.1, r.2.2)
  | .tup cs, k => let r := St.insts st tg d cs k; (.tup r.1, r.2.1, r.2.2)
  | .box c, k =>
    let B := st.box (vid d k)
    (.ptr (vid d k) (B.bn + 1) 0, [(vid d k, ⟨B.bn + 1, B.ver + 1, true, some c⟩)], k + 1)
  | _, k => (.junk, [], k)
def St.insts (st : St) (tg : Nat → Nat) (d : Nat) : List X → Nat → List X × List (Nat × Bx) × Nat
  | [], k => ([], [], k)
  | x :: r, k =>
    let a := St.inst st tg d x k
    let l := St.insts st tg d r a.2.2
    (a.1 :: l.1, l.2.1 ++ a.2.1, l.2.2)
end

/-! Types -/
def tSize (P : Program) (t : TypeId) : Nat := match P.info? t with | some i => i.size | none => 0
def tBytes (P : Program) (t : TypeId) : Nat := match P.info? t with | some i => i.bytes | none => 0
def tAgg (P : Program) (t : TypeId) : Option Bool :=
  match P.underlying t with
  | some (.struct _) => some true
  | some (.array ..) => none
  | some _ => if tSize P t = 1 then some false else none
  | none => none
def tElem (P : Program) (t : TypeId) : Option TypeId := match P.underlying t with | some (.slice e) => some e | _ => none
def tInfo (P : Program) (t : TypeId) : Bool := (P.info? t).isSome
def tIsStr (P : Program) (t : TypeId) : Bool := match P.underlying t with | some .string => true | _ => false
def tInt (P : Program) (t : TypeId) : Option IntKind := match P.underlying t with | some (.int k) => some k | _ => none
/-- A field's offset and its type. -/
def tFld (P : Program) (t : TypeId) (f : Nat) : Option (Nat × TypeId) :=
  match P.underlying t with
  | some (.struct fs) => match fs[f]? with | some x => some (x.offset, x.type) | none => none
  | _ => none
/-- The cells of a zero value, and its being a struct's. -/
def tZero (P : Program) (t : TypeId) : Option X :=
  match P.info? t with
  | some i => match i.zero with | some v => if v.cells.size = i.size then some (ofV v) else none | none => none
  | none => none
/-- In a box a nil slice is an empty one of our own. -/
def X.norm1 : X → X
  | .sc (.slice none 0 0) => .sl 1 []
  | x => x
def X.norm : X → X
  | .agg cs => .agg (cs.map X.norm1)
  | x => x.norm1

/-! Scalars -/
def binV (op : BinOp) : Value → Value → Option Value
  | .int k a, .int yk b =>
    match op with
    | .shl => if b < 0 then none else some (.int k (k.wrap (a * 2 ^ (min b.toNat k.bits))))
    | .shr => if b < 0 then none else some (.int k (a.fdiv (2 ^ (min b.toNat k.bits))))
    | .add => if k ≠ yk then none else some (.int k (k.wrap (a + b)))
    | .sub => if k ≠ yk then none else some (.int k (k.wrap (a - b)))
    | .mul => if k ≠ yk then none else some (.int k (k.wrap (a * b)))
    | .quo => if k ≠ yk then none else if b = 0 then none else some (.int k (k.wrap (a.tdiv b)))
    | .rem => if k ≠ yk then none else if b = 0 then none else some (.int k (a.tmod b))
    | .and | .or | .xor | .andNot => if k ≠ yk then none else some (.int k (bits op k a b))
    | .eql => if k ≠ yk then none else some (.bool (a == b))
    | .neq => if k ≠ yk then none else some (.bool (a != b))
    | .lss => if k ≠ yk then none else some (.bool (a < b))
    | .leq => if k ≠ yk then none else some (.bool (a ≤ b))
    | .gtr => if k ≠ yk then none else some (.bool (a > b))
    | .geq => if k ≠ yk then none else some (.bool (a ≥ b))
  | .bool a, .bool b =>
    match op with
    | .eql => some (.bool (a == b))
    | .neq => some (.bool (!(a == b)))
    | _ => none
  | .string a, .string b =>
    match op with
    | .eql => some (.bool (a.toList == b.toList))
    | .neq => some (.bool (!(a.toList == b.toList)))
    | _ => none
  | _, _ => none
/-- Struct equality over cells of one int kind. -/
def eqCells : List X → List X → Option Bool
  | [], [] => some true
  | .sc (.int .i64 a) :: xs, .sc (.int .i64 b) :: ys => (eqCells xs ys).map fun r => (a == b) && r
  | _, _ => none
def pickX (k : Bool) (a b : X) : X :=
  match a, b with
  | .sc (.bool p), .sc (.bool q) => .sc (.bool (bif k then p else q))
  | _, _ => bif k then a else b
def X.isU8 : X → Bool
  | .sc (.int .u8 _) => true
  | _ => false
def X.byte : X → UInt8
  | .sc (.int _ n) => UInt8.ofNat n.toNat
  | _ => 0

/-! One operation -/
inductive Ev where
  | fail
  | ok (side : Prop) (x : X) (us : List (Nat × Bx))
  | call (g : Nat) (ts : List X) (k : X → X → Option (X × List (Nat × Bx)))

def loadCell (b ver : Nat) (p : Path) (i : Nat) : X → X
  | .sc v => .sc v
  | .opq => .opq
  | .sl 0 es => .sl 0 es
  | .sl (_ + 1) _ => .view b ver p i
  | _ => .junk
def loadCells' (b ver : Nat) (p : Path) (i : Nat) : List X → List X
  | [] => []
  | x :: r => loadCell b ver p i x :: loadCells' b ver p (i + 1) r
def mkAgg (ag : Bool) (cs : List X) : X := bif ag then .agg cs else cs.headD .junk
def slice' (l : List X) (off n : Nat) : List X := (l.drop off).take n
def X.roCell : X → X
  | .sc v => .sc v
  | .sl 0 es => .sl 0 es
  | .opq => .opq
  | _ => .junk

def evLoad (P : Program) (st : St) (t : TypeId) (a : X) : Ev :=
  match tAgg P t with
  | none => .fail
  | some ag =>
    match a with
    | .ptr b bn off =>
      match (st.box b).c with
      | some e =>
        if (st.box b).bn = bn ∧ off + tSize P t ≤ e.cells.length then .ok True (mkAgg ag (loadCells' b (st.box b).ver [] off (slice' e.cells off (tSize P t)))) []
        else .fail
      | none => .fail
    | .ep b ver p off =>
      match (st.box b).c with
      | some c =>
        match c.nav p with
        | some e =>
          if (st.box b).ver = ver ∧ off + tSize P t ≤ e.cells.length then .ok True (mkAgg ag (loadCells' b ver p off (slice' e.cells off (tSize P t)))) []
          else .fail
        | none => .fail
      | none => .fail
    | .rp e off =>
      if off + tSize P t ≤ e.cells.length then .ok True (mkAgg ag ((slice' e.cells off (tSize P t)).map X.roCell)) []
      else .fail
    | _ => .fail

/-- A box whose cells are written; its slices' headers change unless all is scalar. -/
def Bx.store (B : Bx) (p : Path) (off : Nat) (old new : List X) : Bx :=
  { B with ver := if (old.all X.isSc && new.all X.isSc) = true then B.ver else B.ver + 1, c := B.c.map fun x => x.upd (!(old.all X.isSc && new.all X.isSc)) p (·.puts off new) }
def evStore (P : Program) (st : St) (t : TypeId) (a x : X) : Ev :=
  match st.takes x.cells with
  | none => .fail
  | some (xs, us) =>
    if xs.length ≠ tSize P t ∨ tSize P t = 0 then .fail else
    match a with
    | .ptr b bn off =>
      match ((st.withB us).box b).c with
      | some e =>
        if ((st.withB us).box b).bn = bn ∧ off + tSize P t ≤ e.cells.length then
          .ok True .junk ((b, ((st.withB us).box b).store [] off (slice' e.cells off (tSize P t)) xs) :: us)
        else .fail
      | none => .fail
    | .ep b ver p off =>
      match ((st.withB us).box b).c with
      | some c =>
        match c.nav p with
        | some e =>
          if ((st.withB us).box b).ver = ver ∧ off + tSize P t ≤ e.cells.length then
            .ok True .junk ((b, ((st.withB us).box b).store p off (slice' e.cells off (tSize P t)) (xs.map X.untag)) :: us)
          else .fail
        | none => .fail
      | none => .fail
    | _ => .fail

def newBx (B : Bx) (real : Bool) (c : X) : Bx := ⟨B.bn + 1, B.ver + 1, real, some c⟩

def evBox (P : Program) (st : St) (d : Nat) (t : TypeId) (x : X) : Ev :=
  match st.take x with
  | none => .fail
  | some (y, us) => .ok True (.ptr d (((st.withB us).box d).bn + 1) 0) ((d, newBx ((st.withB us).box d) true y) :: us)

def evIndexAddr (P : Program) (st : St) (t : TypeId) (x i : X) : Ev :=
  match i with
  | .sc (.int _ n) =>
    match st.slE x with
    | some es =>
      match es[n.toNat]? with
      | some e =>
        match x with
        | .sl 0 _ => if (tElem P t).isSome then .ok (0 ≤ n ∧ e.cells.length = ((tElem P t).map (tSize P)).getD 0) (.rp e 0) [] else .fail
        | .view b ver p c => if (tElem P t).isSome then .ok (0 ≤ n ∧ e.cells.length = ((tElem P t).map (tSize P)).getD 0) (.ep b ver (p ++ [(c, n.toNat)]) 0) [] else .fail
        | _ => .fail
      | none => .fail
    | none => .fail
  | _ => .fail

/-- A pointer that is known. -/
def St.okP (st : St) : X → Bool
  | .ptr b bn _ => (st.box b).bn == bn && (st.box b).c.isSome
  | .ep b ver _ _ => (st.box b).ver == ver && (st.box b).c.isSome
  | .rp _ _ => true
  | _ => false
def evFieldAddr (P : Program) (st : St) (t : TypeId) (x : X) (f : Nat) : Ev :=
  match tFld P t f with
  | some (o, ft) =>
    if tSize P ft = 0 then .fail else
    if st.okP x = false then .fail else
    match x with
    | .ptr b bn off => .ok True (.ptr b bn (off + o)) []
    | .ep b ver p off => .ok True (.ep b ver p (off + o)) []
    | .rp e off => .ok True (.rp e (off + o)) []
    | _ => .fail
  | none => .fail

def evField (P : Program) (t : TypeId) (x : X) (f : Nat) : Ev :=
  match tFld P t f with
  | some (o, ft) =>
    match x, tAgg P ft with
    | .agg cs, some ag => if o + tSize P ft ≤ cs.length then .ok True (mkAgg ag (slice' cs o (tSize P ft))) [] else .fail
    | _, _ => .fail
  | none => .fail

/-- The elements that are appended: copied, or moved out of their place. -/
def St.src (st : St) : X → Option (List X × List (Nat × Bx))
  | .sl 0 es => some (es, [])
  | .sc (.slice none 0 0) => some ([], [])
  | .view b ver p c =>
    match slAt (st.box b) ver p c with
    | some (t, es) => if es.all X.plain = true then some (es, []) else if es.all X.solid = true then some (es, [(b, (st.box b).kill p c)]) else none
    | none => none
  | _ => none
def St.base (st : St) : X → Option (List X × List (Nat × Bx))
  | .sc (.slice none 0 0) => some ([], [])
  | .view b ver p c => (slAt (st.box b) ver p c).map fun x => (x.2, [(b, (st.box b).kill p c)])
  | _ => none
def evAppend (P : Program) (st : St) (d : Nat) (t : TypeId) (s x : X) : Ev :=
  match tElem P t with
  | none => .fail
  | some e =>
    match tZero P e with
    | none => .fail
    | some z =>
      match st.base s with
      | none => .fail
      | some (es, us) =>
        match (st.withB us).src x with
        | none => .fail
        | some (xs, vs) =>
          if tSize P e = 0 then .fail else
          .ok ((es.length + xs.length) * tBytes P e ≤ 140737488355328 ∧ es.length + xs.length ≤ 140737488355328 ∧ (∀ y ∈ es, y.cells.length = tSize P e) ∧ ∀ y ∈ xs, y.cells.length = tSize P e)
            (.view d (((st.withB us).withB vs).box d |>.ver |> (· + 1)) [] 0) ((d, newBx (((st.withB us).withB vs).box d) false (.sl 1 (es ++ xs))) :: (vs ++ us))

/-- The parts of a literal slice: one element each. -/
def St.elems (st : St) : List X → Option (List X × List (Nat × Bx))
  | [] => some ([], [])
  | x :: r => (st.take x).bind fun y => ((st.withB y.2).elems r).map fun l => (y.1.untags :: l.1, l.2 ++ y.2)
def inOrder : Nat → List (Nat × Operand) → Bool
  | _, [] => true
  | n, (i, _) :: r => i == n && inOrder (n + 1) r
def evBuildSlice (P : Program) (st : St) (d : Nat) (t : TypeId) (n : Nat) (parts : List (Nat × Operand)) : Ev :=
  match tElem P t with
  | none => .fail
  | some e =>
    match tZero P e with
    | none => .fail
    | some z =>
      if n = parts.length ∧ inOrder 0 parts = true ∧ 0 < tSize P e ∧ n * tSize P e ≤ 16777216 then
        match st.elems (parts.map fun x => st.opd x.2) with
        | none => .fail
        | some (es, us) =>
          .ok (∀ y ∈ es, y.cells.length = tSize P e) (.view d (((st.withB us).box d).ver + 1) [] 0) ((d, newBx ((st.withB us).box d) false (.sl 1 es)) :: us)
      else .fail

def evMakeSlice (P : Program) (st : St) (d : Nat) (t : TypeId) (l c : X) : Ev :=
  match tElem P t with
  | none => .fail
  | some e =>
    match tZero P e, l, c with
    | some z, .sc (.int .i64 n), .sc (.int .i64 m) =>
      if tSize P e = 0 then .fail else
      .ok (n = m ∧ 0 ≤ n ∧ tBytes P e * n.toNat ≤ 140737488355328 ∧ n.toNat ≤ 140737488355328) (.view d ((st.box d).ver + 1) [] 0)
        [(d, newBx (st.box d) false (.sl 1 (List.replicate n.toNat z.norm)))]
    | _, _, _ => .fail

/-- Parts of a struct, laid into its zero value. -/
def fillX (P : Program) (t : TypeId) (cs : List X) : List (Nat × X) → Option (List X)
  | [] => some cs
  | (i, x) :: r =>
    match tFld P t i with
    | some (o, ft) =>
      if x.cells.length = tSize P ft ∧ o + x.cells.length ≤ cs.length then fillX P t (cs.take o ++ x.cells ++ cs.drop (o + x.cells.length)) r else none
    | none => none
/-- All fields' types are told. -/
def tAllF (P : Program) (t : TypeId) : Bool :=
  match P.underlying t with
  | some (.struct fs) => fs.toList.all fun f => (P.info? f.type).isSome
  | _ => false
/-- Values that are known: no stale place inside. -/
def St.okX1 (st : St) : X → Bool
  | .sc _ => true
  | .opq => true
  | .sl 0 _ => true
  | .view b ver p c => (slAt (st.box b) ver p c).isSome
  | _ => false
def St.okX (st : St) : X → Bool
  | .agg cs => cs.all st.okX1
  | x => st.okX1 x
def evBuild (P : Program) (st : St) (t : TypeId) (parts : List (Nat × Operand)) : Ev :=
  match tZero P t with
  | some z =>
    if tAllF P t && parts.all (fun x => st.okX (st.opd x.2)) then
      match fillX P t z.cells (parts.map fun x => (x.1, st.opd x.2)) with
      | some cs => .ok True (.agg cs) []
      | none => .fail
    else .fail
  | none => .fail

def bnd (d : Int) : Option X → Option Int
  | none => some d
  | some (.sc (.int _ n)) => some n
  | _ => none
def evSlice (P : Program) (st : St) (t : TypeId) (x : X) (lo hi : Option X) : Ev :=
  match bnd 0 lo with
  | none => .fail
  | some l =>
    match x with
    | .sc (.string s) =>
      match bnd s.size hi with
      | none => .fail
      | some h => if tIsStr P t then .ok (0 ≤ l ∧ l ≤ h ∧ h ≤ s.size) (.sc (.string (s.extract l.toNat h.toNat))) [] else .fail
    | .sl 0 es =>
      match bnd es.length hi with
      | none => .fail
      | some h =>
        match tElem P t with
        | some e => if tInfo P e = false then .fail else .ok (0 ≤ l ∧ l ≤ h ∧ h ≤ es.length ∧ ∀ y ∈ es, y.cells.length = tSize P e) (.sl 0 ((es.drop l.toNat).take (h.toNat - l.toNat))) []
        | none => .fail
    | _ => .fail

def evConvert (P : Program) (st : St) (src dst : TypeId) (x : X) : Ev :=
  match x with
  | .sc (.int _ n) => match tInt P dst with | some k => if (tInt P src).isSome then .ok True (.sc (.int k (k.wrap n))) [] else .fail | none => .fail
  | .sc (.string s) => if tIsStr P src ∧ tIsStr P dst then .ok True (.sc (.string s)) [] else .fail
  | x =>
    match tElem P src with
    | none => .fail
    | some e =>
      if tIsStr P dst ∧ tInt P e = some .u8 ∧ tSize P e = 1 then
        match st.slE x with
        | some es => .ok (es.all X.isU8 = true) (.sc (.string ⟨(es.map X.byte).toArray⟩)) []
        | none => .fail
      else .fail

/-- What is owed of a struct type whose cells are all ints: '==' goes cell by cell. -/
def EqOK (P : Program) (t : TypeId) : Prop :=
  ∀ (a b : List Int) (p q : Operand) (w : World), a.length = tSize P t → b.length = tSize P t →
    (do eqGuard .eql t p q (.agg (a.map (Value.int .i64)).toArray) (.agg (b.map (Value.int .i64)).toArray); binOp .eql t (.agg (a.map (Value.int .i64)).toArray) (.agg (b.map (Value.int .i64)).toArray)).run P w = .ok (.bool (a == b)) w ∧
    (do eqGuard .neq t p q (.agg (a.map (Value.int .i64)).toArray) (.agg (b.map (Value.int .i64)).toArray); binOp .neq t (.agg (a.map (Value.int .i64)).toArray) (.agg (b.map (Value.int .i64)).toArray)).run P w = .ok (.bool (!(a == b))) w

def isConst : Operand → Bool
  | .const _ => true
  | _ => false
def evBin (P : Program) (cn : Bool) (op : BinOp) (t : TypeId) (x y : X) : Ev :=
  match x, y with
  | .sc (.string a), .sc (.string b) =>
    if tIsStr P t = false then .fail else
    match op with
    | .add => .ok (a.size + b.size ≤ 140737488355328) (.sc (.string (a ++ b))) []
    | _ => match binV op (.string a) (.string b) with | some v => .ok True (.sc v) [] | none => .fail
  | .sc (.bool a), .sc (.bool b) => match binV op (.bool a) (.bool b) with | some v => (match P.underlying t with | some .bool => .ok True (.sc v) [] | _ => .fail) | none => .fail
  | .sc (.int k a), .sc (.int j b) => match binV op (.int k a) (.int j b) with | some v => .ok True (.sc v) [] | none => .fail
  | .opq, .sc .nilIface => match P.underlying t, op with | some (.interface _), .eql => .ok True (.sc (.bool false)) [] | some (.interface _), .neq => .ok True (.sc (.bool true)) [] | _, _ => .fail
  | .sc .nilIface, .sc .nilIface => if cn = false then .fail else match P.underlying t, op with | some (.interface _), .eql => .ok True (.sc (.bool true)) [] | some (.interface _), .neq => .ok True (.sc (.bool false)) [] | _, _ => .fail
  | .agg as, .agg bs =>
    match eqCells as bs, op with
    | some r, .eql => .ok (EqOK P t ∧ as.length = tSize P t) (.sc (.bool r)) []
    | some r, .neq => .ok (EqOK P t ∧ as.length = tSize P t) (.sc (.bool (!r))) []
    | _, _ => .fail
  | _, _ => .fail

def evNilCheck (st : St) (x : X) : Ev :=
  match x with
  | .sc (.func (.func f) a b) => .ok True (.sc (.func (.func f) a b)) []
  | x => if st.okP x then .ok True x [] else .fail
def evUn (op : UnOp) : X → Ev
  | .sc (.bool b) => match op with | .not => .ok True (.sc (.bool (!b))) [] | _ => .fail
  | .sc (.int k n) => match op with | .neg => .ok True (.sc (.int k (k.wrap (0 - n)))) [] | .xor => .ok True (.sc (.int k (bits .xor k (if k.signed then -1 else k.max) n))) [] | _ => .fail
  | _ => .fail
def evIndex (P : Program) (t : TypeId) (x i : X) : Ev :=
  match x, i with
  | .sc (.string s), .sc (.int _ n) =>
    if tIsStr P t = false then .fail else
    match s.data[n.toNat]? with
    | some b => .ok (0 ≤ n) (.sc (.int .u8 b.toNat)) []
    | none => .fail
  | _, _ => .fail
def evLen (P : Program) (st : St) (t : TypeId) (x : X) : Ev :=
  match x with
  | .sc (.string s) => if tIsStr P t then .ok True (.sc (.int .i64 s.size)) [] else .fail
  | x =>
    match tElem P t, st.slE x with
    | some _, some es => .ok True (.sc (.int .i64 es.length)) []
    | _, _ => .fail
def evMinMax (mx : Bool) (x y : X) : Ev :=
  match x, y with
  | .sc (.int .i64 a), .sc (.int .i64 b) => .ok True (.sc (.int .i64 (bif mx then (if b > a then b else a) else (if b < a then b else a)))) []
  | _, _ => .fail

/-! Calls -/
/-- What is put back of an argument that was the callee's: place by place. -/
def St.back1 (st : St) (x out : X) : Option (List (Nat × Bx)) :=
  match x with
  | .view b ver p c =>
    match slAt (st.box b) ver p c with
    | some (t, _) =>
      match out with
      | .sl 1 es => some [(b, { st.box b with c := (st.box b).c.map fun y => y.upd false p (·.put c (.sl (t + 1) es)) })]
      | .junk => some [(b, (st.box b).kill p c)]
      | _ => none
    | none => none
  | .ptr b bn 0 =>
    match out with
    | .box c => some [(b, { st.box b with ver := (st.box b).ver + 1, c := some c })]
    | _ => none
  | .sc _ => some []
  | .sl 0 _ => some []
  | _ => none
/-- The callee's own argument: the tree, and the boxes without it. -/
def St.own (st : St) (x : X) : Option (X × List (Nat × Bx)) :=
  match x with
  | .ptr b bn 0 =>
    match (st.box b).c with
    | some c => if (st.box b).bn = bn ∧ (st.box b).real = true then some (.box c.untags, [(b, { st.box b with c := none })]) else none
    | none => none
  | x => (st.take x).map fun y => (y.1.untags, y.2)
/-- Several slices of one variable, lent together: the first view's box, version, and the offset of the cells. -/
def viewOf : Nat → List X → Option (Nat × Nat × Nat)
  | _, [] => none
  | j, x :: r =>
    match x with
    | .view b v _ c => if j ≤ c then some (b, v, c - j) else none
    | _ => viewOf (j + 1) r
def lend1 (b v i : Nat) (x y : X) : Option (X × X) :=
  match x with
  | .view b2 v2 p c => match y with | .sl (_ + 1) es => if b2 = b ∧ v2 = v ∧ c = i ∧ p.isEmpty = true then some (.sl 1 es, .junk) else none | _ => none
  | .sc u => some (.sc u, y)
  | .opq => some (.opq, y)
  | .sl 0 es => some (.sl 0 es, y)
  | _ => none
def lendA (b v : Nat) : Nat → List X → List X → Option (List X × List X)
  | _, [], C => some ([], C)
  | i, x :: r, y :: C => (lend1 b v i x y).bind fun a => (lendA b v (i + 1) r C).map fun l => (a.1 :: l.1, a.2 :: l.2)
  | _, _ :: _, [] => none
def fill1 (x o y : X) : Option X :=
  match x with
  | .view _ _ _ _ => match o with | .sl 1 es => (match y with | .sl (t + 1) _ => some (.sl (t + 1) es) | _ => none) | _ => none
  | _ => some y
def fillA : List X → List X → List X → Option (List X)
  | [], [], C => some C
  | x :: r, o :: os, y :: C => (fill1 x o y).bind fun a => (fillA r os C).map fun l => a :: l
  | _, _, _ => none
def St.ownA (st : St) (xs : List X) : Option (X × List (Nat × Bx)) :=
  match viewOf 0 xs with
  | none => none
  | some (b, v, off) =>
    match (st.box b).c with
    | some (.agg C) =>
      if (st.box b).ver = v then
        (lendA b v off xs (C.drop off)).map fun l => (.agg l.1, [(b, { st.box b with ver := (st.box b).ver + 1, c := some (.agg (C.take off ++ l.2)) })])
      else none
    | _ => none
def St.backA (st : St) (xs : List X) (out : X) : Option (List (Nat × Bx)) :=
  match viewOf 0 xs with
  | none => none
  | some (b, v, off) =>
    match (st.box b).c, out with
    | some (.agg C), .agg os => (fillA xs os (C.drop off)).map fun C' => [(b, { st.box b with ver := (st.box b).ver + 1, c := some (.agg (C.take off ++ C')) })]
    | _, _ => none
/-- What is lent, whatever its shape; what is put back. -/
def St.lend (st : St) (x : X) : Option (X × List (Nat × Bx)) :=
  match x with
  | .agg cs => st.ownA cs
  | x => st.own x
def St.back (st : St) (x out : X) : Option (List (Nat × Bx)) :=
  match x with
  | .agg cs => st.backA cs out
  | x => st.back1 x out
def X.isAgg : X → Bool
  | .agg _ => true
  | _ => false
def hasRoots (x : X) : Bool := !x.roots.isEmpty
/-- The callee's arguments: the one at place k is its own, the others are read. -/
def St.snapBut (st : St) (k : Option Nat) (own : X) : Nat → List X → Option (List X)
  | _, [] => some []
  | i, x :: r => if some i = k then (St.snapBut st k own (i + 1) r).map fun l => own :: l else (st.snap x).bind fun y => (St.snapBut st k own (i + 1) r).map fun l => y :: l
def rootsBut (k : Option Nat) : Nat → List X → Bool
  | _, [] => false
  | i, x :: r => (!(some i == k) && hasRoots x) || rootsBut k (i + 1) r
def St.args (st : St) (k : Option Nat) (xs : List X) : Option (List X) :=
  match k with
  | none => st.snapBut none .junk 0 xs
  | some k =>
    match xs[k]? with
    | none => none
    | some x => (st.lend x).bind fun y => (st.withB y.2).snapBut (some k) y.1 0 xs
def St.backs (st : St) (k : Option Nat) (xs : List X) (out : X) : Option (List (Nat × Bx)) :=
  match k with
  | none => some []
  | some k => (xs[k]?).bind fun x => st.back x out

def evCall (cv : Nat → Option Nat) (st : St) (d : Nat) (g : Nat) (xs : List X) : Option (Nat × List X × (X → X → Option (X × List (Nat × Bx)))) :=
  match st.args (cv g) xs with
  | none => none
  | some ts =>
    some (g, ts, fun r out =>
      if (rootsBut (cv g) 0 xs && !(r.noRo && out.noRo)) = true then none else
      (st.backs (cv g) xs out).map fun us =>
        ((St.inst (st.withB us) (fun _ => 1) d r 0).1, (St.inst (st.withB us) (fun _ => 1) d r 0).2.1 ++ us))

def evC (cv : Nat → Option Nat) (st : St) (o : Oper) : Option (Nat × List X × (X → X → Option (X × List (Nat × Bx)))) :=
  match o.op with
  | .call c =>
    match c.callee with
    | .value f =>
      match st.opd f with
      | .sc (.func (.func g) fs cs) => if fs.isEmpty && cs.isEmpty then evCall cv st (o.dst.getD 8999) g (c.args.toList.map st.opd) else none
      | _ => none
    | _ => none
  | _ => none

def evOp (P : Program) (st : St) (o : Oper) : Ev :=
  match o.op with
  | .move x | .assign x => .ok True (st.opd x) []
  | .pick c a b => match st.opd c with | .sc (.bool k) => .ok True (pickX k (st.opd a) (st.opd b)) [] | _ => .fail
  | .alloc t =>
    match o.dst, tZero P t with
    | some d, some z => .ok True (.ptr d ((st.box d).bn + 1) 0) [(d, newBx (st.box d) true z.norm)]
    | _, _ => .fail
  | .box t x => match o.dst with | some d => evBox P st d t (st.opd x) | none => .fail
  | .build t ps => evBuild P st t ps.toList
  | .buildSlice t n ps => match o.dst with | some d => evBuildSlice P st d t n ps.toList | none => .fail
  | .load t a => evLoad P st t (st.opd a)
  | .store t a x => evStore P st t (st.opd a) (st.opd x)
  | .nilCheck x => evNilCheck st (st.opd x)
  | .binOp op t x y _ => evBin P (isConst x || isConst y) op t (st.opd x) (st.opd y)
  | .unOp op _ x => evUn op (st.opd x)
  | .convert s d x => evConvert P st s d (st.opd x)
  | .makeFunc fn fs cs => if fs.isEmpty && cs.isEmpty then .ok True (.sc (.func fn #[] #[])) [] else .fail
  | .makeSlice t l c => match o.dst with | some d => evMakeSlice P st d t (st.opd l) (st.opd c) | none => .fail
  | .slice t x lo hi mx => if mx.isNone then evSlice P st t (st.opd x) (lo.map st.opd) (hi.map st.opd) else .fail
  | .fieldAddr t x f => evFieldAddr P st t (st.opd x) f
  | .field t x f => evField P t (st.opd x) f
  | .indexAddr t x i => evIndexAddr P st t (st.opd x) (st.opd i)
  | .index t x i => evIndex P t (st.opd x) (st.opd i)
  | .extract x i => match st.opd x with | .tup l => (match l[i]? with | some y => .ok True y [] | none => .fail) | _ => .fail
  | .call c =>
    match c.callee with
    | .builtin b =>
      match b, c.args.toList, c.argTypes.toList with
      | .len, [x], [t] => evLen P st t (st.opd x)
      | .append, [s, x], [t, u] => if t = u then (match o.dst with | some d => evAppend P st d t (st.opd s) (st.opd x) | none => .fail) else .fail
      | .min, [x, y], _ => evMinMax false (st.opd x) (st.opd y)
      | .max, [x, y], _ => evMinMax true (st.opd x) (st.opd y)
      | _, _, _ => .fail
    | _ => .fail
  | _ => .fail

/-! Entering and leaving a function -/
/-- The first temporaries: the argument at place k is our own, the others are read. -/
def initTm (k : Option Nat) (own : X) : Nat → List X → List (Nat × X)
  | _, [] => []
  | i, x :: r => (i, if some i = k then own else x) :: initTm k own (i + 1) r
def initSt (k : Option Nat) (args : List X) : St :=
  match k with
  | none => ⟨initTm none .junk 0 args, []⟩
  | some i =>
    let r := St.inst ⟨[], []⟩ (fun k => k + 2) PB (args.getD i .junk) 0
    ⟨initTm k r.1 0 args, r.2.1⟩

/-- The results' values. -/
def resXs (P : Program) (st : St) : List ResultVar → Option (List X)
  | [] => some []
  | .tmp t :: r => (resXs P st r).map fun l => st.look t :: l
  | .cell t ty :: r =>
    match evLoad P st ty (st.look t) with
    | .ok _ x _ => (resXs P st r).map fun l => x :: l
    | _ => none
/-- Moved out, one behind the other. -/
def St.owns (st : St) : List X → Option (List X × List (Nat × Bx))
  | [] => some ([], [])
  | x :: r => (st.own x).bind fun y => ((st.withB y.2).owns r).map fun l => (y.1 :: l.1, l.2 ++ y.2)
def X.isBox : X → Bool
  | .box _ => true
  | _ => false
/-- A tree that is only read. -/
def X.isRo1 : X → Bool
  | .sc _ => true
  | .opq => true
  | .sl 0 _ => true
  | _ => false
def X.isRo : X → Bool
  | .agg cs => cs.all X.isRo1
  | x => x.isRo1
def oneOrTup : List X → X
  | [x] => x
  | l => .tup l
/-- Where a part that came with the own argument lies. -/
def cellOf (tag : Nat) : Nat → List X → Option Nat
  | _, [] => none
  | i, .sl t es :: r => if t = tag then some i else cellOf tag (i + 1) r
  | i, _ :: r => cellOf tag (i + 1) r
def St.place (st : St) (tag : Nat) : List (Nat × Bx) → Option (Nat × Nat)
  | [] => none
  | (b, _) :: r =>
    match (st.box b).c with
    | some x => match cellOf tag 0 x.cells with | some c => some (b, c) | none => st.place tag r
    | none => st.place tag r
def St.part (st : St) (tag : Nat) : Option (X × List (Nat × Bx)) :=
  match st.place tag st.bx with
  | some (b, c) => (st.take1 (.view b (st.box b).ver [] c)).map fun y => (y.1.untag, y.2)
  | none => some (.junk, [])
/-- The parts of an argument that is a struct: its own slices come back, one by one. -/
def St.outsA (st : St) : Nat → List X → Option (List X)
  | _, [] => some []
  | k, x :: r =>
    match x with
    | .sl (_ + 1) _ =>
      match st.place (k + 2) st.bx with
      | some (b, c) => (st.take1 (.view b (st.box b).ver [] c)).bind fun y => ((st.withB y.2).outsA (k + 1) r).map fun l => y.1.untag :: l
      | none => none
    | .sc _ => (st.outsA k r).map fun l => .junk :: l
    | .opq => (st.outsA k r).map fun l => .junk :: l
    | .sl 0 _ => (st.outsA k r).map fun l => .junk :: l
    | _ => none
def St.outs (st : St) (arg : X) : Option X :=
  match arg with
  | .agg cs => (st.outsA 0 cs).map .agg
  | .box _ => (st.own (.ptr PB (st.box PB).bn 0)).map (·.1)
  | .sl (_ + 1) _ => (st.part 2).map (·.1)
  | _ => some .junk
def retX (P : Program) (fn : Func) (k : Option Nat) (args : List X) (st : St) : Option (X × X) :=
  (resXs P st fn.results.toList).bind fun xs =>
    (st.owns xs).bind fun y =>
      if y.1.length ≠ 1 ∧ y.1.any X.isBox = true then none else
      match k with
      | none => some (oneOrTup y.1, .junk)
      | some i => ((st.withB y.2).outs (args.getD i .junk)).map fun o => (oneOrTup y.1, o)

end Go.Proofs.Ytncjcbdbdocjaaa.Ax

/- Located values, what they say of memory, and their frame. -/
namespace Go.Proofs.Ytncjcbdbdocjaaa.Ax
open Go

/-- `Ro w S x v`: the value v reads as the tree x, in blocks of S alone. -/
inductive Ro (w : World) (S : Nat → Prop) : X → Value → Prop
  | sc (v : Value) : v.oneCell' = true → Ro w S (.sc v) v
  | opq (t : TypeId) (x : Value) : Ro w S .opq (.iface t x)
  | nil (a : Option Addr) (cap : Nat) : Ro w S (.sl 0 []) (.slice a 0 cap)
  | sl (g o n cap sz : Nat) (es : List X) (f : Nat → Nat → Value) : n = es.length → n ≤ cap → cap ≤ maxLen → S g → 0 < sz →
      (∀ (j : Nat) (e : X), es[j]? = some e → e.cells.length = sz) →
      (∀ (j : Nat) (e : X) (i : Nat) (c : X), es[j]? = some e → e.cells[i]? = some c → w.cell? ⟨g, o + j * sz + i, none⟩ = some (f j i)) →
      (∀ (j : Nat) (e : X) (i : Nat) (c : X), es[j]? = some e → e.cells[i]? = some c → Ro w S c (f j i)) → Ro w S (.sl 0 es) (.slice (some ⟨g, o, none⟩) n cap)

theorem Ro.frame {w w' : World} {S S' : Nat → Prop} {x : X} {v : Value} (h : Ro w S x v) (hs : ∀ g, S g → S' g)
    (hf : ∀ g, S g → w'.heap[g]? = w.heap[g]?) : Ro w' S' x v := by
  induction h with
  | sc v h => exact .sc v h
  | opq t x => exact .opq t x
  | nil a c => exact .nil a c
  | sl g o n cap sz es f h1 h2 hmx h3 h4 h5 h6 h7 ih =>
    exact .sl g o n cap sz es f h1 h2 hmx (hs g h3) h4 h5 (fun j e i c he hc => (World.cell?_of_block (hf g h3)).trans (h6 j e i c he hc)) ih

theorem Ro.oneCell {w : World} {S : Nat → Prop} {x : X} {v : Value} (h : Ro w S x v) : v.oneCell' = true := by
  cases h <;> first | assumption | rfl

inductive L where
  | sc (v : Value)
  | opq (v : Value)
  | ro (v : Value) (es : List X)
  | own (t : Nat) (h : Option (Nat × Nat)) (es : List L)
  | agg (cs : List L)
  | junk (v : Value)
  | box (g : Nat) (c : L)
  | tup (cs : List L)
  deriving Inhabited

def L.cells : L → List L
  | .agg cs => cs
  | x => [x]

mutual
def L.flat : L → Value
  | .sc v => v
  | .opq v => v
  | .ro v _ => v
  | .own _ none _ => .slice none 0 0
  | .own _ (some (g, cap)) es => .slice (some ⟨g, 0, none⟩) es.length cap
  | .agg cs => .agg (L.flats cs).toArray
  | .junk v => v
  | .box g _ => .pointer (some ⟨g, 0, none⟩)
  | .tup cs => .tuple (L.flats cs).toArray
def L.flats : List L → List Value
  | [] => []
  | x :: r => x.flat :: L.flats r
end
mutual
def L.er : L → X
  | .sc v => .sc v
  | .opq _ => .opq
  | .ro _ es => .sl 0 es
  | .own t _ es => .sl (t + 1) (L.ers es)
  | .agg cs => .agg (L.ers cs)
  | .junk _ => .junk
  | .box _ c => .box c.er
  | .tup cs => .tup (L.ers cs)
def L.ers : List L → List X
  | [] => []
  | x :: r => x.er :: L.ers r
end
mutual
def L.fp : L → List Nat
  | .own _ (some (g, _)) es => g :: L.fps es
  | .own _ none es => L.fps es
  | .agg cs => L.fps cs
  | .box g c => g :: c.fp
  | .tup cs => L.fps cs
  | _ => []
def L.fps : List L → List Nat
  | [] => []
  | x :: r => x.fp ++ L.fps r
end

theorem L.flats_eq (l : List L) : L.flats l = l.map L.flat := by induction l <;> simp_all [L.flats]
theorem L.ers_eq (l : List L) : L.ers l = l.map L.er := by induction l <;> simp_all [L.ers]
theorem L.fps_eq (l : List L) : L.fps l = l.flatMap L.fp := by induction l <;> simp_all [L.fps]

def L.cflat (l : L) : List Value := L.flats l.cells
def rowOf : List L → List Value
  | [] => []
  | e :: r => e.cflat ++ rowOf r

theorem L.er_cells (l : L) : l.er.cells = l.cells.map L.er := by
  cases l <;> simp [L.er, X.cells, L.cells, L.ers_eq]
theorem L.cells_fp (l : L) (h : ∀ g c, l ≠ .box g c) (ht : ∀ cs, l ≠ .tup cs) : L.fps l.cells = l.fp := by
  cases l with
  | agg cs => rfl
  | own t hh es => simp [L.cells, L.fps]
  | box g c => exact absurd rfl (h g c)
  | tup cs => exact absurd rfl (ht cs)
  | _ => simp [L.cells, L.fps]
theorem L.cells_fp' (l : L) : L.fps l.cells = l.fp := by
  cases l <;> simp [L.cells, L.fps, L.fp]

/-- A row of our own: block g, room for cap elements, the elements es in front. -/
def Row (w : World) (g cap : Nat) (es : List L) : Prop :=
  ∃ sz cur e, 0 < sz ∧ w.heap[g]? = some (.cells cur e (0, 0)) ∧ cur.size = cap * sz ∧ es.length ≤ cap ∧ cap ≤ maxLen ∧
    (∀ x ∈ es, x.cells.length = sz) ∧ (es = [] → cap = 0) ∧ cur.toList.take (es.length * sz) = rowOf es
/-- A variable of our own. -/
def Var (w : World) (g : Nat) (c : L) : Prop := ∃ cur e, w.heap[g]? = some (.cells cur e (0, 0)) ∧ cur.toList = c.cflat

mutual
def L.mem (w : World) (S : Nat → Prop) : L → Prop
  | .sc v => v.oneCell' = true
  | .opq v => ∃ t u, v = .iface t u
  | .ro v es => Ro w S (.sl 0 es) v
  | .own _ none es => es = []
  | .own _ (some (g, cap)) es => Row w g cap es ∧ L.mems w S es
  | .agg cs => L.mems w S cs
  | .junk v => True
  | .box g c => Var w g c ∧ c.mem w S
  | .tup cs => L.mems w S cs
def L.mems (w : World) (S : Nat → Prop) : List L → Prop
  | [] => True
  | x :: r => x.mem w S ∧ L.mems w S r
end

theorem L.mems_iff {w : World} {S : Nat → Prop} (l : List L) : L.mems w S l ↔ ∀ x ∈ l, x.mem w S := by
  induction l <;> simp_all [L.mems]
theorem L.mem_cells {w : World} {S : Nat → Prop} {l : L} (h : l.mem w S) : ∀ c ∈ l.cells, c.mem w S := by
  cases l with
  | agg cs => exact (L.mems_iff cs).1 h
  | _ => intro c hc; simp [L.cells] at hc; subst hc; exact h

theorem Row.frame {w w' : World} {g cap : Nat} {es : List L} (h : Row w g cap es) (hf : w'.heap[g]? = w.heap[g]?) : Row w' g cap es := by
  obtain ⟨sz, cur, e, h1, h2, h3⟩ := h
  exact ⟨sz, cur, e, h1, hf.trans h2, h3⟩

mutual
theorem L.mem_frame {w w' : World} {S S' : Nat → Prop} (hs : ∀ g, S g → S' g) (hf : ∀ g, S g → w'.heap[g]? = w.heap[g]?) :
    ∀ (l : L), l.mem w S → (∀ g ∈ l.fp, w'.heap[g]? = w.heap[g]?) → l.mem w' S'
  | .sc _, h, _ => h
  | .opq _, h, _ => h
  | .ro _ _, h, _ => Ro.frame h hs hf
  | .own _ none es, h, _ => h
  | .own _ (some (g, cap)) es, h, hg => ⟨h.1.frame (hg g (by simp [L.fp])), L.mems_frame hs hf es h.2 (fun x hx => hg x (by simp [L.fp, hx]))⟩
  | .agg cs, h, hg => L.mems_frame hs hf cs h hg
  | .junk _, h, _ => h
  | .box g c, h, hg => by
    obtain ⟨⟨cur, e, h1, h2⟩, h3⟩ := h
    exact ⟨⟨cur, e, (hg g (by simp [L.fp])).trans h1, h2⟩, L.mem_frame hs hf c h3 (fun x hx => hg x (by simp [L.fp, hx]))⟩
  | .tup cs, h, hg => L.mems_frame hs hf cs h hg
theorem L.mems_frame {w w' : World} {S S' : Nat → Prop} (hs : ∀ g, S g → S' g) (hf : ∀ g, S g → w'.heap[g]? = w.heap[g]?) :
    ∀ (l : List L), L.mems w S l → (∀ g ∈ L.fps l, w'.heap[g]? = w.heap[g]?) → L.mems w' S' l
  | [], _, _ => trivial
  | x :: r, h, hg => ⟨L.mem_frame hs hf x h.1 (fun y hy => hg y (by simp [L.fps, hy])), L.mems_frame hs hf r h.2 (fun y hy => hg y (by simp [L.fps, hy]))⟩
end

/-! Places in located values -/
def L.nav : L → Path → Option L
  | e, [] => some e
  | e, (c, j) :: p =>
    match e.cells[c]? with
    | some (.own _ _ es) => (es[j]?).bind fun e' => L.nav e' p
    | _ => none
def L.addr (blk : Option Nat) (off : Nat) : L → Path → Option (Option Nat × Nat)
  | _, [] => some (blk, off)
  | e, (c, j) :: p =>
    match e.cells[c]? with
    | some (.own _ (some (g, _)) es) => (es[j]?).bind fun e' => L.addr (some g) (j * e'.cells.length) e' p
    | _ => none
def L.put (e : L) (c : Nat) (x : L) : L :=
  match e with
  | .agg cs => .agg (cs.set c x)
  | _ => x
def L.puts (e : L) (c : Nat) : List L → L
  | [] => e
  | x :: xs => (e.put c x).puts (c + 1) xs
def L.upd (u : Bool) : L → Path → (L → L) → L
  | e, [], f => f e
  | e, (c, j) :: p, f =>
    match e.cells[c]? with
    | some (.own t h es) =>
      match es[j]? with
      | some e' => e.put c (.own (bif u then 0 else t) h (es.set j (L.upd u e' p f)))
      | none => e
    | _ => e

theorem L.er_own_iff {l : L} {t : Nat} {es : List X} (h : l.er = .sl (t + 1) es) : ∃ hh ls, l = .own t hh ls ∧ ls.map L.er = es := by
  cases l <;> simp [L.er] at h
  rename_i t' hh ls
  exact ⟨hh, ls, by rw [h.1], by rw [← L.ers_eq]; exact h.2⟩

theorem L.nav_er : ∀ (p : Path) (l : L), (l.er).nav p = (l.nav p).map L.er
  | [], l => rfl
  | (c, j) :: p, l => by
    simp only [X.nav, L.nav, L.er_cells, List.getElem?_map]
    cases hc : l.cells[c]? with
    | none => simp
    | some x =>
      simp only [Option.map_some]
      cases x with
      | own t h es =>
        simp only [L.er, L.ers_eq, List.getElem?_map]
        cases hj : es[j]? with
        | none => simp
        | some e' => simp [L.nav_er p e']
      | _ => simp [L.er]

theorem L.put_er (e : L) (c : Nat) (x : L) : (e.put c x).er = e.er.put c x.er := by
  cases e <;> simp [L.put, X.put, L.er, L.ers_eq, List.map_set]
theorem L.puts_er : ∀ (xs : List L) (e : L) (c : Nat), (e.puts c xs).er = e.er.puts c (xs.map L.er)
  | [], e, c => rfl
  | x :: xs, e, c => by simp [L.puts, X.puts, L.puts_er xs, L.put_er]

theorem L.upd_er (u : Bool) (f : L → L) (g : X → X) (hfg : ∀ l, (f l).er = g l.er) : ∀ (p : Path) (l : L), (l.upd u p f).er = l.er.upd u p g
  | [], l => hfg l
  | (c, j) :: p, l => by
    simp only [X.upd, L.upd, L.er_cells, List.getElem?_map]
    cases hc : l.cells[c]? with
    | none => simp
    | some x =>
      simp only [Option.map_some]
      cases x with
      | own t h es =>
        simp only [L.er, L.ers_eq, List.getElem?_map]
        cases hj : es[j]? with
        | none => simp
        | some e' => cases u <;> simp [L.put_er, L.er, L.ers_eq, List.map_set, L.upd_er _ f g hfg p e']
      | _ => simp [L.er]

/-! Lists -/
theorem rowOf_append (a b : List L) : rowOf (a ++ b) = rowOf a ++ rowOf b := by induction a <;> simp_all [rowOf]
theorem L.cflat_length (e : L) : e.cflat.length = e.cells.length := by simp [L.cflat, L.flats_eq]
theorem rowOf_length (sz : Nat) : ∀ (l : List L), (∀ x ∈ l, x.cells.length = sz) → (rowOf l).length = l.length * sz
  | [], _ => by simp [rowOf]
  | e :: r, h => by
    simp only [rowOf, List.length_append, L.cflat_length, h e (by simp), rowOf_length sz r (fun x hx => h x (by simp [hx])), List.length_cons, Nat.add_mul]
    omega
theorem split_at {α : Type} {l : List α} {j : Nat} {e : α} (h : l[j]? = some e) : ∃ a b, l = a ++ e :: b ∧ a.length = j ∧ ∀ x, l.set j x = a ++ x :: b := by
  refine ⟨l.take j, l.drop (j + 1), ?_, ?_, ?_⟩
  · have hj : j < l.length := (List.getElem?_eq_some_iff.1 h).1
    have he : l[j] = e := (List.getElem?_eq_some_iff.1 h).2
    rw [← he, List.getElem_cons_drop, List.take_append_drop]
  · have hj : j < l.length := (List.getElem?_eq_some_iff.1 h).1
    simp; omega
  · intro x
    have hj : j < l.length := (List.getElem?_eq_some_iff.1 h).1
    rw [List.set_eq_take_append_cons_drop, if_pos hj]
theorem L.fps_append (a b : List L) : L.fps (a ++ b) = L.fps a ++ L.fps b := by simp [L.fps_eq]
theorem L.fps_cons (a : L) (b : List L) : L.fps (a :: b) = a.fp ++ L.fps b := rfl

theorem L.put_fp {e : L} {c : Nat} {y : L} (h : e.cells[c]? = some y) (x : L) : ∃ A B, e.fp = A ++ y.fp ++ B ∧ (e.put c x).fp = A ++ x.fp ++ B := by
  cases e with
  | agg cs =>
    obtain ⟨a, b, hl, _, hs⟩ := split_at h
    simp only [L.cells] at hl hs
    refine ⟨L.fps a, L.fps b, ?_, ?_⟩
    · simp [L.fp, hl, L.fps_append, L.fps_cons]
    · simp [L.put, L.fp, hs, L.fps_append, L.fps_cons]
  | _ =>
    refine ⟨[], [], ?_, by simp [L.put]⟩
    cases c <;> simp [L.cells] at h
    subst h; simp
theorem L.upd_fp (u : Bool) : ∀ (p : Path) {e t : L} (t' : L), e.nav p = some t → ∃ A B, e.fp = A ++ t.fp ++ B ∧ (e.upd u p fun _ => t').fp = A ++ t'.fp ++ B
  | [], e, t, t', h => by simp only [L.nav, Option.some.injEq] at h; subst h; exact ⟨[], [], by simp, by simp [L.upd]⟩
  | (c, j) :: p, e, t, t', h => by
    simp only [L.nav] at h
    cases hc : e.cells[c]? with
    | none => simp [hc] at h
    | some y =>
      rw [hc] at h
      cases y with
      | own t0 hh es =>
        simp only at h
        cases hj : es[j]? with
        | none => simp [hj] at h
        | some e1 =>
          rw [hj] at h
          simp only [Option.bind_some] at h
          obtain ⟨A1, B1, h1, h2⟩ := L.upd_fp u p t' h
          obtain ⟨a, b, hl, _, hs⟩ := split_at hj
          obtain ⟨A, B, h3, h4⟩ := L.put_fp hc (.own (bif u then 0 else t0) hh (es.set j (e1.upd u p fun _ => t')))
          have hown : ∃ C D, (L.own t0 hh es).fp = C ++ t.fp ++ D ∧ (L.own (bif u then 0 else t0) hh (es.set j (e1.upd u p fun _ => t'))).fp = C ++ t'.fp ++ D := by
            have q1 : L.fps es = L.fps a ++ A1 ++ t.fp ++ (B1 ++ L.fps b) := by rw [hl, L.fps_append, L.fps_cons, h1]; simp
            have q2 : L.fps (es.set j (e1.upd u p fun _ => t')) = L.fps a ++ A1 ++ t'.fp ++ (B1 ++ L.fps b) := by rw [hs, L.fps_append, L.fps_cons, h2]; simp
            cases hh with
            | none => exact ⟨L.fps a ++ A1, B1 ++ L.fps b, by simpa [L.fp] using q1, by simpa [L.fp] using q2⟩
            | some gc =>
              obtain ⟨g, cap⟩ := gc
              exact ⟨g :: (L.fps a ++ A1), B1 ++ L.fps b, by simpa [L.fp] using q1, by simpa [L.fp] using q2⟩
          obtain ⟨C, D, h5, h6⟩ := hown
          refine ⟨A ++ C, D ++ B, ?_, ?_⟩
          · rw [h3, h5]; simp
          · simp only [L.upd, hc, hj]
            rw [h4, h6]; simp
      | _ => simp at h

theorem L.put_cells_length (e : L) (c : Nat) (x : L) (h : e.cells.length = 1 → x.cells.length = 1 ∨ ∃ cs, e = .agg cs) : (e.put c x).cells.length = e.cells.length := by
  cases e <;> simp [L.put, L.cells] <;> simp [L.cells] at h <;> exact h
theorem L.flats_append (a b : List L) : L.flats (a ++ b) = L.flats a ++ L.flats b := by simp [L.flats_eq]
/-- A cell's new value of the same header changes no cell of memory. -/
theorem L.put_cflat {e : L} {c : Nat} {y x : L} (h : e.cells[c]? = some y) (hf : x.flat = y.flat) (hx : x.cells = [x]) :
    (e.put c x).cflat = e.cflat ∧ (e.put c x).cells.length = e.cells.length := by
  cases e with
  | agg cs =>
    simp only [L.cells] at h
    obtain ⟨a, b, hl, _, hs⟩ := split_at h
    constructor
    · simp only [L.put, L.cflat, L.cells, hs, L.flats_append, L.flats]
      rw [hl]
      simp [L.flats_append, L.flats, hf]
    · simp [L.put, L.cells]
  | _ =>
    cases c <;> simp [L.cells] at h
    subst h
    have e1 : x.cflat = [x.flat] := by rw [L.cflat, hx]; rfl
    simp only [L.put]
    exact ⟨by rw [e1, hf]; rfl, by rw [hx]; rfl⟩
theorem L.own_flat_set (t t' : Nat) (hh : Option (Nat × Nat)) (es : List L) (j : Nat) (x : L) : (L.own t' hh (es.set j x)).flat = (L.own t hh es).flat := by
  cases hh with
  | none => rfl
  | some gc => obtain ⟨g, cap⟩ := gc; simp [L.flat]
theorem L.upd_cflat (u : Bool) (p : Path) {e t : L} (f : L → L) (hp : p ≠ []) (h : e.nav p = some t) : (e.upd u p f).cflat = e.cflat ∧ (e.upd u p f).cells.length = e.cells.length := by
  cases p with
  | nil => exact absurd rfl hp
  | cons q p =>
    obtain ⟨c, j⟩ := q
    simp only [L.nav] at h
    cases hc : e.cells[c]? with
    | none => simp [hc] at h
    | some y =>
      rw [hc] at h
      cases y with
      | own t0 hh es =>
        simp only at h
        cases hj : es[j]? with
        | none => simp [hj] at h
        | some e1 =>
          simp only [L.upd, hc, hj]
          exact L.put_cflat hc (L.own_flat_set t0 _ hh es j _) rfl
      | _ => simp at h

theorem L.mem_fps {x : L} {l : List L} {z : Nat} (hx : x ∈ l) (hz : z ∈ x.fp) : z ∈ L.fps l := by
  rw [L.fps_eq]; exact List.mem_flatMap.2 ⟨x, hx, hz⟩
/-- What changes in block g: a piece at offset o. -/
def Seg (w w' : World) (g o : Nat) (old new : List Value) : Prop :=
  ∃ cur cur' ty A B, w.heap[g]? = some (.cells cur ty (0, 0)) ∧ w'.heap[g]? = some (.cells cur' ty (0, 0)) ∧
    cur.toList = A ++ old ++ B ∧ cur'.toList = A ++ new ++ B ∧ A.length = o

theorem L.put_mem {w w' : World} {S S' : Nat → Prop} (hs : ∀ g, S g → S' g) (hf : ∀ g, S g → w'.heap[g]? = w.heap[g]?) {e : L} {c : Nat} {y x : L}
    (hm : e.mem w S) (h : e.cells[c]? = some y) (hx : x.mem w' S') (hxc : x.cells = [x])
    (ho : ∀ A B, e.fp = A ++ y.fp ++ B → ∀ g, g ∈ A ∨ g ∈ B → w'.heap[g]? = w.heap[g]?) : (e.put c x).mem w' S' := by
  cases e with
  | agg cs =>
    simp only [L.cells] at h
    obtain ⟨a, b, hl, _, hs'⟩ := split_at h
    have ho' := ho (L.fps a) (L.fps b) (by simp [L.fp, hl, L.fps_append, L.fps_cons])
    simp only [L.put, L.mem, hs']
    rw [L.mems_iff]
    have hm' := (L.mems_iff cs).1 hm
    intro z hz
    rcases List.mem_append.1 hz with hz | hz
    · refine L.mem_frame hs hf z (hm' z (by rw [hl]; simp [hz])) (fun g hg => ho' g (.inl ?_))
      rw [L.fps_eq]; exact List.mem_flatMap.2 ⟨z, hz, hg⟩
    · rcases List.mem_cons.1 hz with rfl | hz
      · exact hx
      · refine L.mem_frame hs hf z (hm' z (by rw [hl]; simp [hz])) (fun g hg => ho' g (.inr ?_))
        rw [L.fps_eq]; exact List.mem_flatMap.2 ⟨z, hz, hg⟩
  | _ => exact hx

theorem L.upd_mem (u : Bool) {w w' : World} {S S' : Nat → Prop} (hs : ∀ g, S g → S' g) (hf : ∀ g, S g → w'.heap[g]? = w.heap[g]?) {t t' : L} {g o : Nat}
    (hseg : Seg w w' g o t.cflat t'.cflat) (hm' : t'.mem w' S') (hl' : t'.cells.length = t.cells.length) :
    ∀ (p : Path) (e : L) (blk : Option Nat) (off : Nat), e.mem w S → e.fp.Nodup → (∀ b, blk = some b → b ∉ e.fp) → e.nav p = some t → e.addr blk off p = some (some g, o) →
      (∀ b ∈ e.fp, b ≠ g → w'.heap[b]? = w.heap[b]?) → (e.upd u p fun _ => t').mem w' S' ∧ (p ≠ [] → g ∈ e.fp)
  | [], e, blk, off, hm, hnd, hb, hn, ha, ho => by
    exact ⟨by simpa [L.upd] using hm', fun h => absurd rfl h⟩
  | (c, j) :: p, e, blk, off, hm, hnd, hb, hn, ha, ho => by
    simp only [L.nav] at hn
    simp only [L.addr] at ha
    cases hc : e.cells[c]? with
    | none => simp [hc] at hn
    | some y =>
      rw [hc] at hn ha
      cases y with
      | own t0 hh es =>
        cases hh with
        | none => simp at ha
        | some gc =>
          obtain ⟨g1, cap⟩ := gc
          simp only at hn ha
          cases hj : es[j]? with
          | none => simp [hj] at hn
          | some e1 =>
            rw [hj] at hn ha
            simp only [Option.bind_some] at hn ha
            obtain ⟨A, B, hfp, _⟩ := L.put_fp hc (.junk undef)
            have hmy : (L.own t0 (some (g1, cap)) es).mem w S := L.mem_cells hm _ (List.mem_of_getElem? hc)
            obtain ⟨hrow, hms⟩ := hmy
            obtain ⟨a, b, hl, hal, hset⟩ := split_at hj
            have hfpy : (L.own t0 (some (g1, cap)) es).fp = g1 :: (L.fps a ++ e1.fp ++ L.fps b) := by simp [L.fp, hl, L.fps_append, L.fps_cons]
            rw [hfpy] at hfp
            have hnd' : (A ++ (g1 :: (L.fps a ++ e1.fp ++ L.fps b)) ++ B).Nodup := hfp ▸ hnd
            have hnd1 : (g1 :: (L.fps a ++ e1.fp ++ L.fps b)).Nodup := (List.nodup_append.1 (List.nodup_append.1 hnd').1).2.1
            have hg1 : g1 ∉ e1.fp := fun h => (List.nodup_cons.1 hnd1).1 (by simp [h])
            have hnde : e1.fp.Nodup := (List.nodup_append.1 (List.nodup_append.1 (List.nodup_cons.1 hnd1).2).1).2.1
            have hsub : ∀ x ∈ e1.fp, x ∈ e.fp := fun x hx => by rw [hfp]; simp [hx]
            have hms' := (L.mems_iff es).1 hms
            have ih := L.upd_mem u hs hf hseg hm' hl' p e1 (some g1) (j * e1.cells.length) (hms' e1 (List.mem_of_getElem? hj)) hnde (fun b hb' => by cases hb'; exact hg1) hn ha
              (fun b hb' hne => ho b (hsub b hb') hne)
            have hgin : g = g1 ∨ g ∈ e1.fp := by
              cases p with
              | nil => simp only [L.addr, Option.some.injEq, Prod.mk.injEq] at ha; exact .inl ha.1.symm
              | cons q p => exact .inr (ih.2 (by simp))
            have hginy : g ∈ (g1 :: (L.fps a ++ e1.fp ++ L.fps b)) := by rcases hgin with rfl | h <;> simp [*]
            have hgA : g ∉ A := fun h => (List.nodup_append.1 (List.nodup_append.1 hnd').1).2.2 g h g hginy rfl
            have hgB : g ∉ B := fun h => (List.nodup_append.1 hnd').2.2 g (List.mem_append.2 (.inr hginy)) g h rfl
            have hga : g ∉ L.fps a := by
              rcases hgin with rfl | h
              · exact fun h => (List.nodup_cons.1 hnd1).1 (by simp [h])
              · exact fun h' => (List.nodup_append.1 (List.nodup_append.1 (List.nodup_cons.1 hnd1).2).1).2.2 g h' g h rfl
            have hgb : g ∉ L.fps b := by
              rcases hgin with rfl | h
              · exact fun h => (List.nodup_cons.1 hnd1).1 (by simp [h])
              · exact fun h' => (List.nodup_append.1 (List.nodup_cons.1 hnd1).2).2.2 g (by simp [h]) g h' rfl
            have hlen1 : (e1.upd u p fun _ => t').cells.length = e1.cells.length := by
              cases p with
              | nil => simp only [L.nav, Option.some.injEq] at hn; subst hn; exact hl'
              | cons q p => exact (L.upd_cflat _ _ _ (by simp) hn).2
            refine ⟨?_, fun _ => by rw [hfp]; simp only [List.mem_append]; exact .inl (.inr hginy)⟩
            simp only [L.upd, hc, hj]
            refine L.put_mem hs hf hm hc ⟨?_, ?_⟩ rfl ?_
            · obtain ⟨sz, cur, ty, h1, h2, h3, h4, h5, h6, h7, h8⟩ := hrow
              have hcellsz : ∀ x ∈ es.set j (e1.upd u p fun _ => t'), x.cells.length = sz := by
                intro x hx
                rw [hset] at hx
                rcases List.mem_append.1 hx with hx | hx
                · exact h6 x (by rw [hl]; simp [hx])
                · rcases List.mem_cons.1 hx with rfl | hx
                  · rw [hlen1]; exact h6 e1 (by rw [hl]; simp)
                  · exact h6 x (by rw [hl]; simp [hx])
              have hne : es.set j (e1.upd u p fun _ => t') = [] → cap = 0 := by intro h; rw [hset] at h; simp at h
              cases p with
              | nil =>
                simp only [L.nav, Option.some.injEq] at hn
                subst hn
                simp only [L.addr, Option.some.injEq, Prod.mk.injEq] at ha
                obtain ⟨rfl, rfl⟩ := ha
                obtain ⟨cur0, cur', ty', A', B', k1, k2, k3, k4, k5⟩ := hseg
                rw [h2] at k1
                simp only [Option.some.injEq, Obj.cells.injEq, and_true] at k1
                obtain ⟨rfl, rfl⟩ := k1
                have hsz1 : e1.cells.length = sz := h6 e1 (by rw [hl]; simp)
                refine ⟨sz, cur', ty, h1, k2, ?_, by simpa using h4, h5, hcellsz, hne, ?_⟩
                · rw [← h3, ← Array.length_toList, ← Array.length_toList, k3, k4]
                  simp [L.cflat_length, hl']
                · have hra : (rowOf a).length = j * sz := by rw [rowOf_length sz a (fun x hx => h6 x (by rw [hl]; simp [hx])), hal]
                  have hn : es.length = j + 1 + b.length := by rw [hl]; simp [hal]; omega
                  rw [hl, rowOf_append] at h8
                  simp only [rowOf] at h8
                  rw [k3, ← hl, hn] at h8
                  have hA : A' = rowOf a := by
                    have := congrArg (List.take (j * sz)) h8
                    rw [List.take_take, List.append_assoc] at this
                    rw [List.take_left' hra] at this
                    rw [Nat.min_eq_left (by rw [Nat.add_mul, Nat.add_mul]; omega), List.take_left' (by rw [k5, hsz1])] at this
                    exact this
                  subst hA
                  rw [hset, rowOf_append]
                  simp only [rowOf, L.upd]
                  rw [k4]
                  have hB : B'.take (b.length * sz) = rowOf b := by
                    have h9 := h8
                    rw [show (j + 1 + b.length) * sz = (rowOf a).length + (e1.cflat.length + b.length * sz) by rw [hra, L.cflat_length, hsz1, Nat.add_mul, Nat.add_mul]; omega,
                      List.append_assoc, List.take_length_add_append, List.take_length_add_append] at h9
                    exact List.append_cancel_left (List.append_cancel_left h9)
                  rw [show (a ++ t' :: b).length * sz = (rowOf a).length + (t'.cflat.length + b.length * sz) by
                    rw [hra, L.cflat_length, hl', hsz1]; simp [hal, Nat.add_mul]; omega]
                  rw [List.append_assoc, List.take_length_add_append, List.take_length_add_append, hB]
              | cons q p =>
                have hcf := (L.upd_cflat u (q :: p) (fun _ => t') (by simp) hn).1
                have hg1e : g1 ≠ g := by rintro rfl; exact hg1 (ih.2 (by simp))
                refine ⟨sz, cur, ty, h1, (ho g1 (by rw [hfp]; simp) hg1e).trans h2, h3, by simpa using h4, h5, hcellsz, hne, ?_⟩
                rw [hset, rowOf_append]
                simp only [rowOf, hcf]
                rw [hl, rowOf_append] at h8
                simp only [rowOf] at h8
                rw [← h8]
                simp
            · rw [L.mems_iff, hset]
              intro x hx
              rcases List.mem_append.1 hx with hx | hx
              · refine L.mem_frame hs hf x (hms' x (by rw [hl]; simp [hx])) (fun z hz => ho z (by rw [hfp]; simp [L.mem_fps hx hz]) ?_)
                rintro rfl; exact hga (by rw [L.fps_eq]; exact List.mem_flatMap.2 ⟨x, hx, hz⟩)
              · rcases List.mem_cons.1 hx with rfl | hx
                · exact ih.1
                · refine L.mem_frame hs hf x (hms' x (by rw [hl]; simp [hx])) (fun z hz => ho z (by rw [hfp]; simp [L.mem_fps hx hz]) ?_)
                  rintro rfl; exact hgb (by rw [L.fps_eq]; exact List.mem_flatMap.2 ⟨x, hx, hz⟩)
            · intro A2 B2 hAB z hz
              have hne : z ≠ g := by
                rintro rfl
                rw [hfpy] at hAB
                have hnd2 : (A2 ++ (g1 :: (L.fps a ++ e1.fp ++ L.fps b)) ++ B2).Nodup := hAB ▸ hnd
                rcases hz with hz | hz
                · exact (List.nodup_append.1 (List.nodup_append.1 hnd2).1).2.2 z hz z hginy rfl
                · exact (List.nodup_append.1 hnd2).2.2 z (List.mem_append.2 (.inr hginy)) z hz rfl
              exact ho z (by rw [hAB]; rcases hz with hz | hz <;> simp [hz]) hne
      | _ => simp at hn

end Go.Proofs.Ytncjcbdbdocjaaa.Ax

/- Skeletons; the relation between an abstract state and the machine's; how it is kept. -/
namespace Go.Proofs.Ytncjcbdbdocjaaa.Ax
open Go

inductive Sk where
  | leaf
  | own (h : Option (Nat × Nat)) (es : List Sk)
  | agg (cs : List Sk)
  deriving Inhabited
def Sk.cells : Sk → List Sk
  | .agg cs => cs
  | x => [x]
mutual
def L.sk : L → Sk
  | .own _ h es => .own h (L.sks es)
  | .agg cs => .agg (L.sks cs)
  | _ => .leaf
def L.sks : List L → List Sk
  | [] => []
  | x :: r => x.sk :: L.sks r
end
theorem L.sks_eq (l : List L) : L.sks l = l.map L.sk := by induction l <;> simp_all [L.sks]
theorem L.sk_cells (l : L) : l.sk.cells = l.cells.map L.sk := by
  cases l <;> simp [L.sk, Sk.cells, L.cells, L.sks_eq]
def Sk.nav : Sk → Path → Option Sk
  | e, [] => some e
  | e, (c, j) :: p =>
    match e.cells[c]? with
    | some (.own _ es) => (es[j]?).bind fun e' => Sk.nav e' p
    | _ => none
def Sk.addr (blk : Option Nat) (off : Nat) : Sk → Path → Option (Option Nat × Nat)
  | _, [] => some (blk, off)
  | e, (c, j) :: p =>
    match e.cells[c]? with
    | some (.own (some (g, _)) es) => (es[j]?).bind fun e' => Sk.addr (some g) (j * e'.cells.length) e' p
    | _ => none
def hdrV (h : Option (Nat × Nat)) (n : Nat) : Value :=
  match h with
  | none => .slice none 0 0
  | some (g, cap) => .slice (some ⟨g, 0, none⟩) n cap
/-- The header of a slice at a place. -/
def Sk.hdr (e : Sk) (p : Path) (c : Nat) : Option Value :=
  match e.nav p with
  | some e' => match e'.cells[c]? with | some (.own h es) => some (hdrV h es.length) | _ => none
  | none => none

theorem L.sk_nav : ∀ (p : Path) (l : L), l.sk.nav p = (l.nav p).map L.sk
  | [], l => rfl
  | (c, j) :: p, l => by
    simp only [Sk.nav, L.nav, L.sk_cells, List.getElem?_map]
    cases hc : l.cells[c]? with
    | none => simp
    | some x =>
      simp only [Option.map_some]
      cases x with
      | own t h es =>
        simp only [L.sk, L.sks_eq, List.getElem?_map]
        cases hj : es[j]? with
        | none => simp
        | some e' => simp [L.sk_nav p e']
      | _ => simp [L.sk]
theorem L.sk_addr : ∀ (p : Path) (l : L) (blk : Option Nat) (off : Nat), l.sk.addr blk off p = l.addr blk off p
  | [], l, blk, off => rfl
  | (c, j) :: p, l, blk, off => by
    simp only [Sk.addr, L.addr, L.sk_cells, List.getElem?_map]
    cases hc : l.cells[c]? with
    | none => simp
    | some x =>
      simp only [Option.map_some]
      cases x with
      | own t h es =>
        simp only [L.sk, L.sks_eq]
        cases h with
        | none => simp
        | some gc =>
          obtain ⟨g, cap⟩ := gc
          simp only [List.getElem?_map]
          cases hj : es[j]? with
          | none => simp
          | some e' => simp [L.sk_addr p e', L.sk_cells]
      | _ => simp [L.sk]
theorem L.own_flat (t : Nat) (h : Option (Nat × Nat)) (es : List L) : (L.own t h es).flat = hdrV h es.length := by
  cases h with
  | none => rfl
  | some gc => obtain ⟨g, cap⟩ := gc; rfl

theorem L.upd_const (u : Bool) (f : L → L) : ∀ (p : Path) {e t : L}, e.nav p = some t → e.upd u p f = e.upd u p fun _ => f t
  | [], e, t, h => by simp only [L.nav, Option.some.injEq] at h; subst h; rfl
  | (c, j) :: p, e, t, h => by
    simp only [L.nav] at h
    simp only [L.upd]
    cases hc : e.cells[c]? with
    | none => simp [hc] at h
    | some y =>
      rw [hc] at h
      cases y with
      | own t0 hh es =>
        simp only at h ⊢
        cases hj : es[j]? with
        | none => simp [hj] at h
        | some e1 =>
          rw [hj] at h
          simp only [Option.bind_some] at h
          simp only [L.upd_const u f p h]
      | _ => simp at h
theorem L.put_sk {e : L} {c : Nat} {y x : L} (h : e.cells[c]? = some y) (hx : x.sk = y.sk) : (e.put c x).sk = e.sk := by
  cases e with
  | agg cs =>
    simp only [L.cells] at h
    obtain ⟨a, b, hl, _, hs⟩ := split_at h
    simp only [L.put, L.sk, hs, L.sks_eq]
    rw [hl]
    simp [hx]
  | _ => cases c <;> simp [L.cells] at h; subst h; exact hx
theorem L.upd_sk (u : Bool) : ∀ (p : Path) {e t : L} (t' : L), e.nav p = some t → t'.sk = t.sk → (e.upd u p fun _ => t').sk = e.sk
  | [], e, t, t', h, hk => by simp only [L.nav, Option.some.injEq] at h; subst h; exact hk
  | (c, j) :: p, e, t, t', h, hk => by
    simp only [L.nav] at h
    simp only [L.upd]
    cases hc : e.cells[c]? with
    | none => simp [hc] at h
    | some y =>
      rw [hc] at h
      cases y with
      | own t0 hh es =>
        simp only at h ⊢
        cases hj : es[j]? with
        | none => simp [hj] at h
        | some e1 =>
          rw [hj] at h
          simp only [Option.bind_some] at h
          refine L.put_sk hc ?_
          obtain ⟨a, b, hl, _, hs⟩ := split_at hj
          simp only [L.sk, hs, L.sks_eq]
          rw [hl]
          simp [L.upd_sk u p t' h hk]
      | _ => simp at h

structure BL where
  blk : Option Nat
  c : L
def BL.fp (B : BL) : List Nat := B.blk.toList ++ B.c.fp
def BL.mem (w : World) (S : Nat → Prop) (B : BL) : Prop := (∀ g, B.blk = some g → Var w g B.c) ∧ B.c.mem w S
theorem BL.mem_frame {w w' : World} {S S' : Nat → Prop} (hs : ∀ g, S g → S' g) (hf : ∀ g, S g → w'.heap[g]? = w.heap[g]?) {B : BL} (h : B.mem w S)
    (hg : ∀ g ∈ B.fp, w'.heap[g]? = w.heap[g]?) : B.mem w' S' := by
  refine ⟨fun g hb => ?_, L.mem_frame hs hf B.c h.2 (fun g hg' => hg g (by simp [BL.fp, hg']))⟩
  obtain ⟨cur, e, h1, h2⟩ := h.1 g hb
  exact ⟨cur, e, (hg g (by simp [BL.fp, hb])).trans h1, h2⟩

mutual
def TRel (bx : Nat → Bx) (LB : Nat → Option BL) (w : World) (S : Nat → Prop) : X → Value → Prop
  | .sc v, u => u = v ∧ v.oneCell' = true
  | .opq, u => ∃ t x, u = .iface t x
  | .sl 0 es, u => Ro w S (.sl 0 es) u
  | .sl (_ + 1) _, _ => False
  | .box _, _ => False
  | .agg cs, u => ∃ us, u = .agg us ∧ TRels bx LB w S cs us.toList
  | .tup cs, u => ∃ us, u = .tuple us ∧ TRels bx LB w S cs us.toList
  | .ptr b bn off, u => bn ≤ (bx b).bn ∧ ((bx b).bn = bn → ∀ B, LB b = some B → ∃ g, B.blk = some g ∧ u = .pointer (some ⟨g, off, none⟩))
  | .view b ver p c, u => ver ≤ (bx b).ver ∧ ((bx b).ver = ver → ∀ B, LB b = some B → B.c.sk.hdr p c = some u)
  | .ep b ver p off, u => ver ≤ (bx b).ver ∧ ((bx b).ver = ver → ∀ B, LB b = some B → ∃ g o, B.c.sk.addr B.blk 0 p = some (some g, o) ∧ u = .pointer (some ⟨g, o + off, none⟩))
  | .rp e off, u => ∃ g o, S g ∧ u = .pointer (some ⟨g, o + off, none⟩) ∧ ∀ (i : Nat) (c : X), e.cells[i]? = some c → ∃ v, w.cell? ⟨g, o + i, none⟩ = some v ∧ Ro w S c v
  | .junk, _ => True
def TRels (bx : Nat → Bx) (LB : Nat → Option BL) (w : World) (S : Nat → Prop) : List X → List Value → Prop
  | [], [] => True
  | x :: xs, v :: vs => TRel bx LB w S x v ∧ TRels bx LB w S xs vs
  | _, _ => False
end

/-- What of the boxes stays. -/
structure Adv (bx bx' : Nat → Bx) (LB LB' : Nat → Option BL) : Prop where
  bn : ∀ b, (bx b).bn ≤ (bx' b).bn
  ver : ∀ b, (bx b).ver ≤ (bx' b).ver
  blk : ∀ b, (bx' b).bn = (bx b).bn → ∀ B', LB' b = some B' → ∃ B, LB b = some B ∧ B.blk = B'.blk
  sk : ∀ b, (bx' b).ver = (bx b).ver → ∀ B', LB' b = some B' → ∃ B, LB b = some B ∧ B.blk = B'.blk ∧ B.c.sk = B'.c.sk
theorem Adv.refl (bx : Nat → Bx) (LB : Nat → Option BL) : Adv bx bx LB LB :=
  ⟨fun _ => Nat.le_refl _, fun _ => Nat.le_refl _, fun _ _ B h => ⟨B, h, rfl⟩, fun _ _ B h => ⟨B, h, rfl, rfl⟩⟩
theorem Adv.trans {b1 b2 b3 : Nat → Bx} {l1 l2 l3 : Nat → Option BL} (h : Adv b1 b2 l1 l2) (k : Adv b2 b3 l2 l3) : Adv b1 b3 l1 l3 := by
  refine ⟨fun b => Nat.le_trans (h.bn b) (k.bn b), fun b => Nat.le_trans (h.ver b) (k.ver b), fun b he B hB => ?_, fun b he B hB => ?_⟩
  · have := h.bn b; have := k.bn b
    obtain ⟨B2, h2, e2⟩ := k.blk b (by omega) B hB
    obtain ⟨B1, h1, e1⟩ := h.blk b (by omega) B2 h2
    exact ⟨B1, h1, e1.trans e2⟩
  · have := h.ver b; have := k.ver b
    obtain ⟨B2, h2, e2, f2⟩ := k.sk b (by omega) B hB
    obtain ⟨B1, h1, e1, f1⟩ := h.sk b (by omega) B2 h2
    exact ⟨B1, h1, e1.trans e2, f1.trans f2⟩

mutual
theorem TRel.adv {bx bx' : Nat → Bx} {LB LB' : Nat → Option BL} {w w' : World} {S S' : Nat → Prop} (ha : Adv bx bx' LB LB') (hs : ∀ g, S g → S' g)
    (hf : ∀ g, S g → w'.heap[g]? = w.heap[g]?) : ∀ (x : X) (v : Value), TRel bx LB w S x v → TRel bx' LB' w' S' x v
  | .sc _, _, h => h
  | .opq, _, h => h
  | .sl 0 _, _, h => Ro.frame h hs hf
  | .sl (_ + 1) _, _, h => h.elim
  | .box _, _, h => h.elim
  | .agg cs, _, ⟨us, e, h⟩ => ⟨us, e, TRels.adv ha hs hf cs us.toList h⟩
  | .tup cs, _, ⟨us, e, h⟩ => ⟨us, e, TRels.adv ha hs hf cs us.toList h⟩
  | .ptr b bn off, u, h => by
    have h1 := h.1; have h2 := ha.bn b
    refine ⟨Nat.le_trans h1 h2, fun he B hB => ?_⟩
    obtain ⟨B0, hB0, e0⟩ := ha.blk b (by omega) B hB
    obtain ⟨g, hg, hu⟩ := h.2 (by omega) B0 hB0
    exact ⟨g, e0 ▸ hg, hu⟩
  | .view b ver p c, u, h => by
    have h1 := h.1; have h2 := ha.ver b
    refine ⟨Nat.le_trans h1 h2, fun he B hB => ?_⟩
    obtain ⟨B0, hB0, e0, f0⟩ := ha.sk b (by omega) B hB
    rw [← f0]
    exact h.2 (by omega) B0 hB0
  | .ep b ver p off, u, h => by
    have h1 := h.1; have h2 := ha.ver b
    refine ⟨Nat.le_trans h1 h2, fun he B hB => ?_⟩
    obtain ⟨B0, hB0, e0, f0⟩ := ha.sk b (by omega) B hB
    rw [← f0, ← e0]
    exact h.2 (by omega) B0 hB0
  | .rp e off, u, ⟨g, o, h1, h2, h3⟩ => ⟨g, o, hs g h1, h2, fun i c hc => by
      obtain ⟨v, hv, hr⟩ := h3 i c hc
      exact ⟨v, (World.cell?_of_block (hf g h1)).trans hv, hr.frame hs hf⟩⟩
  | .junk, _, _ => trivial
theorem TRels.adv {bx bx' : Nat → Bx} {LB LB' : Nat → Option BL} {w w' : World} {S S' : Nat → Prop} (ha : Adv bx bx' LB LB') (hs : ∀ g, S g → S' g)
    (hf : ∀ g, S g → w'.heap[g]? = w.heap[g]?) : ∀ (xs : List X) (vs : List Value), TRels bx LB w S xs vs → TRels bx' LB' w' S' xs vs
  | [], [], _ => trivial
  | x :: xs, v :: vs, h => ⟨TRel.adv ha hs hf x v h.1, TRels.adv ha hs hf xs vs h.2⟩
  | [], _ :: _, h => h.elim
  | _ :: _, [], h => h.elim
end

/-- What a call leaves alone. -/
structure Fr (Fin : List Nat) (w w' : World) : Prop where
  os : w'.os = w.os
  tape : w'.tape = w.tape
  output : w'.output = w.output
  size : w.heap.size ≤ w'.heap.size
  block : ∀ k, k < w.heap.size → k ∉ Fin → w'.heap[k]? = w.heap[k]?
theorem Fr.refl (Fin : List Nat) (w : World) : Fr Fin w w := ⟨rfl, rfl, rfl, Nat.le_refl _, fun _ _ _ => rfl⟩
theorem Fr.trans {Fin F2 : List Nat} {a b c : World} (h : Fr Fin a b) (k : Fr F2 b c) (hf : ∀ g ∈ F2, g ∈ Fin ∨ a.heap.size ≤ g) : Fr Fin a c :=
  ⟨k.os.trans h.os, k.tape.trans h.tape, k.output.trans h.output, Nat.le_trans h.size k.size, fun i hi hn =>
    (k.block i (Nat.lt_of_lt_of_le hi h.size) (fun hm => by rcases hf i hm with h | h; exact hn h; omega)).trans (h.block i hi hn)⟩

structure Ctx where
  n : Nat
  w0 : World
  S0 : Nat → Prop
  Fin : List Nat
  /-- the skeletons of the parts that came with the callee's own argument -/
  psk : Nat → Option Sk
  /-- the block of the variable that came with it -/
  pblk : Option Nat

def BxRel (w : World) (S : Nat → Prop) (B : Bx) (L : Option BL) : Prop :=
  match B.c, L with
  | none, none => True
  | some x, some l => l.c.er = x ∧ B.real = l.blk.isSome ∧ l.mem w S
  | _, _ => False

structure SimL (Γ : Ctx) (st : St) (a : Act) (w : World) (LB : Nat → Option BL) (S : Nat → Prop) : Prop where
  defers : a.defers = []
  size : a.tmps.size = Γ.n
  tm : ∀ t, TRel st.box LB w S (st.look t) (a.tmps.getD t undef)
  bx : ∀ b, BxRel w S (st.box b) (LB b)
  nd : ∀ b B, LB b = some B → B.fp.Nodup
  dj : ∀ b b' B B', b ≠ b' → LB b = some B → LB b' = some B' → ∀ g ∈ B.fp, g ∉ B'.fp
  fr : ∀ b B, LB b = some B → ∀ g ∈ B.fp, ¬ S g ∧ g < w.heap.size ∧ (g ∈ Γ.Fin ∨ Γ.w0.heap.size ≤ g)
  S0 : ∀ g, Γ.S0 g → S g
  Sw : ∀ g, S g → g < w.heap.size
  frame : Fr Γ.Fin Γ.w0 w
  tag : ∀ b B, LB b = some B → ∀ (i t : Nat) (h : Option (Nat × Nat)) (es : List L), B.c.cells[i]? = some (.own (t + 1) h es) → Γ.psk t = some (L.own (t + 1) h es).sk
  pb : ∀ B, LB PB = some B → ∀ g, Γ.pblk = some g → B.blk = some g
  Sn : ∀ g, S g → Γ.S0 g ∨ g ∈ Γ.Fin ∨ Γ.w0.heap.size ≤ g

def Sim (Γ : Ctx) (st : St) (a : Act) (w : World) : Prop := ∃ LB S, SimL Γ st a w LB S

end Go.Proofs.Ytncjcbdbdocjaaa.Ax

/- Soundness of the operations that change no box. -/
namespace Go.Proofs.Ytncjcbdbdocjaaa.Ax
open Go

variable {P : Program} {Γ : Ctx} {st : St} {a : Act} {w : World} {LB : Nat → Option BL} {S : Nat → Prop}

def Loc (w : World) (g o : Nat) (vs : List Value) : Prop :=
  ∃ cur ty A C, w.heap[g]? = some (.cells cur ty (0, 0)) ∧ cur.toList = A ++ vs ++ C ∧ A.length = o
theorem Loc.cell {g o : Nat} {vs : List Value} (h : Loc w g o vs) {i : Nat} {v : Value} (hv : vs[i]? = some v) : w.cell? ⟨g, o + i, none⟩ = some v := by
  obtain ⟨cur, ty, A, C, h1, h2, h3⟩ := h
  have hi : i < vs.length := (List.getElem?_eq_some_iff.1 hv).1
  rw [cell_of_row w g _ cur ty (0, 0) h1, ← Array.getElem?_toList, h2, List.append_assoc, List.getElem?_append_right (by omega), List.getElem?_append_left (by omega), ← hv]
  congr 1; omega
theorem Loc.sub {g o : Nat} {a b c : List Value} (h : Loc w g o (a ++ b ++ c)) : Loc w g (o + a.length) b := by
  obtain ⟨cur, ty, A, C, h1, h2, h3⟩ := h
  exact ⟨cur, ty, A ++ a, c ++ C, h1, by rw [h2]; simp, by simp [h3]⟩
theorem Var.loc {g : Nat} {c : L} (h : Var w g c) : Loc w g 0 c.cflat := by
  obtain ⟨cur, e, h1, h2⟩ := h
  exact ⟨cur, e, [], [], h1, by simp [h2], rfl⟩
theorem Row.loc {g cap : Nat} {es : List L} (h : Row w g cap es) {j : Nat} {e : L} (hj : es[j]? = some e) : Loc w g (j * e.cells.length) e.cflat := by
  obtain ⟨sz, cur, ty, h1, h2, h3, h4, h5, h6, h7, h8⟩ := h
  obtain ⟨a, b, hl, hal, _⟩ := split_at hj
  have hsz := h6 e (by rw [hl]; simp)
  have hra : (rowOf a).length = j * sz := by rw [rowOf_length sz a (fun x hx => h6 x (by rw [hl]; simp [hx])), hal]
  refine ⟨cur, ty, rowOf a, rowOf b ++ cur.toList.drop (es.length * sz), h2, ?_, by rw [hra, hsz]⟩
  rw [hl, rowOf_append] at h8
  simp only [rowOf] at h8
  rw [← hl] at h8
  have := (List.take_append_drop (es.length * sz) cur.toList).symm
  rw [h8] at this
  simpa using this

theorem L.nav_loc {t : L} {g o : Nat} : ∀ (p : Path) (e : L) (blk : Option Nat) (off : Nat), e.mem w S → (∀ g, blk = some g → Loc w g off e.cflat) →
    e.nav p = some t → e.addr blk off p = some (some g, o) → Loc w g o t.cflat
  | [], e, blk, off, hm, hl, hn, ha => by
    simp only [L.nav, Option.some.injEq] at hn; subst hn
    simp only [L.addr, Option.some.injEq, Prod.mk.injEq] at ha
    obtain ⟨h1, rfl⟩ := ha
    exact hl g h1
  | (c, j) :: p, e, blk, off, hm, hl, hn, ha => by
    simp only [L.nav] at hn
    simp only [L.addr] at ha
    cases hc : e.cells[c]? with
    | none => simp [hc] at hn
    | some y =>
      rw [hc] at hn ha
      have hmy := L.mem_cells hm y (List.mem_of_getElem? hc)
      cases y with
      | own t0 hh es =>
        cases hh with
        | none => simp at ha
        | some gc =>
          obtain ⟨g1, cap⟩ := gc
          simp only at hn ha
          cases hj : es[j]? with
          | none => simp [hj] at hn
          | some e1 =>
            rw [hj] at hn ha
            simp only [Option.bind_some] at hn ha
            exact L.nav_loc p e1 (some g1) _ ((L.mems_iff es).1 hmy.2 e1 (List.mem_of_getElem? hj)) (fun g hg => by cases hg; exact hmy.1.loc hj) hn ha
      | _ => simp at hn
theorem L.nav_mem {t : L} : ∀ (p : Path) (e : L), e.mem w S → e.nav p = some t → t.mem w S
  | [], e, hm, hn => by simp only [L.nav, Option.some.injEq] at hn; subst hn; exact hm
  | (c, j) :: p, e, hm, hn => by
    simp only [L.nav] at hn
    cases hc : e.cells[c]? with
    | none => simp [hc] at hn
    | some y =>
      rw [hc] at hn
      have hmy := L.mem_cells hm y (List.mem_of_getElem? hc)
      cases y with
      | own t0 hh es =>
        simp only at hn
        cases hj : es[j]? with
        | none => simp [hj] at hn
        | some e1 =>
          rw [hj] at hn
          simp only [Option.bind_some] at hn
          have hms : ∀ x ∈ es, x.mem w S := by
            cases hh with
            | none => simp only [L.mem] at hmy; subst hmy; simp
            | some gc => obtain ⟨g1, cap⟩ := gc; exact (L.mems_iff es).1 hmy.2
          exact L.nav_mem p e1 (hms e1 (List.mem_of_getElem? hj)) hn
      | _ => simp at hn

theorem run_loadCells_loc {g o : Nat} {vs : List Value} (h : Loc w g o vs) : (loadCells ⟨g, o, none⟩ vs.length).run P w = .ok vs.toArray w := by
  refine run_loadCells_list w _ vs fun j v hv => ?_
  have hadd : (⟨g, o, none⟩ : Addr).add j = ⟨g, o + j, none⟩ := by unfold Addr.add; split <;> simp_all
  rw [hadd]; exact h.cell hv

theorem ofV1_rel (bx : Nat → Bx) (LB : Nat → Option BL) (w : World) (S : Nat → Prop) (v : Value) : TRel bx LB w S (ofV1 v) v := by
  cases v <;> simp [ofV1, TRel, Value.oneCell']
theorem ofVs_rel (bx : Nat → Bx) (LB : Nat → Option BL) (w : World) (S : Nat → Prop) : ∀ (l : List Value), TRels bx LB w S (l.map ofV1) l
  | [] => trivial
  | v :: r => ⟨ofV1_rel bx LB w S v, ofVs_rel bx LB w S r⟩
theorem ofV_rel (bx : Nat → Bx) (LB : Nat → Option BL) (w : World) (S : Nat → Prop) (v : Value) : TRel bx LB w S (ofV v) v := by
  cases v with
  | agg cs => exact ⟨cs, rfl, ofVs_rel bx LB w S cs.toList⟩
  | _ => simp only [ofV]; exact ofV1_rel bx LB w S _
theorem SimL.opd (h : SimL Γ st a w LB S) (o : Operand) : TRel st.box LB w S (st.opd o) (a.eval o) := by
  cases o with
  | tmp t => exact h.tm t
  | const v => exact ofV_rel _ _ _ _ v
  | global g => trivial
  | func f => exact ⟨rfl, rfl⟩

theorem info_of_underlying {t : TypeId} {d : TypeDesc} (h : P.underlying t = some d) : ∃ i, P.info? t = some i := by
  unfold Program.underlying at h
  cases hi : P.info? t with
  | none => simp [hi] at h
  | some i => exact ⟨i, rfl⟩

theorem tAgg_run {t : TypeId} {ag : Bool} (h : tAgg P t = some ag) : (isAgg t).run P w = .ok ag w ∧ (sizeOf t).run P w = .ok (tSize P t) w ∧ (ag = false → tSize P t = 1) := by
  unfold tAgg at h
  cases hd : P.underlying t with
  | none => simp [hd] at h
  | some d =>
    obtain ⟨i, hi⟩ := info_of_underlying hd
    rw [hd] at h
    have hs : (sizeOf t).run P w = .ok (tSize P t) w := by simp [sizeOf, typeInfo, hi, tSize]
    refine ⟨?_, hs, ?_⟩
    · cases d <;> simp at h <;> simp [isAgg, run_underlying hd, *]
    · cases d <;> simp at h <;> simp_all

theorem TRels.length {bx : Nat → Bx} : ∀ {xs : List X} {vs : List Value}, TRels bx LB w S xs vs → vs.length = xs.length
  | [], [], _ => rfl
  | x :: xs, v :: vs, h => by simp [TRels.length h.2]
  | [], _ :: _, h => h.elim
  | _ :: _, [], h => h.elim
theorem TRels.get {bx : Nat → Bx} : ∀ {xs : List X} {vs : List Value}, TRels bx LB w S xs vs → ∀ {i : Nat} {x : X}, xs[i]? = some x → ∃ v, vs[i]? = some v ∧ TRel bx LB w S x v
  | [], [], _, i, x, hx => by simp at hx
  | y :: xs, v :: vs, h, 0, x, hx => by simp at hx; subst hx; exact ⟨v, rfl, h.1⟩
  | y :: xs, v :: vs, h, i + 1, x, hx => by simp at hx; simpa using TRels.get h.2 hx
  | [], _ :: _, h, _, _, _ => h.elim
  | _ :: _, [], h, _, _, _ => h.elim
theorem TRels.mk {bx : Nat → Bx} : ∀ {xs : List X} {vs : List Value}, vs.length = xs.length → (∀ (i : Nat) (x : X) (v : Value), xs[i]? = some x → vs[i]? = some v → TRel bx LB w S x v) → TRels bx LB w S xs vs
  | [], [], _, _ => trivial
  | x :: xs, v :: vs, hl, h => ⟨h 0 x v rfl rfl, TRels.mk (by simpa using hl) fun i y u hy hu => h (i + 1) y u (by simpa using hy) (by simpa using hu)⟩
  | [], _ :: _, hl, _ => by simp at hl
  | _ :: _, [], hl, _ => by simp at hl
theorem TRels.app {bx : Nat → Bx} : ∀ {xs ys : List X} {vs us : List Value}, TRels bx LB w S xs vs → TRels bx LB w S ys us → TRels bx LB w S (xs ++ ys) (vs ++ us)
  | [], _, [], _, _, h => h
  | x :: xs, _, v :: vs, _, h, k => ⟨h.1, TRels.app h.2 k⟩
  | [], _, _ :: _, _, h, _ => h.elim
  | _ :: _, _, [], _, h, _ => h.elim
theorem TRels.slice {bx : Nat → Bx} {xs : List X} {vs : List Value} (h : TRels bx LB w S xs vs) (o n : Nat) : TRels bx LB w S (slice' xs o n) ((vs.drop o).take n) := by
  refine TRels.mk (by simp [slice', h.length]) fun i x v hx hv => ?_
  simp only [slice', List.getElem?_take, List.getElem?_drop] at hx hv
  split at hx
  · rename_i hi
    rw [if_pos hi] at hv
    obtain ⟨u, hu, hr⟩ := h.get hx
    rw [hv] at hu; cases hu; exact hr
  · simp at hx

theorem slice'_length {l : List X} {o n : Nat} (h : o + n ≤ l.length) : (slice' l o n).length = n := by simp [slice']; omega
theorem loadCells'_length (b ver : Nat) (p : Path) : ∀ (i : Nat) (l : List X), (loadCells' b ver p i l).length = l.length
  | _, [] => rfl
  | i, x :: r => by simp [loadCells', loadCells'_length b ver p (i + 1) r]
theorem loadCells'_get (b ver : Nat) (p : Path) : ∀ (k : Nat) (l : List X) (i : Nat), (loadCells' b ver p k l)[i]? = (l[i]?).map (loadCell b ver p (k + i))
  | k, [], i => by simp [loadCells']
  | k, x :: r, 0 => by simp [loadCells']
  | k, x :: r, i + 1 => by simp [loadCells', loadCells'_get b ver p (k + 1) r i]; congr 2; omega

/-- A cell that is loaded. -/
theorem loadCell_rel {b : Nat} {B : BL} (hB : LB b = some B) {p : Path} {e : L} (hn : B.c.nav p = some e) (hm : e.mem w S) {i : Nat} {c : L} (hc : e.cells[i]? = some c) :
    TRel st.box LB w S (loadCell b (st.box b).ver p i c.er) c.flat := by
  have hcm := L.mem_cells hm c (List.mem_of_getElem? hc)
  cases c with
  | sc v => exact ⟨rfl, hcm⟩
  | opq v => exact hcm
  | ro v es => exact hcm
  | own t h es =>
    simp only [L.er, loadCell, TRel, Nat.le_refl, true_and]
    intro _ B' hB'
    rw [hB] at hB'; cases hB'
    rw [L.own_flat]
    simp [Sk.hdr, L.sk_nav, hn, L.sk_cells, hc, L.sk, L.sks_eq]
  | _ => trivial

theorem mkAgg_rel {bx : Nat → Bx} {ag : Bool} {xs : List X} {vs : List Value} (h : TRels bx LB w S xs vs) (hl : ag = false → xs.length = 1) :
    ∃ v, (if ag = true then v = .agg vs.toArray else vs = [v]) ∧ TRel bx LB w S (mkAgg ag xs) v := by
  cases ag with
  | true => exact ⟨.agg vs.toArray, by simp, vs.toArray, rfl, by simpa using h⟩
  | false =>
    have hl := hl rfl
    match xs, vs, h with
    | [x], [v], h => exact ⟨v, by simp, h.1⟩
    | [], _, _ => simp at hl
    | _ :: _ :: _, _, _ => simp at hl
    | [_], [], h => exact h.elim
    | [_], _ :: _ :: _, h => exact h.2.elim

theorem loadVar_run {t : TypeId} {ag : Bool} (h : tAgg P t = some ag) {g o : Nat} {vs : List Value} {v : Value} (hl : Loc w g o vs) (hn : vs.length = tSize P t)
    (hv : if ag = true then v = .agg vs.toArray else vs = [v]) : (loadVar t ⟨g, o, none⟩).run P w = .ok v w := by
  obtain ⟨h1, h2, h3⟩ := tAgg_run (w := w) h
  cases ag with
  | true =>
    simp only [if_true] at hv
    subst hv
    have := run_loadCells_loc (P := P) hl
    simp only [loadVar, Sem.run_bind, h1, Result.andThen_ok, if_true, h2, ← hn, this]
    rfl
  | false =>
    simp only [Bool.false_eq_true, if_false] at hv
    subst hv
    have hc := hl.cell (i := 0) (v := v) rfl
    simp only [Nat.add_zero] at hc
    simp [loadVar, h1, hc]

theorem BxRel.get {B : Bx} {l : Option BL} (h : BxRel w S B l) {x : X} (hx : B.c = some x) : ∃ b, l = some b ∧ b.c.er = x ∧ B.real = b.blk.isSome ∧ b.mem w S := by
  unfold BxRel at h
  rw [hx] at h
  cases l with
  | none => exact h.elim
  | some b => exact ⟨b, rfl, h⟩

theorem load_sound (h : SimL Γ st a w LB S) {t : TypeId} {xa : X} {va : Value} {side : Prop} {x : X} {us : List (Nat × Bx)}
    (he : evLoad P st t xa = .ok side x us) (ha : TRel st.box LB w S xa va) :
    us = [] ∧ ∃ v, (Instr.loadAt t va).run P w = .ok v w ∧ TRel st.box LB w S x v := by
  unfold evLoad at he
  cases hag : tAgg P t with
  | none => simp [hag] at he
  | some ag =>
    have hsz := (tAgg_run (w := w) hag).2.2
    rw [hag] at he
    simp only at he
    cases xa with
    | ptr b bn off =>
      simp only at he
      cases hc : (st.box b).c with
      | none => simp [hc] at he
      | some e =>
        rw [hc] at he
        simp only at he
        split at he
        · rename_i hcond
          simp only [Ev.ok.injEq] at he
          obtain ⟨-, rfl, rfl⟩ := he
          obtain ⟨B, hB, her, hreal, hmem⟩ := (h.bx b).get hc
          obtain ⟨g, hg, rfl⟩ := ha.2 hcond.1 B hB
          have hloc := (hmem.1 g hg).loc
          subst her
          have hcl : B.c.er.cells = B.c.cells.map L.er := L.er_cells _
          rw [hcl] at hcond ⊢
          simp only [List.length_map] at hcond
          have hlen : ((B.c.cflat.drop off).take (tSize P t)).length = tSize P t := by simp [L.cflat_length]; omega
          have hrel : TRels st.box LB w S (loadCells' b (st.box b).ver [] off (slice' (B.c.cells.map L.er) off (tSize P t))) ((B.c.cflat.drop off).take (tSize P t)) := by
            refine TRels.mk (by rw [loadCells'_length, slice'_length (by simpa using hcond.2), hlen]) fun i y v hy hv => ?_
            rw [loadCells'_get] at hy
            simp only [slice', List.getElem?_take, List.getElem?_drop, List.getElem?_map] at hy hv
            split at hv
            · rename_i hi
              simp only [hi, if_true, Option.map_map] at hy
              cases hcc : B.c.cells[off + i]? with
              | none => simp [hcc] at hy
              | some c =>
                simp only [hcc, Option.map_some, Option.some.injEq] at hy
                subst hy
                have hvv : v = c.flat := by
                  have : B.c.cflat[off + i]? = some c.flat := by simp [L.cflat, L.flats_eq, hcc]
                  rw [this] at hv; exact (Option.some.inj hv).symm
                subst hvv
                exact loadCell_rel hB (p := []) rfl hmem.2 hcc
            · simp at hv
          obtain ⟨v, hv, hr⟩ := mkAgg_rel (ag := ag) hrel (fun hf => by rw [loadCells'_length, slice'_length (by simpa using hcond.2)]; exact hsz hf)
          refine ⟨rfl, v, ?_, hr⟩
          have hl2 : Loc w g (0 + off) ((B.c.cflat.drop off).take (tSize P t)) := by
            have : B.c.cflat = B.c.cflat.take off ++ (B.c.cflat.drop off).take (tSize P t) ++ (B.c.cflat.drop off).drop (tSize P t) := by rw [List.append_assoc, List.take_append_drop, List.take_append_drop]
            rw [this] at hloc
            have := hloc.sub
            simpa [L.cflat_length, Nat.min_eq_left (show off ≤ B.c.cells.length by omega)] using this
          rw [Nat.zero_add] at hl2
          simp only [Instr.loadAt, Instr.sureAddr, Sem.run_bind, Sem.run_pure, Result.andThen_ok]
          exact loadVar_run hag hl2 hlen hv
        · simp at he
    | ep b ver p off =>
      simp only at he
      cases hc : (st.box b).c with
      | none => simp [hc] at he
      | some cx =>
        rw [hc] at he
        simp only at he
        cases hnav : cx.nav p with
        | none => simp [hnav] at he
        | some e =>
          rw [hnav] at he
          simp only at he
          split at he
          · rename_i hcond
            simp only [Ev.ok.injEq] at he
            obtain ⟨-, rfl, rfl⟩ := he
            obtain ⟨B, hB, her, hreal, hmem⟩ := (h.bx b).get hc
            obtain ⟨g, o, haddr, rfl⟩ := ha.2 hcond.1 B hB
            subst her
            rw [L.nav_er] at hnav
            cases hln : B.c.nav p with
            | none => simp [hln] at hnav
            | some le =>
              simp only [hln, Option.map_some, Option.some.injEq] at hnav
              subst hnav
              rw [L.sk_addr] at haddr
              have hloc := L.nav_loc p B.c B.blk 0 hmem.2 (fun g hg => (hmem.1 g hg).loc) hln haddr
              have hlm := L.nav_mem p B.c hmem.2 hln
              have hcl : le.er.cells = le.cells.map L.er := L.er_cells _
              rw [hcl] at hcond ⊢
              simp only [List.length_map] at hcond
              have hlen : ((le.cflat.drop off).take (tSize P t)).length = tSize P t := by simp [L.cflat_length]; omega
              have hrel : TRels st.box LB w S (loadCells' b ver p off (slice' (le.cells.map L.er) off (tSize P t))) ((le.cflat.drop off).take (tSize P t)) := by
                refine TRels.mk (by rw [loadCells'_length, slice'_length (by simpa using hcond.2), hlen]) fun i y v hy hv => ?_
                rw [loadCells'_get] at hy
                simp only [slice', List.getElem?_take, List.getElem?_drop, List.getElem?_map] at hy hv
                split at hv
                · rename_i hi
                  simp only [hi, if_true, Option.map_map] at hy
                  cases hcc : le.cells[off + i]? with
                  | none => simp [hcc] at hy
                  | some c =>
                    simp only [hcc, Option.map_some, Option.some.injEq] at hy
                    subst hy
                    have hvv : v = c.flat := by
                      have : le.cflat[off + i]? = some c.flat := by simp [L.cflat, L.flats_eq, hcc]
                      rw [this] at hv; exact (Option.some.inj hv).symm
                    subst hvv
                    rw [← hcond.1]
                    exact loadCell_rel hB hln hlm hcc
                · simp at hv
              obtain ⟨v, hv, hr⟩ := mkAgg_rel (ag := ag) hrel (fun hf => by rw [loadCells'_length, slice'_length (by simpa using hcond.2)]; exact hsz hf)
              refine ⟨rfl, v, ?_, hr⟩
              have hl2 : Loc w g (o + off) ((le.cflat.drop off).take (tSize P t)) := by
                have : le.cflat = le.cflat.take off ++ (le.cflat.drop off).take (tSize P t) ++ (le.cflat.drop off).drop (tSize P t) := by rw [List.append_assoc, List.take_append_drop, List.take_append_drop]
                rw [this] at hloc
                have := hloc.sub
                simpa [L.cflat_length, Nat.min_eq_left (show off ≤ le.cells.length by omega)] using this
              simp only [Instr.loadAt, Instr.sureAddr, Sem.run_bind, Sem.run_pure, Result.andThen_ok]
              exact loadVar_run hag hl2 hlen hv
          · simp at he
    | rp e off =>
      simp only at he
      split at he
      · rename_i hcond
        simp only [Ev.ok.injEq] at he
        obtain ⟨-, rfl, rfl⟩ := he
        obtain ⟨g, o, hS, rfl, hcells⟩ := ha
        have hex : ∃ f : Nat → Value, ∀ (i : Nat) (c : X), e.cells[i]? = some c → w.cell? ⟨g, o + i, none⟩ = some (f i) ∧ Ro w S c (f i) := by
          refine ⟨fun i => (w.cell? ⟨g, o + i, none⟩).getD undef, fun i c hc => ?_⟩
          obtain ⟨v, hv, hr⟩ := hcells i c hc
          simp only [hv, Option.getD_some, true_and]; exact hr
        obtain ⟨f, hf⟩ := hex
        have hrel : TRels st.box LB w S ((slice' e.cells off (tSize P t)).map X.roCell) ((List.range (tSize P t)).map fun i => f (off + i)) := by
          refine TRels.mk (by simp [slice'_length hcond]) fun i y v hy hv => ?_
          simp only [List.getElem?_map, slice', List.getElem?_take, List.getElem?_drop] at hy hv
          split at hy
          · rename_i hi
            cases hcc : e.cells[off + i]? with
            | none => simp [hcc] at hy
            | some c =>
              simp only [hcc, Option.map_some, Option.some.injEq] at hy
              subst hy
              simp only [List.getElem?_range hi, Option.map_some, Option.some.injEq] at hv
              subst hv
              obtain ⟨h1, h2⟩ := hf _ c hcc
              revert h2
              generalize f (off + i) = u
              intro h2
              cases h2 with
              | sc v h => exact ⟨rfl, h⟩
              | opq t x => exact ⟨t, x, rfl⟩
              | nil aa cap => exact .nil aa cap
              | sl g o n cap sz es f h1 h2 hmx h3 h4 h5 h6 h7 => exact .sl g o n cap sz es f h1 h2 hmx h3 h4 h5 h6 h7
          · simp at hy
        obtain ⟨v, hv, hr⟩ := mkAgg_rel (ag := ag) hrel (fun hf => by rw [List.length_map, slice'_length hcond]; exact hsz hf)
        refine ⟨rfl, v, ?_, hr⟩
        simp only [Instr.loadAt, Instr.sureAddr, Sem.run_bind, Sem.run_pure, Result.andThen_ok]
        obtain ⟨h1, h2, h3⟩ := tAgg_run (w := w) hag
        have hcell : ∀ j, j < tSize P t → w.cell? ((⟨g, o + off, none⟩ : Addr).add j) = some (f (off + j)) := by
          intro j hj
          have hadd : (⟨g, o + off, none⟩ : Addr).add j = ⟨g, o + (off + j), none⟩ := by unfold Addr.add; split <;> simp_all; omega
          rw [hadd]
          exact (hf (off + j) _ (List.getElem?_eq_getElem (show off + j < e.cells.length by omega))).1
        cases ag with
        | true =>
          simp only [if_true] at hv
          subst hv
          have := run_loadCells (P := P) w ⟨g, o + off, none⟩ (tSize P t) (fun j => f (off + j)) hcell
          simp only [loadVar, Sem.run_bind, h1, Result.andThen_ok, if_true, h2, this]
          rfl
        | false =>
          have hs1 := h3 rfl
          rw [hs1] at hv hcell
          simp at hv
          subst hv
          have hc0 := hcell 0 (by omega)
          simp only [Addr.add, if_true, Nat.add_zero] at hc0
          simp [loadVar, h1, hc0]
      · simp at he
    | _ => simp at he

end Go.Proofs.Ytncjcbdbdocjaaa.Ax

/- Soundness of the operations that change no box, second part. -/
namespace Go.Proofs.Ytncjcbdbdocjaaa.Ax
open Go

variable {P : Program} {Γ : Ctx} {st : St} {a : Act} {w : World} {LB : Nat → Option BL} {S : Nat → Prop}

theorem slAt_some {B : Bx} {ver : Nat} {p : Path} {c t : Nat} {es : List X} (h : slAt B ver p c = some (t, es)) :
    B.ver = ver ∧ ∃ x e, B.c = some x ∧ x.nav p = some e ∧ e.cells[c]? = some (.sl (t + 1) es) := by
  unfold slAt at h
  split at h
  · rename_i hv
    refine ⟨hv, ?_⟩
    cases hc : B.c with
    | none => simp [hc] at h
    | some x =>
      rw [hc] at h
      simp only at h
      cases hn : x.nav p with
      | none => simp [hn] at h
      | some e =>
        rw [hn] at h
        simp only at h
        split at h
        · rename_i t' es' he
          simp only [Option.some.injEq, Prod.mk.injEq] at h
          obtain ⟨rfl, rfl⟩ := h
          exact ⟨x, e, rfl, hn, he⟩
        · simp at h
  · simp at h

/-- A slice of our own at a place: located. -/
theorem SimL.view (h : SimL Γ st a w LB S) {b ver : Nat} {p : Path} {c t : Nat} {es : List X} {v : Value} (hs : slAt (st.box b) ver p c = some (t, es))
    (ht : TRel st.box LB w S (.view b ver p c) v) :
    ∃ B le hh ls, LB b = some B ∧ (st.box b).c = some B.c.er ∧ B.c.nav p = some le ∧ le.cells[c]? = some (.own t hh ls) ∧ ls.map L.er = es ∧ v = hdrV hh ls.length ∧
      (L.own t hh ls).mem w S ∧ B.mem w S := by
  obtain ⟨hv, x, e, hc, hn, he⟩ := slAt_some hs
  obtain ⟨B, hB, her, -, hm⟩ := (h.bx b).get hc
  subst her
  rw [L.nav_er] at hn
  cases hln : B.c.nav p with
  | none => simp [hln] at hn
  | some le =>
    simp only [hln, Option.map_some, Option.some.injEq] at hn
    subst hn
    rw [L.er_cells, List.getElem?_map] at he
    cases hcc : le.cells[c]? with
    | none => simp [hcc] at he
    | some lc =>
      simp only [hcc, Option.map_some, Option.some.injEq] at he
      obtain ⟨hh, ls, rfl, hls⟩ := L.er_own_iff he
      refine ⟨B, le, hh, ls, hB, hc, hln, hcc, hls, ?_, L.mem_cells (L.nav_mem p B.c hm.2 hln) _ (List.mem_of_getElem? hcc), hm⟩
      have := ht.2 hv B hB
      simp only [Sk.hdr, L.sk_nav, hln, Option.map_some, L.sk_cells, List.getElem?_map, hcc, L.sk, L.sks_eq, List.length_map, Option.some.injEq] at this
      exact this.symm

/-- What a slice's value says of memory, cell by cell; R: what is known of each cell. -/
def Rows (w : World) (es : List X) (v : Value) (R : X → Value → Prop) : Prop :=
  ∃ base cap, v = .slice base es.length cap ∧ es.length ≤ cap ∧ (es ≠ [] → ∃ g o sz, base = some ⟨g, o, none⟩ ∧ 0 < sz ∧ (∀ (j : Nat) (e : X), es[j]? = some e → e.cells.length = sz) ∧
    ∀ (j : Nat) (e : X) (i : Nat) (c : X), es[j]? = some e → e.cells[i]? = some c → ∃ u, w.cell? ⟨g, o + j * sz + i, none⟩ = some u ∧ R c u)

theorem Ro.rows {es : List X} {v : Value} (h : Ro w S (.sl 0 es) v) : Rows w es v (Ro w S) := by
  cases h with
  | nil aa cap => exact ⟨aa, cap, rfl, Nat.zero_le _, fun hne => absurd rfl hne⟩
  | sl g o n cap sz es f h1 h2 hmx h3 h4 h5 h6 h7 =>
    subst h1
    exact ⟨_, cap, rfl, h2, fun _ => ⟨g, o, sz, rfl, h4, h5, fun j e i c he hc => ⟨_, h6 j e i c he hc, h7 j e i c he hc⟩⟩⟩

theorem own_rows {t : Nat} {hh : Option (Nat × Nat)} {ls : List L} (hm : (L.own t hh ls).mem w S) :
    Rows w (ls.map L.er) (hdrV hh ls.length) fun x u => ∃ l : L, l.er = x ∧ l.flat = u ∧ l.mem w S := by
  cases hh with
  | none =>
    simp only [L.mem] at hm; subst hm
    exact ⟨none, 0, rfl, Nat.le_refl _, fun hne => absurd rfl hne⟩
  | some gc =>
    obtain ⟨g, cap⟩ := gc
    obtain ⟨hrow, hms⟩ := hm
    have hms' := (L.mems_iff ls).1 hms
    have hrow' := hrow
    obtain ⟨sz, cur, ty, h1, h2, h3, h4, h5, h6, h7, h8⟩ := hrow
    refine ⟨some ⟨g, 0, none⟩, cap, by simp [hdrV], by simpa using h4, fun _ => ⟨g, 0, sz, rfl, h1, fun j e he => ?_, fun j e i c he hc => ?_⟩⟩
    · simp only [List.getElem?_map] at he
      cases hj : ls[j]? with
      | none => simp [hj] at he
      | some l =>
        simp only [hj, Option.map_some, Option.some.injEq] at he
        subst he
        rw [L.er_cells, List.length_map]
        exact h6 l (List.mem_of_getElem? hj)
    · simp only [List.getElem?_map] at he
      cases hj : ls[j]? with
      | none => simp [hj] at he
      | some l =>
        simp only [hj, Option.map_some, Option.some.injEq] at he
        subst he
        rw [L.er_cells, List.getElem?_map] at hc
        cases hi : l.cells[i]? with
        | none => simp [hi] at hc
        | some lc =>
          simp only [hi, Option.map_some, Option.some.injEq] at hc
          subst hc
          have hloc := hrow'.loc hj
          rw [h6 l (List.mem_of_getElem? hj)] at hloc
          refine ⟨lc.flat, ?_, lc, rfl, rfl, L.mem_cells (hms' l (List.mem_of_getElem? hj)) lc (List.mem_of_getElem? hi)⟩
          rw [Nat.zero_add]
          exact hloc.cell (by simp [L.cflat, L.flats_eq, hi])

theorem Rows.mono {es : List X} {v : Value} {R R' : X → Value → Prop} (h : Rows w es v R) (hr : ∀ x u, R x u → R' x u) : Rows w es v R' := by
  obtain ⟨base, cap, h1, h2, h3⟩ := h
  refine ⟨base, cap, h1, h2, fun hne => ?_⟩
  obtain ⟨g, o, sz, k1, k2, k3, k4⟩ := h3 hne
  exact ⟨g, o, sz, k1, k2, k3, fun j e i c he hc => let ⟨u, hu, hr'⟩ := k4 j e i c he hc; ⟨u, hu, hr _ _ hr'⟩⟩

/-- What is known of a cell that is read: a scalar's value. -/
def ScRel (x : X) (u : Value) : Prop := ∀ v, x = .sc v → u = v ∧ v.oneCell' = true
theorem SimL.slE (h : SimL Γ st a w LB S) {x : X} {v : Value} {es : List X} (he : st.slE x = some es) (ht : TRel st.box LB w S x v) : Rows w es v ScRel := by
  unfold St.slE at he
  split at he
  · simp only [Option.some.injEq] at he; subst he
    exact (Ro.rows ht).mono fun x u hr y hy => by subst hy; cases hr; exact ⟨rfl, ‹_›⟩
  · simp only [Option.some.injEq] at he; subst he
    obtain ⟨rfl, -⟩ := ht
    exact ⟨none, 0, rfl, Nat.le_refl _, fun hne => absurd rfl hne⟩
  · rename_i b ver p c
    cases hs : slAt (st.box b) ver p c with
    | none => simp [hs] at he
    | some te =>
      obtain ⟨t, es'⟩ := te
      simp only [hs, Option.map_some, Option.some.injEq] at he
      subst he
      obtain ⟨B, le, hh, ls, -, -, -, -, rfl, rfl, hm, -⟩ := h.view hs ht
      exact (own_rows hm).mono fun x u ⟨l, h1, h2, h3⟩ y hy => by
        subst h1; subst h2
        cases l <;> simp [L.er] at hy
        subst hy
        exact ⟨rfl, h3⟩
  · simp at he

theorem tElem_some {t e : TypeId} (h : tElem P t = some e) : P.underlying t = some (.slice e) ∧ P.elem t = e := by
  unfold tElem at h
  split at h <;> simp at h
  subst h
  rename_i hd
  exact ⟨hd, by simp [Program.elem, hd]⟩
theorem sizeOf_run {t : TypeId} (h : 0 < tSize P t) : (sizeOf t).run P w = .ok (tSize P t) w := by
  unfold tSize at h ⊢
  cases hi : P.info? t with
  | none => simp [hi] at h
  | some i => simp [sizeOf, typeInfo, hi]
theorem add_lit (g o n : Nat) : (⟨g, o, none⟩ : Addr).add n = ⟨g, o + n, none⟩ := by unfold Addr.add; split <;> simp_all
theorem L.addr_snoc {e1 : L} {t g cap c j : Nat} {es : List L} : ∀ (p : Path) (e e' : L) (blk : Option Nat) (off : Nat), e.mem w S → e.nav p = some e' → e'.cells[c]? = some (.own t (some (g, cap)) es) → es[j]? = some e1 →
    e.addr blk off (p ++ [(c, j)]) = some (some g, j * e1.cells.length)
  | [], e, e', blk, off, hm, hn, hc, hj => by
    simp only [L.nav, Option.some.injEq] at hn; subst hn
    simp [L.addr, hc, hj]
  | (c0, j0) :: p, e, e', blk, off, hm, hn, hc, hj => by
    simp only [L.nav] at hn
    simp only [List.cons_append, L.addr]
    cases hc0 : e.cells[c0]? with
    | none => simp [hc0] at hn
    | some y =>
      rw [hc0] at hn
      have hmy := L.mem_cells hm y (List.mem_of_getElem? hc0)
      cases y with
      | own t0 h0 es0 =>
        simp only at hn
        cases hj0 : es0[j0]? with
        | none => simp [hj0] at hn
        | some e0 =>
          rw [hj0] at hn
          simp only [Option.bind_some] at hn
          cases h0 with
          | none => simp only [L.mem] at hmy; subst hmy; simp at hj0
          | some gc =>
            obtain ⟨g0, cap0⟩ := gc
            simp only [hj0, Option.bind_some]
            exact L.addr_snoc p e0 e' _ _ ((L.mems_iff es0).1 hmy.2 e0 (List.mem_of_getElem? hj0)) hn hc hj
      | _ => simp at hn

theorem indexAddr_sound (h : SimL Γ st a w LB S) {t : TypeId} {x i : X} {vx vi : Value} {side : Prop} {r : X} {us : List (Nat × Bx)}
    (he : evIndexAddr P st t x i = .ok side r us) (hside : side) (hx : TRel st.box LB w S x vx) (hi : TRel st.box LB w S i vi) :
    us = [] ∧ ∃ v, (Instr.indexAt t vx vi).run P w = .ok v w ∧ TRel st.box LB w S r v := by
  unfold evIndexAddr at he
  split at he <;> try (simp at he; done)
  rename_i k n
  obtain ⟨rfl, -⟩ := hi
  cases hes : st.slE x with
  | none => simp [hes] at he
  | some es =>
    rw [hes] at he
    simp only at he
    cases hj : es[n.toNat]? with
    | none => simp [hj] at he
    | some e =>
      rw [hj] at he
      simp only at he
      have hlt : n.toNat < es.length := (List.getElem?_eq_some_iff.1 hj).1
      cases hte : tElem P t with
      | none => cases x <;> simp [hte] at he; rename_i t' _; cases t' <;> simp at he
      | some el =>
        obtain ⟨hu, hel⟩ := tElem_some hte
        have hu' : P.underlying t = some (.slice (P.elem t)) := by rw [hel]; exact hu
        have hne : es ≠ [] := by rintro rfl; simp at hj
        cases x with
        | sl tg es0 =>
          cases tg with
          | succ tg => simp at he
          | zero =>
            simp only [St.slE, Option.some.injEq] at hes; subst hes
            simp only [hte, Option.isSome_some, if_true, Option.map_some, Option.getD_some, Ev.ok.injEq] at he
            obtain ⟨hs, rfl, rfl⟩ := he
            rw [← hs] at hside
            obtain ⟨h0, hsz⟩ := hside
            refine ⟨rfl, ?_⟩
            cases hx with
            | nil => simp at hj
            | sl g o m cap sz es f h1 h2 hmx h3 h4 h5 h6 h7 =>
              have hes := h5 _ _ hj
              have hszr : (sizeOf (P.elem t)).run P w = .ok sz w := by rw [hel, ← hes, hsz]; exact sizeOf_run (by omega)
              refine ⟨.pointer (some ⟨g, o + n.toNat * sz + 0, none⟩), ?_, g, o + n.toNat * sz, h3, rfl, fun i c hc => ⟨_, h6 _ _ _ _ hj hc, h7 _ _ _ _ hj hc⟩⟩
              rw [run_indexAt_slice w t _ _ _ _ _ hu', if_pos ⟨h0, by omega⟩, hszr]
              simp [Result.andThen, add_lit]
        | view b ver p c =>
          simp only [hte, Option.isSome_some, if_true, Option.map_some, Option.getD_some, Ev.ok.injEq] at he
          obtain ⟨hs, rfl, rfl⟩ := he
          rw [← hs] at hside
          obtain ⟨h0, hsz⟩ := hside
          refine ⟨rfl, ?_⟩
          simp only [St.slE] at hes
          cases hsl : slAt (st.box b) ver p c with
          | none => simp [hsl] at hes
          | some te =>
            obtain ⟨tg, es1⟩ := te
            simp only [hsl, Option.map_some, Option.some.injEq] at hes
            subst hes
            obtain ⟨B, le, hh, ls, hB, hc, hn, hcc, rfl, rfl, hm, hBm⟩ := h.view hsl hx
            simp only [List.getElem?_map] at hj
            cases hjl : ls[n.toNat]? with
            | none => simp [hjl] at hj
            | some le1 =>
              simp only [hjl, Option.map_some, Option.some.injEq] at hj
              subst hj
              cases hh with
              | none => simp only [L.mem] at hm; subst hm; simp at hjl
              | some gc =>
                obtain ⟨g, cap⟩ := gc
                rw [L.er_cells, List.length_map] at hsz
                have hpos : 0 < tSize P el := by
                  obtain ⟨sz, _, _, h1, _, _, _, _, h6, _⟩ := hm.1
                  rw [← hsz, h6 le1 (List.mem_of_getElem? hjl)]; exact h1
                have hszr : (sizeOf (P.elem t)).run P w = .ok le1.cells.length w := by rw [hel, hsz]; exact sizeOf_run hpos
                refine ⟨.pointer (some ⟨g, n.toNat * le1.cells.length + 0, none⟩), ?_, hx.1, fun hv B' hB' => ⟨g, n.toNat * le1.cells.length, ?_, rfl⟩⟩
                · simp only [hdrV]
                  rw [run_indexAt_slice w t _ _ _ _ _ hu', if_pos ⟨h0, by simp at hlt; omega⟩, hszr]
                  simp [Result.andThen, add_lit]
                · rw [hB] at hB'; cases hB'
                  rw [L.sk_addr]
                  exact L.addr_snoc p B.c le B.blk 0 hBm.2 hn hcc hjl
        | _ => simp at he

/-- A pointer that is known points somewhere. -/
theorem SimL.okP (h : SimL Γ st a w LB S) {x : X} {v : Value} (ho : st.okP x = true) (hx : TRel st.box LB w S x v) : ∃ g o, v = .pointer (some ⟨g, o, none⟩) := by
  cases x with
  | ptr b bn off =>
    simp only [St.okP, Bool.and_eq_true, beq_iff_eq] at ho
    obtain ⟨x, hc⟩ := Option.isSome_iff_exists.1 ho.2
    obtain ⟨B, hB, -⟩ := (h.bx b).get hc
    obtain ⟨g, -, rfl⟩ := hx.2 ho.1 B hB
    exact ⟨g, off, rfl⟩
  | ep b ver p off =>
    simp only [St.okP, Bool.and_eq_true, beq_iff_eq] at ho
    obtain ⟨x, hc⟩ := Option.isSome_iff_exists.1 ho.2
    obtain ⟨B, hB, -⟩ := (h.bx b).get hc
    obtain ⟨g, o, -, rfl⟩ := hx.2 ho.1 B hB
    exact ⟨g, o + off, rfl⟩
  | rp e off => obtain ⟨g, o, -, rfl, -⟩ := hx; exact ⟨g, o + off, rfl⟩
  | _ => simp [St.okP] at ho

theorem fieldAddr_sound (h : SimL Γ st a w LB S) {t : TypeId} {x : X} {vx : Value} {f : Nat} {side : Prop} {r : X} {us : List (Nat × Bx)}
    (he : evFieldAddr P st t x f = .ok side r us) (hx : TRel st.box LB w S x vx) :
    us = [] ∧ ∃ v, (Instr.fieldAt t vx f).run P w = .ok v w ∧ TRel st.box LB w S r v := by
  unfold evFieldAddr at he
  cases hf : tFld P t f with
  | none => simp [hf] at he
  | some oft =>
    obtain ⟨o, ft⟩ := oft
    rw [hf] at he
    simp only at he
    split at he
    · simp at he
    · rename_i hsz
      split at he
      · simp at he
      · rename_i hok
        have hok : st.okP x = true := by simpa using hok
        obtain ⟨g, o', rfl⟩ := h.okP hok hx
        have hfld : ∃ fs fd, P.underlying t = some (.struct fs) ∧ fs[f]? = some fd ∧ fd.offset = o ∧ fd.type = ft := by
          unfold tFld at hf
          split at hf
          · rename_i fs hu
            split at hf
            · rename_i fd hfd
              simp only [Option.some.injEq, Prod.mk.injEq] at hf
              exact ⟨fs, fd, hu, hfd, hf.1, hf.2⟩
            · simp at hf
          · simp at hf
        obtain ⟨fs, fd, hu, hfd, rfl, rfl⟩ := hfld
        have hrun : (Instr.fieldAt t (.pointer (some ⟨g, o', none⟩)) f).run P w = .ok (.pointer (some ⟨g, o' + fd.offset, none⟩)) w := by
          simp [Instr.fieldAt, run_underlying hu, hfd, Instr.sureAddr, fieldPlace, sizeOf_run (P := P) (w := w) (Nat.pos_of_ne_zero hsz), hsz, add_lit]
        cases x with
        | ptr b bn off =>
          simp only [Ev.ok.injEq] at he
          obtain ⟨-, rfl, rfl⟩ := he
          refine ⟨rfl, _, hrun, hx.1, fun hv B hB => ?_⟩
          obtain ⟨g1, h1, h2⟩ := hx.2 hv B hB
          simp only [Value.pointer.injEq, Option.some.injEq, Addr.mk.injEq, and_true] at h2
          exact ⟨g1, h1, by rw [h2.1, h2.2]⟩
        | ep b ver p off =>
          simp only [Ev.ok.injEq] at he
          obtain ⟨-, rfl, rfl⟩ := he
          refine ⟨rfl, _, hrun, hx.1, fun hv B hB => ?_⟩
          obtain ⟨g1, o1, h1, h2⟩ := hx.2 hv B hB
          simp only [Value.pointer.injEq, Option.some.injEq, Addr.mk.injEq, and_true] at h2
          exact ⟨g1, o1, h1, by rw [h2.1, h2.2, Nat.add_assoc]⟩
        | rp e off =>
          simp only [Ev.ok.injEq] at he
          obtain ⟨-, rfl, rfl⟩ := he
          obtain ⟨g1, o1, h1, h2, h3⟩ := hx
          simp only [Value.pointer.injEq, Option.some.injEq, Addr.mk.injEq, and_true] at h2
          exact ⟨rfl, _, hrun, g1, o1, h1, by rw [h2.1, h2.2, Nat.add_assoc], h3⟩
        | _ => simp [St.okP] at hok

theorem nilCheck_sound (h : SimL Γ st a w LB S) {o : Oper} {y : Operand} (ho : o.op = .nilCheck y) {side : Prop} {r : X} {us : List (Nat × Bx)}
    (he : evNilCheck st (st.opd y) = .ok side r us) :
    us = [] ∧ ∃ v, (execOp a.eval o).run P w = .ok (.value v) w ∧ TRel st.box LB w S r v := by
  have hx := h.opd y
  unfold evNilCheck at he
  split at he
  · rename_i f aa bb heq
    simp only [Ev.ok.injEq] at he
    obtain ⟨-, rfl, rfl⟩ := he
    rw [heq] at hx
    obtain ⟨hv, -⟩ := hx
    refine ⟨rfl, _, ?_, rfl, rfl⟩
    simp [execOp, ho, hv]
  · split at he
    · rename_i hok
      simp only [Ev.ok.injEq] at he
      obtain ⟨-, rfl, rfl⟩ := he
      obtain ⟨g, off, hv⟩ := h.okP hok hx
      refine ⟨rfl, a.eval y, ?_, hx⟩
      simp [execOp, ho, hv]
    · simp at he

/-- A cell's value. -/
theorem SimL.okX1 (h : SimL Γ st a w LB S) {x : X} {v : Value} (ho : st.okX1 x = true) (hx : TRel st.box LB w S x v) : v.oneCell' = true := by
  cases x with
  | sc u => exact hx.1 ▸ hx.2
  | opq => obtain ⟨t, y, rfl⟩ := hx; rfl
  | sl t es =>
    cases t with
    | zero => exact hx.oneCell
    | succ t => exact hx.elim
  | view b ver p c =>
    simp only [St.okX1, Option.isSome_iff_exists] at ho
    obtain ⟨⟨t, es⟩, hs⟩ := ho
    obtain ⟨B, le, hh, ls, -, -, -, -, -, rfl, -⟩ := h.view hs hx
    cases hh with
    | none => rfl
    | some gc => obtain ⟨g, cap⟩ := gc; rfl
  | _ => simp [St.okX1] at ho
theorem SimL.okX (h : SimL Γ st a w LB S) {x : X} {v : Value} (ho : st.okX x = true) (hx : TRel st.box LB w S x v) :
    TRels st.box LB w S x.cells v.cells.toList ∧ ∀ u ∈ v.cells.toList, u.oneCell' = true := by
  by_cases hag : ∃ cs, x = .agg cs
  · obtain ⟨cs, rfl⟩ := hag
    obtain ⟨us, rfl, hus⟩ := hx
    refine ⟨hus, fun u hu => ?_⟩
    simp only [Value.cells] at hu
    obtain ⟨i, hi⟩ := List.getElem?_of_mem hu
    have hlt : i < cs.length := by rw [← hus.length]; exact (List.getElem?_eq_some_iff.1 hi).1
    obtain ⟨u', hu', hr⟩ := hus.get (List.getElem?_eq_getElem hlt)
    rw [hi] at hu'; cases hu'
    simp only [St.okX, List.all_eq_true] at ho
    exact h.okX1 (ho _ (List.getElem_mem hlt)) hr
  · have h1 : st.okX1 x = true := by cases x <;> first | exact ho | exact absurd ⟨_, rfl⟩ hag
    have h2 := h.okX1 h1 hx
    have h3 : v.cells = #[v] := by cases v <;> first | rfl | simp [Value.oneCell'] at h2
    have h4 : x.cells = [x] := by cases x <;> first | rfl | exact absurd ⟨_, rfl⟩ hag
    rw [h3, h4]
    exact ⟨⟨hx, trivial⟩, by simpa using h2⟩

theorem fold_set (off : Nat) (l : List Value) (cs : Array Value) (h : off + l.length ≤ cs.size) :
    (l.toArray.zipIdx.foldl (fun cs (x : Value × Nat) => cs.setIfInBounds (off + x.2) x.1) cs).toList = cs.toList.take off ++ l ++ cs.toList.drop (off + l.length) := by
  obtain ⟨h1, h2⟩ := Great.foldl_set off l 0 cs
  rw [← Array.foldl_toList, Array.toList_zipIdx]
  apply List.ext_getElem?
  intro k
  rw [Array.getElem?_toList]
  have := h2 k
  simp only [Nat.add_zero] at this
  rw [show l.toArray.toList.zipIdx 0 = l.zipIdx 0 from rfl, this]
  by_cases hk : off ≤ k ∧ k < off + l.length ∧ k < cs.size
  · rw [if_pos hk, List.append_assoc, List.getElem?_append_right (by simp; omega), List.getElem?_append_left (by simp; omega)]
    congr 1; simp; omega
  · rw [if_neg hk]
    by_cases hk1 : k < off
    · rw [List.append_assoc, List.getElem?_append_left (by simp; omega), List.getElem?_take, if_pos hk1, Array.getElem?_toList]
    · rw [List.getElem?_append_right (by simp; omega), List.getElem?_drop, ← Array.getElem?_toList]
      congr 1; simp; omega

theorem fill_rel {t : TypeId} {bx : Nat → Bx} {fs : Array Field} (hu : P.underlying t = some (.struct fs)) {places : List (Nat × Nat)}
    (hp : fs.toList.mapM (fun f => (P.info? f.type).map fun i => (f.offset, i.size)) = some places) :
    ∀ (parts : List (Nat × X)) (vparts : List (Nat × Value)) (cs : List X) (cells : Array Value) (cs' : List X),
      parts.map (·.1) = vparts.map (·.1) → (∀ (i : Nat) (x : Nat × X) (v : Nat × Value), parts[i]? = some x → vparts[i]? = some v → TRels bx LB w S x.2.cells v.2.cells.toList) →
      TRels bx LB w S cs cells.toList → fillX P t cs parts = some cs' →
      ∃ cells', Instr.fill (places[·]?) cells vparts = some cells' ∧ TRels bx LB w S cs' cells'.toList
  | [], [], cs, cells, cs', _, _, hc, hf => by
    simp only [fillX, Option.some.injEq] at hf; subst hf
    exact ⟨cells, rfl, hc⟩
  | (i, x) :: r, (j, v) :: vr, cs, cells, cs', hidx, hrel, hc, hf => by
    simp only [List.map_cons, List.cons.injEq] at hidx
    obtain ⟨rfl, hidx⟩ := hidx
    simp only [fillX] at hf
    cases hfl : tFld P t i with
    | none => simp [hfl] at hf
    | some oft =>
      obtain ⟨o, ft⟩ := oft
      rw [hfl] at hf
      simp only at hf
      split at hf
      · rename_i hcond
        have hx := hrel 0 (i, x) (i, v) rfl rfl
        simp only at hx
        have hlen := hx.length
        have hplace : places[i]? = some (o, tSize P ft) := by
          unfold tFld at hfl
          rw [hu] at hfl
          simp only at hfl
          split at hfl
          · rename_i fd hfd
            simp only [Option.some.injEq, Prod.mk.injEq] at hfl
            obtain ⟨rfl, rfl⟩ := hfl
            have : ∀ (l : List Field) (q : List (Nat × Nat)), l.mapM (fun f => (P.info? f.type).map fun i => (f.offset, i.size)) = some q → ∀ (i : Nat) (f : Field), l[i]? = some f → q[i]? = some (f.offset, tSize P f.type) := by
              intro l
              induction l with
              | nil => intro q _ i f hi; simp at hi
              | cons f0 l ih =>
                intro q hq i f hi
                simp only [List.mapM_cons, Option.bind_eq_bind, Option.pure_def] at hq
                cases hinf : P.info? f0.type with
                | none => simp [hinf] at hq
                | some inf =>
                  cases hr : l.mapM (fun f => (P.info? f.type).map fun i => (f.offset, i.size)) with
                  | none => simp [hinf, hr] at hq
                  | some rest =>
                    simp [hinf, hr] at hq
                    subst hq
                    cases i with
                    | zero => simp at hi; subst hi; simp [tSize, hinf]
                    | succ i => simpa using ih rest hr i f (by simpa using hi)
            exact this fs.toList places hp i fd (by simpa using hfd)
          · simp at hfl
        simp only [Instr.fill, hplace]
        have hcl := hc.length
        have hsz : v.cells.size = tSize P ft := by rw [← Array.length_toList, hlen, hcond.1]
        rw [if_neg (by simp [hsz]; rw [hcond.1] at hcond; rw [Array.length_toList] at hcl; omega)]
        have hfold := fold_set o v.cells.toList cells (by rw [Array.length_toList] at hcl; rw [hlen, hcl]; exact hcond.2)
        refine fill_rel hu hp r vr _ _ cs' hidx (fun k x v hx hv => hrel (k + 1) x v (by simpa using hx) (by simpa using hv)) ?_ hf
        rw [show (v.cells.zipIdx.foldl (fun cs (x : Value × Nat) => cs.setIfInBounds (o + x.2) x.1) cells) = (v.cells.toList.toArray.zipIdx.foldl (fun cs (x : Value × Nat) => cs.setIfInBounds (o + x.2) x.1) cells) by simp, hfold]
        refine TRels.app (TRels.app ?_ hx) ?_
        · have := hc.slice 0 o; simpa [slice'] using this
        · have := hc.slice (o + x.cells.length) cs.length
          rw [hlen]
          have e1 : slice' cs (o + x.cells.length) cs.length = cs.drop (o + x.cells.length) := by simp only [slice']; rw [List.take_of_length_le (by simp)]
          have e2 : (cells.toList.drop (o + x.cells.length)).take cs.length = cells.toList.drop (o + x.cells.length) := List.take_of_length_le (by rw [← hcl]; simp)
          rw [e1, e2] at this
          exact this
      · simp at hf
  | [], _ :: _, _, _, _, h, _, _, _ => by simp at h
  | _ :: _, [], _, _, _, h, _, _, _ => by simp at h

theorem build_sound (h : SimL Γ st a w LB S) {t : TypeId} {ps : Array (Nat × Operand)} {side : Prop} {r : X} {us : List (Nat × Bx)}
    (he : evBuild P st t ps.toList = .ok side r us) :
    us = [] ∧ ∃ v, (Instr.build t (ps.map fun (i, x) => (i, a.eval x))).run P w = .ok v w ∧ TRel st.box LB w S r v := by
  unfold evBuild at he
  cases hz : tZero P t with
  | none => simp [hz] at he
  | some z =>
    rw [hz] at he
    simp only at he
    split at he
    · rename_i hcond
      simp only [Bool.and_eq_true, List.all_eq_true] at hcond
      split at he
      · rename_i cs hfill
        simp only [Ev.ok.injEq] at he
        obtain ⟨-, rfl, rfl⟩ := he
        refine ⟨rfl, ?_⟩
        have hall := hcond.1
        unfold tAllF at hall
        split at hall
        · rename_i fs hu
          simp only [List.all_eq_true] at hall
          obtain ⟨it, hit⟩ := info_of_underlying hu
          unfold tZero at hz
          rw [hit] at hz
          simp only at hz
          split at hz
          · rename_i zv hzv
            split at hz
            · simp only [Option.some.injEq] at hz
              subst hz
              have hplaces : ∃ places, fs.toList.mapM (fun f => (P.info? f.type).map fun i => (f.offset, i.size)) = some places := by
                have : ∀ (l : List Field), (∀ f ∈ l, (P.info? f.type).isSome = true) → ∃ places, l.mapM (fun f => (P.info? f.type).map fun i => (f.offset, i.size)) = some places := by
                  intro l
                  induction l with
                  | nil => intro _; exact ⟨[], rfl⟩
                  | cons f0 l ih =>
                    intro hl
                    obtain ⟨q, hq⟩ := ih (fun f hf => hl f (by simp [hf]))
                    obtain ⟨inf, hinf⟩ := Option.isSome_iff_exists.1 (hl f0 (by simp))
                    exact ⟨(f0.offset, inf.size) :: q, by simp [List.mapM_cons, hinf, hq]⟩
                exact this fs.toList hall
              obtain ⟨places, hp⟩ := hplaces
              have hzr : TRels st.box LB w S (ofV zv).cells zv.cells.toList := by
                cases zv with
                | agg cs => exact ofVs_rel _ _ _ _ cs.toList
                | _ => exact ⟨by first | exact ⟨rfl, rfl⟩ | trivial, trivial⟩
              obtain ⟨cells', hf, hr⟩ := fill_rel (bx := st.box) (LB := LB) (w := w) (S := S) hu hp (ps.toList.map fun x => (x.1, st.opd x.2)) ((ps.map fun (i, x) => (i, a.eval x)).toList) _ zv.cells cs
                (by simp) (fun i x v hx hv => by
                  simp only [Array.toList_map, List.getElem?_map] at hx hv
                  cases hpi : ps.toList[i]? with
                  | none => simp [hpi] at hx
                  | some pi =>
                    simp only [hpi, Option.map_some, Option.some.injEq] at hx hv
                    subst hx; subst hv
                    exact (h.okX (hcond.2 pi (List.mem_of_getElem? hpi)) (h.opd pi.2)).1) hzr hfill
              refine ⟨.agg cells', run_build w t _ cells' ?_, cells', rfl, hr⟩
              simp only [Program.built, hit, hu, hzv, hp]; rw [← hf]; congr 1; funext x; simp
            · simp at hz
          · simp at hz
        · simp at hall
      · simp at he
    · simp at he

end Go.Proofs.Ytncjcbdbdocjaaa.Ax

/- Soundness of the operations that change no box, third part. -/
namespace Go.Proofs.Ytncjcbdbdocjaaa.Ax
open Go

variable {P : Program} {Γ : Ctx} {st : St} {a : Act} {w : World} {LB : Nat → Option BL} {S : Nat → Prop}

def ORel (bx : Nat → Bx) (LB : Nat → Option BL) (w : World) (S : Nat → Prop) : Option X → Option Value → Prop
  | none, none => True
  | some x, some v => TRel bx LB w S x v
  | _, _ => False
def BndRel (d : Int) (l : Int) (v : Option Value) : Prop := (v = none ∧ l = d) ∨ ∃ k, v = some (.int k l)
theorem bnd_rel {bx : Nat → Bx} {d l : Int} {x : Option X} {v : Option Value} (h : bnd d x = some l)
    (hr : ORel bx LB w S x v) : BndRel d l v := by
  cases x with
  | none =>
    simp only [bnd, Option.some.injEq] at h
    cases v with
    | none => exact .inl ⟨rfl, h.symm⟩
    | some v => exact hr.elim
  | some x =>
    cases v with
    | none => exact hr.elim
    | some v =>
      unfold bnd at h
      split at h
      · rename_i heq; simp at heq
      · rename_i k n heq
        simp only [Option.some.injEq] at heq
        have h' : n = l := by simpa using h
        subst heq; subst h'
        obtain ⟨rfl, -⟩ := hr
        exact .inr ⟨k, rfl⟩
      · simp at h

theorem run_bounds {isSlice : Bool} {len cap : Nat} {lo hi : Option Value} {l h : Int} (hl : BndRel 0 l lo) (hh : BndRel len h hi) (h0 : 0 ≤ l) (h1 : l ≤ h) (h2 : h ≤ cap) (hlc : len ≤ cap) :
    (Instr.sliceBounds isSlice len cap lo hi none).run P w = .ok (l.toNat, h.toNat, cap) w := by
  rcases hl with ⟨rfl, rfl⟩ | ⟨k, rfl⟩ <;> rcases hh with ⟨rfl, rfl⟩ | ⟨k', rfl⟩
  · simp [Instr.sliceBounds]
  · simp [Instr.sliceBounds, Instr.sliceBound, asIntOf, h0, h2, show 0 ≤ h from h1]
  · simp [Instr.sliceBounds, Instr.sliceBound, asIntOf, h0, show l ≤ (len : Int) from h1]
  · have hm : max h 0 = h := by omega
    simp [Instr.sliceBounds, Instr.sliceBound, asIntOf, h0, h2, show 0 ≤ h by omega, h1, hm]

theorem slice_sound {t : TypeId} {x : X} {vx : Value} {lo hi : Option X} {vlo vhi : Option Value} {side : Prop} {r : X} {us : List (Nat × Bx)} {bx : Nat → Bx}
    (he : evSlice P st t x lo hi = .ok side r us) (hside : side) (hx : TRel bx LB w S x vx)
    (hlo : ORel bx LB w S lo vlo)
    (hhi : ORel bx LB w S hi vhi) :
    us = [] ∧ ∃ v, (Instr.sliceAt t vx vlo vhi none).run P w = .ok v w ∧ TRel bx LB w S r v := by
  unfold evSlice at he
  cases hl : bnd 0 lo with
  | none => simp [hl] at he
  | some l =>
    rw [hl] at he
    simp only at he
    have hL := bnd_rel hl hlo
    split at he
    · rename_i s
      obtain ⟨rfl, -⟩ := hx
      cases hh : bnd s.size hi with
      | none => simp [hh] at he
      | some h =>
        rw [hh] at he
        simp only at he
        split at he
        · rename_i hstr
          simp only [Ev.ok.injEq] at he
          obtain ⟨hs, rfl, rfl⟩ := he
          rw [← hs] at hside
          have hH := bnd_rel hh hhi
          have hu : P.underlying t = some .string := by
            unfold tIsStr at hstr
            split at hstr <;> first | assumption | simp at hstr
          refine ⟨rfl, .string (s.extract l.toNat h.toNat), ?_, rfl, rfl⟩
          have hb := run_bounds (P := P) (w := w) (isSlice := false) (cap := s.size) hL hH hside.1 hside.2.1 hside.2.2 (Nat.le_refl _)
          simp [Instr.sliceAt, run_underlying hu, Instr.slice, hb]
        · simp at he
    · rename_i es
      cases hh : bnd es.length hi with
      | none => simp [hh] at he
      | some h =>
        rw [hh] at he
        simp only at he
        cases hte : tElem P t with
        | none => simp [hte] at he
        | some e =>
          rw [hte] at he
          simp only at he
          split at he
          · simp at he
          · rename_i hinf
            simp only [Ev.ok.injEq] at he
            obtain ⟨hs, rfl, rfl⟩ := he
            rw [← hs] at hside
            obtain ⟨h0, h1, h2, h3⟩ := hside
            have hH := bnd_rel hh hhi
            obtain ⟨hu, -⟩ := tElem_some hte
            obtain ⟨i, hi⟩ := Option.isSome_iff_exists.1 (show (P.info? e).isSome = true by simp only [tInfo, Bool.not_eq_false] at hinf; exact hinf)
            have hsz : (sizeOf e).run P w = .ok (tSize P e) w := by simp [sizeOf, typeInfo, hi, tSize]
            obtain ⟨base, cap, rfl, hcap, hrows⟩ := hx.rows
            have hb := run_bounds (P := P) (w := w) (isSlice := true) (cap := cap) hL hH h0 h1 (by omega) hcap
            refine ⟨rfl, .slice (if cap = l.toNat then base else base.map (·.add (l.toNat * tSize P e))) (h.toNat - l.toNat) (cap - l.toNat), ?_, ?_⟩
            · simp [Instr.sliceAt, run_underlying hu, Instr.slice, hb, hsz]
            · have hlen : ((es.drop l.toNat).take (h.toNat - l.toNat)).length = h.toNat - l.toNat := by simp; omega
              by_cases hn : h.toNat - l.toNat = 0
              · rw [hn] at hlen ⊢
                rw [List.eq_nil_of_length_eq_zero hlen]
                exact .nil _ _
              · have hne : es ≠ [] := by rintro rfl; simp at h2; omega
                cases hx with
                | nil => exact absurd rfl hne
                | sl g o m cap' sz es' f k1 k2 kmx k3 k4 k5 k6 k7 =>
                  have hsze : sz = tSize P e := by
                    cases es with
                    | nil => exact absurd rfl hne
                    | cons e0 r => rw [← k5 0 e0 rfl]; exact h3 e0 (by simp)
                  rw [if_neg (by omega)]
                  simp only [Option.map_some, add_lit]
                  refine .sl g _ _ _ sz _ (fun j i => f (l.toNat + j) i) (by rw [hlen]) (by omega) (by omega) k3 k4 (fun j e' he' => ?_) (fun j e' i c he' hc => ?_) (fun j e' i c he' hc => ?_)
                  all_goals
                    simp only [List.getElem?_take, List.getElem?_drop] at he'
                    split at he'
                    · first
                        | exact k5 _ _ he'
                        | (have := k6 _ _ _ _ he' hc
                           rw [← this, ← hsze]
                           congr 2
                           rw [Nat.add_mul]; omega)
                        | exact k7 _ _ _ _ he' hc
                    · simp at he'
    · simp at he

theorem len_sound (h : SimL Γ st a w LB S) {t : TypeId} {x : X} {vx : Value} {ty : TypeId} {side : Prop} {r : X} {us : List (Nat × Bx)}
    (he : evLen P st t x = .ok side r us) (hx : TRel st.box LB w S x vx) :
    us = [] ∧ ∃ v, (Builtin.len_ #[t] ty #[vx]).run P w = .ok v w ∧ TRel st.box LB w S r v := by
  unfold evLen at he
  split at he
  · rename_i s
    split at he
    · rename_i hstr
      simp only [Ev.ok.injEq] at he
      obtain ⟨-, rfl, rfl⟩ := he
      obtain ⟨rfl, -⟩ := hx
      have hu : P.underlying t = some .string := by
        unfold tIsStr at hstr
        split at hstr <;> first | assumption | simp at hstr
      exact ⟨rfl, _, by simp [Builtin.len_, run_underlying hu, goInt], rfl, rfl⟩
    · simp at he
  · split at he
    · rename_i e es hte hes
      simp only [Ev.ok.injEq] at he
      obtain ⟨-, rfl, rfl⟩ := he
      obtain ⟨hu, hel⟩ := tElem_some hte
      obtain ⟨base, cap, rfl, -, -⟩ := h.slE hes hx
      exact ⟨rfl, _, by simp [Builtin.len_, run_underlying hu, goInt], rfl, rfl⟩
    · simp at he

theorem index_sound {bx : Nat → Bx} {t : TypeId} {x i : X} {vx vi : Value} {side : Prop} {r : X} {us : List (Nat × Bx)}
    (he : evIndex P t x i = .ok side r us) (hside : side) (hx : TRel bx LB w S x vx) (hi : TRel bx LB w S i vi) :
    us = [] ∧ ∃ v, (Instr.index t vx vi).run P w = .ok v w ∧ TRel bx LB w S r v := by
  unfold evIndex at he
  split at he
  · rename_i s k n
    obtain ⟨rfl, -⟩ := hx
    obtain ⟨rfl, -⟩ := hi
    split at he
    · simp at he
    · rename_i hstr
      have hu : P.underlying t = some .string := by
        unfold tIsStr at hstr
        split at hstr <;> first | assumption | simp at hstr
      split at he
      · rename_i b hb
        simp only [Ev.ok.injEq] at he
        obtain ⟨hs, rfl, rfl⟩ := he
        rw [← hs] at hside
        refine ⟨rfl, .int .u8 b.toNat, ?_, rfl, rfl⟩
        have hlt : n.toNat < s.data.size := (Array.getElem?_eq_some_iff.1 hb).1
        have hbb : s[n.toNat]? = some b := by
          rw [getElem?_pos s n.toNat (by simpa using hlt)]
          exact congrArg some (Array.getElem?_eq_some_iff.1 hb).2
        simp [Instr.index, asIntOf, run_underlying hu, hside, hbb]
      · simp at he
  · simp at he

theorem tIsStr_iff {t : TypeId} (h : tIsStr P t = true) : P.underlying t = some .string := by
  unfold tIsStr at h
  split at h <;> first | assumption | simp at h
theorem tInt_some {t : TypeId} {k : IntKind} (h : tInt P t = some k) : P.underlying t = some (.int k) := by
  unfold tInt at h
  split at h <;> simp at h
  subst h; assumption

theorem run_equal_bool (w : World) (t : TypeId) (a b : Bool) (h : P.underlying t = some .bool) : (Op.equal t (.bool a) (.bool b)).run P w = .ok (a == b) w :=
  run_equalIn_bool' w 9999 t a b h
theorem binV_sound {op : BinOp} {t : TypeId} {p q : Operand} {x y v : Value} (h : binV op x y = some v)
    (ht : (∃ k a j b, x = .int k a ∧ y = .int j b) ∨ (∃ a b, x = .bool a ∧ y = .bool b ∧ P.underlying t = some .bool) ∨ (∃ a b, x = .string a ∧ y = .string b)) :
    (do eqGuard op t p q x y; binOp op t x y).run P w = .ok v w ∧ v.oneCell' = true := by
  rcases ht with ⟨k, a, j, b, rfl, rfl⟩ | ⟨a, b, rfl, rfl, hu⟩ | ⟨a, b, rfl, rfl⟩
  · cases op <;> simp only [binV] at h
    all_goals
      split at h <;> try (simp at h; done)
    all_goals first
      | (split at h <;> try (simp at h; done))
      | skip
    all_goals
      simp only [Option.some.injEq] at h
      subst h
      refine ⟨?_, rfl⟩
      first
        | (rename_i hb; simp [eqGuard, binOp, Op.shift, hb]; done)
        | (rename_i hk; simp only [ne_eq, Classical.not_not] at hk; subst hk; simp [eqGuard, binOp, Op.intArith, Op.intCmp, Op.intBits, bits]; done)
        | (rename_i hk hb; simp only [ne_eq, Classical.not_not] at hk; subst hk; simp [eqGuard, binOp, Op.intDiv, hb]; done)
  · cases op <;> simp [binV] at h
    all_goals
      subst h
      refine ⟨?_, rfl⟩
      simp [eqGuard, binOp, run_equal_bool w t a b hu]
  · cases op <;> simp [binV] at h
    all_goals
      subst h
      refine ⟨?_, rfl⟩
      simp [eqGuard, binOp, Op.stringOp]

theorem eqCells_spec {bx : Nat → Bx} : ∀ (as bs : List X) (x y : List Value) (r : Bool), eqCells as bs = some r → TRels bx LB w S as x → TRels bx LB w S bs y →
    ∃ a b : List Int, x = a.map (Value.int .i64) ∧ y = b.map (Value.int .i64) ∧ a.length = as.length ∧ b.length = as.length ∧ r = (a == b)
  | [], [], [], [], r, h, _, _ => by
    simp only [eqCells, Option.some.injEq] at h; subst h
    exact ⟨[], [], rfl, rfl, rfl, rfl, rfl⟩
  | .sc (.int .i64 p) :: as, .sc (.int .i64 q) :: bs, u :: x, v :: y, r, h, hx, hy => by
    simp only [eqCells] at h
    cases hr : eqCells as bs with
    | none => simp [hr] at h
    | some r' =>
      simp only [hr, Option.map_some, Option.some.injEq] at h
      subst h
      obtain ⟨a, b, rfl, rfl, h3, h4, rfl⟩ := eqCells_spec as bs x y r' hr hx.2 hy.2
      obtain ⟨rfl, -⟩ := hx.1
      obtain ⟨rfl, -⟩ := hy.1
      exact ⟨p :: a, q :: b, rfl, rfl, by simp [h3], by simp [h4], rfl⟩
  | [], _ :: _, _, _, _, h, _, _ => by simp [eqCells] at h
  | [], [], _ :: _, _, _, _, h, _ => h.elim
  | [], [], [], _ :: _, _, _, _, h => h.elim
  | x :: as, [], _, _, _, h, _, _ => by unfold eqCells at h; split at h <;> simp_all
  | _ :: _, _ :: _, [], _, _, _, h, _ => h.elim
  | _ :: _, _ :: _, _ :: _, [], _, _, _, h => h.elim
  | x :: as, y :: bs, u :: xs, v :: ys, r, h, hx, hy => by
    unfold eqCells at h
    split at h
    · simp_all
    · rename_i a xs' b ys' h1 h2
      simp only [List.cons.injEq] at h1 h2
      obtain ⟨rfl, rfl⟩ := h1
      obtain ⟨rfl, rfl⟩ := h2
      cases hr : eqCells as bs with
      | none => simp [hr] at h
      | some r' =>
        simp only [hr, Option.map_some, Option.some.injEq] at h
        subst h
        obtain ⟨a', b', rfl, rfl, h3, h4, rfl⟩ := eqCells_spec as bs xs ys r' hr hx.2 hy.2
        obtain ⟨rfl, -⟩ := hx.1
        obtain ⟨rfl, -⟩ := hy.1
        exact ⟨a :: a', b :: b', rfl, rfl, by simp [h3], by simp [h4], rfl⟩
    · simp at h

theorem run_nil_eqlIn (w : World) (d : Nat) (t : TypeId) (ms : Array (String × TypeId)) (hu : P.underlying t = some (.interface ms)) : (Op.equalIn (d + 1) t .nilIface .nilIface).run P w = .ok true w := by
  simp [Op.equalIn, run_underlying hu]
theorem run_iface_eqlIn (w : World) (n : Nat) (t : TypeId) (ms : Array (String × TypeId)) (hu : P.underlying t = some (.interface ms)) (d : TypeId) (u : Value) : (Op.equalIn (n + 1) t (.iface d u) .nilIface).run P w = .ok false w := by
  simp [Op.equalIn, run_underlying hu]
theorem run_nil_eql (w : World) (t : TypeId) (ms : Array (String × TypeId)) (hu : P.underlying t = some (.interface ms)) : (Op.equal t .nilIface .nilIface).run P w = .ok true w :=
  run_nil_eqlIn w 9999 t ms hu
theorem run_iface_eql (w : World) (t : TypeId) (ms : Array (String × TypeId)) (hu : P.underlying t = some (.interface ms)) (d : TypeId) (u : Value) : (Op.equal t (.iface d u) .nilIface).run P w = .ok false w :=
  run_iface_eqlIn w 9999 t ms hu d u

theorem bin_sound {bx : Nat → Bx} {cn : Bool} {op : BinOp} {t : TypeId} {p q : Operand} {x y : X} {vx vy : Value} {side : Prop} {r : X} {us : List (Nat × Bx)}
    (he : evBin P cn op t x y = .ok side r us) (hside : side) (hcn : cn = true → isConst p = true ∨ isConst q = true) (hx : TRel bx LB w S x vx) (hy : TRel bx LB w S y vy) :
    us = [] ∧ ∃ v, (do eqGuard op t p q vx vy; binOp op t vx vy).run P w = .ok v w ∧ TRel bx LB w S r v := by
  unfold evBin at he
  split at he
  · rename_i a b
    obtain ⟨rfl, -⟩ := hx
    obtain ⟨rfl, -⟩ := hy
    split at he
    · simp at he
    · split at he
      · simp only [Ev.ok.injEq] at he
        obtain ⟨hs, rfl, rfl⟩ := he
        rw [← hs] at hside
        exact ⟨rfl, _, by simp [eqGuard, binOp, run_string_add_sum w a b (by omega)], rfl, rfl⟩
      · split at he
        · rename_i v hv
          simp only [Ev.ok.injEq] at he
          obtain ⟨hs, rfl, rfl⟩ := he
          obtain ⟨h1, h2⟩ := binV_sound (P := P) (w := w) (t := t) (p := p) (q := q) hv (.inr (.inr ⟨a, b, rfl, rfl⟩))
          exact ⟨rfl, v, h1, rfl, h2⟩
        · simp at he
  · rename_i a b
    obtain ⟨rfl, -⟩ := hx
    obtain ⟨rfl, -⟩ := hy
    split at he
    · rename_i v hv
      split at he
      · rename_i hu
        simp only [Ev.ok.injEq] at he
        obtain ⟨hs, rfl, rfl⟩ := he
        obtain ⟨h1, h2⟩ := binV_sound (P := P) (w := w) (t := t) (p := p) (q := q) hv (.inr (.inl ⟨a, b, rfl, rfl, hu⟩))
        exact ⟨rfl, v, h1, rfl, h2⟩
      · simp at he
    · simp at he
  · rename_i k a j b
    obtain ⟨rfl, -⟩ := hx
    obtain ⟨rfl, -⟩ := hy
    split at he
    · rename_i v hv
      simp only [Ev.ok.injEq] at he
      obtain ⟨hs, rfl, rfl⟩ := he
      obtain ⟨h1, h2⟩ := binV_sound (P := P) (w := w) (t := t) (p := p) (q := q) hv (.inl ⟨k, a, j, b, rfl, rfl⟩)
      exact ⟨rfl, v, h1, rfl, h2⟩
    · simp at he
  · obtain ⟨d, u, rfl⟩ := hx
    obtain ⟨rfl, -⟩ := hy
    split at he
    · rename_i ms hu
      simp only [Ev.ok.injEq] at he
      obtain ⟨hs, rfl, rfl⟩ := he
      exact ⟨rfl, .bool false, by simp [eqGuard, binOp, run_iface_eql w t _ hu], rfl, rfl⟩
    · rename_i ms hu
      simp only [Ev.ok.injEq] at he
      obtain ⟨hs, rfl, rfl⟩ := he
      exact ⟨rfl, .bool true, by simp [eqGuard, binOp, run_iface_eql w t _ hu], rfl, rfl⟩
    · simp at he
  · obtain ⟨rfl, -⟩ := hx
    obtain ⟨rfl, -⟩ := hy
    split at he
    · simp at he
    · rename_i hc
      have hc : cn = true := by simpa using hc
      have hg : ∀ (op : BinOp), (eqGuard op t p q .nilIface .nilIface).run P w = .ok () w := by
        intro op
        rcases hcn hc with h | h
        · cases p <;> simp [isConst] at h
          cases op <;> simp [eqGuard]
        · cases q <;> simp [isConst] at h
          cases op <;> simp [eqGuard]
      split at he
      · rename_i ms hu
        simp only [Ev.ok.injEq] at he
        obtain ⟨hs, rfl, rfl⟩ := he
        exact ⟨rfl, .bool true, by simp [hg, binOp, run_nil_eql w t _ hu], rfl, rfl⟩
      · rename_i ms hu
        simp only [Ev.ok.injEq] at he
        obtain ⟨hs, rfl, rfl⟩ := he
        exact ⟨rfl, .bool false, by simp [hg, binOp, run_nil_eql w t _ hu], rfl, rfl⟩
      · simp at he
  · rename_i as bs
    obtain ⟨vs, rfl, hvs⟩ := hx
    obtain ⟨ws, rfl, hws⟩ := hy
    split at he
    · rename_i r' hr
      simp only [Ev.ok.injEq] at he
      obtain ⟨hs, rfl, rfl⟩ := he
      rw [← hs] at hside
      obtain ⟨a, b, h1, h2, h3, h4, rfl⟩ := eqCells_spec as bs _ _ _ hr hvs hws
      have e1 : vs = (a.map (Value.int .i64)).toArray := by rw [← h1]
      have e2 : ws = (b.map (Value.int .i64)).toArray := by rw [← h2]
      exact ⟨rfl, .bool (a == b), by rw [e1, e2]; exact (hside.1 a b p q w (by omega) (by omega)).1, rfl, rfl⟩
    · rename_i r' hr
      simp only [Ev.ok.injEq] at he
      obtain ⟨hs, rfl, rfl⟩ := he
      rw [← hs] at hside
      obtain ⟨a, b, h1, h2, h3, h4, rfl⟩ := eqCells_spec as bs _ _ _ hr hvs hws
      have e1 : vs = (a.map (Value.int .i64)).toArray := by rw [← h1]
      have e2 : ws = (b.map (Value.int .i64)).toArray := by rw [← h2]
      exact ⟨rfl, .bool (!(a == b)), by rw [e1, e2]; exact (hside.1 a b p q w (by omega) (by omega)).2, rfl, rfl⟩
    · simp at he
  · simp at he

theorem un_sound {bx : Nat → Bx} {op : UnOp} {x : X} {vx : Value} {side : Prop} {r : X} {us : List (Nat × Bx)} (he : evUn op x = .ok side r us) (hx : TRel bx LB w S x vx) :
    us = [] ∧ ∃ v, (Op.unary op vx).run P w = .ok v w ∧ TRel bx LB w S r v := by
  unfold evUn at he
  split at he
  · obtain ⟨rfl, -⟩ := hx
    split at he <;> simp at he
    obtain ⟨-, rfl, rfl⟩ := he
    exact ⟨rfl, _, by simp [Op.unary], rfl, rfl⟩
  · obtain ⟨rfl, -⟩ := hx
    split at he <;> simp at he
    · obtain ⟨-, rfl, rfl⟩ := he
      exact ⟨rfl, _, by simp [Op.unary, Op.intArith], rfl, rfl⟩
    · obtain ⟨-, rfl, rfl⟩ := he
      exact ⟨rfl, _, by simp [Op.unary, Op.intBits, bits], rfl, rfl⟩
  · simp at he

theorem minmax_sound {bx : Nat → Bx} {mx : Bool} {x y : X} {vx vy : Value} {at_ : Array TypeId} {ty : TypeId} {side : Prop} {r : X} {us : List (Nat × Bx)} (he : evMinMax mx x y = .ok side r us)
    (hx : TRel bx LB w S x vx) (hy : TRel bx LB w S y vy) :
    us = [] ∧ ∃ v, (bif mx then Builtin.max_ at_ ty #[vx, vy] else Builtin.min_ at_ ty #[vx, vy]).run P w = .ok v w ∧ TRel bx LB w S r v := by
  unfold evMinMax at he
  split at he
  · obtain ⟨rfl, -⟩ := hx
    obtain ⟨rfl, -⟩ := hy
    simp only [Ev.ok.injEq] at he
    obtain ⟨-, rfl, rfl⟩ := he
    refine ⟨rfl, _, ?_, rfl, rfl⟩
    cases mx <;> simp [Builtin.max_, Builtin.min_, Builtin.max2, Builtin.min2]
  · simp at he

theorem U8_ints : ∀ (es : List X), es.all X.isU8 = true → ∃ xs : List Int, es = xs.map fun n => .sc (.int .u8 n)
  | [], _ => ⟨[], rfl⟩
  | e :: r, h => by
    simp only [List.all_cons, Bool.and_eq_true] at h
    obtain ⟨xs, rfl⟩ := U8_ints r h.2
    have h1 := h.1
    unfold X.isU8 at h1
    split at h1
    · rename_i n; exact ⟨n :: xs, rfl⟩
    · simp at h1

theorem convert_sound (h : SimL Γ st a w LB S) {src dst : TypeId} {x : X} {vx : Value} {side : Prop} {r : X} {us : List (Nat × Bx)} (he : evConvert P st src dst x = .ok side r us) (hside : side)
    (hx : TRel st.box LB w S x vx) : us = [] ∧ ∃ v, (convert src dst vx).run P w = .ok v w ∧ TRel st.box LB w S r v := by
  unfold evConvert at he
  split at he
  · rename_i k n
    obtain ⟨rfl, -⟩ := hx
    split at he
    · rename_i k' hk
      split at he
      · rename_i hsrc
        simp only [Ev.ok.injEq] at he
        obtain ⟨-, rfl, rfl⟩ := he
        obtain ⟨k2, hk2⟩ := Option.isSome_iff_exists.1 hsrc
        exact ⟨rfl, _, by simp [convert, run_underlying (tInt_some hk), run_underlying (tInt_some hk2), Conv.intToInt], rfl, rfl⟩
      · simp at he
    · simp at he
  · rename_i s
    obtain ⟨rfl, -⟩ := hx
    split at he
    · rename_i hst
      simp only [Ev.ok.injEq] at he
      obtain ⟨-, rfl, rfl⟩ := he
      exact ⟨rfl, _, by simp [convert, run_underlying (tIsStr_iff hst.1), run_underlying (tIsStr_iff hst.2)], rfl, rfl⟩
    · simp at he
  · split at he
    · simp at he
    · rename_i e hte
      split at he
      · rename_i hc
        split at he
        · rename_i es hes
          simp only [Ev.ok.injEq] at he
          obtain ⟨hs, rfl, rfl⟩ := he
          rw [← hs] at hside
          obtain ⟨xs, rfl⟩ := U8_ints es hside
          have hus := (tElem_some hte).1
          have hue := tInt_some hc.2.1
          have hud := tIsStr_iff hc.1
          obtain ⟨base, cap, rfl, hcap, hrows⟩ := h.slE hes hx
          refine ⟨rfl, .string (strOfNums xs), ?_, ?_, rfl⟩
          · rw [run_convert_bytes_string w src dst e _ _ cap hus hue hud]
            cases xs with
            | nil =>
              cases base with
              | none => simp [Conv.bytesToString, strOfNums]; rfl
              | some b => simp [Conv.bytesToString, loadCells, loadCellsFrom, strOfNums]; rfl
            | cons x0 xs =>
              obtain ⟨g, o, sz, rfl, hsz, hlen, hcell⟩ := hrows (by simp)
              have hsz1 : sz = 1 := by rw [← hlen 0 _ rfl]; rfl
              subst hsz1
              have := run_convert_bytes_arg (P := P) w src e hus hue g o ((x0 :: xs).map fun n => X.sc (.int .u8 n)).length cap (x0 :: xs) (by simp) (fun i hi => by
                have hi' : i < (x0 :: xs).length := by simpa using hi
                obtain ⟨u, hu, hr⟩ := hcell i (.sc (.int .u8 ((x0 :: xs)[i]))) 0 (.sc (.int .u8 ((x0 :: xs)[i]))) (by simp only [List.getElem?_map]; rw [List.getElem?_eq_getElem hi']; rfl) rfl
                obtain ⟨rfl, -⟩ := hr _ rfl
                simp only [Nat.mul_one, Nat.add_zero] at hu
                rw [hu]
                simp [List.getD, List.getElem?_eq_getElem hi']) dst hud
              rw [run_convert_bytes_string w src dst e _ _ cap hus hue hud] at this
              exact this
          · simp only [strOfNums, List.map_map]
            rfl
        · simp at he
      · simp at he

theorem field_sound {bx : Nat → Bx} {t : TypeId} {x : X} {vx : Value} {f : Nat} {side : Prop} {r : X} {us : List (Nat × Bx)} (he : evField P t x f = .ok side r us) (hx : TRel bx LB w S x vx) :
    us = [] ∧ ∃ v, (Instr.field t vx f).run P w = .ok v w ∧ TRel bx LB w S r v := by
  unfold evField at he
  split at he
  · rename_i o ft hf
    split at he
    · rename_i cs ag hag
      split at he
      · rename_i hc
        simp only [Ev.ok.injEq] at he
        obtain ⟨-, rfl, rfl⟩ := he
        obtain ⟨us, rfl, hus⟩ := hx
        unfold tFld at hf
        split at hf
        · rename_i fs hu
          split at hf
          · rename_i fd hfd
            simp only [Option.some.injEq, Prod.mk.injEq] at hf
            obtain ⟨rfl, rfl⟩ := hf
            obtain ⟨h1, h2, h3⟩ := tAgg_run (w := w) hag
            have hlen := hus.length
            rw [Array.length_toList] at hlen
            obtain ⟨v, hv, hr⟩ := mkAgg_rel (ag := ag) (hus.slice fd.offset (tSize P fd.type)) (fun hf => by rw [slice'_length hc]; exact h3 hf)
            refine ⟨rfl, v, ?_, hr⟩
            cases ag with
            | true =>
              simp only [if_true] at hv
              subst hv
              simp only [Instr.field, Sem.run_bind, run_underlying hu, Result.andThen_ok, hfd, asAgg, Sem.run_pure, part, h1, if_true, h2]
              congr 2
              apply Array.ext'
              simp [Array.toList_extract, List.extract_eq_take_drop]
            | false =>
              simp only [Bool.false_eq_true, if_false] at hv
              have hs1 := h3 rfl
              rw [hs1] at hv hc
              have hv' : us[fd.offset]? = some v := by
                rw [← Array.getElem?_toList]
                have : (us.toList.drop fd.offset)[0]? = some v := by
                  have := congrArg (·[0]?) hv
                  simpa [List.getElem?_take] using this
                simpa using this
              simp [Instr.field, run_underlying hu, hfd, asAgg, part, h1, hv']
          · simp at hf
        · simp at hf
      · simp at he
    · simp at he
  · simp at he

theorem pickX_rel {bx : Nat → Bx} {k : Bool} {x y : X} {vx vy : Value} (hx : TRel bx LB w S x vx) (hy : TRel bx LB w S y vy) :
    TRel bx LB w S (pickX k x y) (if k then vx else vy) := by
  unfold pickX
  split
  · obtain ⟨rfl, -⟩ := hx
    obtain ⟨rfl, -⟩ := hy
    cases k <;> exact ⟨rfl, rfl⟩
  · cases k <;> simp <;> assumption

end Go.Proofs.Ytncjcbdbdocjaaa.Ax

/- Boxes that change: the general steps. -/
namespace Go.Proofs.Ytncjcbdbdocjaaa.Ax
open Go

variable {P : Program} {Γ : Ctx} {st : St} {a : Act} {w w' : World} {LB LB' : Nat → Option BL} {S : Nat → Prop}

/-- The boxes' part of the relation. -/
structure SimB (Γ : Ctx) (bx : Nat → Bx) (w : World) (LB : Nat → Option BL) (S : Nat → Prop) : Prop where
  bx : ∀ b, BxRel w S (bx b) (LB b)
  nd : ∀ b B, LB b = some B → B.fp.Nodup
  dj : ∀ b b' B B', b ≠ b' → LB b = some B → LB b' = some B' → ∀ g ∈ B.fp, g ∉ B'.fp
  fr : ∀ b B, LB b = some B → ∀ g ∈ B.fp, ¬ S g ∧ g < w.heap.size ∧ (g ∈ Γ.Fin ∨ Γ.w0.heap.size ≤ g)
  S0 : ∀ g, Γ.S0 g → S g
  Sw : ∀ g, S g → g < w.heap.size
  frame : Fr Γ.Fin Γ.w0 w
  tag : ∀ b B, LB b = some B → ∀ (i t : Nat) (h : Option (Nat × Nat)) (es : List L), B.c.cells[i]? = some (.own (t + 1) h es) → Γ.psk t = some (L.own (t + 1) h es).sk
  pb : ∀ B, LB PB = some B → ∀ g, Γ.pblk = some g → B.blk = some g
  Sn : ∀ g, S g → Γ.S0 g ∨ g ∈ Γ.Fin ∨ Γ.w0.heap.size ≤ g
theorem SimL.toB (h : SimL Γ st a w LB S) : SimB Γ st.box w LB S := ⟨h.bx, h.nd, h.dj, h.fr, h.S0, h.Sw, h.frame, h.tag, h.pb, h.Sn⟩

theorem consD_rel {bx : Nat → Bx} {n : Nat} {tm : List (Nat × X)} {ts : Array Value} (h : ∀ t, TRel bx LB w S (lookT tm t) (ts.getD t undef)) (hs : ts.size = n) {d : Option Nat}
    (hd : ∀ t, d = some t → t < n) {x : X} {v : Value} (hx : TRel bx LB w S x v) :
    ∀ t, TRel bx LB w S (lookT (consD d x tm) t) ((match d with | some d => ts.setIfInBounds d v | none => ts).getD t undef) := by
  intro t
  cases d with
  | none => exact h t
  | some d =>
    have hdn := hd d rfl
    simp only [consD, lookT]
    split
    · rename_i he
      subst he
      have : (ts.setIfInBounds d v).getD d undef = v := by simp [Array.getD, hs, hdn]
      rw [this]; exact hx
    · rename_i hne
      have : (ts.setIfInBounds d v).getD t undef = ts.getD t undef := by
        simp only [Array.getD_eq_getD_getElem?]
        rw [Array.getElem?_setIfInBounds_ne hne]
      rw [this]; exact h t

theorem SimL.next (h : SimL Γ st a w LB S) {us : List (Nat × Bx)} {S' : Nat → Prop} (ha : Adv st.box (st.withB us).box LB LB') (hs : ∀ g, S g → S' g) (hf : ∀ g, S g → w'.heap[g]? = w.heap[g]?)
    (hB : SimB Γ (st.withB us).box w' LB' S') {d : Option Nat} (hd : ∀ t, d = some t → t < Γ.n) {x : X} {v : Value} (hx : TRel (st.withB us).box LB' w' S' x v) :
    SimL Γ (st.put d x us) (a.put d v) w' LB' S' := by
  refine ⟨?_, ?_, ?_, hB.bx, hB.nd, hB.dj, hB.fr, hB.S0, hB.Sw, hB.frame, hB.tag, hB.pb, hB.Sn⟩
  · have := h.defers; cases d <;> simpa [Act.put] using this
  · have := h.size; cases d <;> simpa [Act.put] using this
  · have h1 : ∀ t, TRel (st.withB us).box LB' w' S' (lookT st.tm t) (a.tmps.getD t undef) := fun t => TRel.adv ha hs hf _ _ (h.tm t)
    have := consD_rel h1 h.size hd hx
    intro t
    have h2 := this t
    cases d <;> exact h2
theorem SimL.next0 (h : SimL Γ st a w LB S) {d : Option Nat} (hd : ∀ t, d = some t → t < Γ.n) {x : X} {v : Value} (hx : TRel st.box LB w S x v) :
    SimL Γ (st.put d x []) (a.put d v) w LB S :=
  h.next (us := []) (Adv.refl _ _) (fun _ h => h) (fun _ _ => rfl) h.toB hd hx

theorem L.addr_some {t : L} : ∀ (p : Path) (e : L) (blk : Option Nat) (off : Nat), p ≠ [] → e.mem w S → e.nav p = some t → ∃ g o, e.addr blk off p = some (some g, o)
  | [], e, blk, off, hp, _, _ => absurd rfl hp
  | (c, j) :: p, e, blk, off, hp, hm, hn => by
    simp only [L.nav] at hn
    simp only [L.addr]
    cases hc : e.cells[c]? with
    | none => simp [hc] at hn
    | some y =>
      rw [hc] at hn
      have hmy := L.mem_cells hm y (List.mem_of_getElem? hc)
      cases y with
      | own t0 hh es =>
        simp only at hn
        cases hj : es[j]? with
        | none => simp [hj] at hn
        | some e1 =>
          rw [hj] at hn
          simp only [Option.bind_some] at hn
          cases hh with
          | none => simp only [L.mem] at hmy; subst hmy; simp at hj
          | some gc =>
            obtain ⟨g, cap⟩ := gc
            simp only [hj, Option.bind_some]
            cases p with
            | nil => exact ⟨g, _, rfl⟩
            | cons q p => exact L.addr_some (q :: p) e1 _ _ (by simp) ((L.mems_iff es).1 hmy.2 e1 (List.mem_of_getElem? hj)) hn
      | _ => simp at hn

theorem BL.nd (B : BL) (h : B.fp.Nodup) : B.c.fp.Nodup ∧ ∀ g, B.blk = some g → g ∉ B.c.fp := by
  unfold BL.fp at h
  refine ⟨(List.nodup_append.1 h).2.1, fun g hg hm => ?_⟩
  exact (List.nodup_append.1 h).2.2 g (by simp [hg]) g hm rfl

/-- An element is replaced; memory stays. -/
theorem BL.quiet {B : BL} (u : Bool) {p : Path} {t t' : L} (hm : B.mem w S) (hnd : B.fp.Nodup) (hn : B.c.nav p = some t) (hc : t'.cflat = t.cflat) (hl : t'.cells.length = t.cells.length)
    (hm' : t'.mem w S) : (BL.mk B.blk (B.c.upd u p fun _ => t')).mem w S := by
  cases p with
  | nil =>
    simp only [L.nav, Option.some.injEq] at hn; subst hn
    refine ⟨fun g hg => ?_, hm'⟩
    obtain ⟨cur, e, h1, h2⟩ := hm.1 g hg
    exact ⟨cur, e, h1, by rw [h2]; exact hc.symm⟩
  | cons q p =>
    obtain ⟨g, o, ha⟩ := L.addr_some (q :: p) B.c B.blk 0 (by simp) hm.2 hn
    have hloc := L.nav_loc (q :: p) B.c B.blk 0 hm.2 (fun g hg => (hm.1 g hg).loc) hn ha
    obtain ⟨cur, ty, A, C, h1, h2, h3⟩ := hloc
    have hseg : Seg w w g o t.cflat t'.cflat := ⟨cur, cur, ty, A, C, h1, h1, h2, by rw [hc]; exact h2, h3⟩
    have := L.upd_mem u (S := S) (S' := S) (fun _ h => h) (fun _ _ => rfl) hseg hm' hl (q :: p) B.c B.blk 0 hm.2 (BL.nd B hnd).1 (BL.nd B hnd).2 hn ha (fun _ _ _ => rfl)
    refine ⟨fun g hg => ?_, this.1⟩
    obtain ⟨cur, e, h1, h2⟩ := hm.1 g hg
    exact ⟨cur, e, h1, by rw [h2]; exact (L.upd_cflat u (q :: p) (fun _ => t') (by simp) hn).1.symm⟩

def setLB (LB : Nat → Option BL) (b : Nat) (B : BL) : Nat → Option BL := fun x => if x = b then some B else LB x
theorem setLB_same (LB : Nat → Option BL) (b : Nat) (B : BL) : setLB LB b B b = some B := by simp [setLB]
theorem setLB_other {b x : Nat} (LB : Nat → Option BL) (B : BL) (h : x ≠ b) : setLB LB b B x = LB x := by simp [setLB, h]

theorem box_cons_same (st : St) (us : List (Nat × Bx)) (b : Nat) (B : Bx) : (st.withB ((b, B) :: us)).box b = B := by simp [St.withB, St.box, lookB]
theorem box_cons_other (st : St) (us : List (Nat × Bx)) {b x : Nat} (B : Bx) (h : x ≠ b) : (st.withB ((b, B) :: us)).box x = (st.withB us).box x := by
  simp [St.withB, St.box, lookB, Ne.symm h]
theorem withB_nil (st : St) : st.withB [] = st := rfl
theorem withB_app (st : St) (us vs : List (Nat × Bx)) : (st.withB us).withB vs = st.withB (vs ++ us) := by simp [St.withB]

/-- One box is replaced. -/
theorem SimB.set {bx bx' : Nat → Bx} (h : SimB Γ bx w LB S) {b : Nat} {B' : BL} (ho : ∀ x, x ≠ b → bx' x = bx x) (hrel : BxRel w' S (bx' b) (some B')) (hnd : B'.fp.Nodup)
    (hfree : ∀ g ∈ B'.fp, (∀ b2, b2 ≠ b → ∀ B2, LB b2 = some B2 → g ∉ B2.fp) ∧ ¬ S g ∧ g < w'.heap.size ∧ (g ∈ Γ.Fin ∨ Γ.w0.heap.size ≤ g))
    (hw : ∀ b2, b2 ≠ b → ∀ B2, LB b2 = some B2 → ∀ g ∈ B2.fp, w'.heap[g]? = w.heap[g]?) (hS : ∀ g, S g → w'.heap[g]? = w.heap[g]?) (hsize : w.heap.size ≤ w'.heap.size)
    (hfr : Fr Γ.Fin Γ.w0 w')
    (htag : ∀ (i t : Nat) (hh : Option (Nat × Nat)) (es : List L), B'.c.cells[i]? = some (.own (t + 1) hh es) → Γ.psk t = some (L.own (t + 1) hh es).sk)
    (hpb : b = PB → ∀ g, Γ.pblk = some g → B'.blk = some g) : SimB Γ bx' w' (setLB LB b B') S := by
  refine ⟨fun x => ?_, fun x B hB => ?_, fun x y Bx By hxy hx hy g hg => ?_, fun x B hB g hg => ?_, h.S0, fun g hg => Nat.lt_of_lt_of_le (h.Sw g hg) hsize, hfr, fun x B hB => ?_, fun B hB g hg => ?_, h.Sn⟩
  · by_cases hx : x = b
    · subst hx; rw [setLB_same]; exact hrel
    · rw [setLB_other LB B' hx, ho x hx]
      have := h.bx x
      unfold BxRel at this ⊢
      cases hc : (bx x).c with
      | none => rw [hc] at this; cases hl : LB x <;> rw [hl] at this <;> simp_all
      | some c =>
        rw [hc] at this
        cases hl : LB x with
        | none => rw [hl] at this; exact this.elim
        | some B =>
          rw [hl] at this
          exact ⟨this.1, this.2.1, BL.mem_frame (fun _ h => h) hS this.2.2 (hw x hx B hl)⟩
  · by_cases hx : x = b
    · subst hx; rw [setLB_same] at hB; cases hB; exact hnd
    · rw [setLB_other LB B' hx] at hB; exact h.nd x B hB
  · by_cases hxb : x = b
    · subst hxb
      rw [setLB_same] at hx; cases hx
      rw [setLB_other LB B' (Ne.symm hxy)] at hy
      exact (hfree g hg).1 y (Ne.symm hxy) By hy
    · rw [setLB_other LB B' hxb] at hx
      by_cases hyb : y = b
      · subst hyb
        rw [setLB_same] at hy; cases hy
        exact fun hm => (hfree g hm).1 x hxb Bx hx hg
      · rw [setLB_other LB B' hyb] at hy
        exact h.dj x y Bx By hxy hx hy g hg
  · by_cases hx : x = b
    · subst hx; rw [setLB_same] at hB; cases hB; exact (hfree g hg).2
    · rw [setLB_other LB B' hx] at hB
      have := h.fr x B hB g hg
      exact ⟨this.1, Nat.lt_of_lt_of_le this.2.1 hsize, this.2.2⟩
  · by_cases hx : x = b
    · subst hx; rw [setLB_same] at hB; cases hB; exact htag
    · rw [setLB_other LB B' hx] at hB; exact h.tag x B hB
  · by_cases hx : PB = b
    · rw [← hx, setLB_same] at hB; cases hB; exact hpb hx.symm g hg
    · rw [setLB_other LB B' hx] at hB; exact h.pb B hB g hg

/-- Blocks that belong to no box. -/
structure Free (Γ : Ctx) (w : World) (S : Nat → Prop) (LB : Nat → Option BL) (fp : List Nat) : Prop where
  nd : fp.Nodup
  dj : ∀ b B, LB b = some B → ∀ g ∈ fp, g ∉ B.fp
  fr : ∀ g ∈ fp, ¬ S g ∧ g < w.heap.size ∧ (g ∈ Γ.Fin ∨ Γ.w0.heap.size ≤ g)
theorem Free.nil : Free Γ w S LB [] := ⟨List.nodup_nil, fun _ _ _ _ h => by simp at h, fun _ h => by simp at h⟩

/-- What has been moved out. -/
structure Taken (Γ : Ctx) (w : World) (S : Nat → Prop) (l : L) (x : X) (v : Value) : Prop where
  er : l.er = x
  flat : l.flat = v
  mem : l.mem w S
  tag : ∀ (t : Nat) (hh : Option (Nat × Nat)) (es : List L), l = .own (t + 1) hh es → Γ.psk t = some l.sk
  one : v.oneCell' = true
  cell : l.cells = [l]

theorem take1_full {tm : List (Nat × X)} {bl : List (Nat × Bx)} (hB : SimB Γ (St.mk tm bl).box w LB S) {x y : X} {v : Value} {us : List (Nat × Bx)} (ht : (St.mk tm bl).take1 x = some (y, us))
    (hx : TRel (St.mk tm bl).box LB w S x v) :
    ∃ (LB' : Nat → Option BL) (l : L), SimB Γ ((St.mk tm bl).withB us).box w LB' S ∧ Adv (St.mk tm bl).box ((St.mk tm bl).withB us).box LB LB' ∧ Taken Γ w S l y v ∧ Free Γ w S LB' l.fp ∧
      (∀ b B', LB' b = some B' → ∃ B, LB b = some B ∧ ∀ g ∈ B'.fp, g ∈ B.fp) ∧ (∀ g ∈ l.fp, ∃ b B, LB b = some B ∧ g ∈ B.fp) ∧
      (∀ b ver p c, x = .view b ver p c → ∃ B le t hh ls, LB b = some B ∧ B.c.nav p = some le ∧ le.cells[c]? = some (.own t hh ls) ∧ l = .own (bif p.isEmpty then t else 0) hh ls ∧
        LB' = setLB LB b ⟨B.blk, B.c.upd true p fun _ => le.put c (.junk (L.own t hh ls).flat)⟩) := by
  have hid : ∀ b B', LB b = some B' → ∃ B, LB b = some B ∧ ∀ g ∈ B'.fp, g ∈ B.fp := fun b B' h => ⟨B', h, fun _ h => h⟩
  unfold St.take1 at ht
  split at ht
  · simp only [Option.some.injEq, Prod.mk.injEq] at ht
    obtain ⟨rfl, rfl⟩ := ht
    obtain ⟨rfl, -⟩ := hx
    exact ⟨LB, .own 0 none [], hB, Adv.refl _ _, ⟨rfl, rfl, rfl, fun _ _ _ h => by simp at h, rfl, rfl⟩, Free.nil, hid, fun g hg => by simp [L.fp, L.fps] at hg, fun b ver p c h => by simp at h⟩
  · simp only [Option.some.injEq, Prod.mk.injEq] at ht
    obtain ⟨rfl, rfl⟩ := ht
    obtain ⟨rfl, h1⟩ := hx
    exact ⟨LB, .sc _, hB, Adv.refl _ _, ⟨rfl, rfl, h1, fun _ _ _ h => by simp at h, h1, rfl⟩, Free.nil, hid, fun g hg => by simp [L.fp] at hg, fun b ver p c h => by simp at h⟩
  · simp only [Option.some.injEq, Prod.mk.injEq] at ht
    obtain ⟨rfl, rfl⟩ := ht
    exact ⟨LB, .ro v _, hB, Adv.refl _ _, ⟨rfl, rfl, hx, fun _ _ _ h => by simp at h, hx.oneCell, rfl⟩, Free.nil, hid, fun g hg => by simp [L.fp] at hg, fun b ver p c h => by simp at h⟩
  · rename_i b ver p c
    cases hs : slAt ((St.mk tm bl).box b) ver p c with
    | none => simp [hs] at ht
    | some te =>
      obtain ⟨t, es⟩ := te
      simp only [hs, Option.map_some, Option.some.injEq, Prod.mk.injEq] at ht
      obtain ⟨rfl, rfl⟩ := ht
      obtain ⟨hv, x, e, hc, hn, he⟩ := slAt_some hs
      obtain ⟨B, hBb, her, hreal, hm⟩ := (hB.bx b).get hc
      subst her
      rw [L.nav_er] at hn
      cases hln : B.c.nav p with
      | none => simp [hln] at hn
      | some le =>
        simp only [hln, Option.map_some, Option.some.injEq] at hn
        subst hn
        rw [L.er_cells, List.getElem?_map] at he
        cases hcc : le.cells[c]? with
        | none => simp [hcc] at he
        | some lc =>
          simp only [hcc, Option.map_some, Option.some.injEq] at he
          obtain ⟨hh, ls, rfl, hls⟩ := L.er_own_iff he
          have hvv : v = (L.own t hh ls).flat := by
            have := hx.2 hv B hBb
            simp only [Sk.hdr, L.sk_nav, hln, Option.map_some, L.sk_cells, List.getElem?_map, hcc, L.sk, L.sks_eq, List.length_map, Option.some.injEq] at this
            rw [L.own_flat]; exact this.symm
          have hlm := L.nav_mem p B.c hm.2 hln
          have hom := L.mem_cells hlm _ (List.mem_of_getElem? hcc)
          have hnd := hB.nd b B hBb
          -- the place without it
          obtain ⟨A1, C1, hf1, hf2⟩ := L.put_fp hcc (.junk (L.own t hh ls).flat)
          obtain ⟨A2, C2, hf3, hf4⟩ := L.upd_fp true p (le.put c (.junk (L.own t hh ls).flat)) hln
          have hq := BL.quiet (B := B) true (t' := le.put c (.junk (L.own t hh ls).flat)) hm hnd hln (L.put_cflat (x := .junk (L.own t hh ls).flat) hcc rfl rfl).1 (L.put_cflat (x := .junk (L.own t hh ls).flat) hcc rfl rfl).2
            (L.put_mem (fun _ h => h) (fun _ _ => rfl) hlm hcc trivial rfl (fun _ _ _ _ _ => rfl))
          let B' : BL := ⟨B.blk, B.c.upd true p fun _ => le.put c (.junk (L.own t hh ls).flat)⟩
          have hBfp : B.fp = (B.blk.toList ++ A2 ++ A1) ++ (L.own t hh ls).fp ++ (C1 ++ C2) := by
            simp only [BL.fp, hf3, hf1, List.append_assoc]
          have hBfp' : B'.fp = (B.blk.toList ++ A2 ++ A1) ++ (C1 ++ C2) := by
            simp only [B', BL.fp, hf4, hf2, L.fp, List.append_nil, List.append_assoc]
          have hsub : ∀ g ∈ B'.fp, g ∈ B.fp := by
            intro g hg; rw [hBfp'] at hg; rw [hBfp]
            rcases List.mem_append.1 hg with h | h
            · exact List.mem_append.2 (.inl (List.mem_append.2 (.inl h)))
            · exact List.mem_append.2 (.inr h)
          have hnd0 := hnd
          rw [hBfp] at hnd0
          have hnd' : B'.fp.Nodup := by
            rw [hBfp']
            refine List.nodup_append.2 ⟨(List.nodup_append.1 (List.nodup_append.1 hnd0).1).1, (List.nodup_append.1 hnd0).2.1, fun x hx y hy => ?_⟩
            exact (List.nodup_append.1 hnd0).2.2 x (List.mem_append.2 (.inl hx)) y hy
          have hown : ∀ g ∈ (L.own t hh ls).fp, g ∈ B.fp ∧ g ∉ B'.fp := by
            intro g hg
            refine ⟨by rw [hBfp]; exact List.mem_append.2 (.inl (List.mem_append.2 (.inr hg))), fun hm => ?_⟩
            rw [hBfp'] at hm
            rcases List.mem_append.1 hm with h | h
            · exact (List.nodup_append.1 (List.nodup_append.1 hnd0).1).2.2 g h g hg rfl
            · exact (List.nodup_append.1 hnd0).2.2 g (List.mem_append.2 (.inr hg)) g h rfl
          have hcells : ∀ (i t' : Nat) (h' : Option (Nat × Nat)) (es' : List L), B'.c.cells[i]? = some (.own (t' + 1) h' es') → B.c.cells[i]? = some (.own (t' + 1) h' es') := by
            intro i t' h' es' hi
            have hput : ∀ (e : L) (c : Nat) (x : L), (∀ (k : Nat) (hk : Option (Nat × Nat)) (ls : List L), x ≠ L.own (k + 1) hk ls) → ∀ (i t' : Nat) (h' : Option (Nat × Nat)) (es' : List L), (e.put c x).cells[i]? = some (L.own (t' + 1) h' es') → x.cells = [x] → e.cells[i]? = some (L.own (t' + 1) h' es') := by
              intro e c x hx i t' h' es' hi hxc
              cases e with
              | agg cs =>
                simp only [L.put, L.cells, List.getElem?_set] at hi
                split at hi
                · split at hi
                  · simp only [Option.some.injEq] at hi; exact absurd hi (hx _ _ _)
                  · simp at hi
                · exact hi
              | _ =>
                simp only [L.put] at hi
                rw [hxc] at hi
                cases i with
                | zero => simp at hi; exact absurd hi (hx _ _ _)
                | succ i => simp at hi
            cases p with
            | nil =>
              simp only [L.nav, Option.some.injEq] at hln; subst hln
              exact hput _ _ _ (by simp) i t' h' es' hi rfl
            | cons q p =>
              obtain ⟨c0, j0⟩ := q
              simp only [B', L.upd] at hi
              simp only [L.nav] at hln
              cases hc0 : B.c.cells[c0]? with
              | none => simp [hc0] at hln
              | some y0 =>
                rw [hc0] at hln hi
                cases y0 with
                | own t0 h0 es0 =>
                  simp only at hln hi
                  cases hj0 : es0[j0]? with
                  | none => simp [hj0] at hln
                  | some e0 =>
                    simp only [hj0] at hi
                    exact hput _ _ _ (by simp) i t' h' es' hi rfl
                | _ => simp at hln
          let l : L := .own (bif p.isEmpty then t else 0) hh ls
          have hlfp : l.fp = (L.own t hh ls).fp := by cases hh with | none => rfl | some gc => obtain ⟨g, cap⟩ := gc; rfl
          have hlflat : l.flat = (L.own t hh ls).flat := by cases hh with | none => rfl | some gc => obtain ⟨g, cap⟩ := gc; rfl
          have hlmem : l.mem w S := by cases hh with | none => exact hom | some gc => obtain ⟨g, cap⟩ := gc; exact hom
          refine ⟨setLB LB b B', l, ?_, ?_, ?_, ?_, ?_, ?_, ?_⟩
          · refine hB.set (b := b) (fun x hx => by rw [box_cons_other _ _ _ hx]; rfl) ?_ hnd' (fun g hg => ⟨fun b2 h2 B2 hB2 => hB.dj b b2 B B2 (Ne.symm h2) hBb hB2 g (hsub g hg), hB.fr b B hBb g (hsub g hg)⟩)
              (fun _ _ _ _ _ _ => rfl) (fun _ _ => rfl) (Nat.le_refl _) hB.frame (fun i t' h' es' hi => hB.tag b B hBb i t' h' es' (hcells i t' h' es' hi)) (fun hb g hg => hB.pb B (hb ▸ hBb) g hg)
            rw [box_cons_same]
            unfold BxRel Bx.kill
            rw [hc]
            simp only [Option.map_some]
            refine ⟨?_, hreal, hq⟩
            rw [← L.upd_er true (fun e => e.put c (.junk (L.own t hh ls).flat)) (fun e => e.put c .junk) (fun e => L.put_er e c _)]
            rw [L.upd_const true _ p hln]
          · refine ⟨fun x => ?_, fun x => ?_, fun x hx Bq hq' => ?_, fun x hx Bq hq' => ?_⟩
            · by_cases h : x = b
              · subst h; rw [box_cons_same]; exact Nat.le_refl _
              · rw [box_cons_other _ _ _ h]; exact Nat.le_refl _
            · by_cases h : x = b
              · subst h; rw [box_cons_same]; exact Nat.le_succ _
              · rw [box_cons_other _ _ _ h]; exact Nat.le_refl _
            · by_cases h : x = b
              · subst h; rw [setLB_same] at hq'; cases hq'; exact ⟨B, hBb, rfl⟩
              · rw [setLB_other LB B' h] at hq'; exact ⟨Bq, hq', rfl⟩
            · by_cases h : x = b
              · subst h; rw [box_cons_same] at hx; simp [Bx.kill] at hx
              · rw [setLB_other LB B' h] at hq'; exact ⟨Bq, hq', rfl, rfl⟩
          · refine ⟨?_, hlflat.trans hvv.symm, hlmem, ?_, ?_, rfl⟩
            · simp only [l, L.er, L.ers_eq, hls]
              cases p.isEmpty <;> rfl
            · intro t' h' es' heq
              cases p with
              | nil =>
                simp only [L.nav, Option.some.injEq] at hln; subst hln
                simp only [l, List.isEmpty_nil, cond_true, L.own.injEq] at heq
                obtain ⟨rfl, rfl, rfl⟩ := heq
                exact hB.tag b B hBb c t' hh ls hcc
              | cons q p => simp [l] at heq
            · rw [hvv, L.own_flat]; cases hh with | none => rfl | some gc => obtain ⟨g, cap⟩ := gc; rfl
          · rw [hlfp]
            refine ⟨?_, fun x Bq hq' g hg => ?_, fun g hg => hB.fr b B hBb g (hown g hg).1⟩
            · exact (List.nodup_append.1 (List.nodup_append.1 hnd0).1).2.1
            · by_cases h : x = b
              · subst h; rw [setLB_same] at hq'; cases hq'; exact (hown g hg).2
              · rw [setLB_other LB B' h] at hq'
                exact hB.dj b x B Bq (Ne.symm h) hBb hq' g (hown g hg).1
          · intro x Bq hq'
            by_cases h : x = b
            · subst h; rw [setLB_same] at hq'; cases hq'; exact ⟨B, hBb, hsub⟩
            · rw [setLB_other LB B' h] at hq'; exact ⟨Bq, hq', fun _ h => h⟩
          · intro g hg
            rw [hlfp] at hg
            exact ⟨b, B, hBb, (hown g hg).1⟩
          · intro b' ver' p' c' heq
            simp only [X.view.injEq] at heq
            obtain ⟨rfl, rfl, rfl, rfl⟩ := heq
            exact ⟨B, le, t, hh, ls, hBb, hln, hcc, rfl, rfl⟩
  · simp only [Option.some.injEq, Prod.mk.injEq] at ht
    obtain ⟨rfl, rfl⟩ := ht
    obtain ⟨t, y, rfl⟩ := hx
    exact ⟨LB, .opq _, hB, Adv.refl _ _, ⟨rfl, rfl, ⟨t, y, rfl⟩, fun _ _ _ h => by simp at h, rfl, rfl⟩, Free.nil, hid, fun g hg => by simp [L.fp] at hg, fun b ver p c h => by simp at h⟩
  · simp at ht

theorem take1_sound {tm : List (Nat × X)} {bl : List (Nat × Bx)} (hB : SimB Γ (St.mk tm bl).box w LB S) {x y : X} {v : Value} {us : List (Nat × Bx)} (ht : (St.mk tm bl).take1 x = some (y, us))
    (hx : TRel (St.mk tm bl).box LB w S x v) :
    ∃ LB' l, SimB Γ ((St.mk tm bl).withB us).box w LB' S ∧ Adv (St.mk tm bl).box ((St.mk tm bl).withB us).box LB LB' ∧ Taken Γ w S l y v ∧ Free Γ w S LB' l.fp ∧
      (∀ b B', LB' b = some B' → ∃ B, LB b = some B ∧ ∀ g ∈ B'.fp, g ∈ B.fp) ∧ (∀ g ∈ l.fp, ∃ b B, LB b = some B ∧ g ∈ B.fp) := by
  obtain ⟨LB', l, h1, h2, h3, h4, h5, h6, -⟩ := take1_full hB ht hx
  exact ⟨LB', l, h1, h2, h3, h4, h5, h6⟩

end Go.Proofs.Ytncjcbdbdocjaaa.Ax

/- Boxes that change: moving out a list, writing, new boxes. -/
namespace Go.Proofs.Ytncjcbdbdocjaaa.Ax
open Go

variable {P : Program} {Γ : Ctx} {st : St} {a : Act} {w w' : World} {LB LB' : Nat → Option BL} {S : Nat → Prop}

structure Takens (Γ : Ctx) (w : World) (S : Nat → Prop) (ls : List L) (ys : List X) (vs : List Value) : Prop where
  er : ls.map L.er = ys
  flat : ls.map L.flat = vs
  mem : ∀ l ∈ ls, l.mem w S
  tag : ∀ l ∈ ls, ∀ (t : Nat) (hh : Option (Nat × Nat)) (es : List L), l = .own (t + 1) hh es → Γ.psk t = some l.sk
  one : ∀ v ∈ vs, v.oneCell' = true
  cell : ∀ l ∈ ls, l.cells = [l]

theorem bump_rel {tm : List (Nat × X)} {bl : List (Nat × Bx)} (hB : SimB Γ (St.mk tm bl).box w LB S) {x y : X} {us : List (Nat × Bx)} (ht : (St.mk tm bl).take1 x = some (y, us))
    (ha : Adv (St.mk tm bl).box ((St.mk tm bl).withB us).box LB LB') {l : L}
    (hv : ∀ b ver p c, x = .view b ver p c → ∃ B le t hh ls, LB b = some B ∧ B.c.nav p = some le ∧ le.cells[c]? = some (.own t hh ls) ∧ l = .own (bif p.isEmpty then t else 0) hh ls ∧
        LB' = setLB LB b ⟨B.blk, B.c.upd true p fun _ => le.put c (.junk (L.own t hh ls).flat)⟩) {z : X} {v : Value} (hz : TRel (St.mk tm bl).box LB w S z v) :
    TRel ((St.mk tm bl).withB us).box LB' w S (bumpX x z) v := by
  have keep : TRel ((St.mk tm bl).withB us).box LB' w S z v := TRel.adv ha (S := S) (S' := S) (w := w) (w' := w) (fun _ h => h) (fun _ _ => rfl) _ _ hz
  unfold bumpX
  split
  · rename_i b ver c b2 v2 c2
    split
    · rename_i hc
      obtain ⟨rfl, rfl, hne⟩ := hc
      obtain ⟨B, le, t, hh, ls, hBb, hn, hcc, -, hLB⟩ := hv b2 v2 [] c rfl
      simp only [L.nav, Option.some.injEq] at hn
      subst hn
      simp only [St.take1] at ht
      cases hs : slAt ((St.mk tm bl).box b2) v2 [] c with
      | none => simp [hs] at ht
      | some te =>
        obtain ⟨t1, es1⟩ := te
        simp only [hs, Option.map_some, Option.some.injEq, Prod.mk.injEq] at ht
        obtain ⟨-, rfl⟩ := ht
        obtain ⟨hver, -⟩ := slAt_some hs
        refine ⟨?_, fun _ B' hB' => ?_⟩
        · rw [box_cons_same]; simp only [Bx.kill, hver]; exact Nat.le_refl _
        · rw [hLB, setLB_same] at hB'
          cases hB'
          have h0 := hz.2 hver B hBb
          simp only [Sk.hdr, Sk.nav, L.sk_cells, List.getElem?_map, L.upd] at h0 ⊢
          have hcell : (B.c.put c (.junk (L.own t hh ls).flat)).cells[c2]? = B.c.cells[c2]? := by
            cases hBc : B.c with
            | agg cs => simp [L.put, L.cells, List.getElem?_set, Ne.symm hne]
            | _ =>
              rw [hBc] at h0 hcc
              exfalso
              have hc0 : c = 0 := by cases c with | zero => rfl | succ c => simp [L.cells] at hcc
              have hc2 : c2 ≠ 0 := fun h => hne (h.trans hc0.symm)
              cases c2 with
              | zero => exact hc2 rfl
              | succ c2 => simp [L.cells] at h0
          rw [hcell]; exact h0
    · exact keep
  · exact keep
theorem bumps_rel {tm : List (Nat × X)} {bl : List (Nat × Bx)} (hB : SimB Γ (St.mk tm bl).box w LB S) {x y : X} {us : List (Nat × Bx)} (ht : (St.mk tm bl).take1 x = some (y, us))
    (ha : Adv (St.mk tm bl).box ((St.mk tm bl).withB us).box LB LB') {l : L}
    (hv : ∀ b ver p c, x = .view b ver p c → ∃ B le t hh ls, LB b = some B ∧ B.c.nav p = some le ∧ le.cells[c]? = some (.own t hh ls) ∧ l = .own (bif p.isEmpty then t else 0) hh ls ∧
        LB' = setLB LB b ⟨B.blk, B.c.upd true p fun _ => le.put c (.junk (L.own t hh ls).flat)⟩) : ∀ (zs : List X) (vs : List Value), TRels (St.mk tm bl).box LB w S zs vs →
    TRels ((St.mk tm bl).withB us).box LB' w S (zs.map (bumpX x)) vs
  | [], [], _ => trivial
  | z :: zs, v :: vs, h => ⟨bump_rel hB ht ha hv h.1, bumps_rel hB ht ha hv zs vs h.2⟩
  | [], _ :: _, h => h.elim
  | _ :: _, [], h => h.elim

theorem takesG_sound : ∀ {xs done ys : List X} {vs : List Value} {tm : List (Nat × X)} {bl : List (Nat × Bx)} {LB : Nat → Option BL} {us : List (Nat × Bx)}, SimB Γ (St.mk tm bl).box w LB S →
    (St.mk tm bl).takesG done xs = some (ys, us) → TRels (St.mk tm bl).box LB w S (xs.map (bumps done)) vs →
    ∃ LB' ls, SimB Γ ((St.mk tm bl).withB us).box w LB' S ∧ Adv (St.mk tm bl).box ((St.mk tm bl).withB us).box LB LB' ∧ Takens Γ w S ls ys vs ∧ Free Γ w S LB' (L.fps ls) ∧
      (∀ b B', LB' b = some B' → ∃ B, LB b = some B ∧ ∀ g ∈ B'.fp, g ∈ B.fp) ∧ (∀ g ∈ L.fps ls, ∃ b B, LB b = some B ∧ g ∈ B.fp)
  | [], done, ys, vs, tm, bl, LB, us, hB, ht, hx => by
    simp only [St.takesG, Option.some.injEq, Prod.mk.injEq] at ht
    obtain ⟨rfl, rfl⟩ := ht
    cases vs with
    | nil => exact ⟨LB, [], hB, Adv.refl _ _, ⟨rfl, rfl, by simp, by simp, by simp, by simp⟩, Free.nil, fun b B h => ⟨B, h, fun _ h => h⟩, by simp [L.fps]⟩
    | cons v vs => exact hx.elim
  | x :: xs, done, ys, vs, tm, bl, LB, us, hB, ht, hx => by
    simp only [St.takesG] at ht
    cases h1 : (St.mk tm bl).take1 (bumps done x) with
    | none => simp [h1] at ht
    | some y =>
      obtain ⟨y, us1⟩ := y
      simp only [h1, Option.bind_some] at ht
      cases h2 : ((St.mk tm bl).withB us1).takesG (done ++ [bumps done x]) xs with
      | none => simp [h2] at ht
      | some z =>
        obtain ⟨ys2, us2⟩ := z
        simp only [h2, Option.map_some, Option.some.injEq, Prod.mk.injEq] at ht
        obtain ⟨rfl, rfl⟩ := ht
        cases vs with
        | nil => exact hx.elim
        | cons v vs =>
          obtain ⟨LB1, l, hB1, ha1, ht1, hf1, hs1, hi1, hv1⟩ := take1_full hB h1 hx.1
          have hx2 : TRels ((St.mk tm bl).withB us1).box LB1 w S (xs.map (bumps (done ++ [bumps done x]))) vs := by
            have e : xs.map (bumps (done ++ [bumps done x])) = (xs.map (bumps done)).map (bumpX (bumps done x)) := by
              rw [List.map_map]; exact List.map_congr_left fun z _ => by simp [bumps, List.foldl_append]
            rw [e]
            exact bumps_rel hB h1 ha1 hv1 _ _ hx.2
          obtain ⟨LB2, ls, hB2, ha2, ht2, hf2, hs2, hi2⟩ := takesG_sound (tm := tm) (bl := us1 ++ bl) hB1 h2 hx2
          refine ⟨LB2, l :: ls, ?_, ?_, ⟨?_, ?_, ?_, ?_, ?_, ?_⟩, ⟨?_, ?_, ?_⟩, ?_, ?_⟩
          · rw [← withB_app]; exact hB2
          · rw [← withB_app]; exact ha1.trans ha2
          · simp [ht1.er, ht2.er]
          · simp [ht1.flat, ht2.flat]
          · intro q hq; rcases List.mem_cons.1 hq with rfl | hq; exact ht1.mem; exact ht2.mem q hq
          · intro q hq; rcases List.mem_cons.1 hq with rfl | hq; exact ht1.tag; exact ht2.tag q hq
          · intro q hq; rcases List.mem_cons.1 hq with rfl | hq; exact ht1.one; exact ht2.one q hq
          · intro q hq; rcases List.mem_cons.1 hq with rfl | hq; exact ht1.cell; exact ht2.cell q hq
          · simp only [L.fps]
            refine List.nodup_append.2 ⟨hf1.nd, hf2.nd, fun g hg g' hg' he => ?_⟩
            subst he
            obtain ⟨b, B, hb, hgB⟩ := hi2 g hg'
            exact hf1.dj b B hb g hg hgB
          · intro b B hb g hg hgB
            simp only [L.fps] at hg
            rcases List.mem_append.1 hg with hg | hg
            · obtain ⟨B1, hb1, hsub⟩ := hs2 b B hb
              exact hf1.dj b B1 hb1 g hg (hsub g hgB)
            · exact hf2.dj b B hb g hg hgB
          · intro g hg
            simp only [L.fps] at hg
            rcases List.mem_append.1 hg with hg | hg
            · exact hf1.fr g hg
            · exact hf2.fr g hg
          · intro b B hb
            obtain ⟨B1, hb1, hsub1⟩ := hs2 b B hb
            obtain ⟨B0, hb0, hsub0⟩ := hs1 b B1 hb1
            exact ⟨B0, hb0, fun g hg => hsub0 g (hsub1 g hg)⟩
          · intro g hg
            simp only [L.fps] at hg
            rcases List.mem_append.1 hg with hg | hg
            · exact hi1 g hg
            · obtain ⟨b, B1, hb1, hg1⟩ := hi2 g hg
              obtain ⟨B0, hb0, hsub0⟩ := hs1 b B1 hb1
              exact ⟨b, B0, hb0, hsub0 g hg1⟩

theorem takes_sound {xs ys : List X} {vs : List Value} {tm : List (Nat × X)} {bl : List (Nat × Bx)} {LB : Nat → Option BL} {us : List (Nat × Bx)} (hB : SimB Γ (St.mk tm bl).box w LB S)
    (ht : (St.mk tm bl).takes xs = some (ys, us)) (hx : TRels (St.mk tm bl).box LB w S xs vs) :
    ∃ LB' ls, SimB Γ ((St.mk tm bl).withB us).box w LB' S ∧ Adv (St.mk tm bl).box ((St.mk tm bl).withB us).box LB LB' ∧ Takens Γ w S ls ys vs ∧ Free Γ w S LB' (L.fps ls) ∧
      (∀ b B', LB' b = some B' → ∃ B, LB b = some B ∧ ∀ g ∈ B'.fp, g ∈ B.fp) ∧ (∀ g ∈ L.fps ls, ∃ b B, LB b = some B ∧ g ∈ B.fp) :=
  takesG_sound hB ht (by have : xs.map (bumps []) = xs := by (conv => rhs; rw [← List.map_id xs]); rfl
                         rw [this]; exact hx)

/-- The cells of a value that is moved out: an aggregate's, or the value itself. -/
theorem take_cells {x y : X} {v : Value} {us : List (Nat × Bx)} (hB : SimB Γ st.box w LB S) (ht : st.take x = some (y, us)) (hx : TRel st.box LB w S x v) :
    st.takes x.cells = some (y.cells, us) ∧ TRels st.box LB w S x.cells v.cells.toList ∧ ((∃ cs, x = .agg cs) ↔ ∃ cs, y = .agg cs) ∧ (¬ (∃ cs, x = .agg cs) → y.cells = [y] ∧ v.cells = #[v]) ∧ v.cells.size = x.cells.length := by
  by_cases hag : ∃ cs, x = .agg cs
  · obtain ⟨cs, rfl⟩ := hag
    simp only [St.take] at ht
    cases h : st.takes cs with
    | none => simp [h] at ht
    | some z =>
      simp only [h, Option.map_some, Option.some.injEq, Prod.mk.injEq] at ht
      obtain ⟨rfl, rfl⟩ := ht
      obtain ⟨us', rfl, hus⟩ := hx
      exact ⟨h, hus, by simp, fun hn => absurd ⟨_, rfl⟩ hn, by have := hus.length; rw [Array.length_toList] at this; exact this⟩
  · have h1 : st.take1 x = some (y, us) := by cases x <;> first | exact ht | exact absurd ⟨_, rfl⟩ hag
    have hc : x.cells = [x] := by cases x <;> first | rfl | exact absurd ⟨_, rfl⟩ hag
    obtain ⟨tm, bl⟩ := st
    obtain ⟨LB', l, -, -, htk, -⟩ := take1_sound hB h1 hx
    have hv : v.cells = #[v] := by have := htk.one; cases v <;> first | rfl | simp [Value.oneCell'] at this
    have hyc : y.cells = [y] := by rw [← htk.er, L.er_cells, htk.cell]; rfl
    have hny : ¬ ∃ cs, y = .agg cs := by
      rintro ⟨cs, rfl⟩
      have := htk.cell
      have he := htk.er
      cases l <;> simp [L.er] at he
      rename_i cs'
      simp only [L.cells] at this
      have hsz := congrArg (fun l : List L => SizeOf.sizeOf l) this
      simp at hsz
      omega
    rw [hc, hv, hyc]
    refine ⟨?_, ⟨hx, trivial⟩, by simp [hag, hny], fun _ => ⟨rfl, rfl⟩, by simp⟩
    simp [St.takes, St.takesG, bumps, h1]

/-- An element is written. -/
theorem BL.write {B : BL} (u : Bool) {S' : Nat → Prop} {p : Path} {t t' : L} {g o : Nat} (hs : ∀ g, S g → S' g) (hf : ∀ g, S g → w'.heap[g]? = w.heap[g]?) (hm : B.mem w S) (hnd : B.fp.Nodup)
    (hn : B.c.nav p = some t) (ha : B.c.addr B.blk 0 p = some (some g, o)) (hseg : Seg w w' g o t.cflat t'.cflat) (hl : t'.cells.length = t.cells.length) (hm' : t'.mem w' S')
    (ho : ∀ b ∈ B.fp, b ≠ g → w'.heap[b]? = w.heap[b]?) : (BL.mk B.blk (B.c.upd u p fun _ => t')).mem w' S' ∧ g ∈ B.fp := by
  have key := L.upd_mem u hs hf hseg hm' hl p B.c B.blk 0 hm.2 (BL.nd B hnd).1 (BL.nd B hnd).2 hn ha (fun b hb hne => ho b (by simp [BL.fp, hb]) hne)
  cases p with
  | nil =>
    simp only [L.nav, Option.some.injEq] at hn; subst hn
    simp only [L.addr, Option.some.injEq, Prod.mk.injEq] at ha
    obtain ⟨hblk, rfl⟩ := ha
    refine ⟨⟨fun g' hg' => ?_, key.1⟩, by simp [BL.fp, hblk]⟩
    rw [hblk] at hg'; cases hg'
    obtain ⟨cur0, e0, h1, h2⟩ := hm.1 g hblk
    obtain ⟨cur, cur', ty, A, C, k1, k2, k3, k4, k5⟩ := hseg
    rw [h1] at k1
    simp only [Option.some.injEq, Obj.cells.injEq, and_true] at k1
    obtain ⟨rfl, rfl⟩ := k1
    have hA : A = [] := List.eq_nil_of_length_eq_zero k5
    subst hA
    rw [h2] at k3
    have hC : C = [] := by
      have := congrArg List.length k3
      simp at this
      exact this
    subst hC
    exact ⟨cur', e0, k2, by simpa [L.upd] using k4⟩
  | cons q p =>
    have hg := key.2 (by simp)
    refine ⟨⟨fun g' hg' => ?_, key.1⟩, by simp [BL.fp, hg]⟩
    obtain ⟨cur0, e0, h1, h2⟩ := hm.1 g' hg'
    have hne : g' ≠ g := by rintro rfl; exact (BL.nd B hnd).2 g' hg' hg
    have hg'' : B.blk = some g' := hg'
    exact ⟨cur0, e0, (ho g' (by simp [BL.fp, hg'']) hne).trans h1, by rw [h2]; exact (L.upd_cflat u (q :: p) (fun _ => t') (by simp) hn).1.symm⟩

theorem L.puts_cells : ∀ (ls : List L) (e : L) (off : Nat), off + ls.length ≤ e.cells.length → (∀ l ∈ ls, l.cells = [l]) →
    (e.puts off ls).cells = e.cells.take off ++ ls ++ e.cells.drop (off + ls.length)
  | [], e, off, _, _ => by simp [L.puts]
  | x :: ls, e, off, hl, hc => by
    have hx := hc x (by simp)
    have hlen : (e.put off x).cells.length = e.cells.length := by
      cases e with
      | agg cs => simp [L.put, L.cells]
      | _ => simp only [L.put, hx]; rfl
    have hcells : (e.put off x).cells = e.cells.set off x := by
      cases e with
      | agg cs => rfl
      | _ =>
        simp only [L.cells, List.length_cons, List.length_nil] at hl
        have : off = 0 := by omega
        subst this
        simp only [L.put, hx]; rfl
    have ih := L.puts_cells ls (e.put off x) (off + 1) (by rw [hlen]; simp at hl; omega) (fun l hl => hc l (by simp [hl]))
    simp only [L.puts]
    rw [ih, hcells]
    simp only [List.length_cons] at hl
    rw [List.set_eq_take_append_cons_drop, if_pos (by omega)]
    have h1 : (e.cells.take off).length = off := by simp; omega
    rw [List.take_append, List.drop_append, h1]
    simp [show off + 1 - off = 1 by omega, List.take_of_length_le (show (e.cells.take off).length ≤ off + 1 by omega), show off + 1 + ls.length - off = ls.length + 1 by omega,
      List.drop_eq_nil_of_le (show (e.cells.take off).length ≤ off + 1 + ls.length by omega)]
    congr 1; omega
theorem L.puts_agg : ∀ (ls : List L) (e : L) (off : Nat), (∃ cs, e = .agg cs) → ∃ cs, e.puts off ls = .agg cs
  | [], e, off, h => h
  | x :: ls, e, off, h => by
    obtain ⟨cs, rfl⟩ := h
    exact L.puts_agg ls _ _ ⟨_, rfl⟩
theorem L.mem_of_cells {l : L} (h : ∀ c ∈ l.cells, c.mem w S) : l.mem w S := by
  cases l with
  | agg cs => exact (L.mems_iff cs).2 h
  | _ => exact h _ (by simp [L.cells])

end Go.Proofs.Ytncjcbdbdocjaaa.Ax

/- Soundness of the operations that change boxes: box, alloc, store. -/
namespace Go.Proofs.Ytncjcbdbdocjaaa.Ax
open Go

variable {P : Program} {Γ : Ctx} {st : St} {a : Act} {w w' : World} {LB LB' : Nat → Option BL} {S : Nat → Prop}

/-- A box is made. -/
theorem SimB.new' {us : List (Nat × Bx)} (hB : SimB Γ (st.withB us).box w LB S) {d : Nat} {B' : BL} (hd : d = PB → ∀ g, Γ.pblk = some g → B'.blk = some g) (hm : B'.mem w' S) (hnd : B'.fp.Nodup)
    (hdj : ∀ b B, LB b = some B → ∀ g ∈ B'.fp, g ∉ B.fp) (hfr : ∀ g ∈ B'.fp, ¬ S g ∧ g < w'.heap.size ∧ (g ∈ Γ.Fin ∨ Γ.w0.heap.size ≤ g))
    (hw : ∀ b B, LB b = some B → ∀ g ∈ B.fp, w'.heap[g]? = w.heap[g]?) (hS : ∀ g, S g → w'.heap[g]? = w.heap[g]?) (hsize : w.heap.size ≤ w'.heap.size) (hFr : Fr Γ.Fin Γ.w0 w')
    (htag : ∀ (i t : Nat) (hh : Option (Nat × Nat)) (es : List L), B'.c.cells[i]? = some (.own (t + 1) hh es) → Γ.psk t = some (L.own (t + 1) hh es).sk) :
    SimB Γ (st.withB ((d, newBx ((st.withB us).box d) B'.blk.isSome B'.c.er) :: us)).box w' (setLB LB d B') S ∧
      Adv (st.withB us).box (st.withB ((d, newBx ((st.withB us).box d) B'.blk.isSome B'.c.er) :: us)).box LB (setLB LB d B') := by
  refine ⟨hB.set (b := d) (fun x hx => box_cons_other _ _ _ hx) ?_ hnd (fun g hg => ⟨fun b2 _ B2 hB2 => hdj b2 B2 hB2 g hg, hfr g hg⟩) (fun b2 _ B2 hB2 => hw b2 B2 hB2) hS hsize hFr htag
    hd, fun x => ?_, fun x => ?_, fun x hx Bq hq' => ?_, fun x hx Bq hq' => ?_⟩
  · rw [box_cons_same]; exact ⟨rfl, rfl, hm⟩
  · by_cases h : x = d
    · subst h; rw [box_cons_same]; exact Nat.le_succ _
    · rw [box_cons_other _ _ _ h]; exact Nat.le_refl _
  · by_cases h : x = d
    · subst h; rw [box_cons_same]; exact Nat.le_succ _
    · rw [box_cons_other _ _ _ h]; exact Nat.le_refl _
  · by_cases h : x = d
    · subst h; rw [box_cons_same] at hx; simp [newBx] at hx
    · rw [setLB_other LB B' h] at hq'; exact ⟨Bq, hq', rfl⟩
  · by_cases h : x = d
    · subst h; rw [box_cons_same] at hx; simp [newBx] at hx
    · rw [setLB_other LB B' h] at hq'; exact ⟨Bq, hq', rfl, rfl⟩

theorem SimB.new {us : List (Nat × Bx)} (hB : SimB Γ (st.withB us).box w LB S) {d : Nat} (hd : d ≠ PB) {B' : BL} (hm : B'.mem w' S) (hnd : B'.fp.Nodup)
    (hdj : ∀ b B, LB b = some B → ∀ g ∈ B'.fp, g ∉ B.fp) (hfr : ∀ g ∈ B'.fp, ¬ S g ∧ g < w'.heap.size ∧ (g ∈ Γ.Fin ∨ Γ.w0.heap.size ≤ g))
    (hw : ∀ b B, LB b = some B → ∀ g ∈ B.fp, w'.heap[g]? = w.heap[g]?) (hS : ∀ g, S g → w'.heap[g]? = w.heap[g]?) (hsize : w.heap.size ≤ w'.heap.size) (hFr : Fr Γ.Fin Γ.w0 w')
    (htag : ∀ (i t : Nat) (hh : Option (Nat × Nat)) (es : List L), B'.c.cells[i]? = some (.own (t + 1) hh es) → Γ.psk t = some (L.own (t + 1) hh es).sk) :
    SimB Γ (st.withB ((d, newBx ((st.withB us).box d) B'.blk.isSome B'.c.er) :: us)).box w' (setLB LB d B') S ∧
      Adv (st.withB us).box (st.withB ((d, newBx ((st.withB us).box d) B'.blk.isSome B'.c.er) :: us)).box LB (setLB LB d B') :=
  hB.new' (fun h => absurd h hd) hm hnd hdj hfr hw hS hsize hFr htag

theorem alloc_size (w : World) (o : Obj) : (w.alloc o).heap.size = w.heap.size + 1 := by
  show (w.heap.push o).size = _
  simp
theorem Fr.alloc {F : List Nat} {w0 : World} (h : Fr F w0 w) (o : Obj) : Fr F w0 (w.alloc o) :=
  ⟨h.os, h.tape, h.output, Nat.le_trans h.size (by rw [alloc_size]; exact Nat.le_succ _), fun k hk hn => (heap_alloc_old w o k (Nat.lt_of_lt_of_le hk h.size)).trans (h.block k hk hn)⟩


/-- A variable is made. -/
theorem SimB.newVar {us : List (Nat × Bx)} (hB : SimB Γ (st.withB us).box w LB S) {d : Nat} (hd : d ≠ PB) {c : L} {vs : Array Value} {t : TypeId} (hm : c.mem w S) (hf : Free Γ w S LB c.fp) (hc : vs.toList = c.cflat)
    (htag : ∀ (i t : Nat) (hh : Option (Nat × Nat)) (es : List L), c.cells[i]? = some (.own (t + 1) hh es) → Γ.psk t = some (L.own (t + 1) hh es).sk) :
    SimB Γ (st.withB ((d, newBx ((st.withB us).box d) true c.er) :: us)).box (w.alloc (.cells vs t)) (setLB LB d ⟨some w.heap.size, c⟩) S ∧
      Adv (st.withB us).box (st.withB ((d, newBx ((st.withB us).box d) true c.er) :: us)).box LB (setLB LB d ⟨some w.heap.size, c⟩) := by
  have hold : ∀ g, g < w.heap.size → (w.alloc (.cells vs t)).heap[g]? = w.heap[g]? := fun g hg => heap_alloc_old w _ g hg
  have hfp : (BL.mk (some w.heap.size) c).fp = w.heap.size :: c.fp := rfl
  refine hB.new (B' := ⟨some w.heap.size, c⟩) hd ⟨fun g hg => ?_, ?_⟩ ?_ (fun b B hb g hg => ?_) (fun g hg => ?_) (fun b B hb g hg => hold g (hB.fr b B hb g hg).2.1) (fun g hg => hold g (hB.Sw g hg))
    (by rw [alloc_size]; exact Nat.le_succ _) (hB.frame.alloc _) htag
  · cases hg; exact ⟨vs, t, heap_alloc_new w _, hc⟩
  · exact L.mem_frame (fun _ h => h) (fun g hg => hold g (hB.Sw g hg)) c hm (fun g hg => hold g (hf.fr g hg).2.1)
  · rw [hfp, List.nodup_cons]
    exact ⟨fun h => Nat.lt_irrefl _ (hf.fr _ h).2.1, hf.nd⟩
  · rw [hfp] at hg
    rcases List.mem_cons.1 hg with rfl | hg
    · exact fun h => Nat.lt_irrefl _ (hB.fr b B hb _ h).2.1
    · exact hf.dj b B hb g hg
  · rw [hfp] at hg
    rw [alloc_size]
    rcases List.mem_cons.1 hg with rfl | hg
    · exact ⟨fun h => Nat.lt_irrefl _ (hB.Sw _ h), Nat.lt_succ_self _, .inr hB.frame.size⟩
    · have := hf.fr g hg
      exact ⟨this.1, Nat.lt_succ_of_lt this.2.1, this.2.2⟩

theorem Takens.tagCells {ls : List L} {ys : List X} {vs : List Value} (h : Takens Γ w S ls ys vs) {c : L} (hc : c.cells = ls) :
    ∀ (i t : Nat) (hh : Option (Nat × Nat)) (es : List L), c.cells[i]? = some (.own (t + 1) hh es) → Γ.psk t = some (L.own (t + 1) hh es).sk := by
  intro i t hh es hi
  rw [hc] at hi
  exact h.tag _ (List.mem_of_getElem? hi) t hh es rfl

/-- A value that is moved out, as one located value. -/
theorem take_sound {x y : X} {v : Value} {us : List (Nat × Bx)} (hB : SimB Γ st.box w LB S) (ht : st.take x = some (y, us)) (hx : TRel st.box LB w S x v) :
    ∃ (LB' : Nat → Option BL) (c : L) (ls : List L), SimB Γ (st.withB us).box w LB' S ∧ Adv st.box (st.withB us).box LB LB' ∧ Takens Γ w S ls y.cells v.cells.toList ∧ Free Γ w S LB' c.fp ∧
      c.er = y ∧ c.cells = ls ∧ c.mem w S ∧ v.cells.toList = c.cflat ∧ c.flat = v ∧ c.fp = L.fps ls ∧
      (∀ b B', LB' b = some B' → ∃ B, LB b = some B ∧ ∀ g ∈ B'.fp, g ∈ B.fp) ∧ (∀ g ∈ c.fp, ∃ b B, LB b = some B ∧ g ∈ B.fp) := by
  obtain ⟨h1, h2, h3, h4, h5⟩ := take_cells hB ht hx
  obtain ⟨tm, bl⟩ := st
  obtain ⟨LB', ls, k1, k2, k3, k4, k5, k6⟩ := takes_sound hB h1 h2
  by_cases hag : ∃ cs, x = .agg cs
  · obtain ⟨cs, rfl⟩ := hag
    obtain ⟨cs', rfl⟩ := h3.1 ⟨_, rfl⟩
    obtain ⟨us', rfl, hus⟩ := hx
    refine ⟨LB', .agg ls, ls, k1, k2, k3, k4, ?_, rfl, (L.mems_iff ls).2 k3.mem, ?_, ?_, rfl, k5, k6⟩
    · simp only [L.er, L.ers_eq, k3.er]; rfl
    · rw [L.cflat, L.flats_eq]; exact k3.flat.symm
    · have := k3.flat
      simp only [L.flat, L.flats_eq, this]
      rfl
  · obtain ⟨hyc, hvc⟩ := h4 hag
    have h3' := k3.er
    rw [hyc] at h3'
    match ls, h3' with
    | [l], h3' =>
      simp only [List.map_cons, List.map_nil, List.cons.injEq, and_true] at h3'
      have hfl := k3.flat
      rw [hvc] at hfl
      simp only [List.map_cons, List.map_nil, List.cons.injEq, and_true] at hfl
      have hcl := k3.cell l (by simp)
      refine ⟨LB', l, [l], k1, k2, k3, by simpa [L.fps] using k4, h3', hcl, k3.mem l (by simp), ?_, hfl, by simp [L.fps], k5, fun g hg => k6 g (by simpa [L.fps] using hg)⟩
      rw [hvc, L.cflat, hcl]
      simp [L.flats, hfl]
    | [], h3' => simp at h3'
    | _ :: _ :: _, h3' => simp at h3'

/-- What an operation does: it ends, and the relation is kept. -/
def OpOK (P : Program) (Γ : Ctx) (o : Oper) (a : Act) (w : World) (st' : St) : Prop :=
  ∃ n w' LB' S', (execOp a.eval o).run P w = .ok n w' ∧
    ((∃ v, n = .value v ∧ SimL Γ st' (a.put o.dst v) w' LB' S') ∨ (n = .skip ∧ SimL Γ st' (a.put o.dst undef) w' LB' S'))

def DstOK (n : Nat) (o : Oper) : Prop := n ≤ 8999 ∧ ∀ t : Nat, o.dst = some t → t < n
theorem DstOK.ne {n d : Nat} {o : Oper} (h : DstOK n o) (hd : o.dst = some d) : d ≠ PB := by
  have := h.1; have := h.2 d hd; unfold PB; omega

theorem box_sound (h : SimL Γ st a w LB S) {o : Oper} (hd : DstOK Γ.n o) {d : Nat} (hdst : o.dst = some d) {t : TypeId} {y : Operand} (ho : o.op = .box t y) {side : Prop} {r : X} {us : List (Nat × Bx)}
    (he : evBox P st d t (st.opd y) = .ok side r us) : OpOK P Γ o a w (st.put o.dst r us) := by
  unfold evBox at he
  cases ht : st.take (st.opd y) with
  | none => simp [ht] at he
  | some z =>
    obtain ⟨z, vs⟩ := z
    simp only [ht, Ev.ok.injEq] at he
    obtain ⟨-, rfl, rfl⟩ := he
    obtain ⟨LB', c, ls, k1, k2, k3, k4, k5, k6, k7, k8, k9, k10, -⟩ := take_sound h.toB ht (h.opd y)
    obtain ⟨n1, n2⟩ := k1.newVar (hd.ne hdst) (c := c) (vs := (a.eval y).cells) (t := t) k7 k4 k8 (k3.tagCells (by rw [k6]))
    rw [k5] at n1 n2
    refine ⟨.value (.pointer (some ⟨w.heap.size, 0, none⟩)), w.alloc (.cells (a.eval y).cells t), setLB LB' d ⟨some w.heap.size, c⟩, S, ?_, .inl ⟨_, rfl, ?_⟩⟩
    · simp [execOp, ho, Instr.box, newVar, newRow]
    · refine h.next (k2.trans n2) (fun _ h => h) (fun g hg => heap_alloc_old w _ g (h.Sw g hg)) n1 hd.2 ?_
      refine ⟨?_, fun _ B hB => ?_⟩
      · rw [box_cons_same]; exact Nat.le_refl _
      · rw [setLB_same] at hB; cases hB; exact ⟨w.heap.size, rfl, rfl⟩

/-- A zero value's cells, located. -/
def zL : Value → L
  | .slice none 0 0 => .own 0 none []
  | .agg cs => .junk (.agg cs)
  | .tuple vs => .junk (.tuple vs)
  | v => .sc v
theorem zL_spec (w : World) (S : Nat → Prop) (v : Value) : (zL v).er = (ofV1 v).norm1 ∧ (zL v).flat = v ∧ (zL v).mem w S ∧ (zL v).fp = [] ∧ (∀ (t : Nat) (hh : Option (Nat × Nat)) (es : List L), zL v ≠ .own (t + 1) hh es) ∧ (zL v).cells = [zL v] := by
  unfold zL
  split
  · exact ⟨rfl, rfl, rfl, rfl, by simp, rfl⟩
  · exact ⟨rfl, rfl, trivial, rfl, by simp, rfl⟩
  · exact ⟨rfl, rfl, trivial, rfl, by simp, rfl⟩
  · rename_i h1 h2 h3
    have : v.oneCell' = true := by cases v <;> first | rfl | exact absurd rfl (h2 _) | exact absurd rfl (h3 _)
    refine ⟨?_, rfl, this, rfl, by simp, rfl⟩
    cases v <;> try rfl
    · rename_i aa l c
      unfold ofV1 X.norm1
      simp only
      split
      · rename_i heq
        simp only [X.sc.injEq, Value.slice.injEq] at heq
        obtain ⟨rfl, rfl, rfl⟩ := heq
        exact absurd rfl h1
      · rfl
    · exact absurd rfl (h2 _)
    · exact absurd rfl (h3 _)
def zeroL : Value → L
  | .agg cs => .agg (cs.toList.map zL)
  | v => zL v
theorem zeroL_spec (w : World) (S : Nat → Prop) (v : Value) : (zeroL v).er = (ofV v).norm ∧ (zeroL v).cflat = v.cells.toList ∧ (zeroL v).mem w S ∧ (zeroL v).fp = [] ∧
    (∀ (i t : Nat) (hh : Option (Nat × Nat)) (es : List L), (zeroL v).cells[i]? ≠ some (.own (t + 1) hh es)) := by
  by_cases hag : ∃ cs, v = .agg cs
  · obtain ⟨cs, rfl⟩ := hag
    refine ⟨?_, ?_, ?_, ?_, ?_⟩
    · simp only [zeroL, L.er, L.ers_eq, List.map_map, ofV, X.norm]
      congr 1
      apply List.map_congr_left
      intro x _
      exact (zL_spec w S x).1
    · simp only [zeroL, L.cflat, L.cells, L.flats_eq, List.map_map, Value.cells]
      rw [show (L.flat ∘ zL) = id from funext fun x => (zL_spec w S x).2.1]
      simp
    · simp only [zeroL, L.mem]
      rw [L.mems_iff]
      intro l hl
      obtain ⟨x, -, rfl⟩ := List.mem_map.1 hl
      exact (zL_spec w S x).2.2.1
    · simp only [zeroL, L.fp, L.fps_eq]
      rw [List.flatMap_eq_nil_iff]
      intro l hl
      obtain ⟨x, -, rfl⟩ := List.mem_map.1 hl
      exact (zL_spec w S x).2.2.2.1
    · intro i t hh es hi
      simp only [zeroL, L.cells] at hi
      obtain ⟨x, -, hx⟩ := List.mem_map.1 (List.mem_of_getElem? hi)
      exact (zL_spec w S x).2.2.2.2.1 t hh es hx
  · have h1 : zeroL v = zL v := by cases v <;> first | rfl | exact absurd ⟨_, rfl⟩ hag
    have h2 : ofV v = ofV1 v := by cases v <;> first | rfl | exact absurd ⟨_, rfl⟩ hag
    have h3 : v.cells = #[v] := by cases v <;> first | rfl | exact absurd ⟨_, rfl⟩ hag
    have h4 : (ofV1 v).norm = (ofV1 v).norm1 := by cases v <;> first | rfl | exact absurd ⟨_, rfl⟩ hag
    obtain ⟨k1, k2, k3, k4, k5, k6⟩ := zL_spec w S v
    rw [h1, h2, h3, h4]
    refine ⟨k1, ?_, k3, k4, ?_⟩
    · rw [L.cflat, k6]; simp [L.flats, k2]
    · intro i t hh es hi
      rw [k6] at hi
      cases i with
      | zero => simp at hi; exact k5 t hh es hi
      | succ i => simp at hi

theorem tZero_some {t : TypeId} {z : X} (h : tZero P t = some z) : ∃ i v, P.info? t = some i ∧ i.zero = some v ∧ v.cells.size = i.size ∧ z = ofV v := by
  unfold tZero at h
  cases hi : P.info? t with
  | none => simp [hi] at h
  | some i =>
    rw [hi] at h
    simp only at h
    cases hz : i.zero with
    | none => simp [hz] at h
    | some v =>
      rw [hz] at h
      simp only at h
      split at h
      · rename_i hs
        simp only [Option.some.injEq] at h
        exact ⟨i, v, rfl, hz, hs, h.symm⟩
      · simp at h

theorem alloc_sound (h : SimL Γ st a w LB S) {o : Oper} (hd : DstOK Γ.n o) {d : Nat} (hdst : o.dst = some d) {t : TypeId} (ho : o.op = .alloc t) {z : X} (hz : tZero P t = some z) :
    OpOK P Γ o a w (st.put o.dst (.ptr d ((st.box d).bn + 1) 0) [(d, newBx (st.box d) true z.norm)]) := by
  obtain ⟨i, v, hi, hzv, hs, rfl⟩ := tZero_some hz
  obtain ⟨k1, k2, k3, k4, k5⟩ := zeroL_spec w S v
  obtain ⟨n1, n2⟩ := (show SimB Γ (st.withB []).box w LB S from h.toB).newVar (us := []) (hd.ne hdst) (c := zeroL v) (vs := v.cells) (t := t) k3 (by rw [k4]; exact Free.nil) k2.symm
    (fun i t hh es hi => absurd hi (k5 i t hh es))
  rw [k1] at n1 n2
  refine ⟨.value (.pointer (some ⟨w.heap.size, 0, none⟩)), w.alloc (.cells v.cells t), setLB LB d ⟨some w.heap.size, zeroL v⟩, S, ?_, .inl ⟨_, rfl, ?_⟩⟩
  · simp [execOp, ho, Instr.alloc, zeroValue, typeInfo, hi, hzv, newVar, newRow]
  · refine h.next n2 (fun _ h => h) (fun g hg => heap_alloc_old w _ g (h.Sw g hg)) n1 hd.2 ?_
    refine ⟨?_, fun _ B hB => ?_⟩
    · rw [box_cons_same]; exact Nat.le_refl _
    · rw [setLB_same] at hB; cases hB; exact ⟨w.heap.size, rfl, rfl⟩

end Go.Proofs.Ytncjcbdbdocjaaa.Ax

/- Soundness of the store. -/
namespace Go.Proofs.Ytncjcbdbdocjaaa.Ax
open Go

variable {P : Program} {Γ : Ctx} {st : St} {a : Act} {w w' : World} {LB LB' : Nat → Option BL} {S : Nat → Prop}

def L.untag : L → L
  | .own _ h es => .own 0 h es
  | l => l
theorem L.untag_spec (w : World) (S : Nat → Prop) (l : L) (hc : l.cells = [l]) : l.untag.er = l.er.untag ∧ l.untag.flat = l.flat ∧ (l.mem w S → l.untag.mem w S) ∧ l.untag.fp = l.fp ∧ l.untag.sk = l.sk ∧ l.untag.cells = [l.untag] := by
  cases l with
  | own t h es =>
    cases h with
    | none => exact ⟨rfl, rfl, id, rfl, rfl, rfl⟩
    | some gc => obtain ⟨g, cap⟩ := gc; exact ⟨rfl, rfl, id, rfl, rfl, rfl⟩
  | _ => exact ⟨rfl, rfl, id, rfl, rfl, hc⟩
theorem L.untag_tag (l : L) (t : Nat) (hh : Option (Nat × Nat)) (es : List L) : l.untag ≠ .own (t + 1) hh es := by
  cases l <;> simp [L.untag]

theorem L.put_tag {e x : L} {c i t : Nat} {hh : Option (Nat × Nat)} {es : List L} (hxc : x.cells = [x]) (h : (e.put c x).cells[i]? = some (.own (t + 1) hh es)) :
    x = .own (t + 1) hh es ∧ (i = c ∨ ¬ ∃ cs, e = .agg cs) ∨ e.cells[i]? = some (.own (t + 1) hh es) := by
  cases e with
  | agg cs =>
    simp only [L.put, L.cells, List.getElem?_set] at h
    split at h
    · rename_i hci
      split at h
      · simp only [Option.some.injEq] at h; exact .inl ⟨h, .inl hci.symm⟩
      · simp at h
    · exact .inr h
  | _ =>
    simp only [L.put] at h
    rw [hxc] at h
    cases i with
    | zero => simp at h; exact .inl ⟨h, .inr (by simp)⟩
    | succ i => simp at h

theorem L.upd_tag (u : Bool) {p : Path} {e le t' : L} (hn : e.nav p = some le) (hu : u = false → t'.sk = le.sk) {i t : Nat} {hh : Option (Nat × Nat)} {es : List L}
    (h : (e.upd u p fun _ => t').cells[i]? = some (.own (t + 1) hh es)) :
    (p = [] ∧ t'.cells[i]? = some (.own (t + 1) hh es)) ∨ ∃ es0, e.cells[i]? = some (.own (t + 1) hh es0) ∧ (L.own (t + 1) hh es).sk = (L.own (t + 1) hh es0).sk := by
  cases p with
  | nil => exact .inl ⟨rfl, h⟩
  | cons q p =>
    obtain ⟨c, j⟩ := q
    right
    simp only [L.nav] at hn
    simp only [L.upd] at h
    cases hc : e.cells[c]? with
    | none => simp [hc] at hn
    | some y =>
      rw [hc] at hn h
      cases y with
      | own t0 h0 es0 =>
        simp only at hn h
        cases hj : es0[j]? with
        | none => simp [hj] at hn
        | some e1 =>
          simp only [hj] at h
          rw [hj] at hn
          simp only [Option.bind_some] at hn
          rcases L.put_tag rfl h with ⟨h1, h2⟩ | h1
          · cases u with
            | true => simp at h1
            | false =>
              simp only [cond_false, L.own.injEq] at h1
              obtain ⟨rfl, rfl, rfl⟩ := h1
              have hi : e.cells[i]? = some (.own (t + 1) h0 es0) := by
                rcases h2 with rfl | h2
                · exact hc
                · have hce : e.cells = [e] := by cases e <;> first | rfl | exact absurd ⟨_, rfl⟩ h2
                  rw [hce] at hc
                  cases c with
                  | succ c => simp at hc
                  | zero =>
                    have hlen := (List.getElem?_eq_some_iff.1 h).1
                    have : (e.put 0 (.own (t + 1) h0 (es0.set j (e1.upd false p fun _ => t')))).cells.length = 1 := by
                      cases e <;> first | rfl | exact absurd ⟨_, rfl⟩ h2
                    simp only [cond_false] at hlen
                    rw [this] at hlen
                    have : i = 0 := by omega
                    subst this
                    rw [hce]; exact hc
              refine ⟨es0, hi, ?_⟩
              obtain ⟨a, b, hl, _, hs⟩ := split_at hj
              simp only [L.sk, hs, L.sks_eq]
              rw [hl]
              simp [L.upd_sk false p t' hn (hu rfl)]
          · exact ⟨es, h1, rfl⟩
      | _ => simp at hn

theorem isSc_iff {l : L} (h : l.er.isSc = true) : ∃ v, l = .sc v := by cases l <;> simp [L.er, X.isSc] at h; exact ⟨_, rfl⟩
theorem L.puts_sk {ls : List L} {e : L} {off : Nat} (hl : off + ls.length ≤ e.cells.length) (hc : ∀ l ∈ ls, l.cells = [l]) (ho : (slice' e.er.cells off ls.length).all X.isSc = true)
    (hn : (ls.map L.er).all X.isSc = true) : (e.puts off ls).sk = e.sk := by
  have hcells := L.puts_cells ls e off hl hc
  have hsk : (e.puts off ls).cells.map L.sk = e.cells.map L.sk := by
    rw [hcells]
    apply List.ext_getElem?
    intro i
    simp only [List.map_append, List.map_take, List.map_drop]
    by_cases h1 : i < off
    · rw [List.append_assoc, List.getElem?_append_left (by simp; omega), List.getElem?_take, if_pos h1]
    · by_cases h2 : i < off + ls.length
      · rw [List.append_assoc, List.getElem?_append_right (by simp; omega), List.getElem?_append_left (by simp; omega)]
        have hlen : (List.take off (List.map L.sk e.cells)).length = off := by simp; omega
        rw [hlen]
        simp only [List.getElem?_map]
        have hi1 : i - off < ls.length := by omega
        have hi2 : i < e.cells.length := by omega
        rw [List.getElem?_eq_getElem hi1, List.getElem?_eq_getElem hi2]
        simp only [Option.map_some, Option.some.injEq]
        have e1 : ls[i - off].er.isSc = true := (List.all_eq_true.1 hn) _ (List.mem_map.2 ⟨_, List.getElem_mem hi1, rfl⟩)
        have e2 : e.cells[i].er.isSc = true := by
          refine (List.all_eq_true.1 ho) _ ?_
          refine List.mem_of_getElem? (i := i - off) ?_
          simp only [slice', List.getElem?_take, List.getElem?_drop, L.er_cells, List.getElem?_map]
          rw [if_pos hi1, show off + (i - off) = i by omega, List.getElem?_eq_getElem hi2]
          rfl
        obtain ⟨v1, hv1⟩ := isSc_iff e1
        obtain ⟨v2, hv2⟩ := isSc_iff e2
        rw [hv1, hv2]; rfl
      · rw [List.getElem?_append_right (by simp; omega), List.getElem?_drop]
        congr 1
        simp; omega
  by_cases hag : ∃ cs, e = .agg cs
  · obtain ⟨cs', hcs'⟩ := L.puts_agg ls e off hag
    obtain ⟨cs, rfl⟩ := hag
    rw [hcs'] at hsk ⊢
    simp only [L.cells] at hsk
    simp only [L.sk, L.sks_eq, hsk]
  · have hce : e.cells = [e] := by cases e <;> first | rfl | exact absurd ⟨_, rfl⟩ hag
    rw [hce] at hl
    match ls, hl with
    | [], _ => rfl
    | [x], hl =>
      have : off = 0 := by simp at hl; exact hl
      subst this
      have hxc := hc x (by simp)
      have : (e.puts 0 [x]) = x := by cases e <;> first | rfl | exact absurd ⟨_, rfl⟩ hag
      rw [this] at hsk ⊢
      rw [hxc, hce] at hsk
      simpa using hsk
    | _ :: _ :: _, hl => simp at hl; omega

theorem L.cell_fp {e y : L} {c : Nat} (h : e.cells[c]? = some y) : ∀ g ∈ y.fp, g ∈ e.fp := by
  intro g hg
  obtain ⟨A, B, h1, -⟩ := L.put_fp h (.junk undef)
  rw [h1]; simp [hg]
theorem L.addr_fp {g o : Nat} : ∀ (p : Path) (e : L) (blk : Option Nat) (off : Nat), p ≠ [] → e.addr blk off p = some (some g, o) → g ∈ e.fp
  | [], e, blk, off, hp, _ => absurd rfl hp
  | (c, j) :: p, e, blk, off, hp, ha => by
    simp only [L.addr] at ha
    cases hc : e.cells[c]? with
    | none => simp [hc] at ha
    | some y =>
      rw [hc] at ha
      cases y with
      | own t0 hh es =>
        cases hh with
        | none => simp at ha
        | some gc =>
          obtain ⟨g1, cap⟩ := gc
          simp only at ha
          cases hj : es[j]? with
          | none => simp [hj] at ha
          | some e1 =>
            rw [hj] at ha
            simp only [Option.bind_some] at ha
            refine L.cell_fp hc g ?_
            simp only [L.fp]
            cases p with
            | nil =>
              simp only [L.addr, Option.some.injEq, Prod.mk.injEq] at ha
              simp [ha.1]
            | cons q p =>
              have := L.addr_fp (q :: p) e1 _ _ (by simp) ha
              exact List.mem_cons_of_mem _ (L.mem_fps (List.mem_of_getElem? hj) this)
      | _ => simp at ha

theorem L.addr_not_fp {g o : Nat} : ∀ (p : Path) (e le : L) (blk : Option Nat) (off : Nat), e.fp.Nodup → (∀ b, blk = some b → b ∉ e.fp) → e.nav p = some le → e.addr blk off p = some (some g, o) → g ∉ le.fp
  | [], e, le, blk, off, hnd, hb, hn, ha => by
    simp only [L.nav, Option.some.injEq] at hn; subst hn
    simp only [L.addr, Option.some.injEq, Prod.mk.injEq] at ha
    exact hb g ha.1
  | (c, j) :: p, e, le, blk, off, hnd, hb, hn, ha => by
    simp only [L.nav] at hn
    simp only [L.addr] at ha
    cases hc : e.cells[c]? with
    | none => simp [hc] at hn
    | some y =>
      rw [hc] at hn ha
      obtain ⟨A, B, hfp, -⟩ := L.put_fp hc (.junk undef)
      rw [hfp] at hnd
      have hndy : y.fp.Nodup := (List.nodup_append.1 (List.nodup_append.1 hnd).1).2.1
      cases y with
      | own t0 hh es =>
        cases hh with
        | none => simp at ha
        | some gc =>
          obtain ⟨g1, cap⟩ := gc
          simp only at hn ha
          cases hj : es[j]? with
          | none => simp [hj] at hn
          | some e1 =>
            rw [hj] at hn ha
            simp only [Option.bind_some] at hn ha
            obtain ⟨a, b, hl, -, -⟩ := split_at hj
            simp only [L.fp, hl, L.fps_append, L.fps_cons] at hndy
            have h1 : e1.fp.Nodup := (List.nodup_append.1 (List.nodup_append.1 (List.nodup_cons.1 hndy).2).2.1).1
            refine L.addr_not_fp p e1 le (some g1) _ h1 (fun b' hb' hm => ?_) hn ha
            cases hb'
            exact (List.nodup_cons.1 hndy).1 (by simp [hm])
      | _ => simp at hn

theorem L.upd_hdr (u : Bool) (f : L → L) (e : L) (c j : Nat) (p : Path) (c' : Nat) : (e.upd u ((c, j) :: p) f).sk.hdr [] c' = e.sk.hdr [] c' := by
  simp only [L.upd]
  split
  · rename_i t h es hc
    split
    · rename_i e' he'
      simp only [Sk.hdr, Sk.nav, L.sk_cells, List.getElem?_map]
      by_cases hag : ∃ cs, e = .agg cs
      · obtain ⟨cs, rfl⟩ := hag
        simp only [L.cells] at hc
        simp only [L.put, L.cells]
        by_cases hcc : c = c'
        · subst hcc
          have hlt : c < cs.length := (List.getElem?_eq_some_iff.1 hc).1
          rw [List.getElem?_set_self hlt, hc]
          simp [L.sk, L.sks_eq]
        · rw [List.getElem?_set_ne hcc]
      · have hcl : e.cells = [e] := by cases e <;> first | rfl | exact absurd ⟨_, rfl⟩ hag
        have hp : ∀ x, e.put c x = x := fun x => by cases e <;> first | rfl | exact absurd ⟨_, rfl⟩ hag
        rw [hcl] at hc
        have hc0 : c = 0 := by
          cases c with
          | zero => rfl
          | succ c => simp at hc
        subst hc0
        simp only [List.getElem?_cons_zero, Option.some.injEq] at hc
        subst hc
        rw [hp]
        cases c' with
        | zero => simp [L.cells, L.sk, L.sks_eq]
        | succ c' => simp [L.cells]
    · rfl
  · rfl

theorem store_core {us0 : List (Nat × Bx)} (hB : SimB Γ (st.withB us0).box w LB S) {b : Nat} {B : BL} (hb : LB b = some B) (hbc : ((st.withB us0).box b).c = some B.c.er) {p : Path} {le : L} {g o off : Nat}
    (hn : B.c.nav p = some le) (ha : B.c.addr B.blk 0 p = some (some g, o)) {ls : List L} {xs : List X} {vs : List Value} (hls : Takens Γ w S ls xs vs) (hf : Free Γ w S LB (L.fps ls))
    (hoff : off + ls.length ≤ le.cells.length) (htg : p = [] ∨ ∀ l ∈ ls, ∀ (t : Nat) (hh : Option (Nat × Nat)) (es : List L), l ≠ .own (t + 1) hh es) :
    ∃ w' LB', (storeCells ⟨g, o + off, none⟩ vs).run P w = .ok () w' ∧ (∀ q, S q → w'.heap[q]? = w.heap[q]?) ∧
      SimB Γ (st.withB ((b, ((st.withB us0).box b).store p off (slice' le.er.cells off xs.length) xs) :: us0)).box w' LB' S ∧
      Adv (st.withB us0).box (st.withB ((b, ((st.withB us0).box b).store p off (slice' le.er.cells off xs.length) xs) :: us0)).box LB LB' ∧
      (p ≠ [] → ∀ B', LB' b = some B' → ∀ c', B'.c.sk.hdr [] c' = B.c.sk.hdr [] c') := by
  have hlx : xs.length = ls.length := by rw [← hls.er]; simp
  have hlv : vs.length = ls.length := by rw [← hls.flat]; simp
  rw [hlx]
  obtain ⟨B0, hB0, her0, hreal, hBm⟩ := (hB.bx b).get hbc
  rw [hb] at hB0; cases hB0
  have hnd := hB.nd b B hb
  have hloc := L.nav_loc p B.c B.blk 0 hBm.2 (fun g hg => (hBm.1 g hg).loc) hn ha
  have hlm := L.nav_mem p B.c hBm.2 hn
  obtain ⟨cur, ty, A, C, c1, c2, c3⟩ := hloc
  have hcells := L.puts_cells ls le off hoff hls.cell
  have hcl : (le.puts off ls).cells.length = le.cells.length := by rw [hcells]; simp; omega
  have hcflat : (le.puts off ls).cflat = le.cflat.take off ++ vs ++ le.cflat.drop (off + ls.length) := by
    rw [L.cflat, hcells, L.flats_append, L.flats_append]
    simp only [L.cflat, L.flats_eq, List.map_take, List.map_drop, hls.flat]
  have hcurlen : cur.size = A.length + le.cells.length + C.length := by rw [← Array.length_toList, c2]; simp [L.cflat_length]; omega
  have hrun := run_storeCells_at P g (o + off) ty vs 0 cur w c1 (by omega) hls.one
  have hnew : cur.toList.take (o + off + 0) ++ vs ++ cur.toList.drop (o + off + 0 + vs.length) = A ++ (le.puts off ls).cflat ++ C := by
    rw [hcflat, c2, ← c3, hlv, Nat.add_zero]
    simp only [List.append_assoc]
    rw [List.take_length_add_append, List.take_append_of_le_length (by rw [L.cflat_length]; omega), show A.length + off + ls.length = A.length + (off + ls.length) by omega,
      List.drop_length_add_append, List.drop_append_of_le_length (by rw [L.cflat_length]; omega), List.append_assoc]
  rw [hnew] at hrun
  generalize hw' : w.setRow g (A ++ (le.puts off ls).cflat ++ C).toArray = w' at hrun
  have hg' : w'.heap[g]? = some (.cells (A ++ (le.puts off ls).cflat ++ C).toArray ty (0, 0)) := by rw [← hw']; exact setRow_heap w g cur _ ty _ c1
  have hseg : Seg w w' g o le.cflat (le.puts off ls).cflat := ⟨cur, _, ty, A, C, c1, hg', c2, by simp, c3⟩
  have hoth : ∀ q, q ≠ g → w'.heap[q]? = w.heap[q]? := fun q hq => by rw [← hw']; exact setRow_other w g q _ hq
  have hsz : w'.heap.size = w.heap.size := by rw [← hw']; simp
  have hgB : g ∈ B.fp := by
    cases p with
    | nil => simp only [L.addr, Option.some.injEq, Prod.mk.injEq] at ha; simp [BL.fp, ha.1]
    | cons q0 p => simp [BL.fp, L.addr_fp (q0 :: p) B.c B.blk 0 (by simp) ha]
  have hgfr := hB.fr b B hb g hgB
  have hSs : ∀ q, S q → w'.heap[q]? = w.heap[q]? := fun q hq => hoth q (by rintro rfl; exact hgfr.1 hq)
  have hlsfree : ∀ q ∈ L.fps ls, q ≠ g := fun q hq => by rintro rfl; exact hf.dj b B hb q hq hgB
  -- the block g lies outside the cells' own footprints
  have hgle : g ∉ le.fp := by
    cases p with
    | nil =>
      simp only [L.nav, Option.some.injEq] at hn; subst hn
      simp only [L.addr, Option.some.injEq, Prod.mk.injEq] at ha
      exact (BL.nd B hnd).2 g ha.1
    | cons q0 p =>
      exact L.addr_not_fp (q0 :: p) B.c le B.blk 0 (BL.nd B hnd).1 (BL.nd B hnd).2 hn ha
  have hm' : (le.puts off ls).mem w' S := by
    refine L.mem_of_cells fun c hc => ?_
    rw [hcells] at hc
    rcases List.mem_append.1 hc with hc | hc
    · rcases List.mem_append.1 hc with hc | hc
      · have hc' := List.mem_of_mem_take hc
        exact L.mem_frame (fun _ h => h) hSs c (L.mem_cells hlm c hc') (fun q hq => hoth q (by rintro rfl; exact hgle (by rw [← L.cells_fp']; exact L.mem_fps hc' hq)))
      · exact L.mem_frame (fun _ h => h) hSs c (hls.mem c hc) (fun q hq => hoth q (hlsfree q (L.mem_fps hc hq)))
    · have hc' := List.mem_of_mem_drop hc
      exact L.mem_frame (fun _ h => h) hSs c (L.mem_cells hlm c hc') (fun q hq => hoth q (by rintro rfl; exact hgle (by rw [← L.cells_fp']; exact L.mem_fps hc' hq)))
  -- footprints
  have hlefp : ∃ A1 M1 C1, le.fp = A1 ++ M1 ++ C1 ∧ (le.puts off ls).fp = A1 ++ L.fps ls ++ C1 := by
    refine ⟨L.fps (le.cells.take off), L.fps ((le.cells.drop off).take ls.length), L.fps (le.cells.drop (off + ls.length)), ?_, ?_⟩
    · rw [← L.cells_fp', ← L.fps_append, ← L.fps_append]
      congr 1
      rw [List.append_assoc, ← List.drop_drop, List.take_append_drop, List.take_append_drop]
    · rw [← L.cells_fp', hcells, L.fps_append, L.fps_append]
  obtain ⟨A1, M1, C1, f1, f2⟩ := hlefp
  generalize hu : (!((slice' le.er.cells off ls.length).all X.isSc && xs.all X.isSc)) = u
  obtain ⟨A2, C2, f3, f4⟩ := L.upd_fp u p (le.puts off ls) hn
  have hBfp : B.fp = (B.blk.toList ++ A2 ++ A1) ++ M1 ++ (C1 ++ C2) := by simp only [BL.fp, f3, f1, List.append_assoc]
  let B' : BL := ⟨B.blk, B.c.upd u p fun _ => le.puts off ls⟩
  have hBfp' : B'.fp = (B.blk.toList ++ A2 ++ A1) ++ L.fps ls ++ (C1 ++ C2) := by simp only [B', BL.fp, f4, f2, List.append_assoc]
  have hnd0 := hnd
  rw [hBfp] at hnd0
  have hin : ∀ q, q ∈ (B.blk.toList ++ A2 ++ A1) ∨ q ∈ C1 ++ C2 → q ∈ B.fp := by
    intro q hq; rw [hBfp]
    rcases hq with hq | hq
    · exact List.mem_append.2 (.inl (List.mem_append.2 (.inl hq)))
    · exact List.mem_append.2 (.inr hq)
  have hnd' : B'.fp.Nodup := by
    rw [hBfp']
    refine List.nodup_append.2 ⟨List.nodup_append.2 ⟨(List.nodup_append.1 (List.nodup_append.1 hnd0).1).1, hf.nd, fun x hx y hy he => ?_⟩, (List.nodup_append.1 hnd0).2.1, fun x hx y hy he => ?_⟩
    · subst he; exact hf.dj b B hb x hy (hin x (.inl hx))
    · subst he
      rcases List.mem_append.1 hx with hx | hx
      · exact (List.nodup_append.1 hnd0).2.2 x (List.mem_append.2 (.inl hx)) x hy rfl
      · exact hf.dj b B hb x hx (hin x (.inr hy))
  have hsub : ∀ q ∈ B'.fp, q ∈ B.fp ∨ q ∈ L.fps ls := by
    intro q hq; rw [hBfp'] at hq
    rcases List.mem_append.1 hq with hq | hq
    · rcases List.mem_append.1 hq with hq | hq
      · exact .inl (hin q (.inl hq))
      · exact .inr hq
    · exact .inl (hin q (.inr hq))
  have hwr := BL.write u (S := S) (S' := S) (fun _ h => h) hSs hBm hnd hn ha hseg hcl hm' (fun q _ hq => hoth q hq)
  have hFr : Fr Γ.Fin Γ.w0 w' := by
    have h0 := hB.frame
    refine ⟨?_, ?_, ?_, by rw [hsz]; exact h0.size, fun k hk hn => ?_⟩
    · rw [← hw']; exact h0.os
    · rw [← hw']; exact h0.tape
    · rw [← hw']; exact h0.output
    · rw [hoth k ?_]
      · exact h0.block k hk hn
      · rintro rfl
        rcases hgfr.2.2 with h | h
        · exact hn h
        · omega
  have hskip : u = false → (le.puts off ls).sk = le.sk := by
    intro hu0
    rw [hu0] at hu
    simp only [Bool.not_eq_false', Bool.and_eq_true] at hu
    exact L.puts_sk hoff hls.cell hu.1 (by rw [hls.er]; exact hu.2)
  refine ⟨w', setLB LB b B', hrun, hSs, ?_, ?_, fun hpn B2 hB2 c' => ?_⟩
  rotate_left 2
  · rw [setLB_same] at hB2
    obtain rfl := Option.some.inj hB2
    cases p with
    | nil => exact absurd rfl hpn
    | cons q0 p => exact L.upd_hdr u _ B.c q0.1 q0.2 p c'
  · refine hB.set (b := b) (fun x hx => box_cons_other _ _ _ hx) ?_ hnd' (fun q hq => ⟨fun b2 h2 B2 hB2 hq2 => ?_, ?_⟩) (fun b2 h2 B2 hB2 q hq => hoth q (by rintro rfl; exact hB.dj b b2 B B2 (Ne.symm h2) hb hB2 _ hgB hq)) hSs
      (by rw [hsz]; exact Nat.le_refl _) hFr (fun i t hh es hi => ?_) (fun hb' q hq => hB.pb B (hb' ▸ hb) q hq)
    · rw [box_cons_same]
      unfold BxRel Bx.store
      rw [hbc]
      simp only [Option.map_some]
      refine ⟨?_, hreal, hwr.1⟩
      simp only [B', hu]
      rw [← L.upd_er u (fun e => e.puts off ls) (fun e => e.puts off xs) (fun e => by rw [L.puts_er, hls.er])]
      exact congrArg L.er (L.upd_const u (fun e => e.puts off ls) p hn).symm
    · rcases hsub q hq with h | h
      · exact hB.dj b b2 B B2 (Ne.symm h2) hb hB2 q h hq2
      · exact hf.dj b2 B2 hB2 q h hq2
    · rw [hsz]
      rcases hsub q hq with h | h
      · exact hB.fr b B hb q h
      · exact hf.fr q h
    · rcases L.upd_tag u hn hskip hi with ⟨rfl, h1⟩ | ⟨es0, h1, h2⟩
      · rw [hcells] at h1
        have hmem := List.mem_of_getElem? h1
        rcases List.mem_append.1 hmem with hc | hc
        · rcases List.mem_append.1 hc with hc | hc
          · simp only [L.nav, Option.some.injEq] at hn; subst hn
            obtain ⟨i', hi'⟩ := List.getElem?_of_mem (List.mem_of_mem_take hc)
            exact hB.tag b B hb i' t hh es hi'
          · exact hls.tag _ hc t hh es rfl
        · simp only [L.nav, Option.some.injEq] at hn; subst hn
          obtain ⟨i', hi'⟩ := List.getElem?_of_mem (List.mem_of_mem_drop hc)
          exact hB.tag b B hb i' t hh es hi'
      · rw [h2]; exact hB.tag b B hb i t hh es0 h1
  · refine ⟨fun x => ?_, fun x => ?_, fun x hx Bq hq' => ?_, fun x hx Bq hq' => ?_⟩
    · by_cases h : x = b
      · subst h; rw [box_cons_same]; exact Nat.le_refl _
      · rw [box_cons_other _ _ _ h]; exact Nat.le_refl _
    · by_cases h : x = b
      · subst h; rw [box_cons_same]; simp only [Bx.store]; split <;> omega
      · rw [box_cons_other _ _ _ h]; exact Nat.le_refl _
    · by_cases h : x = b
      · subst h; rw [setLB_same] at hq'; cases hq'; exact ⟨B, hb, rfl⟩
      · rw [setLB_other LB B' h] at hq'; exact ⟨Bq, hq', rfl⟩
    · by_cases h : x = b
      · subst h
        rw [setLB_same] at hq'; cases hq'
        rw [box_cons_same] at hx
        simp only [Bx.store] at hx
        split at hx
        · rename_i hall
          have hu0 : u = false := by rw [← hu, hall]; rfl
          exact ⟨B, hb, rfl, (L.upd_sk u p (le.puts off ls) hn (hskip hu0)).symm⟩
        · omega
      · rw [setLB_other LB B' h] at hq'; exact ⟨Bq, hq', rfl, rfl⟩

theorem take_of_takes {x : X} {xs : List X} {us : List (Nat × Bx)} (h : st.takes x.cells = some (xs, us)) : ∃ y, st.take x = some (y, us) ∧ ((∃ cs, x = .agg cs) → y = .agg xs) ∧ (¬ (∃ cs, x = .agg cs) → xs = [y]) := by
  by_cases hag : ∃ cs, x = .agg cs
  · obtain ⟨cs, rfl⟩ := hag
    exact ⟨.agg xs, by simp only [St.take]; rw [show st.takes cs = some (xs, us) from h]; rfl, fun _ => rfl, fun hn => absurd ⟨_, rfl⟩ hn⟩
  · have hc : x.cells = [x] := by cases x <;> first | rfl | exact absurd ⟨_, rfl⟩ hag
    rw [hc] at h
    simp only [St.takes, St.takesG, bumps, List.foldl_nil] at h
    cases h1 : st.take1 x with
    | none => simp [h1] at h
    | some z =>
      obtain ⟨y, us1⟩ := z
      simp only [h1, Option.bind_some, Option.map_some, Option.some.injEq, Prod.mk.injEq, List.nil_append] at h
      obtain ⟨rfl, rfl⟩ := h
      have ht : st.take x = st.take1 x := by cases x <;> first | rfl | exact absurd ⟨_, rfl⟩ hag
      exact ⟨y, by rw [ht, h1], fun h => absurd h hag, fun _ => rfl⟩

theorem Takens.untags {ls : List L} {xs : List X} {vs : List Value} (h : Takens Γ w S ls xs vs) : Takens Γ w S (ls.map L.untag) (xs.map X.untag) vs ∧ L.fps (ls.map L.untag) = L.fps ls := by
  refine ⟨⟨?_, ?_, fun l hl => ?_, fun l hl t hh es he => ?_, h.one, fun l hl => ?_⟩, ?_⟩
  · rw [← h.er, List.map_map, List.map_map]
    exact List.map_congr_left fun l hl => (L.untag_spec w S l (h.cell l hl)).1
  · rw [← h.flat, List.map_map]
    exact List.map_congr_left fun l hl => (L.untag_spec w S l (h.cell l hl)).2.1
  · obtain ⟨q, hq, rfl⟩ := List.mem_map.1 hl
    exact (L.untag_spec w S q (h.cell q hq)).2.2.1 (h.mem q hq)
  · obtain ⟨q, hq, rfl⟩ := List.mem_map.1 hl
    exact absurd he (L.untag_tag q t hh es)
  · obtain ⟨q, hq, rfl⟩ := List.mem_map.1 hl
    exact (L.untag_spec w S q (h.cell q hq)).2.2.2.2.2
  · rw [L.fps_eq, L.fps_eq, List.flatMap_map]
    have hfp : ∀ l ∈ ls, l.untag.fp = l.fp := fun l hl => (L.untag_spec w S l (h.cell l hl)).2.2.2.1
    clear h
    induction ls with
    | nil => rfl
    | cons l ls ih => simp only [List.flatMap_cons, hfp l (by simp), ih (fun l hl => hfp l (by simp [hl]))]

theorem store_sound2 (h : SimL Γ st a w LB S) {o : Oper} (hd : DstOK Γ.n o) {t : TypeId} {y z : Operand} (ho : o.op = .store t y z) {side : Prop} {r : X} {us : List (Nat × Bx)}
    (he : evStore P st t (st.opd y) (st.opd z) = .ok side r us) : ∃ w' LB', (execOp a.eval o).run P w = .ok .skip w' ∧ SimL Γ (st.put o.dst r us) (a.put o.dst undef) w' LB' S ∧
      ∀ b ver q p off, st.opd y = .ep b ver (q :: p) off → ∀ c u, TRel st.box LB w S (.view b ver [] c) u → TRel (st.put o.dst r us).box LB' w' S (.view b ((st.put o.dst r us).box b).ver [] c) u := by
  unfold evStore at he
  cases htk : st.takes (st.opd z).cells with
  | none => simp [htk] at he
  | some q =>
    obtain ⟨xs, us1⟩ := q
    rw [htk] at he
    simp only at he
    split at he
    · simp at he
    · rename_i hsz
      simp only [not_or, Classical.not_not] at hsz
      obtain ⟨y', ht, hy1, hy2⟩ := take_of_takes htk
      have hz := h.opd z
      obtain ⟨LB1, c, ls, k1, k2, k3, k4, k5, k6, k7, k8, k9, k10, -⟩ := take_sound h.toB ht hz
      have hxs : y'.cells = xs := by
        by_cases hag : ∃ cs, st.opd z = .agg cs
        · rw [hy1 hag]; rfl
        · have := ((take_cells h.toB ht hz).2.2.2.1 hag).1
          rw [this, hy2 hag]
      rw [hxs] at k3
      rw [k10] at k4
      have hlx : xs.length = ls.length := by rw [← k3.er]; simp
      have hvs : (a.eval z).cells.size = tSize P t := by
        have := congrArg List.length k3.flat
        simp at this
        omega
      have hszr : (sizeOf t).run P w = .ok (tSize P t) w := sizeOf_run (by omega)
      have hy := TRel.adv k2 (S := S) (S' := S) (w := w) (w' := w) (fun _ h => h) (fun _ _ => rfl) _ _ (h.opd y)
      have hrun : ∀ (g o' : Nat) (w2 : World), a.eval y = .pointer (some ⟨g, o', none⟩) → (storeCells ⟨g, o', none⟩ (a.eval z).cells.toList).run P w = .ok () w2 → (execOp a.eval o).run P w = .ok .skip w2 := by
        intro g o' w2 h1 h2
        simp [execOp, ho, Instr.storeAt, h1, Instr.sureAddr, storeVar, hszr, hvs, h2]
      split at he
      · rename_i b bn off heq
        split at he
        · rename_i e hc
          split at he
          · rename_i hcond
            simp only [Ev.ok.injEq] at he
            obtain ⟨-, rfl, rfl⟩ := he
            obtain ⟨B, hB, her, hreal, hBm⟩ := (k1.bx b).get hc
            subst her
            rw [heq] at hy
            obtain ⟨g, hg, hgv⟩ := hy.2 hcond.1 B hB
            have hcl : B.c.er.cells.length = B.c.cells.length := by rw [L.er_cells]; simp
            obtain ⟨w2, LB2, r1, r2, r3, r4, r5⟩ := store_core (P := P) k1 hB hc (p := []) (le := B.c) (g := g) (o := 0) (off := off) rfl (by simp [L.addr, hg]) k3 k4 (by omega) (.inl rfl)
            rw [show xs.length = tSize P t from hsz.1] at r3 r4
            rw [Nat.zero_add] at r1
            exact ⟨w2, LB2, hrun g off w2 hgv r1, h.next (k2.trans r4) (fun _ h => h) r2 r3 hd.2 trivial, fun b' ver' q' p' off' hq' => by rw [heq] at hq'; cases hq'⟩
          · simp at he
        · simp at he
      · rename_i b ver p off heq
        split at he
        · rename_i cx hc
          split at he
          · rename_i e hnav
            split at he
            · rename_i hcond
              simp only [Ev.ok.injEq] at he
              obtain ⟨-, rfl, rfl⟩ := he
              obtain ⟨B, hB, her, hreal, hBm⟩ := (k1.bx b).get hc
              subst her
              rw [L.nav_er] at hnav
              cases hln : B.c.nav p with
              | none => simp [hln] at hnav
              | some le =>
                simp only [hln, Option.map_some, Option.some.injEq] at hnav
                subst hnav
                rw [heq] at hy
                obtain ⟨g, o', ha, hgv⟩ := hy.2 hcond.1 B hB
                rw [L.sk_addr] at ha
                have hcl : le.er.cells.length = le.cells.length := by rw [L.er_cells]; simp
                obtain ⟨k3', k4'⟩ := k3.untags
                obtain ⟨w2, LB2, r1, r2, r3, r4, r5⟩ := store_core (P := P) k1 hB hc (p := p) (le := le) (off := off) hln ha k3' (by rw [k4']; exact k4) (by simp; omega)
                  (.inr fun l hl t hh es he => by obtain ⟨q, -, rfl⟩ := List.mem_map.1 hl; exact L.untag_tag q t hh es he)
                rw [List.length_map, show xs.length = tSize P t from hsz.1] at r3 r4
                refine ⟨w2, LB2, hrun g _ w2 hgv r1, h.next (k2.trans r4) (fun _ h => h) r2 r3 hd.2 trivial, fun b' ver' q' p' off' hq' c' u' hu' => ?_⟩
                rw [heq] at hq'; cases hq'
                have hu2 := TRel.adv k2 (S := S) (S' := S) (w := w) (w' := w) (fun _ h => h) (fun _ _ => rfl) _ _ hu'
                have hu3 := hu2.2 hcond.1 B hB
                exact ⟨Nat.le_refl _, fun _ B' hB' => by rw [r5 (by simp) B' hB' c']; exact hu3⟩
            · simp at he
          · simp at he
        · simp at he
      · simp at he

theorem store_sound (h : SimL Γ st a w LB S) {o : Oper} (hd : DstOK Γ.n o) {t : TypeId} {y z : Operand} (ho : o.op = .store t y z) {side : Prop} {r : X} {us : List (Nat × Bx)}
    (he : evStore P st t (st.opd y) (st.opd z) = .ok side r us) : OpOK P Γ o a w (st.put o.dst r us) := by
  obtain ⟨w', LB', h1, h2, -⟩ := store_sound2 h hd ho he
  exact ⟨.skip, w', LB', S, h1, .inr ⟨rfl, h2⟩⟩

end Go.Proofs.Ytncjcbdbdocjaaa.Ax
