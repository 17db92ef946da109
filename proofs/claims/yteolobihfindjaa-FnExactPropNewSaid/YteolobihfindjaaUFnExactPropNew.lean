/- Plain Lean functions, one for each Go function that the law reaches. -/
import Derived.Test.YteolobihfindjaaK4
set_option linter.unusedVariables false
namespace Go.Proofs.Yteolobihfindjaa
open Go Ax

def fuel : Nat := 4611686018427387904

def laws_eqIntS_l1 (a1 : (List Int)) : List Int → Nat → Option (Bool)
  | [], i1 => some true
  | x10 :: t1, i1 => ((ix a1 (i1 : Int)).bind fun x20 => (bif (x10 != x20) then some false else (laws_eqIntS_l1 a1 t1 (i1 + 1))))
def laws_eqIntS (a0 : (List Int)) (a1 : (List Int)) : Option (Bool) :=
  (bif ((a0.length : Int) != (a1.length : Int)) then some false else (laws_eqIntS_l1 a1 a0 0))

def laws_eqProp (a0 : SProp) (a1 : SProp) : Option (Bool) :=
  (bif (a0.fBal != a1.fBal) then some false else (bif (a0.fVal != a1.fVal) then some false else ((laws_eqIntS a0.fFrom a1.fFrom).bind fun v8 => (bif (!v8) then some false else (bif (a0.fBest != a1.fBest) then some false else ((laws_eqIntS a0.fGot a1.fGot).bind fun v13 => (bif (!v13) then some false else some true)))))))

def spec_l01In (a0 : Int) (a1 : Int) (a2 : Int) : Option (Bool) :=
  (bif (decide (a0 ≥ a1)) then some (decide (a0 ≤ a2)) else some false)

def spec_l07Val (a0 : Int) : Option (Bool) :=
  ((spec_l01In a0 1 4).bind fun v1 => some v1)

def spec_l07Node (a0 : Int) : Option (Bool) :=
  ((spec_l01In a0 0 3).bind fun v1 => some v1)

def spec_l07Rise_l1 (a0 : (List Int)) : List Int → Nat → Option (Bool)
  | [], i1 => some true
  | x10 :: t1, i1 => ((spec_l07Node x10).bind fun v26 => (bif (!v26) then some false else (bif (decide ((i1 : Int) > 0)) then ((ix a0 (w64 ((i1 : Int) - 1))).bind fun x30 => (bif (decide (x30 ≥ x10)) then some false else (spec_l07Rise_l1 a0 t1 (i1 + 1)))) else (spec_l07Rise_l1 a0 t1 (i1 + 1)))))
def spec_l07Rise (a0 : (List Int)) : Option (Bool) :=
  (spec_l07Rise_l1 a0 a0 0)

def spec_PropOk (a0 : SProp) : Option (Bool) :=
  ((spec_l01In a0.fBal 1 1125899906842624).bind fun v1 => (bif v1 then ((spec_l07Val a0.fVal).bind fun v4 => (bif v4 then ((spec_l07Rise a0.fFrom).bind fun v7 => (bif v7 then ((spec_l07Rise a0.fGot).bind fun v10 => (bif v10 then ((spec_l01In a0.fBest 0 (w64 (a0.fBal - 1))).bind fun v13 => some v13) else some false)) else some false)) else some false)) else some false))

def spec_PropNew (a0 : Int) (a1 : Int) : Option (SProp × Bool) :=
  ((spec_PropOk (SProp.mk a0 a1 [] 0 [])).bind fun v3 => (bif (!v3) then some ((SProp.mk 0 0 [] 0 []), false) else some ((SProp.mk a0 a1 [] 0 []), true)))

def impl_in (a0 : Int) (a1 : Int) (a2 : Int) : Option (Bool) :=
  (bif (decide (a0 ≥ a1)) then some (decide (a0 ≤ a2)) else some false)

def impl_isChoice (a0 : Int) : Option (Bool) :=
  ((impl_in a0 1 4).bind fun v1 => some v1)

def impl_isBallot (a0 : Int) : Option (Bool) :=
  ((impl_in a0 1 1125899906842624).bind fun v1 => some v1)

def impl_nodesOk_l1 (a0 : (List Int)) (a1 : Int) : List Int → Nat → Option (Bool)
  | [], i1 => some true
  | x10 :: t1, i1 => ((impl_in x10 0 (w64 (a1 - 1))).bind fun v26 => (bif (!v26) then some false else (bif (decide ((i1 : Int) > 0)) then ((ix a0 (w64 ((i1 : Int) - 1))).bind fun x30 => (bif (decide (x30 ≥ x10)) then some false else (impl_nodesOk_l1 a0 a1 t1 (i1 + 1)))) else (impl_nodesOk_l1 a0 a1 t1 (i1 + 1)))))
def impl_nodesOk (a0 : (List Int)) (a1 : Int) : Option (Bool) :=
  (impl_nodesOk_l1 a0 a1 a0 0)

def impl_PropOk (a0 : SProp) : Option (Bool) :=
  ((impl_isBallot a0.fBal).bind fun v1 => (bif v1 then ((impl_isChoice a0.fVal).bind fun v4 => (bif v4 then ((impl_nodesOk a0.fFrom 4).bind fun v7 => (bif v7 then ((impl_nodesOk a0.fGot 4).bind fun v10 => (bif v10 then ((impl_in a0.fBest 0 (w64 (a0.fBal - 1))).bind fun v13 => some v13) else some false)) else some false)) else some false)) else some false))

def impl_PropNew (a0 : Int) (a1 : Int) : Option (SProp × Bool) :=
  ((impl_PropOk (SProp.mk a0 a1 [] 0 [])).bind fun v3 => (bif (!v3) then some ((SProp.mk 0 0 [] 0 []), false) else some ((SProp.mk a0 a1 [] 0 []), true)))

def laws_markIntS_l1 : Nat → Int → Int → (List Int) → Option ((Int) × (List Int))
  | 0, _, _, _ => none
  | n1 + 1, y8, y9, y10 => (bif (decide (y8 < (y10.length : Int))) then ((ix y10 y8).bind fun x20 => (laws_markIntS_l1 n1) (w64 (y8 + 1)) (w64 (y9 + 1)) (List.set y10 (Int.toNat y8) y9)) else some (y9, y10))
def laws_markIntS (a0 : (List Int)) (a1 : Int) : Option ((Int) × (List Int)) :=
  (laws_markIntS_l1 fuel 0 a1 a0)

def laws_markProp (a0 : SProp) (a1 : Int) : Option ((Int) × SProp) :=
  ((laws_markIntS a0.fFrom a1).bind fun v3 => ((laws_markIntS a0.fGot v3.1).bind fun v5 => some (v5.1, { a0 with fFrom := v3.2, fGot := v5.2 })))

def laws_heldIntS_l1 : List Int → Nat → Int → Option (Int)
  | [], i1, y9 => some y9
  | x10 :: t1, i1, y9 => (bif (x10 != y9) then some (-1) else (laws_heldIntS_l1 t1 (i1 + 1)) (w64 (y9 + 1)))
def laws_heldIntS (a0 : (List Int)) (a1 : Int) : Option (Int) :=
  (laws_heldIntS_l1 a0 0 a1)

def laws_heldProp (a0 : SProp) (a1 : Int) : Option (Int) :=
  ((laws_heldIntS a0.fFrom a1).bind fun v3 => (bif (decide (v3 < 0)) then some (-1) else ((laws_heldIntS a0.fGot v3).bind fun v9 => (bif (decide (v9 < 0)) then some (-1) else some v9))))

def laws_FnExactPropNew (a0 : Int) (a1 : Int) : Option (Bool) :=
  ((spec_PropNew a0 a1).bind fun v3 => ((impl_PropNew a0 a1).bind fun v7 => ((laws_eqProp v7.1 v3.1).bind fun v13 => (bif (!v13) then some false else (bif (v7.2 != v3.2) then some false else ((laws_markProp v7.1 1).bind fun v19 => ((laws_heldProp { v7.1 with fFrom := v19.2.fFrom, fGot := v19.2.fGot } 1).bind fun v23 => (bif (decide (v23 < 0)) then some false else (bif (v23 != v19.1) then some false else ((impl_PropNew a0 a1).bind fun v31 => ((laws_eqProp v31.1 v3.1).bind fun v37 => (bif (!v37) then some false else (bif (v31.2 != v3.2) then some false else ((laws_heldProp { v7.1 with fFrom := v19.2.fFrom, fGot := v19.2.fGot } 1).bind fun v43 => (bif (decide (v43 < 0)) then some false else (bif (v43 != v19.1) then some false else some true))))))))))))))))

end Go.Proofs.Yteolobihfindjaa
