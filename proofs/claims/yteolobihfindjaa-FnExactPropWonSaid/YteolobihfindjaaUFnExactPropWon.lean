/- Plain Lean functions, one for each Go function that the law reaches. -/
import Derived.Test.YteolobihfindjaaK4
set_option linter.unusedVariables false
namespace Go.Proofs.Yteolobihfindjaa
open Go Ax

def fuel : Nat := 4611686018427387904

def laws_szIntS (a0 : (List Int)) (a1 : Int) : Option (Int) :=
  (bif (decide ((w64 (a1 - (a0.length : Int))) < 0)) then some (-1) else some (w64 (a1 - (a0.length : Int))))

def laws_szProp (a0 : SProp) (a1 : Int) : Option (Int) :=
  ((laws_szIntS a0.fFrom a1).bind fun v3 => (bif (decide (v3 < 0)) then some (-1) else ((laws_szIntS a0.fGot v3).bind fun v9 => (bif (decide (v9 < 0)) then some (-1) else some v9))))

def laws_toIntS_l1 : List Int → Nat → (List Int) → Option ((List Int))
  | [], i1, y12 => some y12
  | x10 :: t1, i1, y12 => ((ix y12 (i1 : Int)).bind fun x21 => (laws_toIntS_l1 t1 (i1 + 1)) (List.set y12 (Int.toNat (i1 : Int)) x10))
def laws_toIntS (a0 : (List Int)) : Option ((List Int)) :=
  (gO (0 ≤ (a0.length : Int) ∧ room 8 (Int.toNat (a0.length : Int))) ((laws_toIntS_l1 a0 0 (List.replicate (Int.toNat (a0.length : Int)) 0))))

def laws_toProp (a0 : SProp) : Option (SProp) :=
  ((laws_toIntS a0.fFrom).bind fun v3 => ((laws_toIntS a0.fGot).bind fun v5 => some { a0 with fFrom := v3, fGot := v5 }))

def laws_eqIntS_l1 (a1 : (List Int)) : List Int → Nat → Option (Bool)
  | [], i1 => some true
  | x10 :: t1, i1 => ((ix a1 (i1 : Int)).bind fun x20 => (bif (x10 != x20) then some false else (laws_eqIntS_l1 a1 t1 (i1 + 1))))
def laws_eqIntS (a0 : (List Int)) (a1 : (List Int)) : Option (Bool) :=
  (bif ((a0.length : Int) != (a1.length : Int)) then some false else (laws_eqIntS_l1 a1 a0 0))

def laws_eqProp (a0 : SProp) (a1 : SProp) : Option (Bool) :=
  (bif (a0.fBal != a1.fBal) then some false else (bif (a0.fVal != a1.fVal) then some false else ((laws_eqIntS a0.fFrom a1.fFrom).bind fun v8 => (bif (!v8) then some false else (bif (a0.fBest != a1.fBest) then some false else ((laws_eqIntS a0.fGot a1.fGot).bind fun v13 => (bif (!v13) then some false else some true)))))))

def spec_l01In (a0 : Int) (a1 : Int) (a2 : Int) : Option (Bool) :=
  (bif (decide (a0 ≥ a1)) then some (decide (a0 ≤ a2)) else some false)

def spec_l07Val (a0 : Int) : Option (Bool) :=
  ((spec_l01In a0 1 4).bind fun v1 => some v1)

def spec_l07Node (a0 : Int) : Option (Bool) :=
  ((spec_l01In a0 0 3).bind fun v1 => some v1)

def spec_l07Rise_l1 (a0 : (List Int)) : List Int → Nat → Option (Bool)
  | [], i1 => some true
  | x10 :: t1, i1 => ((spec_l07Node x10).bind fun v26 => (bif (!v26) then some false else (bif (decide ((i1 : Int) > 0)) then ((ix a0 (w64 ((i1 : Int) - 1))).bind fun x30 => (bif (decide (x30 ≥ x10)) then some false else (spec_l07Rise_l1 a0 t1 (i1 + 1)))) else (spec_l07Rise_l1 a0 t1 (i1 + 1)))))
def spec_l07Rise (a0 : (List Int)) : Option (Bool) :=
  (spec_l07Rise_l1 a0 a0 0)

def spec_PropOk (a0 : SProp) : Option (Bool) :=
  ((spec_l01In a0.fBal 1 1125899906842624).bind fun v1 => (bif v1 then ((spec_l07Val a0.fVal).bind fun v4 => (bif v4 then ((spec_l07Rise a0.fFrom).bind fun v7 => (bif v7 then ((spec_l07Rise a0.fGot).bind fun v10 => (bif v10 then ((spec_l01In a0.fBest 0 (w64 (a0.fBal - 1))).bind fun v13 => some v13) else some false)) else some false)) else some false)) else some false))

def spec_IsMost (a0 : Int) (a1 : Int) : Option (Bool) :=
  some (decide (a0 > (Int.fdiv a1 (2 ^ 1))))

def spec_PropReady (a0 : SProp) (a1 : Int) : Option (Bool) :=
  ((spec_PropOk a0).bind fun v1 => (bif v1 then ((spec_IsMost (a0.fFrom.length : Int) a1).bind fun v4 => some v4) else some false))

def spec_PropWon (a0 : SProp) (a1 : Int) : Option (Bool) :=
  ((spec_PropReady a0 a1).bind fun v1 => (bif v1 then ((spec_IsMost (a0.fGot.length : Int) a1).bind fun v4 => some v4) else some false))

def impl_IsMost (a0 : Int) (a1 : Int) : Option (Bool) :=
  some (decide (a0 > (Int.fdiv a1 (2 ^ 1))))

def impl_in (a0 : Int) (a1 : Int) (a2 : Int) : Option (Bool) :=
  (bif (decide (a0 ≥ a1)) then some (decide (a0 ≤ a2)) else some false)

def impl_isChoice (a0 : Int) : Option (Bool) :=
  ((impl_in a0 1 4).bind fun v1 => some v1)

def impl_isBallot (a0 : Int) : Option (Bool) :=
  ((impl_in a0 1 1125899906842624).bind fun v1 => some v1)

def impl_nodesOk_l1 (a0 : (List Int)) (a1 : Int) : List Int → Nat → Option (Bool)
  | [], i1 => some true
  | x10 :: t1, i1 => ((impl_in x10 0 (w64 (a1 - 1))).bind fun v26 => (bif (!v26) then some false else (bif (decide ((i1 : Int) > 0)) then ((ix a0 (w64 ((i1 : Int) - 1))).bind fun x30 => (bif (decide (x30 ≥ x10)) then some false else (impl_nodesOk_l1 a0 a1 t1 (i1 + 1)))) else (impl_nodesOk_l1 a0 a1 t1 (i1 + 1)))))
def impl_nodesOk (a0 : (List Int)) (a1 : Int) : Option (Bool) :=
  (impl_nodesOk_l1 a0 a1 a0 0)

def impl_PropOk (a0 : SProp) : Option (Bool) :=
  ((impl_isBallot a0.fBal).bind fun v1 => (bif v1 then ((impl_isChoice a0.fVal).bind fun v4 => (bif v4 then ((impl_nodesOk a0.fFrom 4).bind fun v7 => (bif v7 then ((impl_nodesOk a0.fGot 4).bind fun v10 => (bif v10 then ((impl_in a0.fBest 0 (w64 (a0.fBal - 1))).bind fun v13 => some v13) else some false)) else some false)) else some false)) else some false))

def impl_PropReady (a0 : SProp) (a1 : Int) : Option (Bool) :=
  ((impl_PropOk a0).bind fun v1 => (bif v1 then ((impl_IsMost (a0.fFrom.length : Int) a1).bind fun v4 => some v4) else some false))

def impl_PropWon (a0 : SProp) (a1 : Int) : Option (Bool) :=
  ((impl_PropReady a0 a1).bind fun v1 => (bif v1 then ((impl_IsMost (a0.fGot.length : Int) a1).bind fun v4 => some v4) else some false))

def laws_FnExactPropWon (a0 : SProp) (a1 : Int) : Option (Bool) :=
  ((laws_szProp a0 1048576).bind fun v3 => (bif (decide (v3 < 0)) then some true else ((laws_toProp a0).bind fun v11 => ((spec_PropWon v11 a1).bind fun v13 => ((laws_toProp a0).bind fun v17 => ((impl_PropWon v17 a1).bind fun v21 => (bif (v21 != v13) then some false else ((laws_toProp a0).bind fun v25 => ((laws_eqProp v17 v25).bind fun v27 => (bif (!v27) then some false else some true))))))))))

end Go.Proofs.Yteolobihfindjaa
