/- Plain Lean functions, one for each Go function that the law reaches. -/
import Derived.Test.YtncjcbdbdocjaaaK4
set_option linter.unusedVariables false
namespace Go.Proofs.Ytncjcbdbdocjaaa
open Go Ax

def fuel : Nat := 4611686018427387904

def impl_in (a0 : Int) (a1 : Int) (a2 : Int) : Option (Bool) :=
  (bif (decide (a0 ≥ a1)) then some (decide (a0 ≤ a2)) else some false)

def impl_isChoice (a0 : Int) : Option (Bool) :=
  ((impl_in a0 1 4).bind fun v1 => some v1)

def impl_isBallot (a0 : Int) : Option (Bool) :=
  ((impl_in a0 1 1125899906842624).bind fun v1 => some v1)

def impl_nodesOk_l1 (a0 : (List Int)) (a1 : Int) : List Int → Nat → Option (Bool)
  | [], i1 => some true
  | x10 :: t1, i1 => ((impl_in x10 0 (w64 (a1 - 1))).bind fun v26 => (bif (!v26) then some false else (bif (decide ((i1 : Int) > 0)) then ((ix a0 (w64 ((i1 : Int) - 1))).bind fun x30 => (bif (decide (x30 ≥ x10)) then some false else (impl_nodesOk_l1 a0 a1 t1 (i1 + 1)))) else (impl_nodesOk_l1 a0 a1 t1 (i1 + 1)))))
def impl_nodesOk (a0 : (List Int)) (a1 : Int) : Option (Bool) :=
  (impl_nodesOk_l1 a0 a1 a0 0)

def impl_PropOk (a0 : SProp) : Option (Bool) :=
  ((impl_isBallot a0.fBal).bind fun v1 => (bif v1 then ((impl_isChoice a0.fVal).bind fun v4 => (bif v4 then ((impl_nodesOk a0.fFrom 4).bind fun v7 => (bif v7 then ((impl_nodesOk a0.fGot 4).bind fun v10 => (bif v10 then ((impl_in a0.fBest 0 (w64 (a0.fBal - 1))).bind fun v13 => some v13) else some false)) else some false)) else some false)) else some false))

def impl_isNode (a0 : Int) : Option (Bool) :=
  ((impl_in a0 0 3).bind fun v1 => some v1)

def impl_copyInts (a0 : (List Int)) : Option ((List Int)) :=
  (gO (room 8 (([] : List Int).length + a0.length)) (some a0))

def impl_copyProp (a0 : SProp) : Option (SProp) :=
  ((impl_copyInts a0.fFrom).bind fun v1 => ((impl_copyInts a0.fGot).bind fun v3 => some { a0 with fFrom := v1, fGot := v3 }))

def impl_hasInt_l1 (a1 : Int) : List Int → Nat → Option (Bool)
  | [], i1 => some false
  | x10 :: t1, i1 => (bif (x10 == a1) then some true else (impl_hasInt_l1 a1 t1 (i1 + 1)))
def impl_hasInt (a0 : (List Int)) (a1 : Int) : Option (Bool) :=
  (impl_hasInt_l1 a1 a0 0)

def impl_insertInt_j1 (a0 : (List Int)) (a1 : Int) (y31 : Int) : Option ((List Int)) :=
  (gO ((0 : Int) ≤ 0 ∧ 0 ≤ y31 ∧ y31 ≤ (a0.length : Int)) (((impl_copyInts (List.take (Int.toNat y31 - Int.toNat 0) (List.drop (Int.toNat 0) a0))).bind fun v37 => (gO (room 8 (v37.length + [a1].length)) ((gO ((0 : Int) ≤ y31 ∧ y31 ≤ (a0.length : Int) ∧ (a0.length : Int) ≤ (a0.length : Int)) ((gO (room 8 ((v37 ++ [a1]).length + (List.take (Int.toNat (a0.length : Int) - Int.toNat y31) (List.drop (Int.toNat y31) a0)).length)) (some ((v37 ++ [a1]) ++ (List.take (Int.toNat (a0.length : Int) - Int.toNat y31) (List.drop (Int.toNat y31) a0))))))))))))
def impl_insertInt_l2 (a0 : (List Int)) (a1 : Int) : Nat → Int → Option ((List Int))
  | 0, _ => none
  | n2 + 1, y51 => (bif (decide (y51 < (a0.length : Int))) then ((ix a0 y51).bind fun x69 => (bif (decide (x69 ≤ a1)) then (impl_insertInt_l2 a0 a1 n2) (w64 (y51 + 1)) else impl_insertInt_j1 a0 a1 y51)) else impl_insertInt_j1 a0 a1 y51)
def impl_insertInt (a0 : (List Int)) (a1 : Int) : Option ((List Int)) :=
  (impl_insertInt_l2 a0 a1 fuel 0)

def impl_PropHear_j1 (a0 : SProp) (a1 : Int) (a2 : Int) (a3 : Int) (v3 : SProp) : Option (SProp) :=
  ((impl_insertInt a0.fFrom a1).bind fun v23 => (bif (decide (a2 > a0.fBest)) then some (SProp.mk v3.fBal a3 v23 a2 v3.fGot) else some { v3 with fFrom := v23 }))
def impl_PropHear (a0 : SProp) (a1 : Int) (a2 : Int) (a3 : Int) : Option (SProp) :=
  ((impl_copyProp a0).bind fun v3 => ((impl_PropOk a0).bind fun v26 => (bif (!v26) then some v3 else ((impl_isNode a1).bind fun v29 => (bif (!v29) then some v3 else ((impl_hasInt a0.fFrom a1).bind fun v32 => (bif v32 then some v3 else ((impl_in a2 0 (w64 (a0.fBal - 1))).bind fun v35 => (bif (!v35) then some v3 else (bif (decide (a2 > 0)) then ((impl_isChoice a3).bind fun v39 => (bif (!v39) then some v3 else impl_PropHear_j1 a0 a1 a2 a3 v3)) else impl_PropHear_j1 a0 a1 a2 a3 v3))))))))))

def laws_szIntS (a0 : (List Int)) (a1 : Int) : Option (Int) :=
  (bif (decide ((w64 (a1 - (a0.length : Int))) < 0)) then some (-1) else some (w64 (a1 - (a0.length : Int))))

def laws_szProp (a0 : SProp) (a1 : Int) : Option (Int) :=
  ((laws_szIntS a0.fFrom a1).bind fun v3 => (bif (decide (v3 < 0)) then some (-1) else ((laws_szIntS a0.fGot v3).bind fun v9 => (bif (decide (v9 < 0)) then some (-1) else some v9))))

def laws_toIntS_l1 : List Int → Nat → (List Int) → Option ((List Int))
  | [], i1, y12 => some y12
  | x10 :: t1, i1, y12 => ((ix y12 (i1 : Int)).bind fun x21 => (laws_toIntS_l1 t1 (i1 + 1)) (List.set y12 (Int.toNat (i1 : Int)) x10))
def laws_toIntS (a0 : (List Int)) : Option ((List Int)) :=
  (gO ((0 : Int) ≤ (a0.length : Int) ∧ room 8 (Int.toNat (a0.length : Int))) ((laws_toIntS_l1 a0 0 (List.replicate (Int.toNat (a0.length : Int)) 0))))

def laws_toProp (a0 : SProp) : Option (SProp) :=
  ((laws_toIntS a0.fFrom).bind fun v3 => ((laws_toIntS a0.fGot).bind fun v5 => some { a0 with fFrom := v3, fGot := v5 }))

def laws_eqIntS_l1 (a1 : (List Int)) : List Int → Nat → Option (Bool)
  | [], i1 => some true
  | x10 :: t1, i1 => ((ix a1 (i1 : Int)).bind fun x20 => (bif (x10 != x20) then some false else (laws_eqIntS_l1 a1 t1 (i1 + 1))))
def laws_eqIntS (a0 : (List Int)) (a1 : (List Int)) : Option (Bool) :=
  (bif ((a0.length : Int) != (a1.length : Int)) then some false else (laws_eqIntS_l1 a1 a0 0))

def laws_eqProp (a0 : SProp) (a1 : SProp) : Option (Bool) :=
  (bif (a0.fBal != a1.fBal) then some false else (bif (a0.fVal != a1.fVal) then some false else ((laws_eqIntS a0.fFrom a1.fFrom).bind fun v8 => (bif (!v8) then some false else (bif (a0.fBest != a1.fBest) then some false else ((laws_eqIntS a0.fGot a1.fGot).bind fun v13 => (bif (!v13) then some false else some true)))))))

def laws_markIntS_l1 : Nat → Int → Int → (List Int) → Option ((Int) × (List Int))
  | 0, _, _, _ => none
  | n1 + 1, y8, y9, y10 => (bif (decide (y8 < (y10.length : Int))) then ((ix y10 y8).bind fun x20 => (laws_markIntS_l1 n1) (w64 (y8 + 1)) (w64 (y9 + 1)) (List.set y10 (Int.toNat y8) y9)) else some (y9, y10))
def laws_markIntS (a0 : (List Int)) (a1 : Int) : Option ((Int) × (List Int)) :=
  (laws_markIntS_l1 fuel 0 a1 a0)

def laws_markProp (a0 : SProp) (a1 : Int) : Option ((Int) × SProp) :=
  ((laws_markIntS a0.fFrom a1).bind fun v3 => ((laws_markIntS a0.fGot v3.1).bind fun v5 => some (v5.1, { a0 with fFrom := v3.2, fGot := v5.2 })))

def laws_heldIntS_l1 : List Int → Nat → Int → Option (Int)
  | [], i1, y9 => some y9
  | x10 :: t1, i1, y9 => (bif (x10 != y9) then some (-1) else (laws_heldIntS_l1 t1 (i1 + 1)) (w64 (y9 + 1)))
def laws_heldIntS (a0 : (List Int)) (a1 : Int) : Option (Int) :=
  (laws_heldIntS_l1 a0 0 a1)

def laws_heldProp (a0 : SProp) (a1 : Int) : Option (Int) :=
  ((laws_heldIntS a0.fFrom a1).bind fun v3 => (bif (decide (v3 < 0)) then some (-1) else ((laws_heldIntS a0.fGot v3).bind fun v9 => (bif (decide (v9 < 0)) then some (-1) else some v9))))

def spec_l01In (a0 : Int) (a1 : Int) (a2 : Int) : Option (Bool) :=
  (bif (decide (a0 ≥ a1)) then some (decide (a0 ≤ a2)) else some false)

def spec_l07Node (a0 : Int) : Option (Bool) :=
  ((spec_l01In a0 0 3).bind fun v1 => some v1)

def spec_l07Copy (a0 : SProp) : Option (SProp) :=
  (gO (room 8 (([] : List Int).length + a0.fFrom.length)) ((gO (room 8 (([] : List Int).length + a0.fGot.length)) (some a0))))

def spec_l07Val (a0 : Int) : Option (Bool) :=
  ((spec_l01In a0 1 4).bind fun v1 => some v1)

def spec_l07Rise_l1 (a0 : (List Int)) : List Int → Nat → Option (Bool)
  | [], i1 => some true
  | x10 :: t1, i1 => ((spec_l07Node x10).bind fun v26 => (bif (!v26) then some false else (bif (decide ((i1 : Int) > 0)) then ((ix a0 (w64 ((i1 : Int) - 1))).bind fun x30 => (bif (decide (x30 ≥ x10)) then some false else (spec_l07Rise_l1 a0 t1 (i1 + 1)))) else (spec_l07Rise_l1 a0 t1 (i1 + 1)))))
def spec_l07Rise (a0 : (List Int)) : Option (Bool) :=
  (spec_l07Rise_l1 a0 a0 0)

def spec_PropOk (a0 : SProp) : Option (Bool) :=
  ((spec_l01In a0.fBal 1 1125899906842624).bind fun v1 => (bif v1 then ((spec_l07Val a0.fVal).bind fun v4 => (bif v4 then ((spec_l07Rise a0.fFrom).bind fun v7 => (bif v7 then ((spec_l07Rise a0.fGot).bind fun v10 => (bif v10 then ((spec_l01In a0.fBest 0 (w64 (a0.fBal - 1))).bind fun v13 => some v13) else some false)) else some false)) else some false)) else some false))

def spec_l01Has_l1 (a1 : Int) : List Int → Nat → Option (Bool)
  | [], i1 => some false
  | x10 :: t1, i1 => (bif (x10 == a1) then some true else (spec_l01Has_l1 a1 t1 (i1 + 1)))
def spec_l01Has (a0 : (List Int)) (a1 : Int) : Option (Bool) :=
  (spec_l01Has_l1 a1 a0 0)

def spec_l07Add_l2 (a1 : Int) : List Int → Nat → (List Int) → Option ((List Int))
  | [], i2, y60 => some y60
  | x20 :: t2, i2, y60 => (bif (decide (x20 > a1)) then (gO (room 8 (y60.length + [x20].length)) ((spec_l07Add_l2 a1 t2 (i2 + 1)) (y60 ++ [x20]))) else (spec_l07Add_l2 a1 t2 (i2 + 1)) y60)
def spec_l07Add_l1 (a0 : (List Int)) (a1 : Int) : List Int → Nat → (List Int) → Option ((List Int))
  | [], i1, y36 => (gO (room 8 (y36.length + [a1].length)) ((spec_l07Add_l2 a1 a0 0 (y36 ++ [a1]))))
  | x10 :: t1, i1, y36 => (bif (decide (x10 < a1)) then (gO (room 8 (y36.length + [x10].length)) ((spec_l07Add_l1 a0 a1 t1 (i1 + 1)) (y36 ++ [x10]))) else (spec_l07Add_l1 a0 a1 t1 (i1 + 1)) y36)
def spec_l07Add (a0 : (List Int)) (a1 : Int) : Option ((List Int)) :=
  (spec_l07Add_l1 a0 a1 a0 0 [])

def spec_PropHear_j1 (a0 : SProp) (a1 : Int) (a2 : Int) (a3 : Int) (v3 : SProp) : Option (SProp) :=
  ((spec_l07Add a0.fFrom a1).bind fun v23 => (bif (decide (a2 > a0.fBest)) then some (SProp.mk v3.fBal a3 v23 a2 v3.fGot) else some { v3 with fFrom := v23 }))
def spec_PropHear (a0 : SProp) (a1 : Int) (a2 : Int) (a3 : Int) : Option (SProp) :=
  ((spec_l07Copy a0).bind fun v3 => ((spec_PropOk a0).bind fun v26 => (bif (!v26) then some v3 else ((spec_l07Node a1).bind fun v29 => (bif (!v29) then some v3 else ((spec_l01Has a0.fFrom a1).bind fun v32 => (bif v32 then some v3 else ((spec_l01In a2 0 (w64 (a0.fBal - 1))).bind fun v35 => (bif (!v35) then some v3 else (bif (decide (a2 > 0)) then ((spec_l07Val a3).bind fun v39 => (bif (!v39) then some v3 else spec_PropHear_j1 a0 a1 a2 a3 v3)) else spec_PropHear_j1 a0 a1 a2 a3 v3))))))))))

def laws_FnExactPropHear (a0 : SProp) (a1 : Int) (a2 : Int) (a3 : Int) : Option (Bool) :=
  ((laws_szProp a0 1048576).bind fun v3 => (bif (decide (v3 < 0)) then some true else ((laws_toProp a0).bind fun v11 => ((spec_PropHear v11 a1 a2 a3).bind fun v13 => ((laws_toProp a0).bind fun v17 => ((impl_PropHear v17 a1 a2 a3).bind fun v21 => ((laws_eqProp v21 v13).bind fun v26 => (bif (!v26) then some false else ((laws_toProp a0).bind fun v34 => ((laws_eqProp v17 v34).bind fun v36 => (bif (!v36) then some false else ((laws_markProp v17 1).bind fun v41 => (bif (decide (v41.1 < 0)) then some false else ((laws_eqProp v21 v13).bind fun v48 => (bif (!v48) then some false else ((laws_markProp v21 1).bind fun v53 => ((laws_heldProp { v21 with fFrom := v53.2.fFrom, fGot := v53.2.fGot } 1).bind fun v57 => (bif (decide (v57 < 0)) then some false else (bif (v57 != v53.1) then some false else ((laws_toProp a0).bind fun v67 => ((impl_PropHear v67 a1 a2 a3).bind fun v69 => ((laws_eqProp v69 v13).bind fun v74 => (bif (!v74) then some false else ((laws_heldProp { v21 with fFrom := v53.2.fFrom, fGot := v53.2.fGot } 1).bind fun v79 => (bif (decide (v79 < 0)) then some false else (bif (v79 != v53.1) then some false else some true))))))))))))))))))))))))))

end Go.Proofs.Ytncjcbdbdocjaaa
