/- Plain Lean functions, one for each Go function that the law reaches. -/
import Derived.Test.YtncjcbdbdocjaaaK4
set_option linter.unusedVariables false
namespace Go.Proofs.Ytncjcbdbdocjaaa
open Go Ax

def fuel : Nat := 4611686018427387904

def laws_szIntS (a0 : (List Int)) (a1 : Int) : Option (Int) :=
  (bif (decide ((w64 (a1 - (a0.length : Int))) < 0)) then some (-1) else some (w64 (a1 - (a0.length : Int))))

def laws_szRepS (a0 : (List SRep)) (a1 : Int) : Option (Int) :=
  (bif (decide ((w64 (a1 - (a0.length : Int))) < 0)) then some (-1) else some (w64 (a1 - (a0.length : Int))))

def laws_szAcct (a0 : SAcct) (a1 : Int) : Option (Int) :=
  ((laws_szIntS a0.fMarks a1).bind fun v3 => (bif (decide (v3 < 0)) then some (-1) else ((laws_szRepS a0.fReps v3).bind fun v9 => (bif (decide (v9 < 0)) then some (-1) else some v9))))

def laws_toIntS_l1 : List Int → Nat → (List Int) → Option ((List Int))
  | [], i1, y12 => some y12
  | x10 :: t1, i1, y12 => ((ix y12 (i1 : Int)).bind fun x21 => (laws_toIntS_l1 t1 (i1 + 1)) (List.set y12 (Int.toNat (i1 : Int)) x10))
def laws_toIntS (a0 : (List Int)) : Option ((List Int)) :=
  (gO ((0 : Int) ≤ (a0.length : Int) ∧ room 8 (Int.toNat (a0.length : Int))) ((laws_toIntS_l1 a0 0 (List.replicate (Int.toNat (a0.length : Int)) 0))))

def laws_toRep (a0 : SRep) : Option (SRep) :=
  some a0

def laws_toRepS_l1 : List SRep → Nat → (List SRep) → Option ((List SRep))
  | [], i1, y14 => some y14
  | x10 :: t1, i1, y14 => ((laws_toRep x10).bind fun v25 => ((ix y14 (i1 : Int)).bind fun x27 => (laws_toRepS_l1 t1 (i1 + 1)) (List.set y14 (Int.toNat (i1 : Int)) v25)))
def laws_toRepS (a0 : (List SRep)) : Option ((List SRep)) :=
  (gO ((0 : Int) ≤ (a0.length : Int) ∧ room 16 (Int.toNat (a0.length : Int))) ((laws_toRepS_l1 a0 0 (List.replicate (Int.toNat (a0.length : Int)) (SRep.mk 0 0)))))

def laws_toAcct (a0 : SAcct) : Option (SAcct) :=
  ((laws_toIntS a0.fMarks).bind fun v3 => ((laws_toRepS a0.fReps).bind fun v5 => some { a0 with fMarks := v3, fReps := v5 }))

def laws_eqIntS_l1 (a1 : (List Int)) : List Int → Nat → Option (Bool)
  | [], i1 => some true
  | x10 :: t1, i1 => ((ix a1 (i1 : Int)).bind fun x20 => (bif (x10 != x20) then some false else (laws_eqIntS_l1 a1 t1 (i1 + 1))))
def laws_eqIntS (a0 : (List Int)) (a1 : (List Int)) : Option (Bool) :=
  (bif ((a0.length : Int) != (a1.length : Int)) then some false else (laws_eqIntS_l1 a1 a0 0))

def laws_eqRep (a0 : SRep) (a1 : SRep) : Option (Bool) :=
  (bif (a0.fNode != a1.fNode) then some false else (bif (a0.fAmt != a1.fAmt) then some false else some true))

def laws_eqRepS_l1 (a1 : (List SRep)) : List SRep → Nat → Option (Bool)
  | [], i1 => some true
  | x10 :: t1, i1 => ((ix a1 (i1 : Int)).bind fun x24 => ((laws_eqRep x10 x24).bind fun v26 => (bif (!v26) then some false else (laws_eqRepS_l1 a1 t1 (i1 + 1)))))
def laws_eqRepS (a0 : (List SRep)) (a1 : (List SRep)) : Option (Bool) :=
  (bif ((a0.length : Int) != (a1.length : Int)) then some false else (laws_eqRepS_l1 a1 a0 0))

def laws_eqAcct (a0 : SAcct) (a1 : SAcct) : Option (Bool) :=
  (bif (a0.fHave != a1.fHave) then some false else (bif (a0.fState != a1.fState) then some false else (bif (a0.fBy != a1.fBy) then some false else ((laws_eqIntS a0.fMarks a1.fMarks).bind fun v10 => (bif (!v10) then some false else ((laws_eqRepS a0.fReps a1.fReps).bind fun v13 => (bif (!v13) then some false else some true)))))))

def spec_l01In (a0 : Int) (a1 : Int) (a2 : Int) : Option (Bool) :=
  (bif (decide (a0 ≥ a1)) then some (decide (a0 ≤ a2)) else some false)

def spec_l01Has_l1 (a1 : Int) : List Int → Nat → Option (Bool)
  | [], i1 => some false
  | x10 :: t1, i1 => (bif (x10 == a1) then some true else (spec_l01Has_l1 a1 t1 (i1 + 1)))
def spec_l01Has (a0 : (List Int)) (a1 : Int) : Option (Bool) :=
  (spec_l01Has_l1 a1 a0 0)

def spec_l01Num (a0 : Int) : Option (Bool) :=
  ((spec_l01In a0 0 1125899906842624).bind fun v1 => some v1)

def spec_l07Node (a0 : Int) : Option (Bool) :=
  ((spec_l01In a0 0 3).bind fun v1 => some v1)

def spec_l07Rise_l1 (a0 : (List Int)) : List Int → Nat → Option (Bool)
  | [], i1 => some true
  | x10 :: t1, i1 => ((spec_l07Node x10).bind fun v26 => (bif (!v26) then some false else (bif (decide ((i1 : Int) > 0)) then ((ix a0 (w64 ((i1 : Int) - 1))).bind fun x30 => (bif (decide (x30 ≥ x10)) then some false else (spec_l07Rise_l1 a0 t1 (i1 + 1)))) else (spec_l07Rise_l1 a0 t1 (i1 + 1)))))
def spec_l07Rise (a0 : (List Int)) : Option (Bool) :=
  (spec_l07Rise_l1 a0 a0 0)

def spec_AcctOk_j2 (a0 : SAcct) (a1 : Int) : Option (Bool) :=
  (bif ((a0.fReps.length : Int) == a1) then some (a0.fState == 2) else some (a0.fState == 1))
def spec_AcctOk_j3 (a0 : SAcct) (a2 : Int) (y158 : Bool) (kk1 : Bool → Option (Bool)) (x10 : SRep) (y220 : Bool) (y221 : Bool) (y222 : Bool) (y223 : Bool) (y224 : Bool) (y225 : Bool) (y226 : Bool) (y227 : Bool) : Option (Bool) :=
  (bif (x10.fNode == a2) then (bif (x10.fAmt != a0.fHave) then some false else kk1 true) else kk1 y158)
def spec_AcctOk_l1 (a0 : SAcct) (a1 : Int) (a2 : Int) : List SRep → Nat → Bool → Option (Bool)
  | [], i1, y158 => (bif (decide ((a0.fMarks.length : Int) > 0)) then ((ix a0.fMarks (w64 ((a0.fMarks.length : Int) - 1))).bind fun x205 => (bif (decide (x205 ≥ a1)) then some false else (bif (y158 != ((a0.fMarks.length : Int) == (w64 (a1 - 1)))) then some false else spec_AcctOk_j2 a0 a1))) else (bif (y158 != ((a0.fMarks.length : Int) == (w64 (a1 - 1)))) then some false else spec_AcctOk_j2 a0 a1))
  | x10 :: t1, i1, y158 => ((spec_l01In x10.fNode 0 (w64 (a1 - 1))).bind fun v230 => (bif (!v230) then some false else ((spec_l01Num x10.fAmt).bind fun v233 => (bif (!v233) then some false else (bif (decide ((i1 : Int) > 0)) then ((ix a0.fReps (w64 ((i1 : Int) - 1))).bind fun x237 => (bif (decide (x237.fNode ≥ x10.fNode)) then some false else spec_AcctOk_j3 a0 a2 y158 (spec_AcctOk_l1 a0 a1 a2 t1 (i1 + 1)) x10 v230 (!v230) v233 (!v233) (!v233) true (decide (x237.fNode ≥ x10.fNode)) (decide (x237.fNode ≥ x10.fNode)))) else spec_AcctOk_j3 a0 a2 y158 (spec_AcctOk_l1 a0 a1 a2 t1 (i1 + 1)) x10 v230 (!v230) v233 (!v233) (!v233) false false false)))))
def spec_AcctOk (a0 : SAcct) (a1 : Int) (a2 : Int) : Option (Bool) :=
  ((spec_l01In a1 1 4).bind fun v10 => (bif (!v10) then some false else ((spec_l01In a2 0 (w64 (a1 - 1))).bind fun v13 => (bif (!v13) then some false else ((spec_l01Num a0.fHave).bind fun v16 => (bif (!v16) then some false else (bif (a0.fState == 0) then (bif (a0.fBy == 0) then (bif ((a0.fMarks.length : Int) == 0) then some ((a0.fReps.length : Int) == 0) else some false) else some false) else ((spec_l01In a0.fBy 0 (w64 (a1 - 1))).bind fun v34 => (bif (!v34) then some false else ((spec_l07Rise a0.fMarks).bind fun v37 => (bif (!v37) then some false else ((spec_l01Has a0.fMarks a2).bind fun v40 => (bif v40 then some false else (spec_AcctOk_l1 a0 a1 a2 a0.fReps 0 false))))))))))))))

def impl_in (a0 : Int) (a1 : Int) (a2 : Int) : Option (Bool) :=
  (bif (decide (a0 ≥ a1)) then some (decide (a0 ≤ a2)) else some false)

def impl_isNum (a0 : Int) : Option (Bool) :=
  ((impl_in a0 0 1125899906842624).bind fun v1 => some v1)

def impl_hasInt_l1 (a1 : Int) : List Int → Nat → Option (Bool)
  | [], i1 => some false
  | x10 :: t1, i1 => (bif (x10 == a1) then some true else (impl_hasInt_l1 a1 t1 (i1 + 1)))
def impl_hasInt (a0 : (List Int)) (a1 : Int) : Option (Bool) :=
  (impl_hasInt_l1 a1 a0 0)

def impl_nodesOk_l1 (a0 : (List Int)) (a1 : Int) : List Int → Nat → Option (Bool)
  | [], i1 => some true
  | x10 :: t1, i1 => ((impl_in x10 0 (w64 (a1 - 1))).bind fun v26 => (bif (!v26) then some false else (bif (decide ((i1 : Int) > 0)) then ((ix a0 (w64 ((i1 : Int) - 1))).bind fun x30 => (bif (decide (x30 ≥ x10)) then some false else (impl_nodesOk_l1 a0 a1 t1 (i1 + 1)))) else (impl_nodesOk_l1 a0 a1 t1 (i1 + 1)))))
def impl_nodesOk (a0 : (List Int)) (a1 : Int) : Option (Bool) :=
  (impl_nodesOk_l1 a0 a1 a0 0)

def impl_repsOk_l1 (a0 : SAcct) (a1 : Int) : List SRep → Nat → Option (Bool)
  | [], i1 => some true
  | x10 :: t1, i1 => ((impl_in x10.fNode 0 (w64 (a1 - 1))).bind fun v32 => (bif (!v32) then some false else ((impl_isNum x10.fAmt).bind fun v35 => (bif (!v35) then some false else (bif (decide ((i1 : Int) > 0)) then ((ix a0.fReps (w64 ((i1 : Int) - 1))).bind fun x39 => (bif (decide (x39.fNode ≥ x10.fNode)) then some false else (impl_repsOk_l1 a0 a1 t1 (i1 + 1)))) else (impl_repsOk_l1 a0 a1 t1 (i1 + 1)))))))
def impl_repsOk (a0 : SAcct) (a1 : Int) : Option (Bool) :=
  (impl_repsOk_l1 a0 a1 a0.fReps 0)

def impl_repAt_l1 (a1 : Int) : List SRep → Nat → Option (Int)
  | [], i1 => some (-1)
  | x10 :: t1, i1 => (bif (x10.fNode == a1) then some (i1 : Int) else (impl_repAt_l1 a1 t1 (i1 + 1)))
def impl_repAt (a0 : SAcct) (a1 : Int) : Option (Int) :=
  (impl_repAt_l1 a1 a0.fReps 0)

def impl_AcctOk_j1 (a0 : SAcct) (a1 : Int) : Option (Bool) :=
  (bif ((a0.fReps.length : Int) == a1) then some (a0.fState == 2) else some (a0.fState == 1))
def impl_AcctOk (a0 : SAcct) (a1 : Int) (a2 : Int) : Option (Bool) :=
  ((impl_in a1 1 4).bind fun v10 => (bif (!v10) then some false else ((impl_in a2 0 (w64 (a1 - 1))).bind fun v13 => (bif (!v13) then some false else ((impl_isNum a0.fHave).bind fun v16 => (bif (!v16) then some false else (bif (a0.fState == 0) then (bif (a0.fBy == 0) then (bif ((a0.fMarks.length : Int) == 0) then some ((a0.fReps.length : Int) == 0) else some false) else some false) else ((impl_in a0.fBy 0 (w64 (a1 - 1))).bind fun v37 => (bif (!v37) then some false else ((impl_nodesOk a0.fMarks a1).bind fun v40 => (bif (!v40) then some false else ((impl_hasInt a0.fMarks a2).bind fun v43 => (bif v43 then some false else ((impl_repsOk a0 a1).bind fun v46 => (bif (!v46) then some false else ((impl_repAt a0 a2).bind fun v51 => (bif ((decide (v51 ≥ 0)) != ((a0.fMarks.length : Int) == (w64 (a1 - 1)))) then some false else (bif (decide (v51 ≥ 0)) then ((ix a0.fReps v51).bind fun x61 => (bif (x61.fAmt != a0.fHave) then some false else impl_AcctOk_j1 a0 a1)) else impl_AcctOk_j1 a0 a1))))))))))))))))))

def laws_FnExactAcctOk (a0 : SAcct) (a1 : Int) (a2 : Int) : Option (Bool) :=
  ((laws_szAcct a0 1048576).bind fun v3 => (bif (decide (v3 < 0)) then some true else ((laws_toAcct a0).bind fun v11 => ((spec_AcctOk v11 a1 a2).bind fun v13 => ((laws_toAcct a0).bind fun v17 => ((impl_AcctOk v17 a1 a2).bind fun v21 => (bif (v21 != v13) then some false else ((laws_toAcct a0).bind fun v25 => ((laws_eqAcct v17 v25).bind fun v27 => (bif (!v27) then some false else some true))))))))))

end Go.Proofs.Ytncjcbdbdocjaaa
