/- Plain Lean functions, one for each Go function that the law reaches. -/
import Derived.Test.YtncjcbdbdocjaaaK4
set_option linter.unusedVariables false
namespace Go.Proofs.Ytncjcbdbdocjaaa
open Go Ax

def fuel : Nat := 4611686018427387904

def laws_szIntS (a0 : (List Int)) (a1 : Int) : Option (Int) :=
  (bif (decide ((w64 (a1 - (a0.length : Int))) < 0)) then some (-1) else some (w64 (a1 - (a0.length : Int))))

def laws_szRepS (a0 : (List SRep)) (a1 : Int) : Option (Int) :=
  (bif (decide ((w64 (a1 - (a0.length : Int))) < 0)) then some (-1) else some (w64 (a1 - (a0.length : Int))))

def laws_szAcct (a0 : SAcct) (a1 : Int) : Option (Int) :=
  ((laws_szIntS a0.fMarks a1).bind fun v3 => (bif (decide (v3 < 0)) then some (-1) else ((laws_szRepS a0.fReps v3).bind fun v9 => (bif (decide (v9 < 0)) then some (-1) else some v9))))

def laws_toIntS_l1 : List Int → Nat → (List Int) → Option ((List Int))
  | [], i1, y12 => some y12
  | x10 :: t1, i1, y12 => ((ix y12 (i1 : Int)).bind fun x21 => (laws_toIntS_l1 t1 (i1 + 1)) (List.set y12 (Int.toNat (i1 : Int)) x10))
def laws_toIntS (a0 : (List Int)) : Option ((List Int)) :=
  (gO ((0 : Int) ≤ (a0.length : Int) ∧ room 8 (Int.toNat (a0.length : Int))) ((laws_toIntS_l1 a0 0 (List.replicate (Int.toNat (a0.length : Int)) 0))))

def laws_toRep (a0 : SRep) : Option (SRep) :=
  some a0

def laws_toRepS_l1 : List SRep → Nat → (List SRep) → Option ((List SRep))
  | [], i1, y14 => some y14
  | x10 :: t1, i1, y14 => ((laws_toRep x10).bind fun v25 => ((ix y14 (i1 : Int)).bind fun x27 => (laws_toRepS_l1 t1 (i1 + 1)) (List.set y14 (Int.toNat (i1 : Int)) v25)))
def laws_toRepS (a0 : (List SRep)) : Option ((List SRep)) :=
  (gO ((0 : Int) ≤ (a0.length : Int) ∧ room 16 (Int.toNat (a0.length : Int))) ((laws_toRepS_l1 a0 0 (List.replicate (Int.toNat (a0.length : Int)) (SRep.mk 0 0)))))

def laws_toAcct (a0 : SAcct) : Option (SAcct) :=
  ((laws_toIntS a0.fMarks).bind fun v3 => ((laws_toRepS a0.fReps).bind fun v5 => some { a0 with fMarks := v3, fReps := v5 }))

def laws_eqIntS_l1 (a1 : (List Int)) : List Int → Nat → Option (Bool)
  | [], i1 => some true
  | x10 :: t1, i1 => ((ix a1 (i1 : Int)).bind fun x20 => (bif (x10 != x20) then some false else (laws_eqIntS_l1 a1 t1 (i1 + 1))))
def laws_eqIntS (a0 : (List Int)) (a1 : (List Int)) : Option (Bool) :=
  (bif ((a0.length : Int) != (a1.length : Int)) then some false else (laws_eqIntS_l1 a1 a0 0))

def laws_eqRep (a0 : SRep) (a1 : SRep) : Option (Bool) :=
  (bif (a0.fNode != a1.fNode) then some false else (bif (a0.fAmt != a1.fAmt) then some false else some true))

def laws_eqRepS_l1 (a1 : (List SRep)) : List SRep → Nat → Option (Bool)
  | [], i1 => some true
  | x10 :: t1, i1 => ((ix a1 (i1 : Int)).bind fun x24 => ((laws_eqRep x10 x24).bind fun v26 => (bif (!v26) then some false else (laws_eqRepS_l1 a1 t1 (i1 + 1)))))
def laws_eqRepS (a0 : (List SRep)) (a1 : (List SRep)) : Option (Bool) :=
  (bif ((a0.length : Int) != (a1.length : Int)) then some false else (laws_eqRepS_l1 a1 a0 0))

def laws_eqAcct (a0 : SAcct) (a1 : SAcct) : Option (Bool) :=
  (bif (a0.fHave != a1.fHave) then some false else (bif (a0.fState != a1.fState) then some false else (bif (a0.fBy != a1.fBy) then some false else ((laws_eqIntS a0.fMarks a1.fMarks).bind fun v10 => (bif (!v10) then some false else ((laws_eqRepS a0.fReps a1.fReps).bind fun v13 => (bif (!v13) then some false else some true)))))))

def laws_markIntS_l1 : Nat → Int → Int → (List Int) → Option ((Int) × (List Int))
  | 0, _, _, _ => none
  | n1 + 1, y8, y9, y10 => (bif (decide (y8 < (y10.length : Int))) then ((ix y10 y8).bind fun x20 => (laws_markIntS_l1 n1) (w64 (y8 + 1)) (w64 (y9 + 1)) (List.set y10 (Int.toNat y8) y9)) else some (y9, y10))
def laws_markIntS (a0 : (List Int)) (a1 : Int) : Option ((Int) × (List Int)) :=
  (laws_markIntS_l1 fuel 0 a1 a0)

def laws_markRepS_l1 : Nat → Int → Int → (List SRep) → Option ((Int) × (List SRep))
  | 0, _, _, _ => none
  | n1 + 1, y10, y11, y12 => (bif (decide (y10 < (y12.length : Int))) then ((ix y12 y10).bind fun x26 => (laws_markRepS_l1 n1) (w64 (y10 + 1)) (w64 ((w64 (y11 + 1)) + 1)) (List.set y12 (Int.toNat y10) (SRep.mk y11 (w64 (y11 + 1))))) else some (y11, y12))
def laws_markRepS (a0 : (List SRep)) (a1 : Int) : Option ((Int) × (List SRep)) :=
  (laws_markRepS_l1 fuel 0 a1 a0)

def laws_markAcct (a0 : SAcct) (a1 : Int) : Option ((Int) × SAcct) :=
  ((laws_markIntS a0.fMarks a1).bind fun v3 => ((laws_markRepS a0.fReps v3.1).bind fun v5 => some (v5.1, { a0 with fMarks := v3.2, fReps := v5.2 })))

def laws_heldIntS_l1 : List Int → Nat → Int → Option (Int)
  | [], i1, y9 => some y9
  | x10 :: t1, i1, y9 => (bif (x10 != y9) then some (-1) else (laws_heldIntS_l1 t1 (i1 + 1)) (w64 (y9 + 1)))
def laws_heldIntS (a0 : (List Int)) (a1 : Int) : Option (Int) :=
  (laws_heldIntS_l1 a0 0 a1)

def laws_heldRepS_l1 : List SRep → Nat → Int → Option (Int)
  | [], i1, y13 => some y13
  | x10 :: t1, i1, y13 => (bif (x10.fNode != y13) then some (-1) else (bif (x10.fAmt != (w64 (y13 + 1))) then some (-1) else (laws_heldRepS_l1 t1 (i1 + 1)) (w64 ((w64 (y13 + 1)) + 1))))
def laws_heldRepS (a0 : (List SRep)) (a1 : Int) : Option (Int) :=
  (laws_heldRepS_l1 a0 0 a1)

def laws_heldAcct (a0 : SAcct) (a1 : Int) : Option (Int) :=
  ((laws_heldIntS a0.fMarks a1).bind fun v3 => (bif (decide (v3 < 0)) then some (-1) else ((laws_heldRepS a0.fReps v3).bind fun v9 => (bif (decide (v9 < 0)) then some (-1) else some v9))))

def spec_l08Copy (a0 : SAcct) : Option (SAcct) :=
  (gO (room 8 (([] : List Int).length + a0.fMarks.length)) ((gO (room 16 (([] : List SRep).length + a0.fReps.length)) (some a0))))

def spec_l01In (a0 : Int) (a1 : Int) (a2 : Int) : Option (Bool) :=
  (bif (decide (a0 ≥ a1)) then some (decide (a0 ≤ a2)) else some false)

def spec_l07Node (a0 : Int) : Option (Bool) :=
  ((spec_l01In a0 0 3).bind fun v1 => some v1)

def spec_l01Has_l1 (a1 : Int) : List Int → Nat → Option (Bool)
  | [], i1 => some false
  | x10 :: t1, i1 => (bif (x10 == a1) then some true else (spec_l01Has_l1 a1 t1 (i1 + 1)))
def spec_l01Has (a0 : (List Int)) (a1 : Int) : Option (Bool) :=
  (spec_l01Has_l1 a1 a0 0)

def spec_l07Add_l2 (a1 : Int) : List Int → Nat → (List Int) → Option ((List Int))
  | [], i2, y60 => some y60
  | x20 :: t2, i2, y60 => (bif (decide (x20 > a1)) then (gO (room 8 (y60.length + [x20].length)) ((spec_l07Add_l2 a1 t2 (i2 + 1)) (y60 ++ [x20]))) else (spec_l07Add_l2 a1 t2 (i2 + 1)) y60)
def spec_l07Add_l1 (a0 : (List Int)) (a1 : Int) : List Int → Nat → (List Int) → Option ((List Int))
  | [], i1, y36 => (gO (room 8 (y36.length + [a1].length)) ((spec_l07Add_l2 a1 a0 0 (y36 ++ [a1]))))
  | x10 :: t1, i1, y36 => (bif (decide (x10 < a1)) then (gO (room 8 (y36.length + [x10].length)) ((spec_l07Add_l1 a0 a1 t1 (i1 + 1)) (y36 ++ [x10]))) else (spec_l07Add_l1 a0 a1 t1 (i1 + 1)) y36)
def spec_l07Add (a0 : (List Int)) (a1 : Int) : Option ((List Int)) :=
  (spec_l07Add_l1 a0 a1 a0 0 [])

def spec_AcctMark_j1 (a0 : SAcct) (a1 : Int) (y21 : Bool) : Option (SAcct × Bool) :=
  (bif y21 then some ((SAcct.mk 0 0 0 [] []), false) else ((spec_l08Copy a0).bind fun v25 => ((spec_l07Add a0.fMarks a1).bind fun v27 => some ({ v25 with fMarks := v27 }, true))))
def spec_AcctMark (a0 : SAcct) (a1 : Int) : Option (SAcct × Bool) :=
  (bif (a0.fState == 0) then spec_AcctMark_j1 a0 a1 true else ((spec_l07Node a1).bind fun v30 => (bif (!v30) then spec_AcctMark_j1 a0 a1 true else ((spec_l01Has a0.fMarks a1).bind fun v33 => spec_AcctMark_j1 a0 a1 v33))))

def impl_in (a0 : Int) (a1 : Int) (a2 : Int) : Option (Bool) :=
  (bif (decide (a0 ≥ a1)) then some (decide (a0 ≤ a2)) else some false)

def impl_isNode (a0 : Int) : Option (Bool) :=
  ((impl_in a0 0 3).bind fun v1 => some v1)

def impl_hasInt_l1 (a1 : Int) : List Int → Nat → Option (Bool)
  | [], i1 => some false
  | x10 :: t1, i1 => (bif (x10 == a1) then some true else (impl_hasInt_l1 a1 t1 (i1 + 1)))
def impl_hasInt (a0 : (List Int)) (a1 : Int) : Option (Bool) :=
  (impl_hasInt_l1 a1 a0 0)

def impl_copyInts (a0 : (List Int)) : Option ((List Int)) :=
  (gO (room 8 (([] : List Int).length + a0.length)) (some a0))

def impl_copyAcct (a0 : SAcct) : Option (SAcct) :=
  ((impl_copyInts a0.fMarks).bind fun v1 => (gO (room 16 (([] : List SRep).length + a0.fReps.length)) (some { a0 with fMarks := v1 })))

def impl_AcctMark_l2 (a1 : Int) (v25 : SAcct) : List Int → Nat → (List Int) → (List Int) → Option (SAcct × Bool)
  | [], i2, y70, y71 => (gO (room 8 (y71.length + [a1].length)) ((gO (room 8 ((y71 ++ [a1]).length + y70.length)) (some ({ v25 with fMarks := (y71 ++ [a1]) ++ y70 }, true)))))
  | x20 :: t2, i2, y70, y71 => (bif (decide (x20 < a1)) then (gO (room 8 (y71.length + [x20].length)) ((impl_AcctMark_l2 a1 v25 t2 (i2 + 1)) y70 (y71 ++ [x20]))) else (gO (room 8 (y70.length + [x20].length)) ((impl_AcctMark_l2 a1 v25 t2 (i2 + 1)) (y70 ++ [x20]) y71)))
def impl_AcctMark_j1 (a0 : SAcct) (a1 : Int) (y21 : Bool) : Option (SAcct × Bool) :=
  (bif y21 then some ((SAcct.mk 0 0 0 [] []), false) else ((impl_copyAcct a0).bind fun v25 => (impl_AcctMark_l2 a1 v25 a0.fMarks 0 [] [])))
def impl_AcctMark (a0 : SAcct) (a1 : Int) : Option (SAcct × Bool) :=
  (bif (a0.fState == 0) then impl_AcctMark_j1 a0 a1 true else ((impl_isNode a1).bind fun v90 => (bif (!v90) then impl_AcctMark_j1 a0 a1 true else ((impl_hasInt a0.fMarks a1).bind fun v93 => impl_AcctMark_j1 a0 a1 v93))))

def laws_FnExactAcctMark (a0 : SAcct) (a1 : Int) : Option (Bool) :=
  ((laws_szAcct a0 1048576).bind fun v3 => (bif (decide (v3 < 0)) then some true else ((laws_toAcct a0).bind fun v11 => ((spec_AcctMark v11 a1).bind fun v13 => ((laws_toAcct a0).bind fun v17 => ((impl_AcctMark v17 a1).bind fun v21 => ((laws_eqAcct v21.1 v13.1).bind fun v27 => (bif (!v27) then some false else (bif (v21.2 != v13.2) then some false else ((laws_toAcct a0).bind fun v36 => ((laws_eqAcct v17 v36).bind fun v38 => (bif (!v38) then some false else ((laws_markAcct v17 1).bind fun v43 => (bif (decide (v43.1 < 0)) then some false else ((laws_eqAcct v21.1 v13.1).bind fun v50 => (bif (!v50) then some false else ((laws_markAcct v21.1 1).bind fun v55 => ((laws_heldAcct { v21.1 with fMarks := v55.2.fMarks, fReps := v55.2.fReps } 1).bind fun v59 => (bif (decide (v59 < 0)) then some false else (bif (v59 != v55.1) then some false else ((laws_toAcct a0).bind fun v69 => ((impl_AcctMark v69 a1).bind fun v71 => ((laws_eqAcct v71.1 v13.1).bind fun v77 => (bif (!v77) then some false else (bif (v71.2 != v13.2) then some false else ((laws_heldAcct { v21.1 with fMarks := v55.2.fMarks, fReps := v55.2.fReps } 1).bind fun v83 => (bif (decide (v83 < 0)) then some false else (bif (v83 != v55.1) then some false else some true))))))))))))))))))))))))))))

end Go.Proofs.Ytncjcbdbdocjaaa
