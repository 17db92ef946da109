/- Plain Lean functions, one for each Go function that the law reaches. -/
import Derived.Test.YtncjcbdbdocjaaaK4
set_option linter.unusedVariables false
namespace Go.Proofs.Ytncjcbdbdocjaaa
open Go Ax

def fuel : Nat := 4611686018427387904

def laws_szIntS (a0 : (List Int)) (a1 : Int) : Option (Int) :=
  (bif (decide ((w64 (a1 - (a0.length : Int))) < 0)) then some (-1) else some (w64 (a1 - (a0.length : Int))))

def laws_szRepS (a0 : (List SRep)) (a1 : Int) : Option (Int) :=
  (bif (decide ((w64 (a1 - (a0.length : Int))) < 0)) then some (-1) else some (w64 (a1 - (a0.length : Int))))

def laws_szAcct (a0 : SAcct) (a1 : Int) : Option (Int) :=
  ((laws_szIntS a0.fMarks a1).bind fun v3 => (bif (decide (v3 < 0)) then some (-1) else ((laws_szRepS a0.fReps v3).bind fun v9 => (bif (decide (v9 < 0)) then some (-1) else some v9))))

def laws_toIntS_l1 : List Int → Nat → (List Int) → Option ((List Int))
  | [], i1, y12 => some y12
  | x10 :: t1, i1, y12 => ((ix y12 (i1 : Int)).bind fun x21 => (laws_toIntS_l1 t1 (i1 + 1)) (List.set y12 (Int.toNat (i1 : Int)) x10))
def laws_toIntS (a0 : (List Int)) : Option ((List Int)) :=
  (gO ((0 : Int) ≤ (a0.length : Int) ∧ room 8 (Int.toNat (a0.length : Int))) ((laws_toIntS_l1 a0 0 (List.replicate (Int.toNat (a0.length : Int)) 0))))

def laws_toRep (a0 : SRep) : Option (SRep) :=
  some a0

def laws_toRepS_l1 : List SRep → Nat → (List SRep) → Option ((List SRep))
  | [], i1, y14 => some y14
  | x10 :: t1, i1, y14 => ((laws_toRep x10).bind fun v25 => ((ix y14 (i1 : Int)).bind fun x27 => (laws_toRepS_l1 t1 (i1 + 1)) (List.set y14 (Int.toNat (i1 : Int)) v25)))
def laws_toRepS (a0 : (List SRep)) : Option ((List SRep)) :=
  (gO ((0 : Int) ≤ (a0.length : Int) ∧ room 16 (Int.toNat (a0.length : Int))) ((laws_toRepS_l1 a0 0 (List.replicate (Int.toNat (a0.length : Int)) (SRep.mk 0 0)))))

def laws_toAcct (a0 : SAcct) : Option (SAcct) :=
  ((laws_toIntS a0.fMarks).bind fun v3 => ((laws_toRepS a0.fReps).bind fun v5 => some { a0 with fMarks := v3, fReps := v5 }))

def laws_eqIntS_l1 (a1 : (List Int)) : List Int → Nat → Option (Bool)
  | [], i1 => some true
  | x10 :: t1, i1 => ((ix a1 (i1 : Int)).bind fun x20 => (bif (x10 != x20) then some false else (laws_eqIntS_l1 a1 t1 (i1 + 1))))
def laws_eqIntS (a0 : (List Int)) (a1 : (List Int)) : Option (Bool) :=
  (bif ((a0.length : Int) != (a1.length : Int)) then some false else (laws_eqIntS_l1 a1 a0 0))

def laws_eqRep (a0 : SRep) (a1 : SRep) : Option (Bool) :=
  (bif (a0.fNode != a1.fNode) then some false else (bif (a0.fAmt != a1.fAmt) then some false else some true))

def laws_eqRepS_l1 (a1 : (List SRep)) : List SRep → Nat → Option (Bool)
  | [], i1 => some true
  | x10 :: t1, i1 => ((ix a1 (i1 : Int)).bind fun x24 => ((laws_eqRep x10 x24).bind fun v26 => (bif (!v26) then some false else (laws_eqRepS_l1 a1 t1 (i1 + 1)))))
def laws_eqRepS (a0 : (List SRep)) (a1 : (List SRep)) : Option (Bool) :=
  (bif ((a0.length : Int) != (a1.length : Int)) then some false else (laws_eqRepS_l1 a1 a0 0))

def laws_eqAcct (a0 : SAcct) (a1 : SAcct) : Option (Bool) :=
  (bif (a0.fHave != a1.fHave) then some false else (bif (a0.fState != a1.fState) then some false else (bif (a0.fBy != a1.fBy) then some false else ((laws_eqIntS a0.fMarks a1.fMarks).bind fun v10 => (bif (!v10) then some false else ((laws_eqRepS a0.fReps a1.fReps).bind fun v13 => (bif (!v13) then some false else some true)))))))

def laws_markIntS_l1 : Nat → Int → Int → (List Int) → Option ((Int) × (List Int))
  | 0, _, _, _ => none
  | n1 + 1, y8, y9, y10 => (bif (decide (y8 < (y10.length : Int))) then ((ix y10 y8).bind fun x20 => (laws_markIntS_l1 n1) (w64 (y8 + 1)) (w64 (y9 + 1)) (List.set y10 (Int.toNat y8) y9)) else some (y9, y10))
def laws_markIntS (a0 : (List Int)) (a1 : Int) : Option ((Int) × (List Int)) :=
  (laws_markIntS_l1 fuel 0 a1 a0)

def laws_markRepS_l1 : Nat → Int → Int → (List SRep) → Option ((Int) × (List SRep))
  | 0, _, _, _ => none
  | n1 + 1, y10, y11, y12 => (bif (decide (y10 < (y12.length : Int))) then ((ix y12 y10).bind fun x26 => (laws_markRepS_l1 n1) (w64 (y10 + 1)) (w64 ((w64 (y11 + 1)) + 1)) (List.set y12 (Int.toNat y10) (SRep.mk y11 (w64 (y11 + 1))))) else some (y11, y12))
def laws_markRepS (a0 : (List SRep)) (a1 : Int) : Option ((Int) × (List SRep)) :=
  (laws_markRepS_l1 fuel 0 a1 a0)

def laws_markAcct (a0 : SAcct) (a1 : Int) : Option ((Int) × SAcct) :=
  ((laws_markIntS a0.fMarks a1).bind fun v3 => ((laws_markRepS a0.fReps v3.1).bind fun v5 => some (v5.1, { a0 with fMarks := v3.2, fReps := v5.2 })))

def laws_heldIntS_l1 : List Int → Nat → Int → Option (Int)
  | [], i1, y9 => some y9
  | x10 :: t1, i1, y9 => (bif (x10 != y9) then some (-1) else (laws_heldIntS_l1 t1 (i1 + 1)) (w64 (y9 + 1)))
def laws_heldIntS (a0 : (List Int)) (a1 : Int) : Option (Int) :=
  (laws_heldIntS_l1 a0 0 a1)

def laws_heldRepS_l1 : List SRep → Nat → Int → Option (Int)
  | [], i1, y13 => some y13
  | x10 :: t1, i1, y13 => (bif (x10.fNode != y13) then some (-1) else (bif (x10.fAmt != (w64 (y13 + 1))) then some (-1) else (laws_heldRepS_l1 t1 (i1 + 1)) (w64 ((w64 (y13 + 1)) + 1))))
def laws_heldRepS (a0 : (List SRep)) (a1 : Int) : Option (Int) :=
  (laws_heldRepS_l1 a0 0 a1)

def laws_heldAcct (a0 : SAcct) (a1 : Int) : Option (Int) :=
  ((laws_heldIntS a0.fMarks a1).bind fun v3 => (bif (decide (v3 < 0)) then some (-1) else ((laws_heldRepS a0.fReps v3).bind fun v9 => (bif (decide (v9 < 0)) then some (-1) else some v9))))

def spec_l01In (a0 : Int) (a1 : Int) (a2 : Int) : Option (Bool) :=
  (bif (decide (a0 ≥ a1)) then some (decide (a0 ≤ a2)) else some false)

def spec_IsAmt (a0 : Int) : Option (Bool) :=
  ((spec_l01In a0 1 1000000000).bind fun v1 => some v1)

def spec_l08Copy (a0 : SAcct) : Option (SAcct) :=
  (gO (room 8 (([] : List Int).length + a0.fMarks.length)) ((gO (room 16 (([] : List SRep).length + a0.fReps.length)) (some a0))))

def spec_AcctAdd_j1 (a0 : SAcct) (a1 : Int) (y18 : Bool) : Option (SAcct × Bool) :=
  (bif y18 then some ((SAcct.mk 0 0 0 [] []), false) else ((spec_l08Copy a0).bind fun v22 => some ({ v22 with fHave := w64 (a0.fHave + a1) }, true)))
def spec_AcctAdd (a0 : SAcct) (a1 : Int) : Option (SAcct × Bool) :=
  ((spec_IsAmt a1).bind fun v24 => (bif (!v24) then spec_AcctAdd_j1 a0 a1 true else ((spec_l01In a0.fHave 0 (w64 (1125899906842624 - a1))).bind fun v27 => spec_AcctAdd_j1 a0 a1 (!v27))))

def impl_in (a0 : Int) (a1 : Int) (a2 : Int) : Option (Bool) :=
  (bif (decide (a0 ≥ a1)) then some (decide (a0 ≤ a2)) else some false)

def impl_isNum (a0 : Int) : Option (Bool) :=
  ((impl_in a0 0 1125899906842624).bind fun v1 => some v1)

def impl_IsAmt (a0 : Int) : Option (Bool) :=
  ((impl_in a0 1 1000000000).bind fun v1 => some v1)

def impl_copyInts (a0 : (List Int)) : Option ((List Int)) :=
  (gO (room 8 (([] : List Int).length + a0.length)) (some a0))

def impl_copyAcct (a0 : SAcct) : Option (SAcct) :=
  ((impl_copyInts a0.fMarks).bind fun v1 => (gO (room 16 (([] : List SRep).length + a0.fReps.length)) (some { a0 with fMarks := v1 })))

def impl_AcctAdd_j1 (a0 : SAcct) (a1 : Int) (y21 : Bool) : Option (SAcct × Bool) :=
  (bif y21 then some ((SAcct.mk 0 0 0 [] []), false) else ((impl_copyAcct a0).bind fun v25 => some ({ v25 with fHave := w64 (v25.fHave + a1) }, true)))
def impl_AcctAdd (a0 : SAcct) (a1 : Int) : Option (SAcct × Bool) :=
  ((impl_IsAmt a1).bind fun v27 => (bif (!v27) then impl_AcctAdd_j1 a0 a1 true else (bif (decide (a0.fHave < 0)) then impl_AcctAdd_j1 a0 a1 true else ((impl_isNum (w64 (a0.fHave + a1))).bind fun v31 => impl_AcctAdd_j1 a0 a1 (!v31)))))

def laws_FnExactAcctAdd (a0 : SAcct) (a1 : Int) : Option (Bool) :=
  ((laws_szAcct a0 1048576).bind fun v3 => (bif (decide (v3 < 0)) then some true else ((laws_toAcct a0).bind fun v11 => ((spec_AcctAdd v11 a1).bind fun v13 => ((laws_toAcct a0).bind fun v17 => ((impl_AcctAdd v17 a1).bind fun v21 => ((laws_eqAcct v21.1 v13.1).bind fun v27 => (bif (!v27) then some false else (bif (v21.2 != v13.2) then some false else ((laws_toAcct a0).bind fun v36 => ((laws_eqAcct v17 v36).bind fun v38 => (bif (!v38) then some false else ((laws_markAcct v17 1).bind fun v43 => (bif (decide (v43.1 < 0)) then some false else ((laws_eqAcct v21.1 v13.1).bind fun v50 => (bif (!v50) then some false else ((laws_markAcct v21.1 1).bind fun v55 => ((laws_heldAcct { v21.1 with fMarks := v55.2.fMarks, fReps := v55.2.fReps } 1).bind fun v59 => (bif (decide (v59 < 0)) then some false else (bif (v59 != v55.1) then some false else ((laws_toAcct a0).bind fun v69 => ((impl_AcctAdd v69 a1).bind fun v71 => ((laws_eqAcct v71.1 v13.1).bind fun v77 => (bif (!v77) then some false else (bif (v71.2 != v13.2) then some false else ((laws_heldAcct { v21.1 with fMarks := v55.2.fMarks, fReps := v55.2.fReps } 1).bind fun v83 => (bif (decide (v83 < 0)) then some false else (bif (v83 != v55.1) then some false else some true))))))))))))))))))))))))))))

end Go.Proofs.Ytncjcbdbdocjaaa
