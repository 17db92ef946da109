/- Plain Lean functions, one for each Go function that the law reaches. -/
import Derived.Test.YtncjcbdbdocjaaaK4
set_option linter.unusedVariables false
namespace Go.Proofs.Ytncjcbdbdocjaaa
open Go Ax

def fuel : Nat := 4611686018427387904

def laws_szIntS (a0 : (List Int)) (a1 : Int) : Option (Int) :=
  (bif (decide ((w64 (a1 - (a0.length : Int))) < 0)) then some (-1) else some (w64 (a1 - (a0.length : Int))))

def laws_szRepS (a0 : (List SRep)) (a1 : Int) : Option (Int) :=
  (bif (decide ((w64 (a1 - (a0.length : Int))) < 0)) then some (-1) else some (w64 (a1 - (a0.length : Int))))

def laws_szAcct (a0 : SAcct) (a1 : Int) : Option (Int) :=
  ((laws_szIntS a0.fMarks a1).bind fun v3 => (bif (decide (v3 < 0)) then some (-1) else ((laws_szRepS a0.fReps v3).bind fun v9 => (bif (decide (v9 < 0)) then some (-1) else some v9))))

def laws_toIntS_l1 : List Int → Nat → (List Int) → Option ((List Int))
  | [], i1, y12 => some y12
  | x10 :: t1, i1, y12 => ((ix y12 (i1 : Int)).bind fun x21 => (laws_toIntS_l1 t1 (i1 + 1)) (List.set y12 (Int.toNat (i1 : Int)) x10))
def laws_toIntS (a0 : (List Int)) : Option ((List Int)) :=
  (gO ((0 : Int) ≤ (a0.length : Int) ∧ room 8 (Int.toNat (a0.length : Int))) ((laws_toIntS_l1 a0 0 (List.replicate (Int.toNat (a0.length : Int)) 0))))

def laws_toRep (a0 : SRep) : Option (SRep) :=
  some a0

def laws_toRepS_l1 : List SRep → Nat → (List SRep) → Option ((List SRep))
  | [], i1, y14 => some y14
  | x10 :: t1, i1, y14 => ((laws_toRep x10).bind fun v25 => ((ix y14 (i1 : Int)).bind fun x27 => (laws_toRepS_l1 t1 (i1 + 1)) (List.set y14 (Int.toNat (i1 : Int)) v25)))
def laws_toRepS (a0 : (List SRep)) : Option ((List SRep)) :=
  (gO ((0 : Int) ≤ (a0.length : Int) ∧ room 16 (Int.toNat (a0.length : Int))) ((laws_toRepS_l1 a0 0 (List.replicate (Int.toNat (a0.length : Int)) (SRep.mk 0 0)))))

def laws_toAcct (a0 : SAcct) : Option (SAcct) :=
  ((laws_toIntS a0.fMarks).bind fun v3 => ((laws_toRepS a0.fReps).bind fun v5 => some { a0 with fMarks := v3, fReps := v5 }))

def laws_eqIntS_l1 (a1 : (List Int)) : List Int → Nat → Option (Bool)
  | [], i1 => some true
  | x10 :: t1, i1 => ((ix a1 (i1 : Int)).bind fun x20 => (bif (x10 != x20) then some false else (laws_eqIntS_l1 a1 t1 (i1 + 1))))
def laws_eqIntS (a0 : (List Int)) (a1 : (List Int)) : Option (Bool) :=
  (bif ((a0.length : Int) != (a1.length : Int)) then some false else (laws_eqIntS_l1 a1 a0 0))

def laws_eqRep (a0 : SRep) (a1 : SRep) : Option (Bool) :=
  (bif (a0.fNode != a1.fNode) then some false else (bif (a0.fAmt != a1.fAmt) then some false else some true))

def laws_eqRepS_l1 (a1 : (List SRep)) : List SRep → Nat → Option (Bool)
  | [], i1 => some true
  | x10 :: t1, i1 => ((ix a1 (i1 : Int)).bind fun x24 => ((laws_eqRep x10 x24).bind fun v26 => (bif (!v26) then some false else (laws_eqRepS_l1 a1 t1 (i1 + 1)))))
def laws_eqRepS (a0 : (List SRep)) (a1 : (List SRep)) : Option (Bool) :=
  (bif ((a0.length : Int) != (a1.length : Int)) then some false else (laws_eqRepS_l1 a1 a0 0))

def laws_eqAcct (a0 : SAcct) (a1 : SAcct) : Option (Bool) :=
  (bif (a0.fHave != a1.fHave) then some false else (bif (a0.fState != a1.fState) then some false else (bif (a0.fBy != a1.fBy) then some false else ((laws_eqIntS a0.fMarks a1.fMarks).bind fun v10 => (bif (!v10) then some false else ((laws_eqRepS a0.fReps a1.fReps).bind fun v13 => (bif (!v13) then some false else some true)))))))

def laws_markIntS_l1 : Nat → Int → Int → (List Int) → Option ((Int) × (List Int))
  | 0, _, _, _ => none
  | n1 + 1, y8, y9, y10 => (bif (decide (y8 < (y10.length : Int))) then ((ix y10 y8).bind fun x20 => (laws_markIntS_l1 n1) (w64 (y8 + 1)) (w64 (y9 + 1)) (List.set y10 (Int.toNat y8) y9)) else some (y9, y10))
def laws_markIntS (a0 : (List Int)) (a1 : Int) : Option ((Int) × (List Int)) :=
  (laws_markIntS_l1 fuel 0 a1 a0)

def laws_markRepS_l1 : Nat → Int → Int → (List SRep) → Option ((Int) × (List SRep))
  | 0, _, _, _ => none
  | n1 + 1, y10, y11, y12 => (bif (decide (y10 < (y12.length : Int))) then ((ix y12 y10).bind fun x26 => (laws_markRepS_l1 n1) (w64 (y10 + 1)) (w64 ((w64 (y11 + 1)) + 1)) (List.set y12 (Int.toNat y10) (SRep.mk y11 (w64 (y11 + 1))))) else some (y11, y12))
def laws_markRepS (a0 : (List SRep)) (a1 : Int) : Option ((Int) × (List SRep)) :=
  (laws_markRepS_l1 fuel 0 a1 a0)

def laws_markAcct (a0 : SAcct) (a1 : Int) : Option ((Int) × SAcct) :=
  ((laws_markIntS a0.fMarks a1).bind fun v3 => ((laws_markRepS a0.fReps v3.1).bind fun v5 => some (v5.1, { a0 with fMarks := v3.2, fReps := v5.2 })))

def laws_heldIntS_l1 : List Int → Nat → Int → Option (Int)
  | [], i1, y9 => some y9
  | x10 :: t1, i1, y9 => (bif (x10 != y9) then some (-1) else (laws_heldIntS_l1 t1 (i1 + 1)) (w64 (y9 + 1)))
def laws_heldIntS (a0 : (List Int)) (a1 : Int) : Option (Int) :=
  (laws_heldIntS_l1 a0 0 a1)

def laws_heldRepS_l1 : List SRep → Nat → Int → Option (Int)
  | [], i1, y13 => some y13
  | x10 :: t1, i1, y13 => (bif (x10.fNode != y13) then some (-1) else (bif (x10.fAmt != (w64 (y13 + 1))) then some (-1) else (laws_heldRepS_l1 t1 (i1 + 1)) (w64 ((w64 (y13 + 1)) + 1))))
def laws_heldRepS (a0 : (List SRep)) (a1 : Int) : Option (Int) :=
  (laws_heldRepS_l1 a0 0 a1)

def laws_heldAcct (a0 : SAcct) (a1 : Int) : Option (Int) :=
  ((laws_heldIntS a0.fMarks a1).bind fun v3 => (bif (decide (v3 < 0)) then some (-1) else ((laws_heldRepS a0.fReps v3).bind fun v9 => (bif (decide (v9 < 0)) then some (-1) else some v9))))

def spec_l08Copy (a0 : SAcct) : Option (SAcct) :=
  (gO (room 8 (([] : List Int).length + a0.fMarks.length)) ((gO (room 16 (([] : List SRep).length + a0.fReps.length)) (some a0))))

def spec_l01In (a0 : Int) (a1 : Int) (a2 : Int) : Option (Bool) :=
  (bif (decide (a0 ≥ a1)) then some (decide (a0 ≤ a2)) else some false)

def spec_l07Node (a0 : Int) : Option (Bool) :=
  ((spec_l01In a0 0 3).bind fun v1 => some v1)

def spec_l01Num (a0 : Int) : Option (Bool) :=
  ((spec_l01In a0 0 1125899906842624).bind fun v1 => some v1)

def spec_AcctRep_j3 (a3 : Int) (v25 : SAcct) (y146 : List SRep) : Option (SAcct × Bool) :=
  (bif ((y146.length : Int) == a3) then some ({ v25 with fState := 2, fReps := y146 }, true) else some ({ v25 with fReps := y146 }, true))
def spec_AcctRep_j4 (kk2 : Bool → (List SRep) → Option (SAcct × Bool)) (x20 : SRep) (y158 : Bool) (y159 : Bool) (y160 : Bool) (y161 : List SRep) : Option (SAcct × Bool) :=
  (gO (room 16 (y161.length + [x20].length)) (kk2 y158 (y161 ++ [x20])))
def spec_AcctRep_j5 (a1 : Int) (a2 : Int) (y114 : Bool) (y115 : List SRep) (kk2 : Bool → (List SRep) → Option (SAcct × Bool)) (x20 : SRep) (y164 : Bool) (y165 : Bool) : Option (SAcct × Bool) :=
  (bif y165 then (gO (room 16 (y115.length + [(SRep.mk a1 a2)].length)) (spec_AcctRep_j4 kk2 x20 true y164 y165 (y115 ++ [(SRep.mk a1 a2)]))) else spec_AcctRep_j4 kk2 x20 y114 y164 y165 y115)
def spec_AcctRep_l2 (a1 : Int) (a2 : Int) (a3 : Int) (v25 : SAcct) : List SRep → Nat → Bool → (List SRep) → Option (SAcct × Bool)
  | [], i2, y114, y115 => (bif (!y114) then (gO (room 16 (y115.length + [(SRep.mk a1 a2)].length)) (spec_AcctRep_j3 a3 v25 (y115 ++ [(SRep.mk a1 a2)]))) else spec_AcctRep_j3 a3 v25 y115)
  | x20 :: t2, i2, y114, y115 => (bif (x20.fNode == a1) then some ((SAcct.mk 0 0 0 [] []), false) else (bif (!y114) then spec_AcctRep_j5 a1 a2 y114 y115 (spec_AcctRep_l2 a1 a2 a3 v25 t2 (i2 + 1)) x20 true (decide (x20.fNode > a1)) else spec_AcctRep_j5 a1 a2 y114 y115 (spec_AcctRep_l2 a1 a2 a3 v25 t2 (i2 + 1)) x20 false false))
def spec_AcctRep_j1 (a0 : SAcct) (a1 : Int) (a2 : Int) (a3 : Int) (y21 : Bool) : Option (SAcct × Bool) :=
  (bif y21 then some ((SAcct.mk 0 0 0 [] []), false) else ((spec_l08Copy a0).bind fun v25 => (spec_AcctRep_l2 a1 a2 a3 v25 a0.fReps 0 false [])))
def spec_AcctRep (a0 : SAcct) (a1 : Int) (a2 : Int) (a3 : Int) : Option (SAcct × Bool) :=
  (bif (a0.fState == 0) then spec_AcctRep_j1 a0 a1 a2 a3 true else ((spec_l07Node a1).bind fun v170 => (bif (!v170) then spec_AcctRep_j1 a0 a1 a2 a3 true else ((spec_l01Num a2).bind fun v173 => spec_AcctRep_j1 a0 a1 a2 a3 (!v173)))))

def impl_in (a0 : Int) (a1 : Int) (a2 : Int) : Option (Bool) :=
  (bif (decide (a0 ≥ a1)) then some (decide (a0 ≤ a2)) else some false)

def impl_isNode (a0 : Int) : Option (Bool) :=
  ((impl_in a0 0 3).bind fun v1 => some v1)

def impl_isNum (a0 : Int) : Option (Bool) :=
  ((impl_in a0 0 1125899906842624).bind fun v1 => some v1)

def impl_copyInts (a0 : (List Int)) : Option ((List Int)) :=
  (gO (room 8 (([] : List Int).length + a0.length)) (some a0))

def impl_copyAcct (a0 : SAcct) : Option (SAcct) :=
  ((impl_copyInts a0.fMarks).bind fun v1 => (gO (room 16 (([] : List SRep).length + a0.fReps.length)) (some { a0 with fMarks := v1 })))

def impl_repAt_l1 (a1 : Int) : List SRep → Nat → Option (Int)
  | [], i1 => some (-1)
  | x10 :: t1, i1 => (bif (x10.fNode == a1) then some (i1 : Int) else (impl_repAt_l1 a1 t1 (i1 + 1)))
def impl_repAt (a0 : SAcct) (a1 : Int) : Option (Int) :=
  (impl_repAt_l1 a1 a0.fReps 0)

def impl_AcctRep_j2 (a0 : SAcct) (a1 : Int) (a2 : Int) (a3 : Int) (v34 : SAcct) (y66 : Int) : Option (SAcct × Bool) :=
  (gO ((0 : Int) ≤ 0 ∧ 0 ≤ y66 ∧ y66 ≤ (a0.fReps.length : Int)) ((gO (room 16 (([] : List SRep).length + (List.take (Int.toNat y66 - Int.toNat 0) (List.drop (Int.toNat 0) a0.fReps)).length)) ((gO (room 16 ((List.take (Int.toNat y66 - Int.toNat 0) (List.drop (Int.toNat 0) a0.fReps)).length + [(SRep.mk a1 a2)].length)) ((gO ((0 : Int) ≤ y66 ∧ y66 ≤ (a0.fReps.length : Int) ∧ (a0.fReps.length : Int) ≤ (a0.fReps.length : Int)) ((gO (room 16 (((List.take (Int.toNat y66 - Int.toNat 0) (List.drop (Int.toNat 0) a0.fReps)) ++ [(SRep.mk a1 a2)]).length + (List.take (Int.toNat (a0.fReps.length : Int) - Int.toNat y66) (List.drop (Int.toNat y66) a0.fReps)).length)) ((bif (((((List.take (Int.toNat y66 - Int.toNat 0) (List.drop (Int.toNat 0) a0.fReps)) ++ [(SRep.mk a1 a2)]) ++ (List.take (Int.toNat (a0.fReps.length : Int) - Int.toNat y66) (List.drop (Int.toNat y66) a0.fReps))).length : Int) == a3) then some ({ v34 with fState := 2, fReps := ((List.take (Int.toNat y66 - Int.toNat 0) (List.drop (Int.toNat 0) a0.fReps)) ++ [(SRep.mk a1 a2)]) ++ (List.take (Int.toNat (a0.fReps.length : Int) - Int.toNat y66) (List.drop (Int.toNat y66) a0.fReps)) }, true) else some ({ v34 with fReps := ((List.take (Int.toNat y66 - Int.toNat 0) (List.drop (Int.toNat 0) a0.fReps)) ++ [(SRep.mk a1 a2)]) ++ (List.take (Int.toNat (a0.fReps.length : Int) - Int.toNat y66) (List.drop (Int.toNat y66) a0.fReps)) }, true))))))))))))
def impl_AcctRep_l3 (a0 : SAcct) (a1 : Int) (a2 : Int) (a3 : Int) (v34 : SAcct) : Nat → Int → Option (SAcct × Bool)
  | 0, _ => none
  | n3 + 1, y87 => (bif (decide (y87 < (a0.fReps.length : Int))) then ((ix a0.fReps y87).bind fun x105 => (bif (decide (x105.fNode < a1)) then (impl_AcctRep_l3 a0 a1 a2 a3 v34 n3) (w64 (y87 + 1)) else impl_AcctRep_j2 a0 a1 a2 a3 v34 y87)) else impl_AcctRep_j2 a0 a1 a2 a3 v34 y87)
def impl_AcctRep_j1 (a0 : SAcct) (a1 : Int) (a2 : Int) (a3 : Int) (y30 : Bool) : Option (SAcct × Bool) :=
  (bif y30 then some ((SAcct.mk 0 0 0 [] []), false) else ((impl_copyAcct a0).bind fun v34 => (impl_AcctRep_l3 a0 a1 a2 a3 v34 fuel 0)))
def impl_AcctRep (a0 : SAcct) (a1 : Int) (a2 : Int) (a3 : Int) : Option (SAcct × Bool) :=
  (bif (a0.fState == 0) then impl_AcctRep_j1 a0 a1 a2 a3 true else ((impl_isNode a1).bind fun v109 => (bif (!v109) then impl_AcctRep_j1 a0 a1 a2 a3 true else ((impl_repAt a0 a1).bind fun v112 => (bif (decide (v112 ≥ 0)) then impl_AcctRep_j1 a0 a1 a2 a3 true else ((impl_isNum a2).bind fun v115 => impl_AcctRep_j1 a0 a1 a2 a3 (!v115)))))))

def laws_FnExactAcctRep (a0 : SAcct) (a1 : Int) (a2 : Int) (a3 : Int) : Option (Bool) :=
  ((laws_szAcct a0 1048576).bind fun v3 => (bif (decide (v3 < 0)) then some true else ((laws_toAcct a0).bind fun v11 => ((spec_AcctRep v11 a1 a2 a3).bind fun v13 => ((laws_toAcct a0).bind fun v17 => ((impl_AcctRep v17 a1 a2 a3).bind fun v21 => ((laws_eqAcct v21.1 v13.1).bind fun v27 => (bif (!v27) then some false else (bif (v21.2 != v13.2) then some false else ((laws_toAcct a0).bind fun v36 => ((laws_eqAcct v17 v36).bind fun v38 => (bif (!v38) then some false else ((laws_markAcct v17 1).bind fun v43 => (bif (decide (v43.1 < 0)) then some false else ((laws_eqAcct v21.1 v13.1).bind fun v50 => (bif (!v50) then some false else ((laws_markAcct v21.1 1).bind fun v55 => ((laws_heldAcct { v21.1 with fMarks := v55.2.fMarks, fReps := v55.2.fReps } 1).bind fun v59 => (bif (decide (v59 < 0)) then some false else (bif (v59 != v55.1) then some false else ((laws_toAcct a0).bind fun v69 => ((impl_AcctRep v69 a1 a2 a3).bind fun v71 => ((laws_eqAcct v71.1 v13.1).bind fun v77 => (bif (!v77) then some false else (bif (v71.2 != v13.2) then some false else ((laws_heldAcct { v21.1 with fMarks := v55.2.fMarks, fReps := v55.2.fReps } 1).bind fun v83 => (bif (decide (v83 < 0)) then some false else (bif (v83 != v55.1) then some false else some true))))))))))))))))))))))))))))

end Go.Proofs.Ytncjcbdbdocjaaa
