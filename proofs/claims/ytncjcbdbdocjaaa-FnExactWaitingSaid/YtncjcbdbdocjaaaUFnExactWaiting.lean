/- Plain Lean functions, one for each Go function that the law reaches. -/
import Derived.Test.YtncjcbdbdocjaaaK4
set_option linter.unusedVariables false
namespace Go.Proofs.Ytncjcbdbdocjaaa
open Go Ax

def fuel : Nat := 4611686018427387904

def laws_szIntS (a0 : (List Int)) (a1 : Int) : Option (Int) :=
  (bif (decide ((w64 (a1 - (a0.length : Int))) < 0)) then some (-1) else some (w64 (a1 - (a0.length : Int))))

def laws_szRepS (a0 : (List SRep)) (a1 : Int) : Option (Int) :=
  (bif (decide ((w64 (a1 - (a0.length : Int))) < 0)) then some (-1) else some (w64 (a1 - (a0.length : Int))))

def laws_szAcct (a0 : SAcct) (a1 : Int) : Option (Int) :=
  ((laws_szIntS a0.fMarks a1).bind fun v3 => (bif (decide (v3 < 0)) then some (-1) else ((laws_szRepS a0.fReps v3).bind fun v9 => (bif (decide (v9 < 0)) then some (-1) else some v9))))

def laws_szAcctS_l1 : List SAcct → Nat → Int → Option (Int)
  | [], i1, y17 => some y17
  | x10 :: t1, i1, y17 => ((laws_szAcct x10 y17).bind fun v33 => (bif (decide (v33 < 0)) then some (-1) else (laws_szAcctS_l1 t1 (i1 + 1)) v33))
def laws_szAcctS (a0 : (List SAcct)) (a1 : Int) : Option (Int) :=
  (bif (decide ((w64 (a1 - (a0.length : Int))) < 0)) then some (-1) else (laws_szAcctS_l1 a0 0 (w64 (a1 - (a0.length : Int)))))

def laws_szMsgS (a0 : (List SMsg)) (a1 : Int) : Option (Int) :=
  (bif (decide ((w64 (a1 - (a0.length : Int))) < 0)) then some (-1) else some (w64 (a1 - (a0.length : Int))))

def laws_szOut (a0 : SOut) (a1 : Int) : Option (Int) :=
  ((laws_szMsgS a0.fList a1).bind fun v3 => (bif (decide (v3 < 0)) then some (-1) else some v3))

def laws_szOutS_l1 : List SOut → Nat → Int → Option (Int)
  | [], i1, y17 => some y17
  | x10 :: t1, i1, y17 => ((laws_szOut x10 y17).bind fun v33 => (bif (decide (v33 < 0)) then some (-1) else (laws_szOutS_l1 t1 (i1 + 1)) v33))
def laws_szOutS (a0 : (List SOut)) (a1 : Int) : Option (Int) :=
  (bif (decide ((w64 (a1 - (a0.length : Int))) < 0)) then some (-1) else (laws_szOutS_l1 a0 0 (w64 (a1 - (a0.length : Int)))))

def laws_szAccS (a0 : (List SAcc)) (a1 : Int) : Option (Int) :=
  (bif (decide ((w64 (a1 - (a0.length : Int))) < 0)) then some (-1) else some (w64 (a1 - (a0.length : Int))))

def laws_szNode (a0 : SNode) (a1 : Int) : Option (Int) :=
  ((laws_szAcctS a0.fAccts a1).bind fun v3 => (bif (decide (v3 < 0)) then some (-1) else ((laws_szOutS a0.fOuts v3).bind fun v9 => (bif (decide (v9 < 0)) then some (-1) else ((laws_szIntS a0.fIns v9).bind fun v15 => (bif (decide (v15 < 0)) then some (-1) else ((laws_szAccS a0.fAccs v15).bind fun v21 => (bif (decide (v21 < 0)) then some (-1) else some v21))))))))

def spec_Waiting_l1 : List SOut → Nat → Int → Option (Int)
  | [], i1, y10 => some y10
  | x10 :: t1, i1, y10 => (spec_Waiting_l1 t1 (i1 + 1)) (w64 (y10 + (x10.fList.length : Int)))
def spec_Waiting (a0 : SNode) : Option (Int) :=
  (spec_Waiting_l1 a0.fOuts 0 0)

def laws_toIntS_l1 : List Int → Nat → (List Int) → Option ((List Int))
  | [], i1, y12 => some y12
  | x10 :: t1, i1, y12 => ((ix y12 (i1 : Int)).bind fun x21 => (laws_toIntS_l1 t1 (i1 + 1)) (List.set y12 (Int.toNat (i1 : Int)) x10))
def laws_toIntS (a0 : (List Int)) : Option ((List Int)) :=
  (gO ((0 : Int) ≤ (a0.length : Int) ∧ room 8 (Int.toNat (a0.length : Int))) ((laws_toIntS_l1 a0 0 (List.replicate (Int.toNat (a0.length : Int)) 0))))

def laws_toRep (a0 : SRep) : Option (SRep) :=
  some a0

def laws_toRepS_l1 : List SRep → Nat → (List SRep) → Option ((List SRep))
  | [], i1, y14 => some y14
  | x10 :: t1, i1, y14 => ((laws_toRep x10).bind fun v25 => ((ix y14 (i1 : Int)).bind fun x27 => (laws_toRepS_l1 t1 (i1 + 1)) (List.set y14 (Int.toNat (i1 : Int)) v25)))
def laws_toRepS (a0 : (List SRep)) : Option ((List SRep)) :=
  (gO ((0 : Int) ≤ (a0.length : Int) ∧ room 16 (Int.toNat (a0.length : Int))) ((laws_toRepS_l1 a0 0 (List.replicate (Int.toNat (a0.length : Int)) (SRep.mk 0 0)))))

def laws_toAcct (a0 : SAcct) : Option (SAcct) :=
  ((laws_toIntS a0.fMarks).bind fun v3 => ((laws_toRepS a0.fReps).bind fun v5 => some { a0 with fMarks := v3, fReps := v5 }))

def laws_toAcctS_l1 : List SAcct → Nat → (List SAcct) → Option ((List SAcct))
  | [], i1, y14 => some y14
  | x10 :: t1, i1, y14 => ((laws_toAcct x10).bind fun v25 => ((ix y14 (i1 : Int)).bind fun x27 => (laws_toAcctS_l1 t1 (i1 + 1)) (List.set y14 (Int.toNat (i1 : Int)) v25)))
def laws_toAcctS (a0 : (List SAcct)) : Option ((List SAcct)) :=
  (gO ((0 : Int) ≤ (a0.length : Int) ∧ room 72 (Int.toNat (a0.length : Int))) ((laws_toAcctS_l1 a0 0 (List.replicate (Int.toNat (a0.length : Int)) (SAcct.mk 0 0 0 [] [])))))

def laws_toMsg (a0 : SMsg) : Option (SMsg) :=
  some a0

def laws_toMsgS_l1 : List SMsg → Nat → (List SMsg) → Option ((List SMsg))
  | [], i1, y14 => some y14
  | x10 :: t1, i1, y14 => ((laws_toMsg x10).bind fun v25 => ((ix y14 (i1 : Int)).bind fun x27 => (laws_toMsgS_l1 t1 (i1 + 1)) (List.set y14 (Int.toNat (i1 : Int)) v25)))
def laws_toMsgS (a0 : (List SMsg)) : Option ((List SMsg)) :=
  (gO ((0 : Int) ≤ (a0.length : Int) ∧ room 32 (Int.toNat (a0.length : Int))) ((laws_toMsgS_l1 a0 0 (List.replicate (Int.toNat (a0.length : Int)) (SMsg.mk 0 0 0 0)))))

def laws_toOut (a0 : SOut) : Option (SOut) :=
  ((laws_toMsgS a0.fList).bind fun v1 => some (SOut.mk a0.fNext v1))

def laws_toOutS_l1 : List SOut → Nat → (List SOut) → Option ((List SOut))
  | [], i1, y14 => some y14
  | x10 :: t1, i1, y14 => ((laws_toOut x10).bind fun v25 => ((ix y14 (i1 : Int)).bind fun x27 => (laws_toOutS_l1 t1 (i1 + 1)) (List.set y14 (Int.toNat (i1 : Int)) v25)))
def laws_toOutS (a0 : (List SOut)) : Option ((List SOut)) :=
  (gO ((0 : Int) ≤ (a0.length : Int) ∧ room 32 (Int.toNat (a0.length : Int))) ((laws_toOutS_l1 a0 0 (List.replicate (Int.toNat (a0.length : Int)) (SOut.mk 0 [])))))

def laws_toAcc (a0 : SAcc) : Option (SAcc) :=
  some a0

def laws_toAccS_l1 : List SAcc → Nat → (List SAcc) → Option ((List SAcc))
  | [], i1, y14 => some y14
  | x10 :: t1, i1, y14 => ((laws_toAcc x10).bind fun v25 => ((ix y14 (i1 : Int)).bind fun x27 => (laws_toAccS_l1 t1 (i1 + 1)) (List.set y14 (Int.toNat (i1 : Int)) v25)))
def laws_toAccS (a0 : (List SAcc)) : Option ((List SAcc)) :=
  (gO ((0 : Int) ≤ (a0.length : Int) ∧ room 24 (Int.toNat (a0.length : Int))) ((laws_toAccS_l1 a0 0 (List.replicate (Int.toNat (a0.length : Int)) (SAcc.mk 0 0 0)))))

def laws_toNode (a0 : SNode) : Option (SNode) :=
  ((laws_toAcctS a0.fAccts).bind fun v3 => ((laws_toOutS a0.fOuts).bind fun v7 => ((laws_toIntS a0.fIns).bind fun v11 => ((laws_toAccS a0.fAccs).bind fun v15 => some { a0 with fAccts := v3, fOuts := v7, fIns := v11, fAccs := v15 }))))

def impl_Waiting_l1 : List SOut → Nat → Int → Option (Int)
  | [], i1, y10 => some y10
  | x10 :: t1, i1, y10 => (impl_Waiting_l1 t1 (i1 + 1)) (w64 (y10 + (x10.fList.length : Int)))
def impl_Waiting (a0 : SNode) : Option (Int) :=
  (impl_Waiting_l1 a0.fOuts 0 0)

def laws_eqIntS_l1 (a1 : (List Int)) : List Int → Nat → Option (Bool)
  | [], i1 => some true
  | x10 :: t1, i1 => ((ix a1 (i1 : Int)).bind fun x20 => (bif (x10 != x20) then some false else (laws_eqIntS_l1 a1 t1 (i1 + 1))))
def laws_eqIntS (a0 : (List Int)) (a1 : (List Int)) : Option (Bool) :=
  (bif ((a0.length : Int) != (a1.length : Int)) then some false else (laws_eqIntS_l1 a1 a0 0))

def laws_eqRep (a0 : SRep) (a1 : SRep) : Option (Bool) :=
  (bif (a0.fNode != a1.fNode) then some false else (bif (a0.fAmt != a1.fAmt) then some false else some true))

def laws_eqRepS_l1 (a1 : (List SRep)) : List SRep → Nat → Option (Bool)
  | [], i1 => some true
  | x10 :: t1, i1 => ((ix a1 (i1 : Int)).bind fun x24 => ((laws_eqRep x10 x24).bind fun v26 => (bif (!v26) then some false else (laws_eqRepS_l1 a1 t1 (i1 + 1)))))
def laws_eqRepS (a0 : (List SRep)) (a1 : (List SRep)) : Option (Bool) :=
  (bif ((a0.length : Int) != (a1.length : Int)) then some false else (laws_eqRepS_l1 a1 a0 0))

def laws_eqAcct (a0 : SAcct) (a1 : SAcct) : Option (Bool) :=
  (bif (a0.fHave != a1.fHave) then some false else (bif (a0.fState != a1.fState) then some false else (bif (a0.fBy != a1.fBy) then some false else ((laws_eqIntS a0.fMarks a1.fMarks).bind fun v10 => (bif (!v10) then some false else ((laws_eqRepS a0.fReps a1.fReps).bind fun v13 => (bif (!v13) then some false else some true)))))))

def laws_eqAcctS_l1 (a1 : (List SAcct)) : List SAcct → Nat → Option (Bool)
  | [], i1 => some true
  | x10 :: t1, i1 => ((ix a1 (i1 : Int)).bind fun x24 => ((laws_eqAcct x10 x24).bind fun v26 => (bif (!v26) then some false else (laws_eqAcctS_l1 a1 t1 (i1 + 1)))))
def laws_eqAcctS (a0 : (List SAcct)) (a1 : (List SAcct)) : Option (Bool) :=
  (bif ((a0.length : Int) != (a1.length : Int)) then some false else (laws_eqAcctS_l1 a1 a0 0))

def laws_eqMsg (a0 : SMsg) (a1 : SMsg) : Option (Bool) :=
  (bif (a0.fKind != a1.fKind) then some false else (bif (a0.fAcct != a1.fAcct) then some false else (bif (a0.fAmt != a1.fAmt) then some false else (bif (a0.fSrc != a1.fSrc) then some false else some true))))

def laws_eqMsgS_l1 (a1 : (List SMsg)) : List SMsg → Nat → Option (Bool)
  | [], i1 => some true
  | x10 :: t1, i1 => ((ix a1 (i1 : Int)).bind fun x24 => ((laws_eqMsg x10 x24).bind fun v26 => (bif (!v26) then some false else (laws_eqMsgS_l1 a1 t1 (i1 + 1)))))
def laws_eqMsgS (a0 : (List SMsg)) (a1 : (List SMsg)) : Option (Bool) :=
  (bif ((a0.length : Int) != (a1.length : Int)) then some false else (laws_eqMsgS_l1 a1 a0 0))

def laws_eqOut (a0 : SOut) (a1 : SOut) : Option (Bool) :=
  (bif (a0.fNext != a1.fNext) then some false else ((laws_eqMsgS a0.fList a1.fList).bind fun v3 => (bif (!v3) then some false else some true)))

def laws_eqOutS_l1 (a1 : (List SOut)) : List SOut → Nat → Option (Bool)
  | [], i1 => some true
  | x10 :: t1, i1 => ((ix a1 (i1 : Int)).bind fun x24 => ((laws_eqOut x10 x24).bind fun v26 => (bif (!v26) then some false else (laws_eqOutS_l1 a1 t1 (i1 + 1)))))
def laws_eqOutS (a0 : (List SOut)) (a1 : (List SOut)) : Option (Bool) :=
  (bif ((a0.length : Int) != (a1.length : Int)) then some false else (laws_eqOutS_l1 a1 a0 0))

def laws_eqAcc (a0 : SAcc) (a1 : SAcc) : Option (Bool) :=
  (bif (a0.fProm != a1.fProm) then some false else (bif (a0.fBal != a1.fBal) then some false else (bif (a0.fVal != a1.fVal) then some false else some true)))

def laws_eqAccS_l1 (a1 : (List SAcc)) : List SAcc → Nat → Option (Bool)
  | [], i1 => some true
  | x10 :: t1, i1 => ((ix a1 (i1 : Int)).bind fun x24 => ((laws_eqAcc x10 x24).bind fun v26 => (bif (!v26) then some false else (laws_eqAccS_l1 a1 t1 (i1 + 1)))))
def laws_eqAccS (a0 : (List SAcc)) (a1 : (List SAcc)) : Option (Bool) :=
  (bif ((a0.length : Int) != (a1.length : Int)) then some false else (laws_eqAccS_l1 a1 a0 0))

def laws_eqNode (a0 : SNode) (a1 : SNode) : Option (Bool) :=
  (bif (a0.fId != a1.fId) then some false else (bif (a0.fN != a1.fN) then some false else ((laws_eqAcctS a0.fAccts a1.fAccts).bind fun v8 => (bif (!v8) then some false else ((laws_eqOutS a0.fOuts a1.fOuts).bind fun v14 => (bif (!v14) then some false else ((laws_eqIntS a0.fIns a1.fIns).bind fun v20 => (bif (!v20) then some false else ((laws_eqAccS a0.fAccs a1.fAccs).bind fun v26 => (bif (!v26) then some false else (bif (a0.fStray != a1.fStray) then some false else (bif (a0.fCame != a1.fCame) then some false else (bif (a0.fWent != a1.fWent) then some false else some true)))))))))))))

def laws_FnExactWaiting (a0 : SNode) : Option (Bool) :=
  ((laws_szNode a0 1048576).bind fun v3 => (bif (decide (v3 < 0)) then some true else ((laws_toNode a0).bind fun v11 => ((spec_Waiting v11).bind fun v13 => ((laws_toNode a0).bind fun v17 => ((impl_Waiting v17).bind fun v21 => (bif (v21 != v13) then some false else ((laws_toNode a0).bind fun v25 => ((laws_eqNode v17 v25).bind fun v27 => (bif (!v27) then some false else some true))))))))))

end Go.Proofs.Ytncjcbdbdocjaaa
