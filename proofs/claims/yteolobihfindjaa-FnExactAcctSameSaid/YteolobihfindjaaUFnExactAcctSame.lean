/- Plain Lean functions, one for each Go function that the law reaches. -/
import Derived.Test.YteolobihfindjaaK4
set_option linter.unusedVariables false
namespace Go.Proofs.Yteolobihfindjaa
open Go Ax

def fuel : Nat := 4611686018427387904

def laws_szIntS (a0 : (List Int)) (a1 : Int) : Option (Int) :=
  (bif (decide ((w64 (a1 - (a0.length : Int))) < 0)) then some (-1) else some (w64 (a1 - (a0.length : Int))))

def laws_szRepS (a0 : (List SRep)) (a1 : Int) : Option (Int) :=
  (bif (decide ((w64 (a1 - (a0.length : Int))) < 0)) then some (-1) else some (w64 (a1 - (a0.length : Int))))

def laws_szAcct (a0 : SAcct) (a1 : Int) : Option (Int) :=
  ((laws_szIntS a0.fMarks a1).bind fun v3 => (bif (decide (v3 < 0)) then some (-1) else ((laws_szRepS a0.fReps v3).bind fun v9 => (bif (decide (v9 < 0)) then some (-1) else some v9))))

def laws_toIntS_l1 : List Int → Nat → (List Int) → Option ((List Int))
  | [], i1, y12 => some y12
  | x10 :: t1, i1, y12 => ((ix y12 (i1 : Int)).bind fun x21 => (laws_toIntS_l1 t1 (i1 + 1)) (List.set y12 (Int.toNat (i1 : Int)) x10))
def laws_toIntS (a0 : (List Int)) : Option ((List Int)) :=
  (gO (0 ≤ (a0.length : Int) ∧ room 8 (Int.toNat (a0.length : Int))) ((laws_toIntS_l1 a0 0 (List.replicate (Int.toNat (a0.length : Int)) 0))))

def laws_toRep (a0 : SRep) : Option (SRep) :=
  some a0

def laws_toRepS_l1 : List SRep → Nat → (List SRep) → Option ((List SRep))
  | [], i1, y14 => some y14
  | x10 :: t1, i1, y14 => ((laws_toRep x10).bind fun v25 => ((ix y14 (i1 : Int)).bind fun x27 => (laws_toRepS_l1 t1 (i1 + 1)) (List.set y14 (Int.toNat (i1 : Int)) v25)))
def laws_toRepS (a0 : (List SRep)) : Option ((List SRep)) :=
  (gO (0 ≤ (a0.length : Int) ∧ room 16 (Int.toNat (a0.length : Int))) ((laws_toRepS_l1 a0 0 (List.replicate (Int.toNat (a0.length : Int)) (SRep.mk 0 0)))))

def laws_toAcct (a0 : SAcct) : Option (SAcct) :=
  ((laws_toIntS a0.fMarks).bind fun v3 => ((laws_toRepS a0.fReps).bind fun v5 => some { a0 with fMarks := v3, fReps := v5 }))

def laws_eqIntS_l1 (a1 : (List Int)) : List Int → Nat → Option (Bool)
  | [], i1 => some true
  | x10 :: t1, i1 => ((ix a1 (i1 : Int)).bind fun x20 => (bif (x10 != x20) then some false else (laws_eqIntS_l1 a1 t1 (i1 + 1))))
def laws_eqIntS (a0 : (List Int)) (a1 : (List Int)) : Option (Bool) :=
  (bif ((a0.length : Int) != (a1.length : Int)) then some false else (laws_eqIntS_l1 a1 a0 0))

def laws_eqRep (a0 : SRep) (a1 : SRep) : Option (Bool) :=
  (bif (a0.fNode != a1.fNode) then some false else (bif (a0.fAmt != a1.fAmt) then some false else some true))

def laws_eqRepS_l1 (a1 : (List SRep)) : List SRep → Nat → Option (Bool)
  | [], i1 => some true
  | x10 :: t1, i1 => ((ix a1 (i1 : Int)).bind fun x24 => ((laws_eqRep x10 x24).bind fun v26 => (bif (!v26) then some false else (laws_eqRepS_l1 a1 t1 (i1 + 1)))))
def laws_eqRepS (a0 : (List SRep)) (a1 : (List SRep)) : Option (Bool) :=
  (bif ((a0.length : Int) != (a1.length : Int)) then some false else (laws_eqRepS_l1 a1 a0 0))

def laws_eqAcct (a0 : SAcct) (a1 : SAcct) : Option (Bool) :=
  (bif (a0.fHave != a1.fHave) then some false else (bif (a0.fState != a1.fState) then some false else (bif (a0.fBy != a1.fBy) then some false else ((laws_eqIntS a0.fMarks a1.fMarks).bind fun v10 => (bif (!v10) then some false else ((laws_eqRepS a0.fReps a1.fReps).bind fun v13 => (bif (!v13) then some false else some true)))))))

def spec_l01Same_l1 (a1 : (List Int)) : List Int → Nat → Option (Bool)
  | [], i1 => some true
  | x10 :: t1, i1 => ((ix a1 (i1 : Int)).bind fun x20 => (bif (x10 != x20) then some false else (spec_l01Same_l1 a1 t1 (i1 + 1))))
def spec_l01Same (a0 : (List Int)) (a1 : (List Int)) : Option (Bool) :=
  (bif ((a0.length : Int) != (a1.length : Int)) then some false else (spec_l01Same_l1 a1 a0 0))

def spec_AcctSame_l1 (a1 : SAcct) : List SRep → Nat → Option (Bool)
  | [], i1 => some true
  | x10 :: t1, i1 => ((ix a1.fReps (i1 : Int)).bind fun x36 => (bif (!((x10.fNode == x36.fNode) && ((x10.fAmt == x36.fAmt) && true))) then some false else (spec_AcctSame_l1 a1 t1 (i1 + 1))))
def spec_AcctSame (a0 : SAcct) (a1 : SAcct) : Option (Bool) :=
  (bif (a0.fHave != a1.fHave) then some false else (bif (a0.fState != a1.fState) then some false else (bif (a0.fBy != a1.fBy) then some false else ((spec_l01Same a0.fMarks a1.fMarks).bind fun v11 => (bif (!v11) then some false else (bif ((a0.fReps.length : Int) != (a1.fReps.length : Int)) then some false else (spec_AcctSame_l1 a1 a0.fReps 0)))))))

def impl_sameInts_l1 (a1 : (List Int)) : List Int → Nat → Option (Bool)
  | [], i1 => some true
  | x10 :: t1, i1 => ((ix a1 (i1 : Int)).bind fun x20 => (bif (x10 != x20) then some false else (impl_sameInts_l1 a1 t1 (i1 + 1))))
def impl_sameInts (a0 : (List Int)) (a1 : (List Int)) : Option (Bool) :=
  (bif ((a0.length : Int) != (a1.length : Int)) then some false else (impl_sameInts_l1 a1 a0 0))

def impl_AcctSame_l1 (a1 : SAcct) : List SRep → Nat → Option (Bool)
  | [], i1 => some true
  | x10 :: t1, i1 => ((ix a1.fReps (i1 : Int)).bind fun x32 => (bif (!((x10.fNode == x32.fNode) && ((x10.fAmt == x32.fAmt) && true))) then some false else (impl_AcctSame_l1 a1 t1 (i1 + 1))))
def impl_AcctSame (a0 : SAcct) (a1 : SAcct) : Option (Bool) :=
  (bif (a0.fHave != a1.fHave) then some false else (bif (a0.fState != a1.fState) then some false else (bif (a0.fBy != a1.fBy) then some false else ((impl_sameInts a0.fMarks a1.fMarks).bind fun v11 => (bif (!v11) then some false else (bif ((a0.fReps.length : Int) != (a1.fReps.length : Int)) then some false else (gO (a0.fReps.length ≤ maxLen)  (impl_AcctSame_l1 a1 a0.fReps 0))))))))

def laws_FnExactAcctSame (a0 : SAcct) (a1 : SAcct) : Option (Bool) :=
  ((laws_szAcct a0 1048576).bind fun v3 => (bif (decide (v3 < 0)) then some true else ((laws_szAcct a1 v3).bind fun v9 => (bif (decide (v9 < 0)) then some true else ((laws_toAcct a0).bind fun v19 => ((laws_toAcct a1).bind fun v21 => ((spec_AcctSame v19 v21).bind fun v23 => ((laws_toAcct a0).bind fun v27 => ((laws_toAcct a1).bind fun v31 => ((impl_AcctSame v27 v31).bind fun v35 => (bif (v35 != v23) then some false else ((laws_toAcct a0).bind fun v44 => ((laws_eqAcct v27 v44).bind fun v46 => (bif (!v46) then some false else ((laws_toAcct a1).bind fun v49 => ((laws_eqAcct v31 v49).bind fun v51 => (bif (!v51) then some false else some true)))))))))))))))))

end Go.Proofs.Yteolobihfindjaa
