/- Plain Lean functions, one for each Go function that the law reaches. -/
import Derived.Test.YteolobihfindjaaK4
set_option linter.unusedVariables false
namespace Go.Proofs.Yteolobihfindjaa
open Go Ax

def fuel : Nat := 4611686018427387904

def spec_l01New_j1 (a0 : (List Int)) (y24 : Int) : Option (SCur) :=
  some (SCur.mk a0 0 y24)
def spec_l01New_l2 (a0 : (List Int)) : Nat → Int → Int → Option (SCur)
  | 0, _, _ => none
  | n2 + 1, y31, y32 => (bif (decide (y31 < (a0.length : Int))) then (bif (decide (y31 < 4000)) then ((ix a0 y31).bind fun x46 => (spec_l01New_l2 a0 n2) (w64 (y31 + 1)) (bits .and .i64 (w64 ((w64 ((w64 (y32 * 47)) + (w64 x46))) + 7)) 1073741823)) else spec_l01New_j1 a0 y32) else spec_l01New_j1 a0 y32)
def spec_l01New (a0 : (List Int)) : Option (SCur) :=
  (spec_l01New_l2 a0 fuel 0 (w64 (1626 + (a0.length : Int))))

def spec_l01Byte (a0 : SCur) : Option ((Int) × SCur) :=
  (bif (decide (a0.fI < (a0.fB.length : Int))) then ((ix a0.fB a0.fI).bind fun x4 => some (bits .and .i64 (w64 ((bits .and .i64 (bits .xor .i64 (Int.fdiv (w64 ((w64 (a0.fH * 6364136223846793005)) + 1442695040888963407)) (2 ^ 33)) (Int.fdiv (w64 ((w64 (a0.fH * 6364136223846793005)) + 1442695040888963407)) (2 ^ 45))) 255) + (w64 x4))) 255, (SCur.mk a0.fB (w64 (a0.fI + 1)) (w64 ((w64 (a0.fH * 6364136223846793005)) + 1442695040888963407))))) else some (bits .and .i64 (bits .xor .i64 (Int.fdiv (w64 ((w64 (a0.fH * 6364136223846793005)) + 1442695040888963407)) (2 ^ 33)) (Int.fdiv (w64 ((w64 (a0.fH * 6364136223846793005)) + 1442695040888963407)) (2 ^ 45))) 255, { a0 with fH := w64 ((w64 (a0.fH * 6364136223846793005)) + 1442695040888963407) }))

def spec_l01Below (a0 : SCur) (a1 : Int) : Option ((Int) × SCur) :=
  (bif (decide (a1 ≤ 0)) then some (0, a0) else (bif (decide (a1 ≤ 256)) then ((spec_l01Byte a0).bind fun v9 => ((remO .i64 v9.1 a1).bind fun v11 => some (v11, v9.2))) else ((spec_l01Byte a0).bind fun v15 => ((spec_l01Byte v15.2).bind fun v19 => ((spec_l01Byte v19.2).bind fun v23 => ((spec_l01Byte v23.2).bind fun v27 => ((remO .i64 (w64 ((w64 ((w64 ((w64 (v15.1 * 16777216)) + (w64 (v19.1 * 65536)))) + (w64 (v23.1 * 256)))) + v27.1)) a1).bind fun v29 => some (v29, v27.2))))))))

def spec_MakeNum (a0 : (List Int)) (a1 : Int) : Option (Int) :=
  ((spec_l01New a0).bind fun v3 => ((spec_l01Below { v3 with fH := w64 (v3.fH + 777) } a1).bind fun v5 => some v5.1))

def impl_sameInts_l1 (a1 : (List Int)) : List Int → Nat → Option (Bool)
  | [], i1 => some true
  | x10 :: t1, i1 => ((ix a1 (i1 : Int)).bind fun x20 => (bif (x10 != x20) then some false else (impl_sameInts_l1 a1 t1 (i1 + 1))))
def impl_sameInts (a0 : (List Int)) (a1 : (List Int)) : Option (Bool) :=
  (bif ((a0.length : Int) != (a1.length : Int)) then some false else (impl_sameInts_l1 a1 a0 0))

def impl_AcctSame_l1 (a1 : SAcct) : List SRep → Nat → Option (Bool)
  | [], i1 => some true
  | x10 :: t1, i1 => ((ix a1.fReps (i1 : Int)).bind fun x32 => (bif (!((x10.fNode == x32.fNode) && ((x10.fAmt == x32.fAmt) && true))) then some false else (impl_AcctSame_l1 a1 t1 (i1 + 1))))
def impl_AcctSame (a0 : SAcct) (a1 : SAcct) : Option (Bool) :=
  (bif (a0.fHave != a1.fHave) then some false else (bif (a0.fState != a1.fState) then some false else (bif (a0.fBy != a1.fBy) then some false else ((impl_sameInts a0.fMarks a1.fMarks).bind fun v11 => (bif (!v11) then some false else (bif ((a0.fReps.length : Int) != (a1.fReps.length : Int)) then some false else (gO (a0.fReps.length ≤ maxLen)  (impl_AcctSame_l1 a1 a0.fReps 0))))))))

def impl_in (a0 : Int) (a1 : Int) (a2 : Int) : Option (Bool) :=
  (bif (decide (a0 ≥ a1)) then some (decide (a0 ≤ a2)) else some false)

def impl_isNum (a0 : Int) : Option (Bool) :=
  ((impl_in a0 0 1125899906842624).bind fun v1 => some v1)

def impl_IsAmt (a0 : Int) : Option (Bool) :=
  ((impl_in a0 1 1000000000).bind fun v1 => some v1)

def impl_copyInts (a0 : (List Int)) : Option ((List Int)) :=
  (gO (room 8 (([] : List Int).length + a0.length)) (some a0))

def impl_copyAcct (a0 : SAcct) : Option (SAcct) :=
  ((impl_copyInts a0.fMarks).bind fun v1 => (gO (room 16 (([] : List SRep).length + a0.fReps.length)) (some { a0 with fMarks := v1 })))

def impl_AcctAdd_j1 (a0 : SAcct) (a1 : Int) (y21 : Bool) : Option (SAcct × Bool) :=
  (bif y21 then some ((SAcct.mk 0 0 0 [] []), false) else ((impl_copyAcct a0).bind fun v25 => some ({ v25 with fHave := w64 (v25.fHave + a1) }, true)))
def impl_AcctAdd (a0 : SAcct) (a1 : Int) : Option (SAcct × Bool) :=
  ((impl_IsAmt a1).bind fun v27 => (bif (!v27) then impl_AcctAdd_j1 a0 a1 true else (bif (decide (a0.fHave < 0)) then impl_AcctAdd_j1 a0 a1 true else ((impl_isNum (w64 (a0.fHave + a1))).bind fun v31 => impl_AcctAdd_j1 a0 a1 (!v31)))))

def impl_AcctNew : Option (SAcct) :=
  some (SAcct.mk 0 0 0 [] [])

def impl_AcctTake_j1 (a0 : SAcct) (a1 : Int) (y12 : Bool) : Option (SAcct × Bool) :=
  (bif y12 then some ((SAcct.mk 0 0 0 [] []), false) else ((impl_copyAcct a0).bind fun v16 => some ({ v16 with fHave := w64 (v16.fHave - a1) }, true)))
def impl_AcctTake (a0 : SAcct) (a1 : Int) : Option (SAcct × Bool) :=
  ((impl_IsAmt a1).bind fun v18 => (bif (!v18) then impl_AcctTake_j1 a0 a1 true else impl_AcctTake_j1 a0 a1 (decide (a1 > a0.fHave))))

def impl_isNode (a0 : Int) : Option (Bool) :=
  ((impl_in a0 0 3).bind fun v1 => some v1)

def impl_AcctShut_j1 (a0 : SAcct) (a1 : Int) (y12 : Bool) : Option (SAcct × Bool) :=
  (bif y12 then some ((SAcct.mk 0 0 0 [] []), false) else ((impl_copyAcct a0).bind fun v16 => some ({ v16 with fState := 1, fBy := a1 }, true)))
def impl_AcctShut (a0 : SAcct) (a1 : Int) : Option (SAcct × Bool) :=
  (bif (a0.fState != 0) then impl_AcctShut_j1 a0 a1 true else ((impl_isNode a1).bind fun v19 => impl_AcctShut_j1 a0 a1 (!v19)))

def impl_hasInt_l1 (a1 : Int) : List Int → Nat → Option (Bool)
  | [], i1 => some false
  | x10 :: t1, i1 => (bif (x10 == a1) then some true else (impl_hasInt_l1 a1 t1 (i1 + 1)))
def impl_hasInt (a0 : (List Int)) (a1 : Int) : Option (Bool) :=
  (impl_hasInt_l1 a1 a0 0)

def impl_AcctMark_l2 (a1 : Int) (v25 : SAcct) : List Int → Nat → (List Int) → (List Int) → Option (SAcct × Bool)
  | [], i2, y70, y71 => (gO (room 8 (y71.length + [a1].length)) ((gO (room 8 ((y71 ++ [a1]).length + y70.length)) (some ({ v25 with fMarks := (y71 ++ [a1]) ++ y70 }, true)))))
  | x20 :: t2, i2, y70, y71 => (bif (decide (x20 < a1)) then (gO (room 8 (y71.length + [x20].length)) ((impl_AcctMark_l2 a1 v25 t2 (i2 + 1)) y70 (y71 ++ [x20]))) else (gO (room 8 (y70.length + [x20].length)) ((impl_AcctMark_l2 a1 v25 t2 (i2 + 1)) (y70 ++ [x20]) y71)))
def impl_AcctMark_j1 (a0 : SAcct) (a1 : Int) (y21 : Bool) : Option (SAcct × Bool) :=
  (bif y21 then some ((SAcct.mk 0 0 0 [] []), false) else ((impl_copyAcct a0).bind fun v25 => (impl_AcctMark_l2 a1 v25 a0.fMarks 0 [] [])))
def impl_AcctMark (a0 : SAcct) (a1 : Int) : Option (SAcct × Bool) :=
  (bif (a0.fState == 0) then impl_AcctMark_j1 a0 a1 true else ((impl_isNode a1).bind fun v90 => (bif (!v90) then impl_AcctMark_j1 a0 a1 true else ((impl_hasInt a0.fMarks a1).bind fun v93 => impl_AcctMark_j1 a0 a1 v93))))

def impl_nodesOk_l1 (a0 : (List Int)) (a1 : Int) : List Int → Nat → Option (Bool)
  | [], i1 => some true
  | x10 :: t1, i1 => ((impl_in x10 0 (w64 (a1 - 1))).bind fun v26 => (bif (!v26) then some false else (bif (decide ((i1 : Int) > 0)) then ((ix a0 (w64 ((i1 : Int) - 1))).bind fun x30 => (bif (decide (x30 ≥ x10)) then some false else (impl_nodesOk_l1 a0 a1 t1 (i1 + 1)))) else (impl_nodesOk_l1 a0 a1 t1 (i1 + 1)))))
def impl_nodesOk (a0 : (List Int)) (a1 : Int) : Option (Bool) :=
  (impl_nodesOk_l1 a0 a1 a0 0)

def impl_repsOk_l1 (a0 : SAcct) (a1 : Int) : List SRep → Nat → Option (Bool)
  | [], i1 => some true
  | x10 :: t1, i1 => ((impl_in x10.fNode 0 (w64 (a1 - 1))).bind fun v32 => (bif (!v32) then some false else ((impl_isNum x10.fAmt).bind fun v35 => (bif (!v35) then some false else (bif (decide ((i1 : Int) > 0)) then ((ix a0.fReps (w64 ((i1 : Int) - 1))).bind fun x39 => (bif (decide (x39.fNode ≥ x10.fNode)) then some false else (impl_repsOk_l1 a0 a1 t1 (i1 + 1)))) else (impl_repsOk_l1 a0 a1 t1 (i1 + 1)))))))
def impl_repsOk (a0 : SAcct) (a1 : Int) : Option (Bool) :=
  (impl_repsOk_l1 a0 a1 a0.fReps 0)

def impl_repAt_l1 (a1 : Int) : List SRep → Nat → Option (Int)
  | [], i1 => some (-1)
  | x10 :: t1, i1 => (bif (x10.fNode == a1) then some (i1 : Int) else (impl_repAt_l1 a1 t1 (i1 + 1)))
def impl_repAt (a0 : SAcct) (a1 : Int) : Option (Int) :=
  (impl_repAt_l1 a1 a0.fReps 0)

def impl_AcctOk_j1 (a0 : SAcct) (a1 : Int) : Option (Bool) :=
  (bif ((a0.fReps.length : Int) == a1) then some (a0.fState == 2) else some (a0.fState == 1))
def impl_AcctOk (a0 : SAcct) (a1 : Int) (a2 : Int) : Option (Bool) :=
  ((impl_in a1 1 4).bind fun v10 => (bif (!v10) then some false else ((impl_in a2 0 (w64 (a1 - 1))).bind fun v13 => (bif (!v13) then some false else ((impl_isNum a0.fHave).bind fun v16 => (bif (!v16) then some false else (bif (a0.fState == 0) then (bif (a0.fBy == 0) then (bif ((a0.fMarks.length : Int) == 0) then some ((a0.fReps.length : Int) == 0) else some false) else some false) else ((impl_in a0.fBy 0 (w64 (a1 - 1))).bind fun v37 => (bif (!v37) then some false else ((impl_nodesOk a0.fMarks a1).bind fun v40 => (bif (!v40) then some false else ((impl_hasInt a0.fMarks a2).bind fun v43 => (bif v43 then some false else ((impl_repsOk a0 a1).bind fun v46 => (bif (!v46) then some false else ((impl_repAt a0 a2).bind fun v51 => (bif ((decide (v51 ≥ 0)) != ((a0.fMarks.length : Int) == (w64 (a1 - 1)))) then some false else (bif (decide (v51 ≥ 0)) then ((ix a0.fReps v51).bind fun x61 => (bif (x61.fAmt != a0.fHave) then some false else impl_AcctOk_j1 a0 a1)) else impl_AcctOk_j1 a0 a1))))))))))))))))))

def laws_FnAcct (a0 : (List Int)) : Option (Bool) :=
  (bif (decide ((a0.length : Int) > 1048576)) then some true else ((spec_MakeNum a0 1000).bind fun v5 => ((impl_AcctNew).bind fun v11 => ((impl_AcctAdd v11 (w64 (1 + v5))).bind fun v13 => ((spec_MakeNum a0 (w64 (1 + v5))).bind fun v17 => ((impl_AcctTake v13.1 (w64 (1 + v17))).bind fun v21 => ((impl_AcctTake v13.1 (w64 ((w64 (1 + v5)) + 1))).bind fun v25 => ((impl_AcctShut v21.1 2).bind fun v29 => ((impl_AcctShut v29.1 2).bind fun v33 => ((impl_AcctMark v29.1 1).bind fun v37 => ((impl_AcctMark v21.1 1).bind fun v41 => (bif v13.2 then (bif v21.2 then (bif (!v25.2) then (bif v29.2 then (bif (!v33.2) then (bif v37.2 then (bif (!v41.2) then (bif (v13.1.fHave == (w64 (1 + v5))) then (bif (v21.1.fHave == (w64 ((w64 (1 + v5)) - (w64 (1 + v17))))) then ((impl_AcctOk v13.1 3 0).bind fun v52 => (bif v52 then ((impl_AcctOk v29.1 3 0).bind fun v55 => (bif v55 then ((impl_AcctOk v37.1 3 0).bind fun v58 => (bif v58 then ((impl_AcctSame v29.1 v29.1).bind fun v61 => (bif v61 then ((impl_AcctSame v29.1 v37.1).bind fun v64 => some (!v64)) else some false)) else some false)) else some false)) else some false)) else some false) else some false) else some false) else some false) else some false) else some false) else some false) else some false) else some false))))))))))))

end Go.Proofs.Yteolobihfindjaa
