/- Plain Lean functions, one for each Go function that the law reaches. -/
import Derived.Test.YtncjcbdbdocjaaaK4
set_option linter.unusedVariables false
namespace Go.Proofs.Ytncjcbdbdocjaaa
open Go Ax

def fuel : Nat := 4611686018427387904

def spec_l01In (a0 : Int) (a1 : Int) (a2 : Int) : Option (Bool) :=
  (bif (decide (a0 ≥ a1)) then some (decide (a0 ≤ a2)) else some false)

def spec_IsAmt (a0 : Int) : Option (Bool) :=
  ((spec_l01In a0 1 1000000000).bind fun v1 => some v1)

def spec_l07Node (a0 : Int) : Option (Bool) :=
  ((spec_l01In a0 0 3).bind fun v1 => some v1)

def spec_l01Num (a0 : Int) : Option (Bool) :=
  ((spec_l01In a0 0 1125899906842624).bind fun v1 => some v1)

def spec_l10Has_j2 (a0 : Int) (y2 : Bool) (y8 : Bool) : Option (Bool × Bool × Bool × Bool) :=
  some (y2, a0 == 4, y8, a0 != 9)
def spec_l10Has_j1 (a0 : Int) (y2 : Bool) : Option (Bool × Bool × Bool × Bool) :=
  (bif (a0 == 3) then spec_l10Has_j2 a0 y2 true else (bif (a0 == 4) then spec_l10Has_j2 a0 y2 true else (bif (a0 == 5) then spec_l10Has_j2 a0 y2 true else (bif (a0 == 6) then spec_l10Has_j2 a0 y2 true else (bif (a0 == 8) then spec_l10Has_j2 a0 y2 true else spec_l10Has_j2 a0 y2 (a0 == 9))))))
def spec_l10Has (a0 : Int) : Option (Bool × Bool × Bool × Bool) :=
  (bif (a0 != 5) then spec_l10Has_j1 a0 (a0 != 6) else spec_l10Has_j1 a0 false)

def spec_MsgOk_j2 (a0 : SMsg) (y11 : Bool) : Option (Bool) :=
  (bif y11 then ((spec_IsAmt a0.fAmt).bind fun v13 => some v13) else (bif (a0.fKind == 4) then ((spec_l01In a0.fAmt 0 3).bind fun v16 => some v16) else (bif (a0.fKind == 5) then ((spec_l01Num a0.fAmt).bind fun v19 => some v19) else some false)))
def spec_MsgOk_j1 (a0 : SMsg) : Option (Bool) :=
  (bif (a0.fKind == 1) then spec_MsgOk_j2 a0 (a0.fKind == 1) else (bif (a0.fKind == 2) then spec_MsgOk_j2 a0 (a0.fKind == 2) else spec_MsgOk_j2 a0 (a0.fKind == 3)))
def spec_MsgOk (a0 : SMsg) : Option (Bool) :=
  ((spec_l01In a0.fAcct 0 2).bind fun v23 => (bif (!v23) then some false else ((spec_l01In a0.fSrc 0 2).bind fun v26 => (bif (!v26) then some false else (bif (a0.fKind != 2) then (bif (a0.fSrc != 0) then some false else spec_MsgOk_j1 a0) else spec_MsgOk_j1 a0)))))

def spec_RecOk_j3 (a0 : SRec) : Option (Bool) :=
  (bif (a0.fKind == 5) then ((spec_MsgOk a0.fM).bind fun v78 => some v78) else some ((a0.fM.fKind == 0) && ((a0.fM.fAcct == 0) && ((a0.fM.fAmt == 0) && ((a0.fM.fSrc == 0) && true)))))
def spec_RecOk_j2 (a0 : SRec) (v3 : Bool × Bool × Bool × Bool) : Option (Bool) :=
  (bif v3.2.2.2 then (bif (a0.fKind != 6) then (bif (a0.fAmt == 0) then some false else spec_RecOk_j3 a0) else spec_RecOk_j3 a0) else spec_RecOk_j3 a0)
def spec_RecOk_j1 (a0 : SRec) (v3 : Bool × Bool × Bool × Bool) : Option (Bool) :=
  (bif (decide (a0.fKind ≤ 4)) then ((spec_IsAmt a0.fAmt).bind fun v84 => (bif (!v84) then some false else (bif (decide (a0.fKind > 4)) then ((spec_l01Num a0.fAmt).bind fun v88 => (bif (!v88) then some false else spec_RecOk_j2 a0 v3)) else spec_RecOk_j2 a0 v3))) else (bif (decide (a0.fKind > 4)) then ((spec_l01Num a0.fAmt).bind fun v92 => (bif (!v92) then some false else spec_RecOk_j2 a0 v3)) else spec_RecOk_j2 a0 v3))
def spec_RecOk (a0 : SRec) : Option (Bool) :=
  ((spec_l10Has a0.fKind).bind fun v3 => ((spec_l01In a0.fKind 1 9).bind fun v17 => (bif (!v17) then some false else ((spec_l01In a0.fAcct 0 2).bind fun v20 => (bif (!v20) then some false else ((spec_l01In a0.fOther 0 2).bind fun v23 => (bif (!v23) then some false else ((spec_l07Node a0.fTo).bind fun v26 => (bif (!v26) then some false else (bif (!v3.1) then (bif (a0.fAcct != 0) then some false else (bif (!v3.2.1) then (bif (a0.fOther != 0) then some false else (bif (!v3.2.2.1) then (bif (a0.fTo != 0) then some false else (bif (!v3.2.2.2) then (bif (a0.fAmt != 0) then some false else spec_RecOk_j1 a0 v3) else spec_RecOk_j1 a0 v3)) else (bif (!v3.2.2.2) then (bif (a0.fAmt != 0) then some false else spec_RecOk_j1 a0 v3) else spec_RecOk_j1 a0 v3))) else (bif (!v3.2.2.1) then (bif (a0.fTo != 0) then some false else (bif (!v3.2.2.2) then (bif (a0.fAmt != 0) then some false else spec_RecOk_j1 a0 v3) else spec_RecOk_j1 a0 v3)) else (bif (!v3.2.2.2) then (bif (a0.fAmt != 0) then some false else spec_RecOk_j1 a0 v3) else spec_RecOk_j1 a0 v3)))) else (bif (!v3.2.1) then (bif (a0.fOther != 0) then some false else (bif (!v3.2.2.1) then (bif (a0.fTo != 0) then some false else (bif (!v3.2.2.2) then (bif (a0.fAmt != 0) then some false else spec_RecOk_j1 a0 v3) else spec_RecOk_j1 a0 v3)) else (bif (!v3.2.2.2) then (bif (a0.fAmt != 0) then some false else spec_RecOk_j1 a0 v3) else spec_RecOk_j1 a0 v3))) else (bif (!v3.2.2.1) then (bif (a0.fTo != 0) then some false else (bif (!v3.2.2.2) then (bif (a0.fAmt != 0) then some false else spec_RecOk_j1 a0 v3) else spec_RecOk_j1 a0 v3)) else (bif (!v3.2.2.2) then (bif (a0.fAmt != 0) then some false else spec_RecOk_j1 a0 v3) else spec_RecOk_j1 a0 v3)))))))))))))

def spec_PutNum_l1 : Nat → Int → (List Int) → Option ((List Int) × Bool)
  | 0, _, _ => none
  | n1 + 1, y29, y30 => (bif (decide (y29 > 127)) then (gO (room 1 (y30.length + [wk .u8 (w64 (128 + (Int.tmod y29 128)))].length)) ((spec_PutNum_l1 n1) (w64 (Int.tdiv y29 128)) (y30 ++ [wk .u8 (w64 (128 + (Int.tmod y29 128)))]))) else (gO (room 1 (y30.length + [wk .u8 y29].length)) (some (y30 ++ [wk .u8 y29], true))))
def spec_PutNum (a0 : (List Int)) (a1 : Int) : Option ((List Int) × Bool) :=
  ((spec_l01Num a1).bind fun v4 => (bif (!v4) then some ([], false) else (gO (room 1 (([] : List Int).length + a0.length)) ((spec_PutNum_l1 fuel a1 a0)))))

def spec_l01Put (a0 : (List Int)) (a1 : Int) : Option ((List Int)) :=
  ((spec_PutNum a0 a1).bind fun v1 => some v1.1)

def spec_MsgPut (a0 : (List Int)) (a1 : SMsg) : Option ((List Int) × Bool) :=
  ((spec_MsgOk a1).bind fun v4 => (bif (!v4) then some ([], false) else ((spec_l01Put a0 a1.fKind).bind fun v7 => ((spec_l01Put v7 a1.fAcct).bind fun v9 => ((spec_l01Put v9 a1.fAmt).bind fun v11 => ((spec_l01Put v11 a1.fSrc).bind fun v13 => some (v13, true)))))))

def spec_RecBytes (a0 : SRec) : Option ((List Int) × Bool) :=
  ((spec_RecOk a0).bind fun v4 => (bif (!v4) then some ([], false) else ((spec_l01Put [] a0.fKind).bind fun v17 => ((spec_l01Put v17 a0.fAcct).bind fun v19 => ((spec_l01Put v19 a0.fOther).bind fun v21 => ((spec_l01Put v21 a0.fTo).bind fun v23 => ((spec_l01Put v23 a0.fAmt).bind fun v25 => (bif (a0.fKind == 5) then ((spec_MsgPut v25 a0.fM).bind fun v28 => some (v28.1, v28.2)) else some (v25, true)))))))))

def laws_toMsg (a0 : SMsg) : Option (SMsg) :=
  some a0

def laws_toRec (a0 : SRec) : Option (SRec) :=
  ((laws_toMsg a0.fM).bind fun v1 => some { a0 with fM := v1 })

def impl_in (a0 : Int) (a1 : Int) (a2 : Int) : Option (Bool) :=
  (bif (decide (a0 ≥ a1)) then some (decide (a0 ≤ a2)) else some false)

def impl_isNode (a0 : Int) : Option (Bool) :=
  ((impl_in a0 0 3).bind fun v1 => some v1)

def impl_isNum (a0 : Int) : Option (Bool) :=
  ((impl_in a0 0 1125899906842624).bind fun v1 => some v1)

def impl_isBallot (a0 : Int) : Option (Bool) :=
  ((impl_in a0 1 1125899906842624).bind fun v1 => some v1)

def impl_IsAmt (a0 : Int) : Option (Bool) :=
  ((impl_in a0 1 1000000000).bind fun v1 => some v1)

def impl_MsgOk_j2 (a0 : SMsg) (y11 : Bool) : Option (Bool) :=
  (bif y11 then ((impl_IsAmt a0.fAmt).bind fun v13 => some v13) else (bif (a0.fKind == 4) then ((impl_in a0.fAmt 0 3).bind fun v16 => some v16) else (bif (a0.fKind == 5) then ((impl_isNum a0.fAmt).bind fun v19 => some v19) else some false)))
def impl_MsgOk_j1 (a0 : SMsg) : Option (Bool) :=
  (bif (a0.fKind == 1) then impl_MsgOk_j2 a0 (a0.fKind == 1) else (bif (a0.fKind == 2) then impl_MsgOk_j2 a0 (a0.fKind == 2) else impl_MsgOk_j2 a0 (a0.fKind == 3)))
def impl_MsgOk (a0 : SMsg) : Option (Bool) :=
  ((impl_in a0.fAcct 0 2).bind fun v23 => (bif (!v23) then some false else ((impl_in a0.fSrc 0 2).bind fun v26 => (bif (!v26) then some false else (bif (a0.fSrc != 0) then (bif (a0.fKind != 2) then some false else impl_MsgOk_j1 a0) else impl_MsgOk_j1 a0)))))

def impl_RecOk_j1 (a0 : SRec) (y29 : Bool) (y30 : Int) (y31 : Int) (y32 : Int) (y33 : Int) (y34 : Int) (y35 : Int) (y36 : Int) (y37 : Int) : Option (Bool) :=
  (bif y29 then (bif ((a0.fKind == a0.fKind) && ((a0.fAcct == y30) && ((a0.fOther == y31) && ((a0.fTo == y32) && ((a0.fAmt == y33) && ((a0.fM.fKind == y34) && ((a0.fM.fAcct == y35) && ((a0.fM.fAmt == y36) && ((a0.fM.fSrc == y37) && true))))))))) then ((impl_in a0.fAcct 0 2).bind fun v40 => (bif v40 then ((impl_in a0.fOther 0 2).bind fun v43 => (bif v43 then ((impl_isNode a0.fTo).bind fun v46 => some v46) else some false)) else some false)) else some false) else some false)
def impl_RecOk_j2 (a0 : SRec) (y49 : Bool) : Option (Bool) :=
  (bif y49 then ((impl_IsAmt a0.fAmt).bind fun v51 => impl_RecOk_j1 a0 v51 a0.fAcct 0 0 a0.fAmt 0 0 0 0) else (bif (a0.fKind == 3) then ((impl_IsAmt a0.fAmt).bind fun v54 => impl_RecOk_j1 a0 v54 a0.fAcct 0 a0.fTo a0.fAmt 0 0 0 0) else (bif (a0.fKind == 4) then ((impl_IsAmt a0.fAmt).bind fun v57 => impl_RecOk_j1 a0 v57 a0.fAcct a0.fOther a0.fTo a0.fAmt 0 0 0 0) else (bif (a0.fKind == 5) then ((impl_isBallot a0.fAmt).bind fun v60 => (bif v60 then ((impl_MsgOk a0.fM).bind fun v63 => impl_RecOk_j1 a0 v63 0 0 a0.fTo a0.fAmt a0.fM.fKind a0.fM.fAcct a0.fM.fAmt a0.fM.fSrc) else impl_RecOk_j1 a0 false 0 0 a0.fTo a0.fAmt a0.fM.fKind a0.fM.fAcct a0.fM.fAmt a0.fM.fSrc)) else (bif (a0.fKind == 6) then ((impl_isNum a0.fAmt).bind fun v66 => impl_RecOk_j1 a0 v66 0 0 a0.fTo a0.fAmt 0 0 0 0) else (bif (a0.fKind == 7) then ((impl_isBallot a0.fAmt).bind fun v69 => impl_RecOk_j1 a0 v69 a0.fAcct 0 0 a0.fAmt 0 0 0 0) else (bif (a0.fKind == 8) then ((impl_isBallot a0.fAmt).bind fun v72 => impl_RecOk_j1 a0 v72 a0.fAcct 0 a0.fTo a0.fAmt 0 0 0 0) else (bif (a0.fKind == 9) then impl_RecOk_j1 a0 true a0.fAcct 0 a0.fTo 0 0 0 0 0 else some false))))))))
def impl_RecOk (a0 : SRec) : Option (Bool) :=
  (bif (a0.fKind == 1) then impl_RecOk_j2 a0 (a0.fKind == 1) else impl_RecOk_j2 a0 (a0.fKind == 2))

def impl_addNum_l1 : Nat → Int → (List Int) → Option ((List Int))
  | 0, _, _ => none
  | n1 + 1, y21, y22 => (bif (decide (y21 > 127)) then (gO (room 1 (y22.length + [wk .u8 (w64 ((Int.tmod y21 128) + 128))].length)) ((impl_addNum_l1 n1) (w64 (Int.tdiv y21 128)) (y22 ++ [wk .u8 (w64 ((Int.tmod y21 128) + 128))]))) else (gO (room 1 (y22.length + [wk .u8 y21].length)) (some (y22 ++ [wk .u8 y21]))))
def impl_addNum (a0 : (List Int)) (a1 : Int) : Option ((List Int)) :=
  (impl_addNum_l1 fuel a1 a0)

def impl_addMsg (a0 : (List Int)) (a1 : SMsg) : Option ((List Int)) :=
  ((impl_addNum a0 a1.fKind).bind fun v1 => ((impl_addNum v1 a1.fAcct).bind fun v3 => ((impl_addNum v3 a1.fAmt).bind fun v5 => ((impl_addNum v5 a1.fSrc).bind fun v7 => some v7))))

def impl_RecBytes (a0 : SRec) : Option ((List Int) × Bool) :=
  ((impl_RecOk a0).bind fun v4 => (bif (!v4) then some ([], false) else ((impl_addNum [] a0.fKind).bind fun v17 => ((impl_addNum v17 a0.fAcct).bind fun v19 => ((impl_addNum v19 a0.fOther).bind fun v21 => ((impl_addNum v21 a0.fTo).bind fun v23 => ((impl_addNum v23 a0.fAmt).bind fun v25 => (bif (a0.fKind == 5) then ((impl_addMsg v25 a0.fM).bind fun v28 => some (v28, true)) else some (v25, true)))))))))

def laws_eqByteS_l1 (a1 : (List Int)) : List Int → Nat → Option (Bool)
  | [], i1 => some true
  | x10 :: t1, i1 => ((ix a1 (i1 : Int)).bind fun x20 => (bif (x10 != x20) then some false else (laws_eqByteS_l1 a1 t1 (i1 + 1))))
def laws_eqByteS (a0 : (List Int)) (a1 : (List Int)) : Option (Bool) :=
  (bif ((a0.length : Int) != (a1.length : Int)) then some false else (laws_eqByteS_l1 a1 a0 0))

def laws_markByteS_l1 : Nat → Int → Int → (List Int) → Option ((Int) × (List Int))
  | 0, _, _, _ => none
  | n1 + 1, y8, y9, y10 => (bif (decide (y8 < (y10.length : Int))) then ((ix y10 y8).bind fun x20 => (laws_markByteS_l1 n1) (w64 (y8 + 1)) (w64 (y9 + 1)) (List.set y10 (Int.toNat y8) (wk .u8 y9))) else some (y9, y10))
def laws_markByteS (a0 : (List Int)) (a1 : Int) : Option ((Int) × (List Int)) :=
  (laws_markByteS_l1 fuel 0 a1 a0)

def laws_heldByteS_l1 : List Int → Nat → Int → Option (Int)
  | [], i1, y9 => some y9
  | x10 :: t1, i1, y9 => (bif (x10 != (wk .u8 y9)) then some (-1) else (laws_heldByteS_l1 t1 (i1 + 1)) (w64 (y9 + 1)))
def laws_heldByteS (a0 : (List Int)) (a1 : Int) : Option (Int) :=
  (laws_heldByteS_l1 a0 0 a1)

def laws_FnExactRecBytes (a0 : SRec) : Option (Bool) :=
  ((laws_toRec a0).bind fun v5 => ((spec_RecBytes v5).bind fun v7 => ((laws_toRec a0).bind fun v13 => ((impl_RecBytes v13).bind fun v15 => ((laws_eqByteS v15.1 v7.1).bind fun v21 => (bif (!v21) then some false else (bif (v15.2 != v7.2) then some false else ((laws_markByteS v15.1 1).bind fun v27 => ((laws_heldByteS v27.2 1).bind fun v31 => (bif (decide (v31 < 0)) then some false else (bif (v31 != v27.1) then some false else ((laws_toRec a0).bind fun v41 => ((impl_RecBytes v41).bind fun v43 => ((laws_eqByteS v43.1 v7.1).bind fun v49 => (bif (!v49) then some false else (bif (v43.2 != v7.2) then some false else ((laws_heldByteS v27.2 1).bind fun v55 => (bif (decide (v55 < 0)) then some false else (bif (v55 != v27.1) then some false else some true)))))))))))))))))))

end Go.Proofs.Ytncjcbdbdocjaaa
