/- Plain Lean functions, one for each Go function that the law reaches. -/
import Derived.Test.YteolobihfindjaaK4
set_option linter.unusedVariables false
namespace Go.Proofs.Yteolobihfindjaa
open Go Ax

def fuel : Nat := 4611686018427387904

def spec_l01In (a0 : Int) (a1 : Int) (a2 : Int) : Option (Bool) :=
  (bif (decide (a0 ≥ a1)) then some (decide (a0 ≤ a2)) else some false)

def spec_l07Node (a0 : Int) : Option (Bool) :=
  ((spec_l01In a0 0 3).bind fun v1 => some v1)

def spec_l01Num (a0 : Int) : Option (Bool) :=
  ((spec_l01In a0 0 1125899906842624).bind fun v1 => some v1)

def spec_IsAmt (a0 : Int) : Option (Bool) :=
  ((spec_l01In a0 1 1000000000).bind fun v1 => some v1)

def spec_MsgOk_j2 (a0 : SMsg) (y11 : Bool) : Option (Bool) :=
  (bif y11 then ((spec_IsAmt a0.fAmt).bind fun v13 => some v13) else (bif (a0.fKind == 4) then ((spec_l01In a0.fAmt 0 3).bind fun v16 => some v16) else (bif (a0.fKind == 5) then ((spec_l01Num a0.fAmt).bind fun v19 => some v19) else some false)))
def spec_MsgOk_j1 (a0 : SMsg) : Option (Bool) :=
  (bif (a0.fKind == 1) then spec_MsgOk_j2 a0 (a0.fKind == 1) else (bif (a0.fKind == 2) then spec_MsgOk_j2 a0 (a0.fKind == 2) else spec_MsgOk_j2 a0 (a0.fKind == 3)))
def spec_MsgOk (a0 : SMsg) : Option (Bool) :=
  ((spec_l01In a0.fAcct 0 2).bind fun v23 => (bif (!v23) then some false else ((spec_l01In a0.fSrc 0 2).bind fun v26 => (bif (!v26) then some false else (bif (a0.fKind != 2) then (bif (a0.fSrc != 0) then some false else spec_MsgOk_j1 a0) else spec_MsgOk_j1 a0)))))

def spec_l10Has_j2 (a0 : Int) (y2 : Bool) (y8 : Bool) : Option (Bool × Bool × Bool × Bool) :=
  some (y2, a0 == 4, y8, a0 != 9)
def spec_l10Has_j1 (a0 : Int) (y2 : Bool) : Option (Bool × Bool × Bool × Bool) :=
  (bif (a0 == 3) then spec_l10Has_j2 a0 y2 true else (bif (a0 == 4) then spec_l10Has_j2 a0 y2 true else (bif (a0 == 5) then spec_l10Has_j2 a0 y2 true else (bif (a0 == 6) then spec_l10Has_j2 a0 y2 true else (bif (a0 == 8) then spec_l10Has_j2 a0 y2 true else spec_l10Has_j2 a0 y2 (a0 == 9))))))
def spec_l10Has (a0 : Int) : Option (Bool × Bool × Bool × Bool) :=
  (bif (a0 != 5) then spec_l10Has_j1 a0 (a0 != 6) else spec_l10Has_j1 a0 false)

def spec_RecOk_j3 (a0 : SRec) : Option (Bool) :=
  (bif (a0.fKind == 5) then ((spec_MsgOk a0.fM).bind fun v78 => some v78) else some ((a0.fM.fKind == 0) && ((a0.fM.fAcct == 0) && ((a0.fM.fAmt == 0) && ((a0.fM.fSrc == 0) && true)))))
def spec_RecOk_j2 (a0 : SRec) (v3 : Bool × Bool × Bool × Bool) : Option (Bool) :=
  (bif v3.2.2.2 then (bif (a0.fKind != 6) then (bif (a0.fAmt == 0) then some false else spec_RecOk_j3 a0) else spec_RecOk_j3 a0) else spec_RecOk_j3 a0)
def spec_RecOk_j1 (a0 : SRec) (v3 : Bool × Bool × Bool × Bool) : Option (Bool) :=
  (bif (decide (a0.fKind ≤ 4)) then ((spec_IsAmt a0.fAmt).bind fun v84 => (bif (!v84) then some false else (bif (decide (a0.fKind > 4)) then ((spec_l01Num a0.fAmt).bind fun v88 => (bif (!v88) then some false else spec_RecOk_j2 a0 v3)) else spec_RecOk_j2 a0 v3))) else (bif (decide (a0.fKind > 4)) then ((spec_l01Num a0.fAmt).bind fun v92 => (bif (!v92) then some false else spec_RecOk_j2 a0 v3)) else spec_RecOk_j2 a0 v3))
def spec_RecOk (a0 : SRec) : Option (Bool) :=
  ((spec_l10Has a0.fKind).bind fun v3 => ((spec_l01In a0.fKind 1 9).bind fun v17 => (bif (!v17) then some false else ((spec_l01In a0.fAcct 0 2).bind fun v20 => (bif (!v20) then some false else ((spec_l01In a0.fOther 0 2).bind fun v23 => (bif (!v23) then some false else ((spec_l07Node a0.fTo).bind fun v26 => (bif (!v26) then some false else (bif (!v3.1) then (bif (a0.fAcct != 0) then some false else (bif (!v3.2.1) then (bif (a0.fOther != 0) then some false else (bif (!v3.2.2.1) then (bif (a0.fTo != 0) then some false else (bif (!v3.2.2.2) then (bif (a0.fAmt != 0) then some false else spec_RecOk_j1 a0 v3) else spec_RecOk_j1 a0 v3)) else (bif (!v3.2.2.2) then (bif (a0.fAmt != 0) then some false else spec_RecOk_j1 a0 v3) else spec_RecOk_j1 a0 v3))) else (bif (!v3.2.2.1) then (bif (a0.fTo != 0) then some false else (bif (!v3.2.2.2) then (bif (a0.fAmt != 0) then some false else spec_RecOk_j1 a0 v3) else spec_RecOk_j1 a0 v3)) else (bif (!v3.2.2.2) then (bif (a0.fAmt != 0) then some false else spec_RecOk_j1 a0 v3) else spec_RecOk_j1 a0 v3)))) else (bif (!v3.2.1) then (bif (a0.fOther != 0) then some false else (bif (!v3.2.2.1) then (bif (a0.fTo != 0) then some false else (bif (!v3.2.2.2) then (bif (a0.fAmt != 0) then some false else spec_RecOk_j1 a0 v3) else spec_RecOk_j1 a0 v3)) else (bif (!v3.2.2.2) then (bif (a0.fAmt != 0) then some false else spec_RecOk_j1 a0 v3) else spec_RecOk_j1 a0 v3))) else (bif (!v3.2.2.1) then (bif (a0.fTo != 0) then some false else (bif (!v3.2.2.2) then (bif (a0.fAmt != 0) then some false else spec_RecOk_j1 a0 v3) else spec_RecOk_j1 a0 v3)) else (bif (!v3.2.2.2) then (bif (a0.fAmt != 0) then some false else spec_RecOk_j1 a0 v3) else spec_RecOk_j1 a0 v3)))))))))))))

def laws_toMsg (a0 : SMsg) : Option (SMsg) :=
  some a0

def laws_toRec (a0 : SRec) : Option (SRec) :=
  ((laws_toMsg a0.fM).bind fun v1 => some { a0 with fM := v1 })

def impl_in (a0 : Int) (a1 : Int) (a2 : Int) : Option (Bool) :=
  (bif (decide (a0 ≥ a1)) then some (decide (a0 ≤ a2)) else some false)

def impl_isNode (a0 : Int) : Option (Bool) :=
  ((impl_in a0 0 3).bind fun v1 => some v1)

def impl_isNum (a0 : Int) : Option (Bool) :=
  ((impl_in a0 0 1125899906842624).bind fun v1 => some v1)

def impl_isBallot (a0 : Int) : Option (Bool) :=
  ((impl_in a0 1 1125899906842624).bind fun v1 => some v1)

def impl_IsAmt (a0 : Int) : Option (Bool) :=
  ((impl_in a0 1 1000000000).bind fun v1 => some v1)

def impl_MsgOk_j2 (a0 : SMsg) (y11 : Bool) : Option (Bool) :=
  (bif y11 then ((impl_IsAmt a0.fAmt).bind fun v13 => some v13) else (bif (a0.fKind == 4) then ((impl_in a0.fAmt 0 3).bind fun v16 => some v16) else (bif (a0.fKind == 5) then ((impl_isNum a0.fAmt).bind fun v19 => some v19) else some false)))
def impl_MsgOk_j1 (a0 : SMsg) : Option (Bool) :=
  (bif (a0.fKind == 1) then impl_MsgOk_j2 a0 (a0.fKind == 1) else (bif (a0.fKind == 2) then impl_MsgOk_j2 a0 (a0.fKind == 2) else impl_MsgOk_j2 a0 (a0.fKind == 3)))
def impl_MsgOk (a0 : SMsg) : Option (Bool) :=
  ((impl_in a0.fAcct 0 2).bind fun v23 => (bif (!v23) then some false else ((impl_in a0.fSrc 0 2).bind fun v26 => (bif (!v26) then some false else (bif (a0.fSrc != 0) then (bif (a0.fKind != 2) then some false else impl_MsgOk_j1 a0) else impl_MsgOk_j1 a0)))))

def impl_RecOk_j1 (a0 : SRec) (y29 : Bool) (y30 : Int) (y31 : Int) (y32 : Int) (y33 : Int) (y34 : Int) (y35 : Int) (y36 : Int) (y37 : Int) : Option (Bool) :=
  (bif y29 then (bif ((a0.fKind == a0.fKind) && ((a0.fAcct == y30) && ((a0.fOther == y31) && ((a0.fTo == y32) && ((a0.fAmt == y33) && ((a0.fM.fKind == y34) && ((a0.fM.fAcct == y35) && ((a0.fM.fAmt == y36) && ((a0.fM.fSrc == y37) && true))))))))) then ((impl_in a0.fAcct 0 2).bind fun v40 => (bif v40 then ((impl_in a0.fOther 0 2).bind fun v43 => (bif v43 then ((impl_isNode a0.fTo).bind fun v46 => some v46) else some false)) else some false)) else some false) else some false)
def impl_RecOk_j2 (a0 : SRec) (y49 : Bool) : Option (Bool) :=
  (bif y49 then ((impl_IsAmt a0.fAmt).bind fun v51 => impl_RecOk_j1 a0 v51 a0.fAcct 0 0 a0.fAmt 0 0 0 0) else (bif (a0.fKind == 3) then ((impl_IsAmt a0.fAmt).bind fun v54 => impl_RecOk_j1 a0 v54 a0.fAcct 0 a0.fTo a0.fAmt 0 0 0 0) else (bif (a0.fKind == 4) then ((impl_IsAmt a0.fAmt).bind fun v57 => impl_RecOk_j1 a0 v57 a0.fAcct a0.fOther a0.fTo a0.fAmt 0 0 0 0) else (bif (a0.fKind == 5) then ((impl_isBallot a0.fAmt).bind fun v60 => (bif v60 then ((impl_MsgOk a0.fM).bind fun v63 => impl_RecOk_j1 a0 v63 0 0 a0.fTo a0.fAmt a0.fM.fKind a0.fM.fAcct a0.fM.fAmt a0.fM.fSrc) else impl_RecOk_j1 a0 false 0 0 a0.fTo a0.fAmt a0.fM.fKind a0.fM.fAcct a0.fM.fAmt a0.fM.fSrc)) else (bif (a0.fKind == 6) then ((impl_isNum a0.fAmt).bind fun v66 => impl_RecOk_j1 a0 v66 0 0 a0.fTo a0.fAmt 0 0 0 0) else (bif (a0.fKind == 7) then ((impl_isBallot a0.fAmt).bind fun v69 => impl_RecOk_j1 a0 v69 a0.fAcct 0 0 a0.fAmt 0 0 0 0) else (bif (a0.fKind == 8) then ((impl_isBallot a0.fAmt).bind fun v72 => impl_RecOk_j1 a0 v72 a0.fAcct 0 a0.fTo a0.fAmt 0 0 0 0) else (bif (a0.fKind == 9) then impl_RecOk_j1 a0 true a0.fAcct 0 a0.fTo 0 0 0 0 0 else some false))))))))
def impl_RecOk (a0 : SRec) : Option (Bool) :=
  (bif (a0.fKind == 1) then impl_RecOk_j2 a0 (a0.fKind == 1) else impl_RecOk_j2 a0 (a0.fKind == 2))

def laws_FnExactRecOk (a0 : SRec) : Option (Bool) :=
  ((laws_toRec a0).bind fun v5 => ((spec_RecOk v5).bind fun v7 => ((laws_toRec a0).bind fun v13 => ((impl_RecOk v13).bind fun v15 => (bif (v15 != v7) then some false else some true)))))

end Go.Proofs.Yteolobihfindjaa
