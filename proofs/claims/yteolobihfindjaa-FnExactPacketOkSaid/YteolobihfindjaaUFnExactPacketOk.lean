/- Plain Lean functions, one for each Go function that the law reaches. -/
import Derived.Test.YteolobihfindjaaK4
set_option linter.unusedVariables false
namespace Go.Proofs.Yteolobihfindjaa
open Go Ax

def fuel : Nat := 4611686018427387904

def spec_l01In (a0 : Int) (a1 : Int) (a2 : Int) : Option (Bool) :=
  (bif (decide (a0 ≥ a1)) then some (decide (a0 ≤ a2)) else some false)

def spec_l07Val (a0 : Int) : Option (Bool) :=
  ((spec_l01In a0 1 4).bind fun v1 => some v1)

def spec_l07Node (a0 : Int) : Option (Bool) :=
  ((spec_l01In a0 0 3).bind fun v1 => some v1)

def spec_l01Num (a0 : Int) : Option (Bool) :=
  ((spec_l01In a0 0 1125899906842624).bind fun v1 => some v1)

def spec_IsAmt (a0 : Int) : Option (Bool) :=
  ((spec_l01In a0 1 1000000000).bind fun v1 => some v1)

def spec_MsgOk_j2 (a0 : SMsg) (y11 : Bool) : Option (Bool) :=
  (bif y11 then ((spec_IsAmt a0.fAmt).bind fun v13 => some v13) else (bif (a0.fKind == 4) then ((spec_l01In a0.fAmt 0 3).bind fun v16 => some v16) else (bif (a0.fKind == 5) then ((spec_l01Num a0.fAmt).bind fun v19 => some v19) else some false)))
def spec_MsgOk_j1 (a0 : SMsg) : Option (Bool) :=
  (bif (a0.fKind == 1) then spec_MsgOk_j2 a0 (a0.fKind == 1) else (bif (a0.fKind == 2) then spec_MsgOk_j2 a0 (a0.fKind == 2) else spec_MsgOk_j2 a0 (a0.fKind == 3)))
def spec_MsgOk (a0 : SMsg) : Option (Bool) :=
  ((spec_l01In a0.fAcct 0 2).bind fun v23 => (bif (!v23) then some false else ((spec_l01In a0.fSrc 0 2).bind fun v26 => (bif (!v26) then some false else (bif (a0.fKind != 2) then (bif (a0.fSrc != 0) then some false else spec_MsgOk_j1 a0) else spec_MsgOk_j1 a0)))))

def spec_PacketOk_j4 (a0 : SPacket) : Option (Bool) :=
  some ((a0.fM.fKind == 0) && ((a0.fM.fAcct == 0) && ((a0.fM.fAmt == 0) && ((a0.fM.fSrc == 0) && true))))
def spec_PacketOk_j3 (a0 : SPacket) : Option (Bool) :=
  (bif (a0.fKind == 1) then ((spec_MsgOk a0.fM).bind fun v56 => some v56) else (bif (a0.fKind == 4) then (bif (a0.fB == 0) then (bif (a0.fC == 0) then (bif (a0.fKind == 5) then ((spec_l07Val a0.fB).bind fun v91 => (bif (!v91) then some false else spec_PacketOk_j4 a0)) else spec_PacketOk_j4 a0) else (bif (decide (a0.fB > 0)) then (bif (decide (a0.fB < a0.fA)) then ((spec_l07Val a0.fC).bind fun v96 => (bif (!v96) then some false else (bif (a0.fKind == 5) then ((spec_l07Val a0.fB).bind fun v100 => (bif (!v100) then some false else spec_PacketOk_j4 a0)) else spec_PacketOk_j4 a0))) else some false) else some false)) else (bif (decide (a0.fB > 0)) then (bif (decide (a0.fB < a0.fA)) then ((spec_l07Val a0.fC).bind fun v105 => (bif (!v105) then some false else (bif (a0.fKind == 5) then ((spec_l07Val a0.fB).bind fun v109 => (bif (!v109) then some false else spec_PacketOk_j4 a0)) else spec_PacketOk_j4 a0))) else some false) else some false)) else (bif (a0.fKind == 5) then ((spec_l07Val a0.fB).bind fun v113 => (bif (!v113) then some false else spec_PacketOk_j4 a0)) else spec_PacketOk_j4 a0)))
def spec_PacketOk_j2 (a0 : SPacket) (y48 : Bool) : Option (Bool) :=
  (bif y48 then (bif (a0.fAcct != 0) then some false else (bif (a0.fFrom == a0.fTo) then some false else spec_PacketOk_j3 a0)) else spec_PacketOk_j3 a0)
def spec_PacketOk_j1 (a0 : SPacket) : Option (Bool) :=
  (bif (a0.fKind == 1) then spec_PacketOk_j2 a0 true else spec_PacketOk_j2 a0 (a0.fKind == 2))
def spec_PacketOk (a0 : SPacket) : Option (Bool) :=
  ((spec_l07Node a0.fFrom).bind fun v19 => (bif (!v19) then some false else ((spec_l07Node a0.fTo).bind fun v22 => (bif (!v22) then some false else ((spec_l01In a0.fKind 1 6).bind fun v25 => (bif (!v25) then some false else ((spec_l01Num a0.fA).bind fun v28 => (bif (!v28) then some false else ((spec_l01Num a0.fB).bind fun v31 => (bif (!v31) then some false else ((spec_l01In a0.fAcct 0 2).bind fun v34 => (bif (!v34) then some false else (bif (a0.fA == 0) then (bif (a0.fKind != 2) then some false else (bif (a0.fKind != 4) then (bif (a0.fC != 0) then some false else (bif (a0.fKind != 5) then (bif (a0.fB != 0) then some false else spec_PacketOk_j1 a0) else spec_PacketOk_j1 a0)) else spec_PacketOk_j1 a0)) else (bif (a0.fKind != 4) then (bif (a0.fC != 0) then some false else (bif (a0.fKind != 5) then (bif (a0.fB != 0) then some false else spec_PacketOk_j1 a0) else spec_PacketOk_j1 a0)) else spec_PacketOk_j1 a0))))))))))))))

def laws_toMsg (a0 : SMsg) : Option (SMsg) :=
  some a0

def laws_toPacket (a0 : SPacket) : Option (SPacket) :=
  ((laws_toMsg a0.fM).bind fun v1 => some { a0 with fM := v1 })

def impl_in (a0 : Int) (a1 : Int) (a2 : Int) : Option (Bool) :=
  (bif (decide (a0 ≥ a1)) then some (decide (a0 ≤ a2)) else some false)

def impl_isNode (a0 : Int) : Option (Bool) :=
  ((impl_in a0 0 3).bind fun v1 => some v1)

def impl_isNum (a0 : Int) : Option (Bool) :=
  ((impl_in a0 0 1125899906842624).bind fun v1 => some v1)

def impl_isChoice (a0 : Int) : Option (Bool) :=
  ((impl_in a0 1 4).bind fun v1 => some v1)

def impl_IsAmt (a0 : Int) : Option (Bool) :=
  ((impl_in a0 1 1000000000).bind fun v1 => some v1)

def impl_MsgOk_j2 (a0 : SMsg) (y11 : Bool) : Option (Bool) :=
  (bif y11 then ((impl_IsAmt a0.fAmt).bind fun v13 => some v13) else (bif (a0.fKind == 4) then ((impl_in a0.fAmt 0 3).bind fun v16 => some v16) else (bif (a0.fKind == 5) then ((impl_isNum a0.fAmt).bind fun v19 => some v19) else some false)))
def impl_MsgOk_j1 (a0 : SMsg) : Option (Bool) :=
  (bif (a0.fKind == 1) then impl_MsgOk_j2 a0 (a0.fKind == 1) else (bif (a0.fKind == 2) then impl_MsgOk_j2 a0 (a0.fKind == 2) else impl_MsgOk_j2 a0 (a0.fKind == 3)))
def impl_MsgOk (a0 : SMsg) : Option (Bool) :=
  ((impl_in a0.fAcct 0 2).bind fun v23 => (bif (!v23) then some false else ((impl_in a0.fSrc 0 2).bind fun v26 => (bif (!v26) then some false else (bif (a0.fSrc != 0) then (bif (a0.fKind != 2) then some false else impl_MsgOk_j1 a0) else impl_MsgOk_j1 a0)))))

def impl_packetFits_j1 (a0 : SPacket) (y30 : Bool) : Option (Bool) :=
  (bif y30 then some ((a0.fFrom == a0.fFrom) && ((a0.fTo == a0.fTo) && ((a0.fKind == a0.fKind) && ((a0.fAcct == a0.fAcct) && ((a0.fA == a0.fA) && ((a0.fB == 0) && ((a0.fC == 0) && ((a0.fM.fKind == 0) && ((a0.fM.fAcct == 0) && ((a0.fM.fAmt == 0) && ((a0.fM.fSrc == 0) && true))))))))))) else some false)
def impl_packetFits (a0 : SPacket) : Option (Bool) :=
  (bif (a0.fKind == 1) then (bif ((a0.fFrom == a0.fFrom) && ((a0.fTo == a0.fTo) && ((a0.fKind == a0.fKind) && ((a0.fAcct == 0) && ((a0.fA == a0.fA) && ((a0.fB == 0) && ((a0.fC == 0) && ((a0.fM.fKind == a0.fM.fKind) && ((a0.fM.fAcct == a0.fM.fAcct) && ((a0.fM.fAmt == a0.fM.fAmt) && ((a0.fM.fSrc == a0.fM.fSrc) && true))))))))))) then ((impl_MsgOk a0.fM).bind fun v10 => (bif v10 then some (a0.fFrom != a0.fTo) else some false)) else some false) else (bif (a0.fKind == 2) then (bif ((a0.fFrom == a0.fFrom) && ((a0.fTo == a0.fTo) && ((a0.fKind == a0.fKind) && ((a0.fAcct == 0) && ((a0.fA == a0.fA) && ((a0.fB == 0) && ((a0.fC == 0) && ((a0.fM.fKind == 0) && ((a0.fM.fAcct == 0) && ((a0.fM.fAmt == 0) && ((a0.fM.fSrc == 0) && true))))))))))) then some (a0.fFrom != a0.fTo) else some false) else (bif (a0.fKind == 4) then (bif ((a0.fFrom == a0.fFrom) && ((a0.fTo == a0.fTo) && ((a0.fKind == a0.fKind) && ((a0.fAcct == a0.fAcct) && ((a0.fA == a0.fA) && ((a0.fB == a0.fB) && ((a0.fC == a0.fC) && ((a0.fM.fKind == 0) && ((a0.fM.fAcct == 0) && ((a0.fM.fAmt == 0) && ((a0.fM.fSrc == 0) && true))))))))))) then ((impl_in a0.fB 1 (w64 (a0.fA - 1))).bind fun v17 => (bif v17 then ((impl_isChoice a0.fC).bind fun v20 => (bif v20 then some true else (bif (a0.fB == 0) then some (a0.fC == 0) else some false))) else (bif (a0.fB == 0) then some (a0.fC == 0) else some false))) else some false) else (bif (a0.fKind == 5) then (bif ((a0.fFrom == a0.fFrom) && ((a0.fTo == a0.fTo) && ((a0.fKind == a0.fKind) && ((a0.fAcct == a0.fAcct) && ((a0.fA == a0.fA) && ((a0.fB == a0.fB) && ((a0.fC == 0) && ((a0.fM.fKind == 0) && ((a0.fM.fAcct == 0) && ((a0.fM.fAmt == 0) && ((a0.fM.fSrc == 0) && true))))))))))) then ((impl_isChoice a0.fB).bind fun v27 => some v27) else some false) else (bif (a0.fKind == 3) then impl_packetFits_j1 a0 (a0.fKind == 3) else impl_packetFits_j1 a0 (a0.fKind == 6))))))

def impl_PacketOk_j1 (a0 : SPacket) : Option (Bool) :=
  ((impl_in a0.fAcct 0 2).bind fun v15 => (bif v15 then ((impl_packetFits a0).bind fun v18 => some v18) else some false))
def impl_PacketOk (a0 : SPacket) : Option (Bool) :=
  ((impl_isNode a0.fFrom).bind fun v20 => (bif (!v20) then some false else ((impl_isNode a0.fTo).bind fun v23 => (bif (!v23) then some false else ((impl_isNum a0.fA).bind fun v26 => (bif (!v26) then some false else ((impl_isNum a0.fB).bind fun v29 => (bif (!v29) then some false else (bif (a0.fA == 0) then (bif (a0.fKind != 2) then some false else impl_PacketOk_j1 a0) else impl_PacketOk_j1 a0)))))))))

def laws_FnExactPacketOk (a0 : SPacket) : Option (Bool) :=
  ((laws_toPacket a0).bind fun v5 => ((spec_PacketOk v5).bind fun v7 => ((laws_toPacket a0).bind fun v13 => ((impl_PacketOk v13).bind fun v15 => (bif (v15 != v7) then some false else some true)))))

end Go.Proofs.Yteolobihfindjaa
