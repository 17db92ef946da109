/- Plain Lean functions, one for each Go function that the law reaches. -/
import Derived.Test.YteolobihfindjabK4
set_option linter.unusedVariables false
namespace Go.Proofs.Yteolobihfindjab
open Go Ax

def fuel : Nat := 4611686018427387904

def laws_szPacketS (a0 : (List SPacket)) (a1 : Int) : Option (Int) :=
  (bif (decide ((w64 (a1 - (a0.length : Int))) < 0)) then some (-1) else some (w64 (a1 - (a0.length : Int))))

def laws_toMsg (a0 : SMsg) : Option (SMsg) :=
  some a0

def laws_toPacket (a0 : SPacket) : Option (SPacket) :=
  ((laws_toMsg a0.fM).bind fun v1 => some { a0 with fM := v1 })

def laws_toPacketS_l1 : List SPacket → Nat → (List SPacket) → Option ((List SPacket))
  | [], i1, y14 => some y14
  | x10 :: t1, i1, y14 => ((laws_toPacket x10).bind fun v25 => ((ix y14 (i1 : Int)).bind fun x27 => (laws_toPacketS_l1 t1 (i1 + 1)) (List.set y14 (Int.toNat (i1 : Int)) v25)))
def laws_toPacketS (a0 : (List SPacket)) : Option ((List SPacket)) :=
  (gO ((0 : Int) ≤ (a0.length : Int) ∧ room 88 (Int.toNat (a0.length : Int))) ((laws_toPacketS_l1 a0 0 (List.replicate (Int.toNat (a0.length : Int)) (SPacket.mk 0 0 0 0 0 0 0 (SMsg.mk 0 0 0 0))))))

def laws_eqMsg (a0 : SMsg) (a1 : SMsg) : Option (Bool) :=
  (bif (a0.fKind != a1.fKind) then some false else (bif (a0.fAcct != a1.fAcct) then some false else (bif (a0.fAmt != a1.fAmt) then some false else (bif (a0.fSrc != a1.fSrc) then some false else some true))))

def laws_eqPacket (a0 : SPacket) (a1 : SPacket) : Option (Bool) :=
  (bif (a0.fFrom != a1.fFrom) then some false else (bif (a0.fTo != a1.fTo) then some false else (bif (a0.fKind != a1.fKind) then some false else (bif (a0.fAcct != a1.fAcct) then some false else (bif (a0.fA != a1.fA) then some false else (bif (a0.fB != a1.fB) then some false else (bif (a0.fC != a1.fC) then some false else ((laws_eqMsg a0.fM a1.fM).bind fun v15 => (bif (!v15) then some false else some true)))))))))

def laws_eqPacketS_l1 (a1 : (List SPacket)) : List SPacket → Nat → Option (Bool)
  | [], i1 => some true
  | x10 :: t1, i1 => ((ix a1 (i1 : Int)).bind fun x24 => ((laws_eqPacket x10 x24).bind fun v26 => (bif (!v26) then some false else (laws_eqPacketS_l1 a1 t1 (i1 + 1)))))
def laws_eqPacketS (a0 : (List SPacket)) (a1 : (List SPacket)) : Option (Bool) :=
  (bif ((a0.length : Int) != (a1.length : Int)) then some false else (laws_eqPacketS_l1 a1 a0 0))

def laws_markPacketS_l1 : Nat → Int → Int → (List SPacket) → Option ((Int) × (List SPacket))
  | 0, _, _, _ => none
  | n1 + 1, y10, y11, y12 => (bif (decide (y10 < (y12.length : Int))) then ((ix y12 y10).bind fun x26 => (laws_markPacketS_l1 n1) (w64 (y10 + 1)) (w64 ((w64 ((w64 ((w64 ((w64 ((w64 ((w64 ((w64 ((w64 ((w64 ((w64 (y11 + 1)) + 1)) + 1)) + 1)) + 1)) + 1)) + 1)) + 1)) + 1)) + 1)) + 1)) (List.set y12 (Int.toNat y10) (SPacket.mk y11 (w64 (y11 + 1)) (w64 ((w64 (y11 + 1)) + 1)) (w64 ((w64 ((w64 (y11 + 1)) + 1)) + 1)) (w64 ((w64 ((w64 ((w64 (y11 + 1)) + 1)) + 1)) + 1)) (w64 ((w64 ((w64 ((w64 ((w64 (y11 + 1)) + 1)) + 1)) + 1)) + 1)) (w64 ((w64 ((w64 ((w64 ((w64 ((w64 (y11 + 1)) + 1)) + 1)) + 1)) + 1)) + 1)) (SMsg.mk (w64 ((w64 ((w64 ((w64 ((w64 ((w64 ((w64 (y11 + 1)) + 1)) + 1)) + 1)) + 1)) + 1)) + 1)) (w64 ((w64 ((w64 ((w64 ((w64 ((w64 ((w64 ((w64 (y11 + 1)) + 1)) + 1)) + 1)) + 1)) + 1)) + 1)) + 1)) (w64 ((w64 ((w64 ((w64 ((w64 ((w64 ((w64 ((w64 ((w64 (y11 + 1)) + 1)) + 1)) + 1)) + 1)) + 1)) + 1)) + 1)) + 1)) (w64 ((w64 ((w64 ((w64 ((w64 ((w64 ((w64 ((w64 ((w64 ((w64 (y11 + 1)) + 1)) + 1)) + 1)) + 1)) + 1)) + 1)) + 1)) + 1)) + 1)))))) else some (y11, y12))
def laws_markPacketS (a0 : (List SPacket)) (a1 : Int) : Option ((Int) × (List SPacket)) :=
  (laws_markPacketS_l1 fuel 0 a1 a0)

def laws_heldPacketS_l1 : List SPacket → Nat → Int → Option (Int)
  | [], i1, y31 => some y31
  | x10 :: t1, i1, y31 => (bif (x10.fFrom != y31) then some (-1) else (bif (x10.fTo != (w64 (y31 + 1))) then some (-1) else (bif (x10.fKind != (w64 ((w64 (y31 + 1)) + 1))) then some (-1) else (bif (x10.fAcct != (w64 ((w64 ((w64 (y31 + 1)) + 1)) + 1))) then some (-1) else (bif (x10.fA != (w64 ((w64 ((w64 ((w64 (y31 + 1)) + 1)) + 1)) + 1))) then some (-1) else (bif (x10.fB != (w64 ((w64 ((w64 ((w64 ((w64 (y31 + 1)) + 1)) + 1)) + 1)) + 1))) then some (-1) else (bif (x10.fC != (w64 ((w64 ((w64 ((w64 ((w64 ((w64 (y31 + 1)) + 1)) + 1)) + 1)) + 1)) + 1))) then some (-1) else (bif (x10.fM.fKind != (w64 ((w64 ((w64 ((w64 ((w64 ((w64 ((w64 (y31 + 1)) + 1)) + 1)) + 1)) + 1)) + 1)) + 1))) then some (-1) else (bif (x10.fM.fAcct != (w64 ((w64 ((w64 ((w64 ((w64 ((w64 ((w64 ((w64 (y31 + 1)) + 1)) + 1)) + 1)) + 1)) + 1)) + 1)) + 1))) then some (-1) else (bif (x10.fM.fAmt != (w64 ((w64 ((w64 ((w64 ((w64 ((w64 ((w64 ((w64 ((w64 (y31 + 1)) + 1)) + 1)) + 1)) + 1)) + 1)) + 1)) + 1)) + 1))) then some (-1) else (bif (x10.fM.fSrc != (w64 ((w64 ((w64 ((w64 ((w64 ((w64 ((w64 ((w64 ((w64 ((w64 (y31 + 1)) + 1)) + 1)) + 1)) + 1)) + 1)) + 1)) + 1)) + 1)) + 1))) then some (-1) else (laws_heldPacketS_l1 t1 (i1 + 1)) (w64 ((w64 ((w64 ((w64 ((w64 ((w64 ((w64 ((w64 ((w64 ((w64 ((w64 (y31 + 1)) + 1)) + 1)) + 1)) + 1)) + 1)) + 1)) + 1)) + 1)) + 1)) + 1)))))))))))))
def laws_heldPacketS (a0 : (List SPacket)) (a1 : Int) : Option (Int) :=
  (laws_heldPacketS_l1 a0 0 a1)

def spec_NetTo_l1 (a1 : Int) : List SPacket → Nat → (List SPacket) → Option ((List SPacket))
  | [], i1, y12 => some y12
  | x10 :: t1, i1, y12 => (bif (x10.fTo == a1) then (gO (room 88 (y12.length + [x10].length)) ((spec_NetTo_l1 a1 t1 (i1 + 1)) (y12 ++ [x10]))) else (spec_NetTo_l1 a1 t1 (i1 + 1)) y12)
def spec_NetTo (a0 : (List SPacket)) (a1 : Int) : Option ((List SPacket)) :=
  (spec_NetTo_l1 a1 a0 0 [])

def impl_NetTo_l1 (a1 : Int) : List SPacket → Nat → (List SPacket) → Option ((List SPacket))
  | [], i1, y12 => some y12
  | x10 :: t1, i1, y12 => (bif (x10.fTo == a1) then (gO (room 88 (y12.length + [x10].length)) ((impl_NetTo_l1 a1 t1 (i1 + 1)) (y12 ++ [x10]))) else (impl_NetTo_l1 a1 t1 (i1 + 1)) y12)
def impl_NetTo (a0 : (List SPacket)) (a1 : Int) : Option ((List SPacket)) :=
  (impl_NetTo_l1 a1 a0 0 [])

def laws_FnExactNetTo (a0 : (List SPacket)) (a1 : Int) : Option (Bool) :=
  ((laws_szPacketS a0 1048576).bind fun v3 => (bif (decide (v3 < 0)) then some true else ((laws_toPacketS a0).bind fun v11 => ((spec_NetTo v11 a1).bind fun v13 => ((laws_toPacketS a0).bind fun v17 => ((impl_NetTo v17 a1).bind fun v21 => ((laws_eqPacketS v21 v13).bind fun v26 => (bif (!v26) then some false else ((laws_toPacketS a0).bind fun v34 => ((laws_eqPacketS v17 v34).bind fun v36 => (bif (!v36) then some false else ((laws_markPacketS v17 1).bind fun v41 => (bif (decide (v41.1 < 0)) then some false else ((laws_eqPacketS v21 v13).bind fun v48 => (bif (!v48) then some false else ((laws_markPacketS v21 1).bind fun v53 => ((laws_heldPacketS v53.2 1).bind fun v57 => (bif (decide (v57 < 0)) then some false else (bif (v57 != v53.1) then some false else ((laws_toPacketS a0).bind fun v67 => ((impl_NetTo v67 a1).bind fun v69 => ((laws_eqPacketS v69 v13).bind fun v74 => (bif (!v74) then some false else ((laws_heldPacketS v53.2 1).bind fun v79 => (bif (decide (v79 < 0)) then some false else (bif (v79 != v53.1) then some false else some true))))))))))))))))))))))))))

end Go.Proofs.Yteolobihfindjab
