/- Plain Lean functions, one for each Go function that the law reaches. -/
import Derived.Test.YteolobihfindjabK4
set_option linter.unusedVariables false
namespace Go.Proofs.Yteolobihfindjab
open Go Ax

def fuel : Nat := 4611686018427387904

def laws_szPacketS (a0 : (List SPacket)) (a1 : Int) : Option (Int) :=
  (bif (decide ((w64 (a1 - (a0.length : Int))) < 0)) then some (-1) else some (w64 (a1 - (a0.length : Int))))

def spec_l01In (a0 : Int) (a1 : Int) (a2 : Int) : Option (Bool) :=
  (bif (decide (a0 ≥ a1)) then some (decide (a0 ≤ a2)) else some false)

def spec_NetDrop (a0 : (List SPacket)) (a1 : Int) : Option ((List SPacket) × Bool) :=
  ((spec_l01In a1 0 (w64 ((a0.length : Int) - 1))).bind fun v4 => (bif (!v4) then some ([], false) else (gO ((0 : Int) ≤ 0 ∧ 0 ≤ a1 ∧ a1 ≤ (a0.length : Int)) ((gO (room 88 (([] : List SPacket).length + (List.take (Int.toNat a1 - Int.toNat 0) (List.drop (Int.toNat 0) a0)).length)) ((gO ((0 : Int) ≤ w64 (a1 + 1) ∧ w64 (a1 + 1) ≤ (a0.length : Int) ∧ (a0.length : Int) ≤ (a0.length : Int)) ((gO (room 88 ((List.take (Int.toNat a1 - Int.toNat 0) (List.drop (Int.toNat 0) a0)).length + (List.take (Int.toNat (a0.length : Int) - Int.toNat (w64 (a1 + 1))) (List.drop (Int.toNat (w64 (a1 + 1))) a0)).length)) (some ((List.take (Int.toNat a1 - Int.toNat 0) (List.drop (Int.toNat 0) a0)) ++ (List.take (Int.toNat (a0.length : Int) - Int.toNat (w64 (a1 + 1))) (List.drop (Int.toNat (w64 (a1 + 1))) a0)), true)))))))))))

def laws_toMsg (a0 : SMsg) : Option (SMsg) :=
  some a0

def laws_toPacket (a0 : SPacket) : Option (SPacket) :=
  ((laws_toMsg a0.fM).bind fun v1 => some { a0 with fM := v1 })

def laws_toPacketS_l1 : List SPacket → Nat → (List SPacket) → Option ((List SPacket))
  | [], i1, y14 => some y14
  | x10 :: t1, i1, y14 => ((laws_toPacket x10).bind fun v25 => ((ix y14 (i1 : Int)).bind fun x27 => (laws_toPacketS_l1 t1 (i1 + 1)) (List.set y14 (Int.toNat (i1 : Int)) v25)))
def laws_toPacketS (a0 : (List SPacket)) : Option ((List SPacket)) :=
  (gO ((0 : Int) ≤ (a0.length : Int) ∧ room 88 (Int.toNat (a0.length : Int))) ((laws_toPacketS_l1 a0 0 (List.replicate (Int.toNat (a0.length : Int)) (SPacket.mk 0 0 0 0 0 0 0 (SMsg.mk 0 0 0 0))))))

def impl_in (a0 : Int) (a1 : Int) (a2 : Int) : Option (Bool) :=
  (bif (decide (a0 ≥ a1)) then some (decide (a0 ≤ a2)) else some false)

def impl_NetDrop (a0 : (List SPacket)) (a1 : Int) : Option ((List SPacket) × Bool) :=
  ((impl_in a1 0 (w64 ((a0.length : Int) - 1))).bind fun v4 => (bif (!v4) then some ([], false) else (gO ((0 : Int) ≤ 0 ∧ 0 ≤ a1 ∧ a1 ≤ (a0.length : Int)) ((gO (room 88 (([] : List SPacket).length + (List.take (Int.toNat a1 - Int.toNat 0) (List.drop (Int.toNat 0) a0)).length)) ((gO ((0 : Int) ≤ w64 (a1 + 1) ∧ w64 (a1 + 1) ≤ (a0.length : Int) ∧ (a0.length : Int) ≤ (a0.length : Int)) ((gO (room 88 ((List.take (Int.toNat a1 - Int.toNat 0) (List.drop (Int.toNat 0) a0)).length + (List.take (Int.toNat (a0.length : Int) - Int.toNat (w64 (a1 + 1))) (List.drop (Int.toNat (w64 (a1 + 1))) a0)).length)) (some ((List.take (Int.toNat a1 - Int.toNat 0) (List.drop (Int.toNat 0) a0)) ++ (List.take (Int.toNat (a0.length : Int) - Int.toNat (w64 (a1 + 1))) (List.drop (Int.toNat (w64 (a1 + 1))) a0)), true)))))))))))

def laws_eqMsg (a0 : SMsg) (a1 : SMsg) : Option (Bool) :=
  (bif (a0.fKind != a1.fKind) then some false else (bif (a0.fAcct != a1.fAcct) then some false else (bif (a0.fAmt != a1.fAmt) then some false else (bif (a0.fSrc != a1.fSrc) then some false else some true))))

def laws_eqPacket (a0 : SPacket) (a1 : SPacket) : Option (Bool) :=
  (bif (a0.fFrom != a1.fFrom) then some false else (bif (a0.fTo != a1.fTo) then some false else (bif (a0.fKind != a1.fKind) then some false else (bif (a0.fAcct != a1.fAcct) then some false else (bif (a0.fA != a1.fA) then some false else (bif (a0.fB != a1.fB) then some false else (bif (a0.fC != a1.fC) then some false else ((laws_eqMsg a0.fM a1.fM).bind fun v15 => (bif (!v15) then some false else some true)))))))))

def laws_eqPacketS_l1 (a1 : (List SPacket)) : List SPacket → Nat → Option (Bool)
  | [], i1 => some true
  | x10 :: t1, i1 => ((ix a1 (i1 : Int)).bind fun x24 => ((laws_eqPacket x10 x24).bind fun v26 => (bif (!v26) then some false else (laws_eqPacketS_l1 a1 t1 (i1 + 1)))))
def laws_eqPacketS (a0 : (List SPacket)) (a1 : (List SPacket)) : Option (Bool) :=
  (bif ((a0.length : Int) != (a1.length : Int)) then some false else (laws_eqPacketS_l1 a1 a0 0))

def laws_markPacketS_l1 : Nat → Int → Int → (List SPacket) → Option ((Int) × (List SPacket))
  | 0, _, _, _ => none
  | n1 + 1, y10, y11, y12 => (bif (decide (y10 < (y12.length : Int))) then ((ix y12 y10).bind fun x26 => (laws_markPacketS_l1 n1) (w64 (y10 + 1)) (w64 ((w64 ((w64 ((w64 ((w64 ((w64 ((w64 ((w64 ((w64 ((w64 ((w64 (y11 + 1)) + 1)) + 1)) + 1)) + 1)) + 1)) + 1)) + 1)) + 1)) + 1)) + 1)) (List.set y12 (Int.toNat y10) (SPacket.mk y11 (w64 (y11 + 1)) (w64 ((w64 (y11 + 1)) + 1)) (w64 ((w64 ((w64 (y11 + 1)) + 1)) + 1)) (w64 ((w64 ((w64 ((w64 (y11 + 1)) + 1)) + 1)) + 1)) (w64 ((w64 ((w64 ((w64 ((w64 (y11 + 1)) + 1)) + 1)) + 1)) + 1)) (w64 ((w64 ((w64 ((w64 ((w64 ((w64 (y11 + 1)) + 1)) + 1)) + 1)) + 1)) + 1)) (SMsg.mk (w64 ((w64 ((w64 ((w64 ((w64 ((w64 ((w64 (y11 + 1)) + 1)) + 1)) + 1)) + 1)) + 1)) + 1)) (w64 ((w64 ((w64 ((w64 ((w64 ((w64 ((w64 ((w64 (y11 + 1)) + 1)) + 1)) + 1)) + 1)) + 1)) + 1)) + 1)) (w64 ((w64 ((w64 ((w64 ((w64 ((w64 ((w64 ((w64 ((w64 (y11 + 1)) + 1)) + 1)) + 1)) + 1)) + 1)) + 1)) + 1)) + 1)) (w64 ((w64 ((w64 ((w64 ((w64 ((w64 ((w64 ((w64 ((w64 ((w64 (y11 + 1)) + 1)) + 1)) + 1)) + 1)) + 1)) + 1)) + 1)) + 1)) + 1)))))) else some (y11, y12))
def laws_markPacketS (a0 : (List SPacket)) (a1 : Int) : Option ((Int) × (List SPacket)) :=
  (laws_markPacketS_l1 fuel 0 a1 a0)

def laws_heldPacketS_l1 : List SPacket → Nat → Int → Option (Int)
  | [], i1, y31 => some y31
  | x10 :: t1, i1, y31 => (bif (x10.fFrom != y31) then some (-1) else (bif (x10.fTo != (w64 (y31 + 1))) then some (-1) else (bif (x10.fKind != (w64 ((w64 (y31 + 1)) + 1))) then some (-1) else (bif (x10.fAcct != (w64 ((w64 ((w64 (y31 + 1)) + 1)) + 1))) then some (-1) else (bif (x10.fA != (w64 ((w64 ((w64 ((w64 (y31 + 1)) + 1)) + 1)) + 1))) then some (-1) else (bif (x10.fB != (w64 ((w64 ((w64 ((w64 ((w64 (y31 + 1)) + 1)) + 1)) + 1)) + 1))) then some (-1) else (bif (x10.fC != (w64 ((w64 ((w64 ((w64 ((w64 ((w64 (y31 + 1)) + 1)) + 1)) + 1)) + 1)) + 1))) then some (-1) else (bif (x10.fM.fKind != (w64 ((w64 ((w64 ((w64 ((w64 ((w64 ((w64 (y31 + 1)) + 1)) + 1)) + 1)) + 1)) + 1)) + 1))) then some (-1) else (bif (x10.fM.fAcct != (w64 ((w64 ((w64 ((w64 ((w64 ((w64 ((w64 ((w64 (y31 + 1)) + 1)) + 1)) + 1)) + 1)) + 1)) + 1)) + 1))) then some (-1) else (bif (x10.fM.fAmt != (w64 ((w64 ((w64 ((w64 ((w64 ((w64 ((w64 ((w64 ((w64 (y31 + 1)) + 1)) + 1)) + 1)) + 1)) + 1)) + 1)) + 1)) + 1))) then some (-1) else (bif (x10.fM.fSrc != (w64 ((w64 ((w64 ((w64 ((w64 ((w64 ((w64 ((w64 ((w64 ((w64 (y31 + 1)) + 1)) + 1)) + 1)) + 1)) + 1)) + 1)) + 1)) + 1)) + 1))) then some (-1) else (laws_heldPacketS_l1 t1 (i1 + 1)) (w64 ((w64 ((w64 ((w64 ((w64 ((w64 ((w64 ((w64 ((w64 ((w64 ((w64 (y31 + 1)) + 1)) + 1)) + 1)) + 1)) + 1)) + 1)) + 1)) + 1)) + 1)) + 1)))))))))))))
def laws_heldPacketS (a0 : (List SPacket)) (a1 : Int) : Option (Int) :=
  (laws_heldPacketS_l1 a0 0 a1)

def laws_FnExactNetDrop (a0 : (List SPacket)) (a1 : Int) : Option (Bool) :=
  ((laws_szPacketS a0 1048576).bind fun v3 => (bif (decide (v3 < 0)) then some true else ((laws_toPacketS a0).bind fun v11 => ((spec_NetDrop v11 a1).bind fun v13 => ((laws_toPacketS a0).bind fun v17 => ((impl_NetDrop v17 a1).bind fun v21 => ((laws_eqPacketS v21.1 v13.1).bind fun v27 => (bif (!v27) then some false else (bif (v21.2 != v13.2) then some false else ((laws_toPacketS a0).bind fun v36 => ((laws_eqPacketS v17 v36).bind fun v38 => (bif (!v38) then some false else ((laws_markPacketS v17 1).bind fun v43 => (bif (decide (v43.1 < 0)) then some false else ((laws_eqPacketS v21.1 v13.1).bind fun v50 => (bif (!v50) then some false else ((laws_markPacketS v21.1 1).bind fun v55 => ((laws_heldPacketS v55.2 1).bind fun v59 => (bif (decide (v59 < 0)) then some false else (bif (v59 != v55.1) then some false else ((laws_toPacketS a0).bind fun v69 => ((impl_NetDrop v69 a1).bind fun v71 => ((laws_eqPacketS v71.1 v13.1).bind fun v77 => (bif (!v77) then some false else (bif (v71.2 != v13.2) then some false else ((laws_heldPacketS v55.2 1).bind fun v83 => (bif (decide (v83 < 0)) then some false else (bif (v83 != v55.1) then some false else some true))))))))))))))))))))))))))))

end Go.Proofs.Yteolobihfindjab
