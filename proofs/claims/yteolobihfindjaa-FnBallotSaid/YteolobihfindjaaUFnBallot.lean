/- Plain Lean functions, one for each Go function that the law reaches. -/
import Derived.Test.YteolobihfindjaaK4
set_option linter.unusedVariables false
namespace Go.Proofs.Yteolobihfindjaa
open Go Ax

def fuel : Nat := 4611686018427387904

def spec_l01New_j1 (a0 : (List Int)) (y24 : Int) : Option (SCur) :=
  some (SCur.mk a0 0 y24)
def spec_l01New_l2 (a0 : (List Int)) : Nat → Int → Int → Option (SCur)
  | 0, _, _ => none
  | n2 + 1, y31, y32 => (bif (decide (y31 < (a0.length : Int))) then (bif (decide (y31 < 4000)) then ((ix a0 y31).bind fun x46 => (spec_l01New_l2 a0 n2) (w64 (y31 + 1)) (bits .and .i64 (w64 ((w64 ((w64 (y32 * 47)) + (w64 x46))) + 7)) 1073741823)) else spec_l01New_j1 a0 y32) else spec_l01New_j1 a0 y32)
def spec_l01New (a0 : (List Int)) : Option (SCur) :=
  (spec_l01New_l2 a0 fuel 0 (w64 (1626 + (a0.length : Int))))

def spec_l01Byte (a0 : SCur) : Option ((Int) × SCur) :=
  (bif (decide (a0.fI < (a0.fB.length : Int))) then ((ix a0.fB a0.fI).bind fun x4 => some (bits .and .i64 (w64 ((bits .and .i64 (bits .xor .i64 (Int.fdiv (w64 ((w64 (a0.fH * 6364136223846793005)) + 1442695040888963407)) (2 ^ 33)) (Int.fdiv (w64 ((w64 (a0.fH * 6364136223846793005)) + 1442695040888963407)) (2 ^ 45))) 255) + (w64 x4))) 255, (SCur.mk a0.fB (w64 (a0.fI + 1)) (w64 ((w64 (a0.fH * 6364136223846793005)) + 1442695040888963407))))) else some (bits .and .i64 (bits .xor .i64 (Int.fdiv (w64 ((w64 (a0.fH * 6364136223846793005)) + 1442695040888963407)) (2 ^ 33)) (Int.fdiv (w64 ((w64 (a0.fH * 6364136223846793005)) + 1442695040888963407)) (2 ^ 45))) 255, { a0 with fH := w64 ((w64 (a0.fH * 6364136223846793005)) + 1442695040888963407) }))

def spec_l01Below (a0 : SCur) (a1 : Int) : Option ((Int) × SCur) :=
  (bif (decide (a1 ≤ 0)) then some (0, a0) else (bif (decide (a1 ≤ 256)) then ((spec_l01Byte a0).bind fun v9 => ((remO .i64 v9.1 a1).bind fun v11 => some (v11, v9.2))) else ((spec_l01Byte a0).bind fun v15 => ((spec_l01Byte v15.2).bind fun v19 => ((spec_l01Byte v19.2).bind fun v23 => ((spec_l01Byte v23.2).bind fun v27 => ((remO .i64 (w64 ((w64 ((w64 ((w64 (v15.1 * 16777216)) + (w64 (v19.1 * 65536)))) + (w64 (v23.1 * 256)))) + v27.1)) a1).bind fun v29 => some (v29, v27.2))))))))

def spec_MakeNum (a0 : (List Int)) (a1 : Int) : Option (Int) :=
  ((spec_l01New a0).bind fun v3 => ((spec_l01Below { v3 with fH := w64 (v3.fH + 777) } a1).bind fun v5 => some v5.1))

def impl_in (a0 : Int) (a1 : Int) (a2 : Int) : Option (Bool) :=
  (bif (decide (a0 ≥ a1)) then some (decide (a0 ≤ a2)) else some false)

def impl_isNode (a0 : Int) : Option (Bool) :=
  ((impl_in a0 0 3).bind fun v1 => some v1)

def impl_BallotAbove (a0 : Int) (a1 : Int) : Option (Int) :=
  ((impl_in a0 0 1000000000).bind fun v7 => (bif (!v7) then some 0 else ((impl_isNode a1).bind fun v10 => (bif (!v10) then some 0 else (bif (decide (a0 < (w64 (a1 + 1)))) then some (w64 (a1 + 1)) else some (w64 ((w64 ((w64 ((w64 ((w64 (Int.tdiv (w64 ((w64 (a0 - a1)) - 1)) 4)) + 1)) * 4)) + a1)) + 1)))))))

def impl_BallotOf (a0 : Int) (a1 : Int) : Option (Int) :=
  ((impl_in a0 0 1000000000).bind fun v7 => (bif (!v7) then some 0 else ((impl_isNode a1).bind fun v10 => (bif (!v10) then some 0 else some (w64 ((w64 ((w64 (a0 * 4)) + a1)) + 1))))))

def impl_IsMost (a0 : Int) (a1 : Int) : Option (Bool) :=
  some (decide (a0 > (Int.fdiv a1 (2 ^ 1))))

def laws_FnBallot (a0 : (List Int)) : Option (Bool) :=
  (bif (decide ((a0.length : Int) > 1048576)) then some true else ((spec_MakeNum a0 1000).bind fun v5 => ((spec_MakeNum a0 4).bind fun v9 => ((impl_BallotAbove v5 v9).bind fun v13 => ((impl_BallotOf (w64 (Int.tdiv (w64 (v13 - 1)) 4)) v9).bind fun v17 => (bif (decide (v13 > v5)) then (bif (decide ((w64 (v13 - v5)) ≤ 4)) then (bif (v17 == v13) then ((impl_IsMost 3 5).bind fun v22 => (bif v22 then ((impl_IsMost 2 4).bind fun v25 => (bif (!v25) then ((impl_IsMost 1 1).bind fun v28 => some v28) else some false)) else some false)) else some false) else some false) else some false))))))

end Go.Proofs.Yteolobihfindjaa
