/- Plain Lean functions, one for each Go function that the law reaches. -/
import Derived.Test.YteolobihfindjaaK4
set_option linter.unusedVariables false
namespace Go.Proofs.Yteolobihfindjaa
open Go Ax

def fuel : Nat := 4611686018427387904

def spec_l01New_j1 (a0 : (List Int)) (y24 : Int) : Option (SCur) :=
  some (SCur.mk a0 0 y24)
def spec_l01New_l2 (a0 : (List Int)) : Nat → Int → Int → Option (SCur)
  | 0, _, _ => none
  | n2 + 1, y31, y32 => (bif (decide (y31 < (a0.length : Int))) then (bif (decide (y31 < 4000)) then ((ix a0 y31).bind fun x46 => (spec_l01New_l2 a0 n2) (w64 (y31 + 1)) (bits .and .i64 (w64 ((w64 ((w64 (y32 * 47)) + (w64 x46))) + 7)) 1073741823)) else spec_l01New_j1 a0 y32) else spec_l01New_j1 a0 y32)
def spec_l01New (a0 : (List Int)) : Option (SCur) :=
  (spec_l01New_l2 a0 fuel 0 (w64 (1626 + (a0.length : Int))))

def spec_l01Byte (a0 : SCur) : Option ((Int) × SCur) :=
  (bif (decide (a0.fI < (a0.fB.length : Int))) then ((ix a0.fB a0.fI).bind fun x4 => some (bits .and .i64 (w64 ((bits .and .i64 (bits .xor .i64 (Int.fdiv (w64 ((w64 (a0.fH * 6364136223846793005)) + 1442695040888963407)) (2 ^ 33)) (Int.fdiv (w64 ((w64 (a0.fH * 6364136223846793005)) + 1442695040888963407)) (2 ^ 45))) 255) + (w64 x4))) 255, (SCur.mk a0.fB (w64 (a0.fI + 1)) (w64 ((w64 (a0.fH * 6364136223846793005)) + 1442695040888963407))))) else some (bits .and .i64 (bits .xor .i64 (Int.fdiv (w64 ((w64 (a0.fH * 6364136223846793005)) + 1442695040888963407)) (2 ^ 33)) (Int.fdiv (w64 ((w64 (a0.fH * 6364136223846793005)) + 1442695040888963407)) (2 ^ 45))) 255, { a0 with fH := w64 ((w64 (a0.fH * 6364136223846793005)) + 1442695040888963407) }))

def spec_l01Below (a0 : SCur) (a1 : Int) : Option ((Int) × SCur) :=
  (bif (decide (a1 ≤ 0)) then some (0, a0) else (bif (decide (a1 ≤ 256)) then ((spec_l01Byte a0).bind fun v9 => ((remO .i64 v9.1 a1).bind fun v11 => some (v11, v9.2))) else ((spec_l01Byte a0).bind fun v15 => ((spec_l01Byte v15.2).bind fun v19 => ((spec_l01Byte v19.2).bind fun v23 => ((spec_l01Byte v23.2).bind fun v27 => ((remO .i64 (w64 ((w64 ((w64 ((w64 (v15.1 * 16777216)) + (w64 (v19.1 * 65536)))) + (w64 (v23.1 * 256)))) + v27.1)) a1).bind fun v29 => some (v29, v27.2))))))))

def spec_MakeNums_l1 (a1 : Int) : Nat → Int → (List Int) → (List Int) → Int → Int → Option ((List Int))
  | 0, _, _, _, _, _ => none
  | n1 + 1, y19, y20, y21, y22, y23 => (bif (decide (y19 > 0)) then ((spec_l01Below (SCur.mk y21 y22 y23) a1).bind fun v36 => (gO (room 8 (y20.length + [v36.1].length)) ((spec_MakeNums_l1 a1 n1) (w64 (y19 - 1)) (y20 ++ [v36.1]) v36.2.fB v36.2.fI v36.2.fH))) else some y20)
def spec_MakeNums (a0 : (List Int)) (a1 : Int) : Option ((List Int)) :=
  ((spec_l01New a0).bind fun v3 => ((spec_l01Below { v3 with fH := w64 (v3.fH + a1) } 12).bind fun v7 => (spec_MakeNums_l1 a1 fuel v7.1 [] v7.2.fB v7.2.fI v7.2.fH)))

def impl_in (a0 : Int) (a1 : Int) (a2 : Int) : Option (Bool) :=
  (bif (decide (a0 ≥ a1)) then some (decide (a0 ≤ a2)) else some false)

def impl_isNum (a0 : Int) : Option (Bool) :=
  ((impl_in a0 0 1125899906842624).bind fun v1 => some v1)

def impl_isChoice (a0 : Int) : Option (Bool) :=
  ((impl_in a0 1 4).bind fun v1 => some v1)

def impl_AccOk (a0 : SAcc) : Option (Bool) :=
  ((impl_isNum a0.fProm).bind fun v1 => (bif v1 then ((impl_in a0.fBal 1 a0.fProm).bind fun v4 => (bif v4 then ((impl_isChoice a0.fVal).bind fun v7 => (bif v7 then some true else (bif (a0.fBal == 0) then some (a0.fVal == 0) else some false))) else (bif (a0.fBal == 0) then some (a0.fVal == 0) else some false))) else some false))

def impl_AccPrep_j1 (a0 : SAcc) (a1 : Int) (y21 : Bool) : Option (SAcc × Bool) :=
  (bif y21 then some ((SAcc.mk 0 0 0), false) else some ({ a0 with fProm := a1 }, true))
def impl_AccPrep (a0 : SAcc) (a1 : Int) : Option (SAcc × Bool) :=
  ((impl_AccOk a0).bind fun v23 => (bif (!v23) then impl_AccPrep_j1 a0 a1 true else ((impl_isNum a1).bind fun v26 => (bif (!v26) then impl_AccPrep_j1 a0 a1 true else impl_AccPrep_j1 a0 a1 (decide (a1 ≤ a0.fProm))))))

def impl_isBallot (a0 : Int) : Option (Bool) :=
  ((impl_in a0 1 1125899906842624).bind fun v1 => some v1)

def impl_AccTake_j1 (a1 : Int) (a2 : Int) (y30 : Bool) : Option (SAcc × Bool) :=
  (bif y30 then some ((SAcc.mk 0 0 0), false) else some ((SAcc.mk a1 a1 a2), true))
def impl_AccTake (a0 : SAcc) (a1 : Int) (a2 : Int) : Option (SAcc × Bool) :=
  ((impl_AccOk a0).bind fun v32 => (bif (!v32) then impl_AccTake_j1 a1 a2 true else ((impl_isChoice a2).bind fun v35 => (bif (!v35) then impl_AccTake_j1 a1 a2 true else ((impl_isBallot a1).bind fun v38 => (bif (!v38) then impl_AccTake_j1 a1 a2 true else impl_AccTake_j1 a1 a2 (decide (a1 < a0.fProm))))))))

def laws_FnPromise_j4 (kk1 : Int → Int → Int → Option (Bool)) (y441 : Bool) (y442 : Bool) (y443 : Int) (y444 : Int) (y445 : Int) : Option (Bool) :=
  ((impl_AccOk (SAcc.mk y443 y444 y445)).bind fun v446 => (bif (!v446) then some false else kk1 y443 y444 y445))
def laws_FnPromise_j5 (y318 : Int) (y319 : Int) (y320 : Int) (kk1 : Int → Int → Int → Option (Bool)) (v404 : SAcc × Bool) (v416 : SAcc × Bool) (y450 : Bool) (y451 : Bool) : Option (Bool) :=
  (bif y451 then laws_FnPromise_j4 kk1 y450 y451 v404.1.fProm v404.1.fBal v404.1.fVal else (bif v416.2 then laws_FnPromise_j4 kk1 y450 y451 v416.1.fProm v416.1.fBal v416.1.fVal else laws_FnPromise_j4 kk1 y450 y451 y318 y319 y320))
def laws_FnPromise_j3 (y318 : Int) (y319 : Int) (y320 : Int) (kk1 : Int → Int → Int → Option (Bool)) (i1 : Nat) (v404 : SAcc × Bool) (v416 : SAcc × Bool) (y429 : Bool) (y430 : Bool) (y431 : Bool) (y432 : Bool) (y433 : Bool) (y434 : Bool) : Option (Bool) :=
  (bif ((Int.tmod (i1 : Int) 2) == 0) then laws_FnPromise_j5 y318 y319 y320 kk1 v404 v416 true v404.2 else laws_FnPromise_j5 y318 y319 y320 kk1 v404 v416 false false)
def laws_FnPromise_j2 (y318 : Int) (y319 : Int) (y320 : Int) (kk1 : Int → Int → Int → Option (Bool)) (i1 : Nat) (x10 : Int) (v404 : SAcc × Bool) (y411 : Bool) (y412 : Bool) (y413 : Bool) : Option (Bool) :=
  ((impl_AccTake (SAcc.mk y318 y319 y320) x10 (w64 (1 + (Int.tmod (i1 : Int) 4)))).bind fun v416 => (bif (decide (x10 ≥ y318)) then (bif (v416.2 != (decide (x10 > 0))) then some false else (bif v416.2 then (bif (v416.1.fProm != x10) then some false else (bif (v416.1.fBal != x10) then some false else (bif (v416.1.fVal != (w64 (1 + (Int.tmod (i1 : Int) 4)))) then some false else laws_FnPromise_j3 y318 y319 y320 kk1 i1 v404 v416 true (decide (x10 > 0)) (v416.2 != (decide (x10 > 0))) true (v416.1.fVal != (w64 (1 + (Int.tmod (i1 : Int) 4)))) (v416.1.fVal != (w64 (1 + (Int.tmod (i1 : Int) 4))))))) else laws_FnPromise_j3 y318 y319 y320 kk1 i1 v404 v416 true (decide (x10 > 0)) (v416.2 != (decide (x10 > 0))) false false false)) else (bif (v416.2 != false) then some false else (bif v416.2 then (bif (v416.1.fProm != x10) then some false else (bif (v416.1.fBal != x10) then some false else (bif (v416.1.fVal != (w64 (1 + (Int.tmod (i1 : Int) 4)))) then some false else laws_FnPromise_j3 y318 y319 y320 kk1 i1 v404 v416 false false (v416.2 != false) true (v416.1.fVal != (w64 (1 + (Int.tmod (i1 : Int) 4)))) (v416.1.fVal != (w64 (1 + (Int.tmod (i1 : Int) 4))))))) else laws_FnPromise_j3 y318 y319 y320 kk1 i1 v404 v416 false false (v416.2 != false) false false false))))
def laws_FnPromise_l1 : List Int → Nat → Int → Int → Int → Option (Bool)
  | [], i1, y318, y319, y320 => ((impl_AccOk (SAcc.mk 0 0 0)).bind fun v400 => some v400)
  | x10 :: t1, i1, y318, y319, y320 => ((impl_AccPrep (SAcc.mk y318 y319 y320) x10).bind fun v404 => (bif (v404.2 != (decide (x10 > y318))) then some false else (bif v404.2 then (bif (v404.1.fProm != x10) then some false else (bif (v404.1.fBal != y319) then some false else (bif (v404.1.fVal != y320) then some false else laws_FnPromise_j2 y318 y319 y320 (laws_FnPromise_l1 t1 (i1 + 1)) i1 x10 v404 true (v404.1.fVal != y320) (v404.1.fVal != y320)))) else laws_FnPromise_j2 y318 y319 y320 (laws_FnPromise_l1 t1 (i1 + 1)) i1 x10 v404 false false false)))
def laws_FnPromise (a0 : (List Int)) : Option (Bool) :=
  (bif (decide ((a0.length : Int) > 1048576)) then some true else ((spec_MakeNums a0 20).bind fun v5 => (laws_FnPromise_l1 v5 0 0 0 0)))

end Go.Proofs.Yteolobihfindjaa
