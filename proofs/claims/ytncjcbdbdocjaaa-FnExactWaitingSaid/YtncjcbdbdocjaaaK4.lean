/- The proof layer, part 4: plain types, words of the plain functions, short steps. -/
import Derived.Test.YtncjcbdbdocjaaaK3
set_option linter.unusedVariables false
set_option linter.unusedSimpArgs false

/- The plain types of the structs, and their trees. -/
namespace Go.Proofs.Ytncjcbdbdocjaaa
open Go Ax

structure SMsg where
  fKind : Int
  fAcct : Int
  fAmt : Int
  fSrc : Int
  deriving Inhabited, DecidableEq
structure SRep where
  fNode : Int
  fAmt : Int
  deriving Inhabited, DecidableEq
structure SAcc where
  fProm : Int
  fBal : Int
  fVal : Int
  deriving Inhabited, DecidableEq
structure SRec where
  fKind : Int
  fAcct : Int
  fOther : Int
  fTo : Int
  fAmt : Int
  fM : SMsg
  deriving Inhabited, DecidableEq
structure SPacket where
  fFrom : Int
  fTo : Int
  fKind : Int
  fAcct : Int
  fA : Int
  fB : Int
  fC : Int
  fM : SMsg
  deriving Inhabited, DecidableEq
structure SOut where
  fNext : Int
  fList : List SMsg
  deriving Inhabited, DecidableEq
structure SAcct where
  fHave : Int
  fState : Int
  fBy : Int
  fMarks : List Int
  fReps : List SRep
  deriving Inhabited, DecidableEq
structure SProp where
  fBal : Int
  fVal : Int
  fFrom : List Int
  fBest : Int
  fGot : List Int
  deriving Inhabited, DecidableEq
structure SDisk where
  fSure : List Int
  fSoft : List Int
  deriving Inhabited, DecidableEq
structure SNode where
  fId : Int
  fN : Int
  fAccts : List SAcct
  fOuts : List SOut
  fIns : List Int
  fAccs : List SAcc
  fStray : Int
  fCame : Int
  fWent : Int
  deriving Inhabited, DecidableEq
structure SLog where
  fX : SNode
  fRecs : List SRec
  fEnd : Int
  deriving Inhabited, DecidableEq
structure SStore where
  fUp : Bool
  fX : SNode
  fD : SDisk
  fAsks : List SProp
  fHeld : List SPacket
  deriving Inhabited, DecidableEq
structure SWork where
  fX : SNode
  fFull : Bool
  deriving Inhabited, DecidableEq
structure SScan where
  fB : List Int
  fAt : Int
  fBad : Bool
  deriving Inhabited, DecidableEq
structure SCur where
  fB : List Int
  fI : Int
  fH : Int
  deriving Inhabited, DecidableEq
structure SWorld where
  fStores : List SStore
  fNet : List SPacket
  deriving Inhabited, DecidableEq

theorem rds_map {α : Type} {f : α → X} (h : ∀ a, (f a).rde = true) : ∀ l : List α, X.rds (List.map f l) = true
  | [] => rfl
  | a :: l => by simp only [List.map_cons, X.rds, h a, rds_map h l, Bool.and_self]
theorem ro_map {α : Type} {f g : α → X} (h : ∀ a, (f a).roify = g a) : ∀ l : List α, X.roifys (List.map f l) = List.map g l
  | [] => rfl
  | a :: l => by simp only [List.map_cons, X.roifys, h a, ro_map h l]
theorem nr_map {α : Type} {f : α → X} (h : ∀ a, (f a).noRo = true) : ∀ l : List α, X.noRos (List.map f l) = true
  | [] => rfl
  | a :: l => by simp only [List.map_cons, X.noRos, h a, nr_map h l, Bool.and_self]
theorem pl_map {α : Type} {f : α → X} (h : ∀ a, (f a).plain = true) : ∀ l : List α, (List.map f l).all X.plain = true
  | [] => rfl
  | a :: l => by simp only [List.map_cons, List.all_cons, h a, pl_map h l, Bool.and_self]
theorem nr_sl {t : Nat} {l : List X} (h : X.noRos l = true) : (X.sl (t + 1) l).noRo = true := by simp [X.noRo, h]
theorem nr_agg {l : List X} (h : X.noRos l = true) : (X.agg l).noRo = true := by simp [X.noRo, h]
theorem nr_tup {l : List X} (h : X.noRos l = true) : (X.tup l).noRo = true := by simp [X.noRo, h]
theorem nr_box {l : X} (h : l.noRo = true) : (X.box l).noRo = true := by simp [X.noRo, h]
theorem nr_cons {x : X} {l : List X} (h : x.noRo = true) (k : X.noRos l = true) : X.noRos (x :: l) = true := by simp [X.noRos, h, k]
theorem nr_nil : X.noRos [] = true := rfl

def encInt (n : Int) : X := .sc (.int .i64 n)
def encU8 (n : Int) : X := .sc (.int .u8 n)
def encStr (s : ByteArray) : X := .sc (.string s)
def encBool (s : Bool) : X := .sc (.bool s)
def encMsg (x : SMsg) : X := .agg [.sc (.int .i64 x.fKind), .sc (.int .i64 x.fAcct), .sc (.int .i64 x.fAmt), .sc (.int .i64 x.fSrc)]
def encRep (x : SRep) : X := .agg [.sc (.int .i64 x.fNode), .sc (.int .i64 x.fAmt)]
def encAcc (x : SAcc) : X := .agg [.sc (.int .i64 x.fProm), .sc (.int .i64 x.fBal), .sc (.int .i64 x.fVal)]
def encRec (x : SRec) : X := .agg [.sc (.int .i64 x.fKind), .sc (.int .i64 x.fAcct), .sc (.int .i64 x.fOther), .sc (.int .i64 x.fTo), .sc (.int .i64 x.fAmt), .sc (.int .i64 x.fM.fKind), .sc (.int .i64 x.fM.fAcct), .sc (.int .i64 x.fM.fAmt), .sc (.int .i64 x.fM.fSrc)]
def encPacket (x : SPacket) : X := .agg [.sc (.int .i64 x.fFrom), .sc (.int .i64 x.fTo), .sc (.int .i64 x.fKind), .sc (.int .i64 x.fAcct), .sc (.int .i64 x.fA), .sc (.int .i64 x.fB), .sc (.int .i64 x.fC), .sc (.int .i64 x.fM.fKind), .sc (.int .i64 x.fM.fAcct), .sc (.int .i64 x.fM.fAmt), .sc (.int .i64 x.fM.fSrc)]
def encOut0 (x : SOut) : X := .agg [.sc (.int .i64 x.fNext), .sl 0 (List.map encMsg x.fList)]
def encOut1 (x : SOut) : X := .agg [.sc (.int .i64 x.fNext), .sl 1 (List.map encMsg x.fList)]
def encAcct0 (x : SAcct) : X := .agg [.sc (.int .i64 x.fHave), .sc (.int .i64 x.fState), .sc (.int .i64 x.fBy), .sl 0 (List.map encInt x.fMarks), .sl 0 (List.map encRep x.fReps)]
def encAcct1 (x : SAcct) : X := .agg [.sc (.int .i64 x.fHave), .sc (.int .i64 x.fState), .sc (.int .i64 x.fBy), .sl 1 (List.map encInt x.fMarks), .sl 1 (List.map encRep x.fReps)]
def encProp0 (x : SProp) : X := .agg [.sc (.int .i64 x.fBal), .sc (.int .i64 x.fVal), .sl 0 (List.map encInt x.fFrom), .sc (.int .i64 x.fBest), .sl 0 (List.map encInt x.fGot)]
def encProp1 (x : SProp) : X := .agg [.sc (.int .i64 x.fBal), .sc (.int .i64 x.fVal), .sl 1 (List.map encInt x.fFrom), .sc (.int .i64 x.fBest), .sl 1 (List.map encInt x.fGot)]
def encDisk0 (x : SDisk) : X := .agg [.sl 0 (List.map encU8 x.fSure), .sl 0 (List.map encU8 x.fSoft)]
def encDisk1 (x : SDisk) : X := .agg [.sl 1 (List.map encU8 x.fSure), .sl 1 (List.map encU8 x.fSoft)]
def encNode0 (x : SNode) : X := .agg [.sc (.int .i64 x.fId), .sc (.int .i64 x.fN), .sl 0 (List.map encAcct0 x.fAccts), .sl 0 (List.map encOut0 x.fOuts), .sl 0 (List.map encInt x.fIns), .sl 0 (List.map encAcc x.fAccs), .sc (.int .i64 x.fStray), .sc (.int .i64 x.fCame), .sc (.int .i64 x.fWent)]
def encNode1 (x : SNode) : X := .agg [.sc (.int .i64 x.fId), .sc (.int .i64 x.fN), .sl 1 (List.map encAcct1 x.fAccts), .sl 1 (List.map encOut1 x.fOuts), .sl 1 (List.map encInt x.fIns), .sl 1 (List.map encAcc x.fAccs), .sc (.int .i64 x.fStray), .sc (.int .i64 x.fCame), .sc (.int .i64 x.fWent)]
def encLog0 (x : SLog) : X := .agg [.sc (.int .i64 x.fX.fId), .sc (.int .i64 x.fX.fN), .sl 0 (List.map encAcct0 x.fX.fAccts), .sl 0 (List.map encOut0 x.fX.fOuts), .sl 0 (List.map encInt x.fX.fIns), .sl 0 (List.map encAcc x.fX.fAccs), .sc (.int .i64 x.fX.fStray), .sc (.int .i64 x.fX.fCame), .sc (.int .i64 x.fX.fWent), .sl 0 (List.map encRec x.fRecs), .sc (.int .i64 x.fEnd)]
def encLog1 (x : SLog) : X := .agg [.sc (.int .i64 x.fX.fId), .sc (.int .i64 x.fX.fN), .sl 1 (List.map encAcct1 x.fX.fAccts), .sl 1 (List.map encOut1 x.fX.fOuts), .sl 1 (List.map encInt x.fX.fIns), .sl 1 (List.map encAcc x.fX.fAccs), .sc (.int .i64 x.fX.fStray), .sc (.int .i64 x.fX.fCame), .sc (.int .i64 x.fX.fWent), .sl 1 (List.map encRec x.fRecs), .sc (.int .i64 x.fEnd)]
def encStore0 (x : SStore) : X := .agg [.sc (.bool x.fUp), .sc (.int .i64 x.fX.fId), .sc (.int .i64 x.fX.fN), .sl 0 (List.map encAcct0 x.fX.fAccts), .sl 0 (List.map encOut0 x.fX.fOuts), .sl 0 (List.map encInt x.fX.fIns), .sl 0 (List.map encAcc x.fX.fAccs), .sc (.int .i64 x.fX.fStray), .sc (.int .i64 x.fX.fCame), .sc (.int .i64 x.fX.fWent), .sl 0 (List.map encU8 x.fD.fSure), .sl 0 (List.map encU8 x.fD.fSoft), .sl 0 (List.map encProp0 x.fAsks), .sl 0 (List.map encPacket x.fHeld)]
def encStore1 (x : SStore) : X := .agg [.sc (.bool x.fUp), .sc (.int .i64 x.fX.fId), .sc (.int .i64 x.fX.fN), .sl 1 (List.map encAcct1 x.fX.fAccts), .sl 1 (List.map encOut1 x.fX.fOuts), .sl 1 (List.map encInt x.fX.fIns), .sl 1 (List.map encAcc x.fX.fAccs), .sc (.int .i64 x.fX.fStray), .sc (.int .i64 x.fX.fCame), .sc (.int .i64 x.fX.fWent), .sl 1 (List.map encU8 x.fD.fSure), .sl 1 (List.map encU8 x.fD.fSoft), .sl 1 (List.map encProp1 x.fAsks), .sl 1 (List.map encPacket x.fHeld)]
def encWork0 (x : SWork) : X := .agg [.sc (.int .i64 x.fX.fId), .sc (.int .i64 x.fX.fN), .sl 0 (List.map encAcct0 x.fX.fAccts), .sl 0 (List.map encOut0 x.fX.fOuts), .sl 0 (List.map encInt x.fX.fIns), .sl 0 (List.map encAcc x.fX.fAccs), .sc (.int .i64 x.fX.fStray), .sc (.int .i64 x.fX.fCame), .sc (.int .i64 x.fX.fWent), .sc (.bool x.fFull)]
def encWork1 (x : SWork) : X := .agg [.sc (.int .i64 x.fX.fId), .sc (.int .i64 x.fX.fN), .sl 1 (List.map encAcct1 x.fX.fAccts), .sl 1 (List.map encOut1 x.fX.fOuts), .sl 1 (List.map encInt x.fX.fIns), .sl 1 (List.map encAcc x.fX.fAccs), .sc (.int .i64 x.fX.fStray), .sc (.int .i64 x.fX.fCame), .sc (.int .i64 x.fX.fWent), .sc (.bool x.fFull)]
def encScan0 (x : SScan) : X := .agg [.sl 0 (List.map encU8 x.fB), .sc (.int .i64 x.fAt), .sc (.bool x.fBad)]
def encScan1 (x : SScan) : X := .agg [.sl 1 (List.map encU8 x.fB), .sc (.int .i64 x.fAt), .sc (.bool x.fBad)]
def encCur0 (x : SCur) : X := .agg [.sl 0 (List.map encU8 x.fB), .sc (.int .i64 x.fI), .sc (.int .i64 x.fH)]
def encCur1 (x : SCur) : X := .agg [.sl 1 (List.map encU8 x.fB), .sc (.int .i64 x.fI), .sc (.int .i64 x.fH)]
def encWorld0 (x : SWorld) : X := .agg [.sl 0 (List.map encStore0 x.fStores), .sl 0 (List.map encPacket x.fNet)]
def encWorld1 (x : SWorld) : X := .agg [.sl 1 (List.map encStore1 x.fStores), .sl 1 (List.map encPacket x.fNet)]
def encLInt0 (x : List Int) : X := .sl 0 (List.map encInt x)
def encLInt1 (x : List Int) : X := .sl 1 (List.map encInt x)
def encLU80 (x : List Int) : X := .sl 0 (List.map encU8 x)
def encLU81 (x : List Int) : X := .sl 1 (List.map encU8 x)
def encLRep0 (x : List SRep) : X := .sl 0 (List.map encRep x)
def encLRep1 (x : List SRep) : X := .sl 1 (List.map encRep x)
def encLMsg0 (x : List SMsg) : X := .sl 0 (List.map encMsg x)
def encLMsg1 (x : List SMsg) : X := .sl 1 (List.map encMsg x)
theorem rde_Int (x) : (encInt x).rde = true := rfl
theorem ro_Int (x) : (encInt x).roify = encInt x := rfl
theorem nr_Int (x) : (encInt x).noRo = true := rfl
theorem pl_Int (x) : (encInt x).plain = true := rfl
theorem rde_U8 (x) : (encU8 x).rde = true := rfl
theorem ro_U8 (x) : (encU8 x).roify = encU8 x := rfl
theorem nr_U8 (x) : (encU8 x).noRo = true := rfl
theorem pl_U8 (x) : (encU8 x).plain = true := rfl
theorem rde_Str (x) : (encStr x).rde = true := rfl
theorem ro_Str (x) : (encStr x).roify = encStr x := rfl
theorem nr_Str (x) : (encStr x).noRo = true := rfl
theorem pl_Str (x) : (encStr x).plain = true := rfl
theorem rde_Bool (x) : (encBool x).rde = true := rfl
theorem ro_Bool (x) : (encBool x).roify = encBool x := rfl
theorem nr_Bool (x) : (encBool x).noRo = true := rfl
theorem pl_Bool (x) : (encBool x).plain = true := rfl
theorem rde_Msg (x) : (encMsg x).rde = true := rfl
theorem pl_Msg (x) : (encMsg x).plain = true := rfl
theorem ro_Msg (x) : (encMsg x).roify = encMsg x := rfl
theorem nr_Msg (x) : (encMsg x).noRo = true := rfl
theorem rde_Rep (x) : (encRep x).rde = true := rfl
theorem pl_Rep (x) : (encRep x).plain = true := rfl
theorem ro_Rep (x) : (encRep x).roify = encRep x := rfl
theorem nr_Rep (x) : (encRep x).noRo = true := rfl
theorem rde_Acc (x) : (encAcc x).rde = true := rfl
theorem pl_Acc (x) : (encAcc x).plain = true := rfl
theorem ro_Acc (x) : (encAcc x).roify = encAcc x := rfl
theorem nr_Acc (x) : (encAcc x).noRo = true := rfl
theorem rde_Rec (x) : (encRec x).rde = true := rfl
theorem pl_Rec (x) : (encRec x).plain = true := rfl
theorem ro_Rec (x) : (encRec x).roify = encRec x := rfl
theorem nr_Rec (x) : (encRec x).noRo = true := rfl
theorem rde_Packet (x) : (encPacket x).rde = true := rfl
theorem pl_Packet (x) : (encPacket x).plain = true := rfl
theorem ro_Packet (x) : (encPacket x).roify = encPacket x := rfl
theorem nr_Packet (x) : (encPacket x).noRo = true := rfl
theorem rde_Out (x) : (encOut1 x).rde = true := by simp [encOut1, X.rde, X.rdc, X.rd, rds_map rde_Msg]
theorem ro_Out (x) : (encOut1 x).roify = encOut0 x := by simp [encOut1, encOut0, X.roify, X.roifys, ro_map ro_Msg]
theorem nr_Out (x) : (encOut1 x).noRo = true := by simp [encOut1, X.noRo, X.noRos, nr_map nr_Msg]
theorem rde_Acct (x) : (encAcct1 x).rde = true := by simp [encAcct1, X.rde, X.rdc, X.rd, rds_map rde_Int, rds_map rde_Rep]
theorem ro_Acct (x) : (encAcct1 x).roify = encAcct0 x := by simp [encAcct1, encAcct0, X.roify, X.roifys, ro_map ro_Int, ro_map ro_Rep]
theorem nr_Acct (x) : (encAcct1 x).noRo = true := by simp [encAcct1, X.noRo, X.noRos, nr_map nr_Int, nr_map nr_Rep]
theorem rde_Prop (x) : (encProp1 x).rde = true := by simp [encProp1, X.rde, X.rdc, X.rd, rds_map rde_Int]
theorem ro_Prop (x) : (encProp1 x).roify = encProp0 x := by simp [encProp1, encProp0, X.roify, X.roifys, ro_map ro_Int]
theorem nr_Prop (x) : (encProp1 x).noRo = true := by simp [encProp1, X.noRo, X.noRos, nr_map nr_Int]
theorem rde_Disk (x) : (encDisk1 x).rde = true := by simp [encDisk1, X.rde, X.rdc, X.rd, rds_map rde_U8]
theorem ro_Disk (x) : (encDisk1 x).roify = encDisk0 x := by simp [encDisk1, encDisk0, X.roify, X.roifys, ro_map ro_U8]
theorem nr_Disk (x) : (encDisk1 x).noRo = true := by simp [encDisk1, X.noRo, X.noRos, nr_map nr_U8]
theorem rde_Node (x) : (encNode1 x).rde = true := by simp [encNode1, X.rde, X.rdc, X.rd, rds_map rde_Acc, rds_map rde_Acct, rds_map rde_Int, rds_map rde_Out]
theorem ro_Node (x) : (encNode1 x).roify = encNode0 x := by simp [encNode1, encNode0, X.roify, X.roifys, ro_map ro_Acc, ro_map ro_Acct, ro_map ro_Int, ro_map ro_Out]
theorem nr_Node (x) : (encNode1 x).noRo = true := by simp [encNode1, X.noRo, X.noRos, nr_map nr_Acc, nr_map nr_Acct, nr_map nr_Int, nr_map nr_Out]
theorem rde_Log (x) : (encLog1 x).rde = true := by simp [encLog1, X.rde, X.rdc, X.rd, rds_map rde_Acc, rds_map rde_Acct, rds_map rde_Int, rds_map rde_Out, rds_map rde_Rec]
theorem ro_Log (x) : (encLog1 x).roify = encLog0 x := by simp [encLog1, encLog0, X.roify, X.roifys, ro_map ro_Acc, ro_map ro_Acct, ro_map ro_Int, ro_map ro_Out, ro_map ro_Rec]
theorem nr_Log (x) : (encLog1 x).noRo = true := by simp [encLog1, X.noRo, X.noRos, nr_map nr_Acc, nr_map nr_Acct, nr_map nr_Int, nr_map nr_Out, nr_map nr_Rec]
theorem rde_Store (x) : (encStore1 x).rde = true := by simp [encStore1, X.rde, X.rdc, X.rd, rds_map rde_Acc, rds_map rde_Acct, rds_map rde_Int, rds_map rde_Out, rds_map rde_Packet, rds_map rde_Prop, rds_map rde_U8]
theorem ro_Store (x) : (encStore1 x).roify = encStore0 x := by simp [encStore1, encStore0, X.roify, X.roifys, ro_map ro_Acc, ro_map ro_Acct, ro_map ro_Int, ro_map ro_Out, ro_map ro_Packet, ro_map ro_Prop, ro_map ro_U8]
theorem nr_Store (x) : (encStore1 x).noRo = true := by simp [encStore1, X.noRo, X.noRos, nr_map nr_Acc, nr_map nr_Acct, nr_map nr_Int, nr_map nr_Out, nr_map nr_Packet, nr_map nr_Prop, nr_map nr_U8]
theorem rde_Work (x) : (encWork1 x).rde = true := by simp [encWork1, X.rde, X.rdc, X.rd, rds_map rde_Acc, rds_map rde_Acct, rds_map rde_Int, rds_map rde_Out]
theorem ro_Work (x) : (encWork1 x).roify = encWork0 x := by simp [encWork1, encWork0, X.roify, X.roifys, ro_map ro_Acc, ro_map ro_Acct, ro_map ro_Int, ro_map ro_Out]
theorem nr_Work (x) : (encWork1 x).noRo = true := by simp [encWork1, X.noRo, X.noRos, nr_map nr_Acc, nr_map nr_Acct, nr_map nr_Int, nr_map nr_Out]
theorem rde_Scan (x) : (encScan1 x).rde = true := by simp [encScan1, X.rde, X.rdc, X.rd, rds_map rde_U8]
theorem ro_Scan (x) : (encScan1 x).roify = encScan0 x := by simp [encScan1, encScan0, X.roify, X.roifys, ro_map ro_U8]
theorem nr_Scan (x) : (encScan1 x).noRo = true := by simp [encScan1, X.noRo, X.noRos, nr_map nr_U8]
theorem rde_Cur (x) : (encCur1 x).rde = true := by simp [encCur1, X.rde, X.rdc, X.rd, rds_map rde_U8]
theorem ro_Cur (x) : (encCur1 x).roify = encCur0 x := by simp [encCur1, encCur0, X.roify, X.roifys, ro_map ro_U8]
theorem nr_Cur (x) : (encCur1 x).noRo = true := by simp [encCur1, X.noRo, X.noRos, nr_map nr_U8]
theorem rde_World (x) : (encWorld1 x).rde = true := by simp [encWorld1, X.rde, X.rdc, X.rd, rds_map rde_Packet, rds_map rde_Store]
theorem ro_World (x) : (encWorld1 x).roify = encWorld0 x := by simp [encWorld1, encWorld0, X.roify, X.roifys, ro_map ro_Packet, ro_map ro_Store]
theorem nr_World (x) : (encWorld1 x).noRo = true := by simp [encWorld1, X.noRo, X.noRos, nr_map nr_Packet, nr_map nr_Store]
theorem rde_LInt (x) : (encLInt1 x).rde = true := by simp [encLInt1, X.rde, X.rdc, X.rd, rds_map rde_Int]
theorem ro_LInt (x) : (encLInt1 x).roify = encLInt0 x := by simp [encLInt1, encLInt0, X.roify, X.roifys, ro_map ro_Int]
theorem nr_LInt (x) : (encLInt1 x).noRo = true := by simp [encLInt1, X.noRo, X.noRos, nr_map nr_Int]
theorem rde_LU8 (x) : (encLU81 x).rde = true := by simp [encLU81, X.rde, X.rdc, X.rd, rds_map rde_U8]
theorem ro_LU8 (x) : (encLU81 x).roify = encLU80 x := by simp [encLU81, encLU80, X.roify, X.roifys, ro_map ro_U8]
theorem nr_LU8 (x) : (encLU81 x).noRo = true := by simp [encLU81, X.noRo, X.noRos, nr_map nr_U8]
theorem rde_LRep (x) : (encLRep1 x).rde = true := by simp [encLRep1, X.rde, X.rdc, X.rd, rds_map rde_Rep]
theorem ro_LRep (x) : (encLRep1 x).roify = encLRep0 x := by simp [encLRep1, encLRep0, X.roify, X.roifys, ro_map ro_Rep]
theorem nr_LRep (x) : (encLRep1 x).noRo = true := by simp [encLRep1, X.noRo, X.noRos, nr_map nr_Rep]
theorem rde_LMsg (x) : (encLMsg1 x).rde = true := by simp [encLMsg1, X.rde, X.rdc, X.rd, rds_map rde_Msg]
theorem ro_LMsg (x) : (encLMsg1 x).roify = encLMsg0 x := by simp [encLMsg1, encLMsg0, X.roify, X.roifys, ro_map ro_Msg]
theorem nr_LMsg (x) : (encLMsg1 x).noRo = true := by simp [encLMsg1, X.noRo, X.noRos, nr_map nr_Msg]

end Go.Proofs.Ytncjcbdbdocjaaa

/- Words of the plain functions, and how a walk takes them apart. -/
namespace Go.Proofs.Ytncjcbdbdocjaaa
open Go Ax

abbrev zI (n : Int) : X := .sc (.int .i64 n)
abbrev zB (b : Bool) : X := .sc (.bool b)
def w64 (n : Int) : Int := IntKind.i64.wrap n
def wk (k : IntKind) (n : Int) : Int := k.wrap n
/-- Go on where c holds. -/
def gO {α : Type} (c : Prop) [Decidable c] (k : Option α) : Option α := if c then k else none
theorem gO_some {α : Type} {c : Prop} [Decidable c] {k : Option α} {r : α} (h : gO c k = some r) : c ∧ k = some r := by
  unfold gO at h
  split at h
  · exact ⟨by assumption, h⟩
  · cases h
def ix {α : Type} (l : List α) (i : Int) : Option α := if 0 ≤ i then l[i.toNat]? else none
theorem ix_map {α : Type} {f : α → X} {l : List α} {i : Int} {x : α} (h : ix l i = some x) : (List.map f l)[i.toNat]? = some (f x) := by
  unfold ix at h
  split at h
  · simp [h]
  · cases h
theorem ix_nn {α : Type} {l : List α} {i : Int} {x : α} (h : ix l i = some x) : 0 ≤ i := by
  unfold ix at h
  split at h
  · assumption
  · cases h
theorem ix_get {α : Type} {l : List α} {i : Int} {x : α} (h : ix l i = some x) : l[i.toNat]? = some x := by
  unfold ix at h
  split at h
  · exact h
  · cases h
def sx (s : ByteArray) (i : Int) : Option Int := if 0 ≤ i then (s.data[i.toNat]?).map (fun u : UInt8 => (u.toNat : Int)) else none
theorem sx_get {s : ByteArray} {i : Int} {b : Int} (h : sx s i = some b) : 0 ≤ i ∧ (s.data[i.toNat]?).map (fun u : UInt8 => (u.toNat : Int)) = some b := by
  unfold sx at h
  split at h
  · exact ⟨by assumption, h⟩
  · cases h
/-- Room for n elements of b bytes. -/
def room (b n : Nat) : Prop := n * b ≤ 140737488355328 ∧ n ≤ 140737488355328
instance (b n : Nat) : Decidable (room b n) := by unfold room; infer_instance
def bytesS (l : List Int) : ByteArray := ⟨(List.map X.byte (List.map encU8 l)).toArray⟩
def strB (s : ByteArray) : List Int := s.data.toList.map fun u : UInt8 => (u.toNat : Int)
/-- Division, remainder, shifts. -/
def divO (k : IntKind) (a b : Int) : Option Int := if b = 0 then none else some (k.wrap (a.tdiv b))
def remO (k : IntKind) (a b : Int) : Option Int := if b = 0 then none else some (a.tmod b)
def shlO (k : IntKind) (a b : Int) : Option Int := if b < 0 then none else some (k.wrap (a * 2 ^ (min b.toNat k.bits)))
def shrO (k : IntKind) (a b : Int) : Option Int := if b < 0 then none else some (a.fdiv (2 ^ (min b.toNat k.bits)))

theorem divO_bin {k j : IntKind} {a b v : Int} (hk : k = j) (h : divO k a b = some v) : binV .quo (.int k a) (.int j b) = some (.int k v) := by
  subst hk
  unfold divO at h
  split at h
  · cases h
  · cases h; simp_all [binV]
theorem remO_bin {k j : IntKind} {a b v : Int} (hk : k = j) (h : remO k a b = some v) : binV .rem (.int k a) (.int j b) = some (.int k v) := by
  subst hk
  unfold remO at h
  split at h
  · cases h
  · cases h; simp_all [binV]
theorem shlO_bin {k j : IntKind} {a b v : Int} (h : shlO k a b = some v) : binV .shl (.int k a) (.int j b) = some (.int k v) := by
  unfold shlO at h
  split at h
  · cases h
  · cases h; simp_all [binV]
theorem shrO_bin {k j : IntKind} {a b v : Int} (h : shrO k a b = some v) : binV .shr (.int k a) (.int j b) = some (.int k v) := by
  unfold shrO at h
  split at h
  · cases h
  · cases h; simp_all [binV]
theorem u8_map : ∀ l : List Int, List.all (List.map encU8 l) X.isU8 = true
  | [] => rfl
  | a :: l => by simp only [List.map_cons, List.all_cons, u8_map l, Bool.and_true]; rfl
theorem ix_set {α : Type} {l : List α} {i : Int} {x v : α} (h : ix l i = some x) : ix (List.set l (Int.toNat i) v) i = some v := by
  have h1 := ix_nn h
  have h2 := ix_get h
  have h3 : i.toNat < l.length := (List.getElem?_eq_some_iff.1 h2).1
  simp [ix, h1, h3]
theorem nav_one {α : Type} {f : α → X} {e : X} {c t : Nat} {A : List α} {i : Int} {x : α} (h1 : e.cells[c]? = some (.sl (t + 1) (List.map f A))) (h2 : ix A i = some x) : X.nav e [(c, Int.toNat i)] = some (f x) := by
  simp only [X.nav, h1, ix_map h2, Option.bind_some]
theorem upd_one {α : Type} {f : α → X} {v : α} {e : X} {c t : Nat} {u : Bool} {A : List α} {i : Int} {x : α} {g : X → X} (h1 : e.cells[c]? = some (.sl (t + 1) (List.map f A))) (h2 : ix A i = some x) (h3 : g (f x) = f v) :
    X.upd u e [(c, Int.toNat i)] g = e.put c (.sl (bif u then 1 else t + 1) (List.map f (List.set A (Int.toNat i) v))) := by
  simp only [X.upd, h1, ix_map h2, h3, List.map_set]

theorem cond_t {α : Type} {b : Bool} {x y r : α} (hb : b = true) (h : (bif b then x else y) = r) : x = r := by subst hb; exact h
theorem cond_f {α : Type} {b : Bool} {x y r : α} (hb : b = false) (h : (bif b then x else y) = r) : y = r := by subst hb; exact h
theorem dich (b : Bool) : b = true ∨ b = false := by cases b <;> simp
theorem bindO {α β : Type} {x : Option α} {f : α → Option β} {r : β} (h : x.bind f = some r) : ∃ v, x = some v ∧ f v = some r := by
  cases x with
  | none => cases h
  | some v => exact ⟨v, rfl, h⟩

theorem ix_set2 {α : Type} {l : List α} {i : Int} {x u v : α} (h : ix (List.set l (Int.toNat i) u) i = some x) : ix (List.set l (Int.toNat i) v) i = some v := by
  have := ix_set (v := v) h
  rwa [List.set_set] at this
theorem upd_two {α : Type} {f : α → X} {w v : α} {e : X} {c t : Nat} {u : Bool} {A : List α} {i : Int} {x : α} {g : X → X} (h1 : e.cells[c]? = some (.sl (t + 1) (List.map f (List.set A (Int.toNat i) w)))) (h2 : ix (List.set A (Int.toNat i) w) i = some x)
    (h3 : g (f x) = f v) : X.upd u e [(c, Int.toNat i)] g = e.put c (.sl (bif u then 1 else t + 1) (List.map f (List.set A (Int.toNat i) v))) := by
  rw [upd_one h1 h2 h3, List.set_set]

theorem dnil {α : Type} {L : List α} {i : Nat} (h : [] = L.drop i) : decide ((i : Int) < (L.length : Int)) = false := by
  have := List.drop_eq_nil_iff.1 h.symm
  simp only [decide_eq_false_iff_not]; omega
theorem dlt {α : Type} {L t : List α} {x : α} {i : Nat} (h : x :: t = L.drop i) : i < L.length := by
  rcases Nat.lt_or_ge i L.length with h2 | h2
  · exact h2
  · rw [List.drop_eq_nil_of_le h2] at h; cases h
theorem dcons {α : Type} {L t : List α} {x : α} {i : Nat} (h : x :: t = L.drop i) : decide ((i : Int) < (L.length : Int)) = true := by
  have := dlt h
  simp only [decide_eq_true_eq]; omega
theorem dget {α : Type} {L t : List α} {x : α} {i : Nat} (h : x :: t = L.drop i) : ix L (i : Int) = some x := by
  have h2 := dlt h
  rw [List.drop_eq_getElem_cons h2] at h
  simp only [List.cons.injEq] at h
  simp [ix, h.1, h2]
theorem dnext {α : Type} {L t : List α} {x : α} {i : Nat} (h : x :: t = L.drop i) : t = L.drop (i + 1) := by
  have h2 := dlt h
  rw [List.drop_eq_getElem_cons h2] at h
  simp only [List.cons.injEq] at h
  exact h.2
theorem dinc {α : Type} {L t : List α} {x : α} {i : Nat} (h : x :: t = L.drop i) (hl : L.length ≤ maxLen) : w64 ((i : Int) + 1) = ((i + 1 : Nat) : Int) := by
  have h2 := dlt h
  unfold w64
  rw [show ((i : Int) + 1) = ((i + 1 : Nat) : Int) by omega, wrap_nat (by omega)]
theorem len_of_map {α : Type} {f : α → X} {L : List α} (h : (List.map f L).length ≤ maxLen) : L.length ≤ maxLen := by rwa [List.length_map] at h

theorem mk_side {b b2 n : Nat} (h : b2 = b) (hr : room b n) : b2 * n ≤ 140737488355328 := by subst h; rw [Nat.mul_comm]; exact hr.1
theorem app_side {α : Type} {b b2 : Nat} {f : α → X} {A B : List α} (h : b2 = b) (hr : room b (A.length + B.length)) :
    ((List.map f A).length + (List.map f B).length) * b2 ≤ 140737488355328 ∧ (List.map f A).length + (List.map f B).length ≤ 140737488355328 := by
  subst h; rw [List.length_map, List.length_map]; exact hr
namespace Ax
variable {P : Program} {Γ : Ctx} {st s2 : St} {cv : Nat → Option Nat} {ops l : List Oper} {K : St → Prop}
theorem runs_condT {c : Operand} {x y : Code} {Q : Exit → St → Prop} {b : Bool} (hb : b = true) (hc : st.opd c = .sc (.bool b)) (h : Runs P Γ x st Q) : Runs P Γ (.cond c x y) st Q := runs_cond hc (fun _ => h) (fun h2 => by rw [hb] at h2; cases h2)
theorem runs_condF {c : Operand} {x y : Code} {Q : Exit → St → Prop} {b : Bool} (hb : b = false) (hc : st.opd c = .sc (.bool b)) (h : Runs P Γ y st Q) : Runs P Γ (.cond c x y) st Q := runs_cond hc (fun h2 => by rw [hb] at h2; cases h2) (fun _ => h)
theorem regP_eq (he : st = s2) (h : RegP P cv ops l s2 K) : RegP P cv ops l st K := by subst he; exact h
theorem regTP_eq {tr : List (Oper × Ent)} {KT : St → List (Oper × Ent) → Prop} (he : st = s2) (h : RegTP P cv ops l s2 tr KT) : RegTP P cv ops l st tr KT := by subst he; exact h
theorem reg_opsM (k n m : Nat) (he : evalS P ops n (l.drop k) st = some (List.replicate m True, s2)) (h : RegP P cv ops (l.drop (k + n)) s2 K) : RegP P cv ops (l.drop k) st K :=
  reg_ops k n he (sides_true m) h
theorem regT_opsM {tr : List (Oper × Ent)} {KT : St → List (Oper × Ent) → Prop} (k n m : Nat) (he : evalS P ops n (l.drop k) st = some (List.replicate m True, s2))
    (h : RegTP P cv ops (l.drop (k + n)) s2 (evalT P ops n (l.drop k) st tr) KT) : RegTP P cv ops (l.drop k) st tr KT :=
  regT_ops k n he (sides_true m) h
theorem runs_seqJ {σ : Type} {x y : Code} {Q : Exit → St → Prop} (inv : σ → St) (J : σ → Prop) (hy : ∀ s, J s → Runs P Γ y (inv s) Q)
    (hx : Runs P Γ x st (thenX (fun st' => ∃ s, J s ∧ Wk st' (inv s)) Q)) : Runs P Γ (.seq x y) st Q :=
  runs_seq (hx.mono fun e st' he => by
    cases e with
    | normal => obtain ⟨s, h1, h2⟩ := he; exact runs_wk h2 (hy s h1)
    | _ => exact he)
theorem runs_seqJ2 {σ : Type} {x y z : Code} {Q : Exit → St → Prop} (inv : σ → St) (J : σ → Prop) (hz : ∀ s, J s → Runs P Γ z (inv s) Q)
    (hx : Runs P Γ x st (thenX (fun st' => Runs P Γ y st' (thenX (fun st'' => ∃ s, J s ∧ Wk st'' (inv s)) Q)) Q)) : Runs P Γ (.seq x (.seq y z)) st Q :=
  runs_seq (hx.mono fun e st' he => by
    cases e with
    | normal => exact runs_seqJ inv J hz he
    | _ => exact he)
end Ax
end Go.Proofs.Ytncjcbdbdocjaaa

/- The walk's steps under short names; what is computed is computed by itself. -/
namespace Go.Proofs.Ytncjcbdbdocjaaa.Ax
open Go

variable {P : Program} {Γ : Ctx} {st : St} {ops l : List Oper} {K : St → Prop} {tr : List (Oper × Ent)} {KT : St → List (Oper × Ent) → Prop} {Q : Exit → St → Prop} {x y : Code} {id n : Nat} {la : Array Oper}

theorem rg (cv : Nat → Option Nat) (hn : Γ.n = n) (h : RegP P cv la.toList (la.toList.drop 0) st (Q .normal)) (hd : regD n la = true := by kernel_rfl) : Runs P Γ (.region id la false) st Q := region_of (by rw [hn]; exact hd) h
theorem sqr (cv : Nat → Option Nat) (hn : Γ.n = n) (h : RegP P cv la.toList (la.toList.drop 0) st (fun st' => Runs P Γ y st' Q)) (hd : regD n la = true := by kernel_rfl) : Runs P Γ (.seq (.region id la false) y) st Q :=
  runs_seq (rg cv hn h hd)
theorem rgT (cv : Nat → Option Nat) (hm : P.follows .mixedOrders = true) (hn : Γ.n = n) (h : RegTP P cv la.toList (la.toList.drop 0) st [] fun st' tr => pairsOK la.toList (anc la.toList) 0 tr = true ∧ Q .normal st')
    (hd : regD n la = true := by kernel_rfl) (hf : fwdGo 0 la.toList = true := by kernel_rfl) : Runs P Γ (.region id la true) st Q := draw_of hm (by rw [hn]; exact hd) hf h
variable {cv : Nat → Option Nat}
theorem ro (k n m : Nat) (s2 : St) (h : RegP P cv ops (l.drop (k + n)) s2 K) (he : evalS P ops n (l.drop k) st = some (List.replicate m True, s2) := by kernel_rfl) : RegP P cv ops (l.drop k) st K := reg_opsM k n m he h
theorem roT (k n m : Nat) (s2 : St) (h : RegTP P cv ops (l.drop (k + n)) s2 (evalT P ops n (l.drop k) st tr) KT) (he : evalS P ops n (l.drop k) st = some (List.replicate m True, s2) := by kernel_rfl) : RegTP P cv ops (l.drop k) st tr KT :=
  regT_opsM k n m he h
theorem ro9 (k n m : Nat) (s2 : St) (h : K s2) (he : evalS P ops n (l.drop k) st = some (List.replicate m True, s2) := by kernel_rfl) (hk : l.drop (k + n) = [] := by kernel_rfl) : RegP P cv ops (l.drop k) st K :=
  reg_opsM k n m he (reg_end (k + n) hk h)
theorem roT9 {o2 : List Oper} (k n m : Nat) (s2 : St) (h : Q .normal s2) (he : evalS P ops n (l.drop k) st = some (List.replicate m True, s2) := by kernel_rfl) (hk : l.drop (k + n) = [] := by kernel_rfl)
    (hp : pairsOK o2 (anc o2) 0 (evalT P ops n (l.drop k) st tr) = true := by kernel_rfl) : RegTP P cv ops (l.drop k) st tr (fun st' tr => pairsOK o2 (anc o2) 0 tr = true ∧ Q .normal st') :=
  regT_opsM k n m he (regT_end (k + n) hk ⟨hp, h⟩)
theorem re0 (k : Nat) (h : K st) (hk : l.drop k = [] := by kernel_rfl) : RegP P cv ops (l.drop k) st K := reg_end k hk h
theorem reT0 {o2 : List Oper} (k : Nat) (h : Q .normal st) (hk : l.drop k = [] := by kernel_rfl) (hp : pairsOK o2 (anc o2) 0 tr = true := by kernel_rfl) :
    RegTP P cv ops (l.drop k) st tr (fun st' tr => pairsOK o2 (anc o2) 0 tr = true ∧ Q .normal st') := regT_end k hk ⟨hp, h⟩

def setT : List (Nat × X) → Nat → X → List (Nat × X)
  | [], _, _ => []
  | (k, v) :: r, t, x => if k = t then (k, x) :: r else (k, v) :: setT r t x
theorem setT_eq {x : X} (hx : x ≠ .junk) : ∀ {tm : List (Nat × X)} {t : Nat}, lookT tm t = x → setT tm t x = tm
  | [], t, h => rfl
  | (k, v) :: r, t, h => by
    simp only [lookT] at h
    simp only [setT]
    split at h
    · rename_i hk; rw [if_pos hk, h]
    · rename_i hk; rw [if_neg hk, setT_eq hx h]
theorem rl (t : Nat) (c : Bool) {b : Bool} (hb : b = c) (h : RegP P cv ops l ⟨setT st.tm t (.sc (.bool c)), st.bx⟩ K) (hl : st.look t = .sc (.bool b) := by kernel_rfl) : RegP P cv ops l st K := by
  subst hb
  rw [setT_eq (by simp) hl] at h
  exact h
theorem rlT (t : Nat) (c : Bool) {b : Bool} (hb : b = c) (h : RegTP P cv ops l ⟨setT st.tm t (.sc (.bool c)), st.bx⟩ tr KT) (hl : st.look t = .sc (.bool b) := by kernel_rfl) : RegTP P cv ops l st tr KT := by
  subst hb
  rw [setT_eq (by simp) hl] at h
  exact h
theorem rs (k : Nat) (s2 : St) (ps : List Prop) (hs : sides ps) (h : RegP P cv ops (l.drop (k + 1)) s2 K) (he : evalS P ops 1 (l.drop k) st = some (ps, s2) := by kernel_rfl) : RegP P cv ops (l.drop k) st K := reg_ops k 1 he hs h
theorem rsT (k : Nat) (s2 : St) (ps : List Prop) (hs : sides ps) (h : RegTP P cv ops (l.drop (k + 1)) s2 (evalT P ops 1 (l.drop k) st tr) KT) (he : evalS P ops 1 (l.drop k) st = some (ps, s2) := by kernel_rfl) : RegTP P cv ops (l.drop k) st tr KT :=
  regT_ops k 1 he hs h
theorem r1 (k : Nat) (e : X) (s2 : St) (ps : List Prop) (hs : sides ps) (h : RegP P cv ops (l.drop (k + 1)) s2 K) (he : oneS P ops e (l.drop k) st = some (ps, s2) := by kernel_rfl) : RegP P cv ops (l.drop k) st K := reg_one k e he hs h
theorem r1T (k : Nat) (e : X) (s2 : St) (ps : List Prop) (hs : sides ps) (h : RegTP P cv ops (l.drop (k + 1)) s2 (oneT P ops e (l.drop k) st tr) KT) (he : oneS P ops e (l.drop k) st = some (ps, s2) := by kernel_rfl) : RegTP P cv ops (l.drop k) st tr KT :=
  regT_one k e he hs h
/-- An element by its number. -/
theorem rix {α : Type} {A : List α} {i : Int} {z : α} (k : Nat) (f : α → X) (et : Nat) (hx : ix A i = some z) (hnn : 0 ≤ i) (s2 : St) (h : RegP P cv ops (l.drop (k + 1)) s2 K)
    (he : oneS P ops (f z) (l.drop k) st = some ([(List.map f A)[i.toNat]? = some (f z), 0 ≤ i, (f z).cells.length = tSize P et], s2) := by kernel_rfl) (hc : (f z).cells.length = tSize P et := by kernel_rfl) : RegP P cv ops (l.drop k) st K :=
  reg_one k (f z) he ⟨ix_map hx, hnn, hc, trivial⟩ h
theorem rixT {α : Type} {A : List α} {i : Int} {z : α} (k : Nat) (f : α → X) (et : Nat) (hx : ix A i = some z) (hnn : 0 ≤ i) (s2 : St) (h : RegTP P cv ops (l.drop (k + 1)) s2 (oneT P ops (f z) (l.drop k) st tr) KT)
    (he : oneS P ops (f z) (l.drop k) st = some ([(List.map f A)[i.toNat]? = some (f z), 0 ≤ i, (f z).cells.length = tSize P et], s2) := by kernel_rfl) (hc : (f z).cells.length = tSize P et := by kernel_rfl) : RegTP P cv ops (l.drop k) st tr KT :=
  regT_one k (f z) he ⟨ix_map hx, hnn, hc, trivial⟩ h
theorem ra (k : Nat) (e y : X) (s2 : St) (ps : List Prop) (hs : sides ps) (h : RegP P cv ops (l.drop (k + 1)) s2 K) (he : asS P ops e y (l.drop k) st = some (ps, s2) := by kernel_rfl) : RegP P cv ops (l.drop k) st K := reg_as k e y he hs h
theorem raT (k : Nat) (e y : X) (s2 : St) (ps : List Prop) (hs : sides ps) (h : RegTP P cv ops (l.drop (k + 1)) s2 (asT P ops e y (l.drop k) st tr) KT) (he : asS P ops e y (l.drop k) st = some (ps, s2) := by kernel_rfl) : RegTP P cv ops (l.drop k) st tr KT :=
  regT_as k e y he hs h
theorem rc {ts : List X} {y out : X} {g : Nat} (k : Nat) (s2 : St) (hsp : Spec P g (cv g) ts y out) (h : RegP P cv ops (l.drop (k + 1)) s2 K) (he : callS cv ops (l.drop k) st y out = some (g, ts, s2) := by kernel_rfl) : RegP P cv ops (l.drop k) st K :=
  reg_call k he hsp h
theorem rcT {ts : List X} {y out : X} {g : Nat} (k : Nat) (s2 : St) (hsp : Spec P g (cv g) ts y out) (h : RegTP P cv ops (l.drop (k + 1)) s2 (callT cv ops (l.drop k) st y out tr) KT)
    (he : callS cv ops (l.drop k) st y out = some (g, ts, s2) := by kernel_rfl) : RegTP P cv ops (l.drop k) st tr KT := regT_call k he hsp h
theorem rcH {ts : List X} {y out : X} {g : Nat} (k : Nat) (H : List (List X)) (s2 : St) (ps : List Prop) (hsp : Spec P g (cv g) ts y out) (hs : sides ps) (h : RegP P cv ops (l.drop (k + 1)) s2 K)
    (he : calHS cv ops H (l.drop k) st y out = some (ps, g, ts, s2) := by kernel_rfl) : RegP P cv ops (l.drop k) st K := reg_calH k H hsp he hs h
theorem rcHT {ts : List X} {y out : X} {g : Nat} (k : Nat) (H : List (List X)) (s2 : St) (ps : List Prop) (hsp : Spec P g (cv g) ts y out) (hs : sides ps) (h : RegTP P cv ops (l.drop (k + 1)) s2 (calHT cv ops H (l.drop k) st y out tr) KT)
    (he : calHS cv ops H (l.drop k) st y out = some (ps, g, ts, s2) := by kernel_rfl) : RegTP P cv ops (l.drop k) st tr KT := regT_calH k H hsp he hs h
theorem ct {c : Operand} {b : Bool} (hb : b = true) (h : Runs P Γ x st Q) (hc : st.opd c = .sc (.bool b) := by kernel_rfl) : Runs P Γ (.cond c x y) st Q := runs_condT hb hc h
theorem cf {c : Operand} {b : Bool} (hb : b = false) (h : Runs P Γ y st Q) (hc : st.opd c = .sc (.bool b) := by kernel_rfl) : Runs P Γ (.cond c x y) st Q := runs_condF hb hc h
theorem cT {c : Operand} (h : Runs P Γ x st Q) (hc : st.opd c = .sc (.bool true) := by kernel_rfl) : Runs P Γ (.cond c x y) st Q := cond_true hc h
theorem cF {c : Operand} (h : Runs P Γ y st Q) (hc : st.opd c = .sc (.bool false) := by kernel_rfl) : Runs P Γ (.cond c x y) st Q := cond_false hc h
theorem wkr (ts : List Nat) (bs : List (Nat × Nat × Bool)) (s2 : St) (h : Runs P Γ x s2 Q) (he : st.reS ts bs = some s2 := by kernel_rfl) : Runs P Γ x st Q := runs_wk (Wk.re ts bs he) h
theorem seq0 (s2 : St) (h : Runs P Γ x s2 Q) (he : st = s2 := by kernel_rfl) : Runs P Γ x st Q := runs_eq he h
theorem wre {s2 : St} (ts : List Nat) (bs : List (Nat × Nat × Bool)) (he : st.reS ts bs = some s2 := by kernel_rfl) : Wk st s2 := Wk.re ts bs he
theorem mkfin {fn : Func} {k : Option Nat} {args : List X} {R : Type} (eR eO : R → X) (v : R) (e : R) (st : St) (h : some e = some v) (he : retX P fn k args st = some (eR e, eO e) := by kernel_rfl) :
    (Exit.ret = .normal ∨ Exit.ret = .ret) ∧ retX P fn k args st = some (eR v, eO v) := by
  cases h; exact ⟨.inr rfl, he⟩
theorem walk0 {f : FuncId} {fn : Func} {c : Code} {k : Option Nat} {args : List X} {R : Type} (eR eO : R → X) (v : R) (s2 : St) (hf : P.funcs[f]? = some fn) (hb : fn.body = some c) (hnm : (fn.name == "runtime.NumGoroutine") = false)
    (h : ∀ Γ : Ctx, Γ.n = fn.ntmps → (∀ (e : R) (st : St), some e = some v → retX P fn k args st = some (eR e, eO e) → (Exit.ret = .normal ∨ Exit.ret = .ret) ∧ retX P fn k args st = some (eR v, eO v)) →
      Runs P Γ c s2 fun e st' => (e = .normal ∨ e = .ret) ∧ retX P fn k args st' = some (eR v, eO v))
    (hok : okOwn k args = true := by kernel_rfl) (hro : okArgs k 0 args = true := by kernel_rfl) (hn : Nat.ble args.length fn.ntmps = true := by kernel_rfl) (hs : initSt k args = s2 := by kernel_rfl) : Spec P f k args (eR v) (eO v) :=
  spec_of_runs hf hb hnm hok hro (Nat.le_of_ble_eq_true hn) fun Γ hn => by
    rw [hs]
    exact h Γ hn fun e st he hr => by cases he; exact ⟨.inr rfl, hr⟩

/-- Regions whose last operation stores into a list's element. -/
theorem rgk (cv : Nat → Option Nat) (hn : Γ.n = n) (m : Nat) (h : RegP P cv la.toList ((la.toList.take m).drop 0) st fun st1 => Keep P la.toList m st1 (Q .normal)) (hd : regD n la = true := by kernel_rfl) (hsz : la.size = m + 1 := by kernel_rfl) : Runs P Γ (.region id la false) st Q :=
  region_kept m hsz (by rw [hn]; exact hd) h
theorem sqk (cv : Nat → Option Nat) (hn : Γ.n = n) (m : Nat) (h : RegP P cv la.toList ((la.toList.take m).drop 0) st fun st1 => Keep P la.toList m st1 (fun st' => Runs P Γ y st' Q)) (hd : regD n la = true := by kernel_rfl) (hsz : la.size = m + 1 := by kernel_rfl) : Runs P Γ (.seq (.region id la false) y) st Q :=
  runs_seq (rgk cv hn m h hd hsz)
theorem rkp (e y : X) (ts : List (Nat × Nat)) (s2 : St) (ps : List Prop) (hs : sides ps) (h : K s2) (he : keepAt P ops e y ts (ops.drop n) st = some (ps, s2) := by kernel_rfl) : Keep P ops n st K := ⟨e, y, ts, ps, s2, he, hs, h⟩

end Go.Proofs.Ytncjcbdbdocjaaa.Ax

/- What the arguments of the statements are. -/
namespace Go.Proofs.Ytncjcbdbdocjaaa
open Go Ax

def wfI (n : Int) : Prop := (Lit.int .i64 n).wf = true
def wfU (n : Int) : Prop := (Lit.int .u8 n).wf = true
theorem ex_list {α : Type} {d : D} {f : α → X} {q : α → Prop} (h : ∀ y, OfE d y → ∃ a, y = f a ∧ q a) : ∀ es : List X, (∀ y ∈ es, OfE d y) → ∃ l : List α, es = List.map f l ∧ ∀ a ∈ l, q a
  | [], _ => ⟨[], rfl, fun a h => by cases h⟩
  | y :: es, hy => by
    obtain ⟨a, rfl, ha⟩ := h y (hy y List.mem_cons_self)
    obtain ⟨l, rfl, hl⟩ := ex_list h es fun z hz => hy z (List.mem_cons_of_mem _ hz)
    exact ⟨a :: l, rfl, List.forall_mem_cons.2 ⟨ha, hl⟩⟩
theorem ex_int {x : X} (h : OfE (.int .i64) x) : ∃ n : Int, x = encInt n ∧ wfI n := by obtain ⟨n, rfl, w⟩ := h; exact ⟨n, rfl, w⟩
theorem ex_u8 {x : X} (h : OfE (.int .u8) x) : ∃ n : Int, x = encU8 n ∧ wfU n := by obtain ⟨n, rfl, w⟩ := h; exact ⟨n, rfl, w⟩
theorem ex_str {x : X} (h : OfE .str x) : ∃ s : ByteArray, x = encStr s ∧ s.size ≤ maxLen := by obtain ⟨n, rfl, w⟩ := h; exact ⟨n, rfl, w⟩
theorem ex_sl {α : Type} {d : D} {f : α → X} {q : α → Prop} {x : X} (h : OfE (.sl d) x) (he : ∀ y, OfE d y → ∃ a, y = f a ∧ q a) : ∃ l : List α, x = .sl 0 (List.map f l) ∧ l.length ≤ maxLen ∧ ∀ a ∈ l, q a := by
  obtain ⟨es, rfl, hl, hes⟩ := h
  obtain ⟨l, rfl, hq⟩ := ex_list he es hes
  exact ⟨l, rfl, by simpa using hl, hq⟩
def dMsg : D := .st [.int .i64, .int .i64, .int .i64, .int .i64]
def wfMsg (a : SMsg) : Prop := wfI a.fKind ∧ wfI a.fAcct ∧ wfI a.fAmt ∧ wfI a.fSrc
theorem ex_Msg {x : X} (h : OfE dMsg x) : ∃ a : SMsg, x = encMsg a ∧ wfMsg a := by
  obtain ⟨cs, rfl, h⟩ := h
  obtain ⟨a1, b1, rfl, ⟨n1, rfl, w1⟩, a2, b2, rfl, ⟨n2, rfl, w2⟩, a3, b3, rfl, ⟨n3, rfl, w3⟩, a4, b4, rfl, ⟨n4, rfl, w4⟩, rfl⟩ := h
  exact ⟨⟨n1, n2, n3, n4⟩, rfl, ⟨w1, w2, w3, w4⟩⟩
def dRep : D := .st [.int .i64, .int .i64]
def wfRep (a : SRep) : Prop := wfI a.fNode ∧ wfI a.fAmt
theorem ex_Rep {x : X} (h : OfE dRep x) : ∃ a : SRep, x = encRep a ∧ wfRep a := by
  obtain ⟨cs, rfl, h⟩ := h
  obtain ⟨a1, b1, rfl, ⟨n1, rfl, w1⟩, a2, b2, rfl, ⟨n2, rfl, w2⟩, rfl⟩ := h
  exact ⟨⟨n1, n2⟩, rfl, ⟨w1, w2⟩⟩
def dAcc : D := .st [.int .i64, .int .i64, .int .i64]
def wfAcc (a : SAcc) : Prop := wfI a.fProm ∧ wfI a.fBal ∧ wfI a.fVal
theorem ex_Acc {x : X} (h : OfE dAcc x) : ∃ a : SAcc, x = encAcc a ∧ wfAcc a := by
  obtain ⟨cs, rfl, h⟩ := h
  obtain ⟨a1, b1, rfl, ⟨n1, rfl, w1⟩, a2, b2, rfl, ⟨n2, rfl, w2⟩, a3, b3, rfl, ⟨n3, rfl, w3⟩, rfl⟩ := h
  exact ⟨⟨n1, n2, n3⟩, rfl, ⟨w1, w2, w3⟩⟩
def dRec : D := .st [.int .i64, .int .i64, .int .i64, .int .i64, .int .i64, dMsg]
def wfRec (a : SRec) : Prop := wfI a.fKind ∧ wfI a.fAcct ∧ wfI a.fOther ∧ wfI a.fTo ∧ wfI a.fAmt ∧ wfMsg a.fM
theorem ex_Rec {x : X} (h : OfE dRec x) : ∃ a : SRec, x = encRec a ∧ wfRec a := by
  obtain ⟨cs, rfl, h⟩ := h
  obtain ⟨a1, b1, rfl, ⟨n1, rfl, w1⟩, a2, b2, rfl, ⟨n2, rfl, w2⟩, a3, b3, rfl, ⟨n3, rfl, w3⟩, a4, b4, rfl, ⟨n4, rfl, w4⟩, a5, b5, rfl, ⟨n5, rfl, w5⟩, a6, b6, rfl, ⟨a7, b7, rfl, ⟨n7, rfl, w7⟩, a8, b8, rfl, ⟨n8, rfl, w8⟩, a9, b9, rfl, ⟨n9, rfl, w9⟩, a10, b10, rfl, ⟨n10, rfl, w10⟩, rfl⟩, rfl⟩ := h
  exact ⟨⟨n1, n2, n3, n4, n5, ⟨n7, n8, n9, n10⟩⟩, rfl, ⟨w1, w2, w3, w4, w5, ⟨w7, w8, w9, w10⟩⟩⟩
def dPacket : D := .st [.int .i64, .int .i64, .int .i64, .int .i64, .int .i64, .int .i64, .int .i64, dMsg]
def wfPacket (a : SPacket) : Prop := wfI a.fFrom ∧ wfI a.fTo ∧ wfI a.fKind ∧ wfI a.fAcct ∧ wfI a.fA ∧ wfI a.fB ∧ wfI a.fC ∧ wfMsg a.fM
theorem ex_Packet {x : X} (h : OfE dPacket x) : ∃ a : SPacket, x = encPacket a ∧ wfPacket a := by
  obtain ⟨cs, rfl, h⟩ := h
  obtain ⟨a1, b1, rfl, ⟨n1, rfl, w1⟩, a2, b2, rfl, ⟨n2, rfl, w2⟩, a3, b3, rfl, ⟨n3, rfl, w3⟩, a4, b4, rfl, ⟨n4, rfl, w4⟩, a5, b5, rfl, ⟨n5, rfl, w5⟩, a6, b6, rfl, ⟨n6, rfl, w6⟩, a7, b7, rfl, ⟨n7, rfl, w7⟩, a8, b8, rfl, ⟨a9, b9, rfl, ⟨n9, rfl, w9⟩, a10, b10, rfl, ⟨n10, rfl, w10⟩, a11, b11, rfl, ⟨n11, rfl, w11⟩, a12, b12, rfl, ⟨n12, rfl, w12⟩, rfl⟩, rfl⟩ := h
  exact ⟨⟨n1, n2, n3, n4, n5, n6, n7, ⟨n9, n10, n11, n12⟩⟩, rfl, ⟨w1, w2, w3, w4, w5, w6, w7, ⟨w9, w10, w11, w12⟩⟩⟩
def dOut : D := .st [.int .i64, .sl dMsg]
def wfOut (a : SOut) : Prop := wfI a.fNext ∧ (a.fList.length ≤ maxLen ∧ ∀ y ∈ a.fList, wfMsg y)
theorem ex_Out {x : X} (h : OfE dOut x) : ∃ a : SOut, x = encOut0 a ∧ wfOut a := by
  obtain ⟨cs, rfl, h⟩ := h
  obtain ⟨a1, b1, rfl, ⟨n1, rfl, w1⟩, a2, b2, rfl, ⟨e2, rfl, hl2, he2⟩, rfl⟩ := h
  obtain ⟨l2, rfl, hq2⟩ := ex_list (f := encMsg) (fun y hy => ex_Msg hy) e2 he2
  exact ⟨⟨n1, l2⟩, rfl, ⟨w1, ⟨by simpa using hl2, hq2⟩⟩⟩
def dAcct : D := .st [.int .i64, .int .i64, .int .i64, .sl (.int .i64), .sl dRep]
def wfAcct (a : SAcct) : Prop := wfI a.fHave ∧ wfI a.fState ∧ wfI a.fBy ∧ (a.fMarks.length ≤ maxLen ∧ ∀ y ∈ a.fMarks, wfI y) ∧ (a.fReps.length ≤ maxLen ∧ ∀ y ∈ a.fReps, wfRep y)
theorem ex_Acct {x : X} (h : OfE dAcct x) : ∃ a : SAcct, x = encAcct0 a ∧ wfAcct a := by
  obtain ⟨cs, rfl, h⟩ := h
  obtain ⟨a1, b1, rfl, ⟨n1, rfl, w1⟩, a2, b2, rfl, ⟨n2, rfl, w2⟩, a3, b3, rfl, ⟨n3, rfl, w3⟩, a4, b4, rfl, ⟨e4, rfl, hl4, he4⟩, a5, b5, rfl, ⟨e5, rfl, hl5, he5⟩, rfl⟩ := h
  obtain ⟨l4, rfl, hq4⟩ := ex_list (f := encInt) (fun y hy => ex_int hy) e4 he4
  obtain ⟨l5, rfl, hq5⟩ := ex_list (f := encRep) (fun y hy => ex_Rep hy) e5 he5
  exact ⟨⟨n1, n2, n3, l4, l5⟩, rfl, ⟨w1, w2, w3, ⟨by simpa using hl4, hq4⟩, ⟨by simpa using hl5, hq5⟩⟩⟩
def dProp : D := .st [.int .i64, .int .i64, .sl (.int .i64), .int .i64, .sl (.int .i64)]
def wfProp (a : SProp) : Prop := wfI a.fBal ∧ wfI a.fVal ∧ (a.fFrom.length ≤ maxLen ∧ ∀ y ∈ a.fFrom, wfI y) ∧ wfI a.fBest ∧ (a.fGot.length ≤ maxLen ∧ ∀ y ∈ a.fGot, wfI y)
theorem ex_Prop {x : X} (h : OfE dProp x) : ∃ a : SProp, x = encProp0 a ∧ wfProp a := by
  obtain ⟨cs, rfl, h⟩ := h
  obtain ⟨a1, b1, rfl, ⟨n1, rfl, w1⟩, a2, b2, rfl, ⟨n2, rfl, w2⟩, a3, b3, rfl, ⟨e3, rfl, hl3, he3⟩, a4, b4, rfl, ⟨n4, rfl, w4⟩, a5, b5, rfl, ⟨e5, rfl, hl5, he5⟩, rfl⟩ := h
  obtain ⟨l3, rfl, hq3⟩ := ex_list (f := encInt) (fun y hy => ex_int hy) e3 he3
  obtain ⟨l5, rfl, hq5⟩ := ex_list (f := encInt) (fun y hy => ex_int hy) e5 he5
  exact ⟨⟨n1, n2, l3, n4, l5⟩, rfl, ⟨w1, w2, ⟨by simpa using hl3, hq3⟩, w4, ⟨by simpa using hl5, hq5⟩⟩⟩
def dDisk : D := .st [.sl (.int .u8), .sl (.int .u8)]
def wfDisk (a : SDisk) : Prop := (a.fSure.length ≤ maxLen ∧ ∀ y ∈ a.fSure, wfU y) ∧ (a.fSoft.length ≤ maxLen ∧ ∀ y ∈ a.fSoft, wfU y)
theorem ex_Disk {x : X} (h : OfE dDisk x) : ∃ a : SDisk, x = encDisk0 a ∧ wfDisk a := by
  obtain ⟨cs, rfl, h⟩ := h
  obtain ⟨a1, b1, rfl, ⟨e1, rfl, hl1, he1⟩, a2, b2, rfl, ⟨e2, rfl, hl2, he2⟩, rfl⟩ := h
  obtain ⟨l1, rfl, hq1⟩ := ex_list (f := encU8) (fun y hy => ex_u8 hy) e1 he1
  obtain ⟨l2, rfl, hq2⟩ := ex_list (f := encU8) (fun y hy => ex_u8 hy) e2 he2
  exact ⟨⟨l1, l2⟩, rfl, ⟨⟨by simpa using hl1, hq1⟩, ⟨by simpa using hl2, hq2⟩⟩⟩
def dNode : D := .st [.int .i64, .int .i64, .sl dAcct, .sl dOut, .sl (.int .i64), .sl dAcc, .int .i64, .int .i64, .int .i64]
def wfNode (a : SNode) : Prop := wfI a.fId ∧ wfI a.fN ∧ (a.fAccts.length ≤ maxLen ∧ ∀ y ∈ a.fAccts, wfAcct y) ∧ (a.fOuts.length ≤ maxLen ∧ ∀ y ∈ a.fOuts, wfOut y) ∧ (a.fIns.length ≤ maxLen ∧ ∀ y ∈ a.fIns, wfI y) ∧ (a.fAccs.length ≤ maxLen ∧ ∀ y ∈ a.fAccs, wfAcc y) ∧ wfI a.fStray ∧ wfI a.fCame ∧ wfI a.fWent
theorem ex_Node {x : X} (h : OfE dNode x) : ∃ a : SNode, x = encNode0 a ∧ wfNode a := by
  obtain ⟨cs, rfl, h⟩ := h
  obtain ⟨a1, b1, rfl, ⟨n1, rfl, w1⟩, a2, b2, rfl, ⟨n2, rfl, w2⟩, a3, b3, rfl, ⟨e3, rfl, hl3, he3⟩, a4, b4, rfl, ⟨e4, rfl, hl4, he4⟩, a5, b5, rfl, ⟨e5, rfl, hl5, he5⟩, a6, b6, rfl, ⟨e6, rfl, hl6, he6⟩, a7, b7, rfl, ⟨n7, rfl, w7⟩, a8, b8, rfl, ⟨n8, rfl, w8⟩, a9, b9, rfl, ⟨n9, rfl, w9⟩, rfl⟩ := h
  obtain ⟨l3, rfl, hq3⟩ := ex_list (f := encAcct0) (fun y hy => ex_Acct hy) e3 he3
  obtain ⟨l4, rfl, hq4⟩ := ex_list (f := encOut0) (fun y hy => ex_Out hy) e4 he4
  obtain ⟨l5, rfl, hq5⟩ := ex_list (f := encInt) (fun y hy => ex_int hy) e5 he5
  obtain ⟨l6, rfl, hq6⟩ := ex_list (f := encAcc) (fun y hy => ex_Acc hy) e6 he6
  exact ⟨⟨n1, n2, l3, l4, l5, l6, n7, n8, n9⟩, rfl, ⟨w1, w2, ⟨by simpa using hl3, hq3⟩, ⟨by simpa using hl4, hq4⟩, ⟨by simpa using hl5, hq5⟩, ⟨by simpa using hl6, hq6⟩, w7, w8, w9⟩⟩
def dStore : D := .st [.bool, dNode, dDisk, .sl dProp, .sl dPacket]
def wfStore (a : SStore) : Prop := True ∧ wfNode a.fX ∧ wfDisk a.fD ∧ (a.fAsks.length ≤ maxLen ∧ ∀ y ∈ a.fAsks, wfProp y) ∧ (a.fHeld.length ≤ maxLen ∧ ∀ y ∈ a.fHeld, wfPacket y)
theorem ex_Store {x : X} (h : OfE dStore x) : ∃ a : SStore, x = encStore0 a ∧ wfStore a := by
  obtain ⟨cs, rfl, h⟩ := h
  obtain ⟨a1, b1, rfl, ⟨n1, rfl⟩, a2, b2, rfl, ⟨a3, b3, rfl, ⟨n3, rfl, w3⟩, a4, b4, rfl, ⟨n4, rfl, w4⟩, a5, b5, rfl, ⟨e5, rfl, hl5, he5⟩, a6, b6, rfl, ⟨e6, rfl, hl6, he6⟩, a7, b7, rfl, ⟨e7, rfl, hl7, he7⟩, a8, b8, rfl, ⟨e8, rfl, hl8, he8⟩, a9, b9, rfl, ⟨n9, rfl, w9⟩, a10, b10, rfl, ⟨n10, rfl, w10⟩, a11, b11, rfl, ⟨n11, rfl, w11⟩, rfl⟩, a12, b12, rfl, ⟨a13, b13, rfl, ⟨e13, rfl, hl13, he13⟩, a14, b14, rfl, ⟨e14, rfl, hl14, he14⟩, rfl⟩, a15, b15, rfl, ⟨e15, rfl, hl15, he15⟩, a16, b16, rfl, ⟨e16, rfl, hl16, he16⟩, rfl⟩ := h
  obtain ⟨l5, rfl, hq5⟩ := ex_list (f := encAcct0) (fun y hy => ex_Acct hy) e5 he5
  obtain ⟨l6, rfl, hq6⟩ := ex_list (f := encOut0) (fun y hy => ex_Out hy) e6 he6
  obtain ⟨l7, rfl, hq7⟩ := ex_list (f := encInt) (fun y hy => ex_int hy) e7 he7
  obtain ⟨l8, rfl, hq8⟩ := ex_list (f := encAcc) (fun y hy => ex_Acc hy) e8 he8
  obtain ⟨l13, rfl, hq13⟩ := ex_list (f := encU8) (fun y hy => ex_u8 hy) e13 he13
  obtain ⟨l14, rfl, hq14⟩ := ex_list (f := encU8) (fun y hy => ex_u8 hy) e14 he14
  obtain ⟨l15, rfl, hq15⟩ := ex_list (f := encProp0) (fun y hy => ex_Prop hy) e15 he15
  obtain ⟨l16, rfl, hq16⟩ := ex_list (f := encPacket) (fun y hy => ex_Packet hy) e16 he16
  exact ⟨⟨n1, ⟨n3, n4, l5, l6, l7, l8, n9, n10, n11⟩, ⟨l13, l14⟩, l15, l16⟩, rfl, ⟨trivial, ⟨w3, w4, ⟨by simpa using hl5, hq5⟩, ⟨by simpa using hl6, hq6⟩, ⟨by simpa using hl7, hq7⟩, ⟨by simpa using hl8, hq8⟩, w9, w10, w11⟩, ⟨⟨by simpa using hl13, hq13⟩, ⟨by simpa using hl14, hq14⟩⟩, ⟨by simpa using hl15, hq15⟩, ⟨by simpa using hl16, hq16⟩⟩⟩

end Go.Proofs.Ytncjcbdbdocjaaa
