/- The walks: each Go function answers what its plain function says. -/
import Derived.Test.YteolobihfindjaaUFnAcct
import Derived.Test.YteolobihfindjaaProg
set_option linter.unusedVariables false
namespace Go.Proofs.Yteolobihfindjaa
open Go Ax
abbrev cv : Nat → Option Nat := fun g => bif g == 77 then some 0 else bif g == 60 then some 0 else bif g == 34 then some 0 else bif g == 98 then some 0 else bif g == 63 then some 0 else none
theorem mixed : Try.prog.follows .mixedOrders = true := by decide +kernel
theorem eqok110 : EqOK Try.prog 110 := eqok_of (by kernel_rfl) (by kernel_rfl)

set_option maxRecDepth 100000 in
set_option maxHeartbeats 2000000 in
theorem spec_l01New_spec (a0 : (List Int)) (v0 : SCur) (h : spec_l01New a0 = some v0) : Ax.Spec Try.prog 62 none [.sl 0 (List.map encU8 a0)] (.box (encCur0 v0) : X) (.junk : X) := by
 refine walk0 (fn := Try.f62) (fun q0 : SCur => (.box (encCur0 q0) : X)) (fun q0 : SCur => (.junk : X)) v0 ⟨[(0, .sl 0 (List.map encU8 a0))], []⟩ Try.func62 rfl (by decide +kernel) fun Γ hn fin => ?_
 rw [spec_l01New] at h
 refine sqr cv hn ?_
 refine ro9 0 1 1 ⟨[(2, .sc (Go.Value.pointer none)), (0, .sl 0 (List.map encU8 a0))], []⟩ ?_
 refine sqr cv hn ?_
 refine ro9 0 4 4 ⟨[(3, zI (w64 (1626 + (a0.length : Int)))), (7, zI (w64 (1626 + (a0.length : Int)))), (6, zI (a0.length : Int)), (5, .sl 0 (List.map encU8 a0)), (2, .sc (Go.Value.pointer none)), (0, .sl 0 (List.map encU8 a0))], []⟩ ?_ (he := by rw [show (a0.length : Int) = ((List.map encU8 a0).length : Int) from by rw [List.length_map]]; kernel_rfl)
 refine runs_seqJ (σ := Int) (fun s => ⟨[(0, .sl 0 (List.map encU8 a0)), (3, zI s)], []⟩) (fun s => spec_l01New_j1 a0 s = some v0) ?_ ?_
 · rintro y24 h
   rw [spec_l01New_j1] at h
   let T3 : List (Nat × X) := [(0, .sl 0 (List.map encU8 a0)), (3, zI y24)]
   refine seq0 ⟨T3, []⟩ ?_
   refine sqr cv hn ?_
   refine ro9 0 5 5 ⟨(2, .ptr 31 1 0) :: (31, .ptr 31 1 0) :: (30, .agg [.sl 0 (List.map encU8 a0), zI 0, zI y24]) :: (29, zI y24) :: (28, .sl 0 (List.map encU8 a0)) :: T3, [(31, ⟨1, 1, true, some (.agg [.sl 0 (List.map encU8 a0), zI 0, zI y24])⟩)]⟩ ?_
   refine runs_ret ?_
   exact fin _ _ h (by kernel_rfl)
 · skip
   refine sqr cv hn ?_
   refine ro9 0 1 1 ⟨[(4, zI 0), (3, zI (w64 (1626 + (a0.length : Int)))), (7, zI (w64 (1626 + (a0.length : Int)))), (6, zI (a0.length : Int)), (5, .sl 0 (List.map encU8 a0)), (2, .sc (Go.Value.pointer none)), (0, .sl 0 (List.map encU8 a0))], []⟩ ?_
   refine runs_block ?_
   refine runs_loopM (σ := Nat × Int × Int) (fun s => ⟨[(4, zI s.2.1), (3, zI s.2.2), (0, .sl 0 (List.map encU8 a0))], []⟩) (fun s => spec_l01New_l2 a0 s.1 s.2.1 s.2.2 = some v0) (fun s => s.1) (fuel, 0, w64 (1626 + (a0.length : Int))) h (wre [4, 3, 0] []) ?_
   rintro ⟨n2, y31, y32⟩ h
   let T4 : List (Nat × X) := [(4, zI y31), (3, zI y32), (0, .sl 0 (List.map encU8 a0))]
   refine seq0 ⟨T4, []⟩ ?_
   cases n2 with
   | zero => rw [spec_l01New_l2] at h; cases h
   | succ n2 =>
     rw [spec_l01New_l2] at h
     refine runs_seq ?_
     refine sqr cv hn ?_
     refine ro 0 5 5 ⟨(12, zB (decide (y31 < (a0.length : Int)))) :: (11, zB (decide (y31 < (a0.length : Int)))) :: (10, zI (a0.length : Int)) :: (9, .sl 0 (List.map encU8 a0)) :: (8, zI y31) :: T4, []⟩ ?_ (he := by rw [show (a0.length : Int) = ((List.map encU8 a0).length : Int) from by rw [List.length_map]]; kernel_rfl)
     rcases dich (decide (y31 < (a0.length : Int))) with hb44 | hb44
     · replace h := cond_t hb44 h
       refine rl 12 true hb44 ?_
       refine ro9 5 3 3 ⟨(15, zB (decide (y31 < 4000))) :: (14, zB (decide (y31 < 4000))) :: (13, zI y31) :: (12, zB true) :: (11, zB (decide (y31 < (a0.length : Int)))) :: (10, zI (a0.length : Int)) :: (9, .sl 0 (List.map encU8 a0)) :: (8, zI y31) :: T4, []⟩ ?_
       rcases dich (decide (y31 < 4000)) with hb45 | hb45
       · replace h := cond_t hb45 h
         refine ct hb45 ?_
         refine runs_skip ?_
         refine runs_seq ?_
         refine runs_block ?_
         refine rg cv hn ?_
         refine ro 0 4 4 ⟨(21, zI y31) :: (20, .sl 0 (List.map encU8 a0)) :: (19, zI (w64 (y32 * 47))) :: (18, zI y32) :: (15, zB (decide (y31 < 4000))) :: (14, zB (decide (y31 < 4000))) :: (13, zI y31) :: (12, zB true) :: (11, zB (decide (y31 < (a0.length : Int)))) :: (10, zI (a0.length : Int)) :: (9, .sl 0 (List.map encU8 a0)) :: (8, zI y31) :: T4, []⟩ ?_
         obtain ⟨x46, hx47, h⟩ := bindO h
         refine rix 4 encU8 5 hx47 (ix_nn hx47) ⟨(22, .rp (.sc (.int .u8 x46)) 0) :: (21, zI y31) :: (20, .sl 0 (List.map encU8 a0)) :: (19, zI (w64 (y32 * 47))) :: (18, zI y32) :: (15, zB (decide (y31 < 4000))) :: (14, zB (decide (y31 < 4000))) :: (13, zI y31) :: (12, zB true) :: (11, zB (decide (y31 < (a0.length : Int)))) :: (10, zI (a0.length : Int)) :: (9, .sl 0 (List.map encU8 a0)) :: (8, zI y31) :: T4, []⟩ ?_
         refine ro9 5 6 6 ⟨(3, zI (bits .and .i64 (w64 ((w64 ((w64 (y32 * 47)) + (w64 x46))) + 7)) 1073741823)) :: (27, zI (bits .and .i64 (w64 ((w64 ((w64 (y32 * 47)) + (w64 x46))) + 7)) 1073741823)) :: (26, zI (w64 ((w64 ((w64 (y32 * 47)) + (w64 x46))) + 7))) :: (25, zI (w64 ((w64 (y32 * 47)) + (w64 x46)))) :: (24, zI (w64 x46)) :: (23, .sc (.int .u8 x46)) :: (22, .rp (.sc (.int .u8 x46)) 0) :: (21, zI y31) :: (20, .sl 0 (List.map encU8 a0)) :: (19, zI (w64 (y32 * 47))) :: (18, zI y32) :: (15, zB (decide (y31 < 4000))) :: (14, zB (decide (y31 < 4000))) :: (13, zI y31) :: (12, zB true) :: (11, zB (decide (y31 < (a0.length : Int)))) :: (10, zI (a0.length : Int)) :: (9, .sl 0 (List.map encU8 a0)) :: (8, zI y31) :: T4, []⟩ ?_
         refine rg cv hn ?_
         refine ro9 0 3 3 ⟨(4, zI (w64 (y31 + 1))) :: (17, zI (w64 (y31 + 1))) :: (16, zI y31) :: (3, zI (bits .and .i64 (w64 ((w64 ((w64 (y32 * 47)) + (w64 x46))) + 7)) 1073741823)) :: (27, zI (bits .and .i64 (w64 ((w64 ((w64 (y32 * 47)) + (w64 x46))) + 7)) 1073741823)) :: (26, zI (w64 ((w64 ((w64 (y32 * 47)) + (w64 x46))) + 7))) :: (25, zI (w64 ((w64 (y32 * 47)) + (w64 x46)))) :: (24, zI (w64 x46)) :: (23, .sc (.int .u8 x46)) :: (22, .rp (.sc (.int .u8 x46)) 0) :: (21, zI y31) :: (20, .sl 0 (List.map encU8 a0)) :: (19, zI (w64 (y32 * 47))) :: (18, zI y32) :: (15, zB (decide (y31 < 4000))) :: (14, zB (decide (y31 < 4000))) :: (13, zI y31) :: (12, zB true) :: (11, zB (decide (y31 < (a0.length : Int)))) :: (10, zI (a0.length : Int)) :: (9, .sl 0 (List.map encU8 a0)) :: (8, zI y31) :: T4, []⟩ ?_
         exact ⟨(n2, w64 (y31 + 1), bits .and .i64 (w64 ((w64 ((w64 (y32 * 47)) + (w64 x46))) + 7)) 1073741823), Nat.lt_succ_self _, h, wre [4, 3, 0] []⟩
       · replace h := cond_f hb45 h
         refine cf hb45 ?_
         refine runs_exit ?_
         repeat refine thenX_exit ?_
         refine block_here ?_
         exact ⟨(y32), h, wre [0, 3] []⟩
     · replace h := cond_f hb44 h
       refine rl 12 false hb44 ?_
       refine ro9 5 3 1 ⟨(15, zB false) :: (14, .tup []) :: (13, .tup []) :: (12, zB false) :: (11, zB (decide (y31 < (a0.length : Int)))) :: (10, zI (a0.length : Int)) :: (9, .sl 0 (List.map encU8 a0)) :: (8, zI y31) :: T4, []⟩ ?_
       refine cF ?_
       refine runs_exit ?_
       repeat refine thenX_exit ?_
       refine block_here ?_
       exact ⟨(y32), h, wre [0, 3] []⟩

set_option maxRecDepth 100000 in
set_option maxHeartbeats 2000000 in
theorem spec_l01Byte_spec (a0 : SCur) (v0 : (Int) × SCur) (h : spec_l01Byte a0 = some v0) : Ax.Spec Try.prog 98 (some 0) [.box (encCur0 a0)] (zI v0.1 : X) (.box (encCur0 v0.2) : X) := by
 let B1 : List (Nat × Bx) := [(9000, ⟨1, 1, true, some (encCur0 a0)⟩)]
 refine walk0 (fn := Try.f98) (fun q0 : (Int) × SCur => (zI q0.1 : X)) (fun q0 : (Int) × SCur => (.box (encCur0 q0.2) : X)) v0 ⟨[(0, .ptr 9000 1 0)], B1⟩ Try.func98 rfl (by decide +kernel) fun Γ hn fin => ?_
 rw [spec_l01Byte] at h
 refine sqr cv hn ?_
 refine ro9 0 1 1 ⟨[(2, zI 0), (0, .ptr 9000 1 0)], B1⟩ ?_
 refine sqr cv hn ?_
 refine ro9 0 10 10 ⟨[(12, .ptr 9000 1 2), (11, .ptr 9000 1 0), (10, zI (w64 ((w64 (a0.fH * 6364136223846793005)) + 1442695040888963407))), (9, zI (w64 (a0.fH * 6364136223846793005))), (8, zI a0.fH), (7, .ptr 9000 1 2), (6, .ptr 9000 1 0), (5, .ptr 9000 1 0), (4, .ptr 9000 1 0), (2, zI 0), (0, .ptr 9000 1 0)], (9000, ⟨1, 1, true, some (.agg [.sl 0 (List.map encU8 a0.fB), zI a0.fI, zI (w64 ((w64 (a0.fH * 6364136223846793005)) + 1442695040888963407))])⟩) :: B1⟩ ?_
 refine runs_seq ?_
 let B3 : List (Nat × Bx) := [(9000, ⟨0, 0, true, some (.agg [.sl 0 (List.map encU8 a0.fB), zI a0.fI, zI (w64 ((w64 (a0.fH * 6364136223846793005)) + 1442695040888963407))])⟩)]
 refine wkr [0] [(9000, 9000, false)] ⟨[(0, .ptr 9000 0 0)], B3⟩ ?_
 refine rgT cv mixed hn ?_
 refine roT9 0 13 13 ⟨[(3, zI (bits .and .i64 (bits .xor .i64 (Int.fdiv (w64 ((w64 (a0.fH * 6364136223846793005)) + 1442695040888963407)) (2 ^ 33)) (Int.fdiv (w64 ((w64 (a0.fH * 6364136223846793005)) + 1442695040888963407)) (2 ^ 45))) 255)), (24, zI (bits .and .i64 (bits .xor .i64 (Int.fdiv (w64 ((w64 (a0.fH * 6364136223846793005)) + 1442695040888963407)) (2 ^ 33)) (Int.fdiv (w64 ((w64 (a0.fH * 6364136223846793005)) + 1442695040888963407)) (2 ^ 45))) 255)), (23, zI (bits .xor .i64 (Int.fdiv (w64 ((w64 (a0.fH * 6364136223846793005)) + 1442695040888963407)) (2 ^ 33)) (Int.fdiv (w64 ((w64 (a0.fH * 6364136223846793005)) + 1442695040888963407)) (2 ^ 45)))), (22, zI (Int.fdiv (w64 ((w64 (a0.fH * 6364136223846793005)) + 1442695040888963407)) (2 ^ 45))), (21, zI (w64 ((w64 (a0.fH * 6364136223846793005)) + 1442695040888963407))), (20, .ptr 9000 0 2), (19, .ptr 9000 0 0), (18, .ptr 9000 0 0), (17, zI (Int.fdiv (w64 ((w64 (a0.fH * 6364136223846793005)) + 1442695040888963407)) (2 ^ 33))), (16, zI (w64 ((w64 (a0.fH * 6364136223846793005)) + 1442695040888963407))), (15, .ptr 9000 0 2), (14, .ptr 9000 0 0), (13, .ptr 9000 0 0), (0, .ptr 9000 0 0)], B3⟩ ?_
 refine runs_seq ?_
 refine runs_seq ?_
 let T5 : List (Nat × X) := [(3, zI (bits .and .i64 (bits .xor .i64 (Int.fdiv (w64 ((w64 (a0.fH * 6364136223846793005)) + 1442695040888963407)) (2 ^ 33)) (Int.fdiv (w64 ((w64 (a0.fH * 6364136223846793005)) + 1442695040888963407)) (2 ^ 45))) 255)), (0, .ptr 9000 0 0)]
 let B5 : List (Nat × Bx) := [(9000, ⟨0, 0, true, some (.agg [.sl 0 (List.map encU8 a0.fB), zI a0.fI, zI (w64 ((w64 (a0.fH * 6364136223846793005)) + 1442695040888963407))])⟩)]
 refine wkr [3, 0] [(9000, 9000, false)] ⟨T5, B5⟩ ?_
 refine rgT cv mixed hn ?_
 refine roT9 0 10 10 ⟨(34, zB (decide (a0.fI < (a0.fB.length : Int)))) :: (33, zI (a0.fB.length : Int)) :: (32, .sl 0 (List.map encU8 a0.fB)) :: (31, .ptr 9000 0 0) :: (30, .ptr 9000 0 0) :: (29, .ptr 9000 0 0) :: (28, zI a0.fI) :: (27, .ptr 9000 0 1) :: (26, .ptr 9000 0 0) :: (25, .ptr 9000 0 0) :: T5, B5⟩ ?_ (he := by rw [show (a0.fB.length : Int) = ((List.map encU8 a0.fB).length : Int) from by rw [List.length_map]]; kernel_rfl)
 rcases dich (decide (a0.fI < (a0.fB.length : Int))) with hb1 | hb1
 · replace h := cond_t hb1 h
   refine ct hb1 ?_
   refine runs_seq ?_
   let T7 : List (Nat × X) := [(3, zI (bits .and .i64 (bits .xor .i64 (Int.fdiv (w64 ((w64 (a0.fH * 6364136223846793005)) + 1442695040888963407)) (2 ^ 33)) (Int.fdiv (w64 ((w64 (a0.fH * 6364136223846793005)) + 1442695040888963407)) (2 ^ 45))) 255)), (0, .ptr 9000 0 0)]
   let B7 : List (Nat × Bx) := [(9000, ⟨0, 0, true, some (.agg [.sl 0 (List.map encU8 a0.fB), zI a0.fI, zI (w64 ((w64 (a0.fH * 6364136223846793005)) + 1442695040888963407))])⟩)]
   refine wkr [3, 0] [(9000, 9000, false)] ⟨T7, B7⟩ ?_
   refine rgT cv mixed hn ?_
   refine roT 0 9 9 ⟨(43, zI a0.fI) :: (42, .ptr 9000 0 1) :: (41, .ptr 9000 0 0) :: (40, .ptr 9000 0 0) :: (39, .sl 0 (List.map encU8 a0.fB)) :: (38, .ptr 9000 0 0) :: (37, .ptr 9000 0 0) :: (36, .ptr 9000 0 0) :: (35, zI (bits .and .i64 (bits .xor .i64 (Int.fdiv (w64 ((w64 (a0.fH * 6364136223846793005)) + 1442695040888963407)) (2 ^ 33)) (Int.fdiv (w64 ((w64 (a0.fH * 6364136223846793005)) + 1442695040888963407)) (2 ^ 45))) 255)) :: T7, B7⟩ ?_
   obtain ⟨x4, hx5, h⟩ := bindO h
   refine rixT 9 encU8 5 hx5 (ix_nn hx5) ⟨(44, .rp (.sc (.int .u8 x4)) 0) :: (43, zI a0.fI) :: (42, .ptr 9000 0 1) :: (41, .ptr 9000 0 0) :: (40, .ptr 9000 0 0) :: (39, .sl 0 (List.map encU8 a0.fB)) :: (38, .ptr 9000 0 0) :: (37, .ptr 9000 0 0) :: (36, .ptr 9000 0 0) :: (35, zI (bits .and .i64 (bits .xor .i64 (Int.fdiv (w64 ((w64 (a0.fH * 6364136223846793005)) + 1442695040888963407)) (2 ^ 33)) (Int.fdiv (w64 ((w64 (a0.fH * 6364136223846793005)) + 1442695040888963407)) (2 ^ 45))) 255)) :: T7, B7⟩ ?_
   refine roT9 10 5 5 ⟨(3, zI (bits .and .i64 (w64 ((bits .and .i64 (bits .xor .i64 (Int.fdiv (w64 ((w64 (a0.fH * 6364136223846793005)) + 1442695040888963407)) (2 ^ 33)) (Int.fdiv (w64 ((w64 (a0.fH * 6364136223846793005)) + 1442695040888963407)) (2 ^ 45))) 255) + (w64 x4))) 255)) :: (48, zI (bits .and .i64 (w64 ((bits .and .i64 (bits .xor .i64 (Int.fdiv (w64 ((w64 (a0.fH * 6364136223846793005)) + 1442695040888963407)) (2 ^ 33)) (Int.fdiv (w64 ((w64 (a0.fH * 6364136223846793005)) + 1442695040888963407)) (2 ^ 45))) 255) + (w64 x4))) 255)) :: (47, zI (w64 ((bits .and .i64 (bits .xor .i64 (Int.fdiv (w64 ((w64 (a0.fH * 6364136223846793005)) + 1442695040888963407)) (2 ^ 33)) (Int.fdiv (w64 ((w64 (a0.fH * 6364136223846793005)) + 1442695040888963407)) (2 ^ 45))) 255) + (w64 x4)))) :: (46, zI (w64 x4)) :: (45, .sc (.int .u8 x4)) :: (44, .rp (.sc (.int .u8 x4)) 0) :: (43, zI a0.fI) :: (42, .ptr 9000 0 1) :: (41, .ptr 9000 0 0) :: (40, .ptr 9000 0 0) :: (39, .sl 0 (List.map encU8 a0.fB)) :: (38, .ptr 9000 0 0) :: (37, .ptr 9000 0 0) :: (36, .ptr 9000 0 0) :: (35, zI (bits .and .i64 (bits .xor .i64 (Int.fdiv (w64 ((w64 (a0.fH * 6364136223846793005)) + 1442695040888963407)) (2 ^ 33)) (Int.fdiv (w64 ((w64 (a0.fH * 6364136223846793005)) + 1442695040888963407)) (2 ^ 45))) 255)) :: T7, B7⟩ ?_
   let T8 : List (Nat × X) := [(3, zI (bits .and .i64 (w64 ((bits .and .i64 (bits .xor .i64 (Int.fdiv (w64 ((w64 (a0.fH * 6364136223846793005)) + 1442695040888963407)) (2 ^ 33)) (Int.fdiv (w64 ((w64 (a0.fH * 6364136223846793005)) + 1442695040888963407)) (2 ^ 45))) 255) + (w64 x4))) 255)), (0, .ptr 9000 0 0)]
   let B8 : List (Nat × Bx) := [(9000, ⟨0, 0, true, some (.agg [.sl 0 (List.map encU8 a0.fB), zI a0.fI, zI (w64 ((w64 (a0.fH * 6364136223846793005)) + 1442695040888963407))])⟩)]
   refine wkr [3, 0] [(9000, 9000, false)] ⟨T8, B8⟩ ?_
   refine rg cv hn ?_
   refine ro9 0 9 9 ⟨(56, .ptr 9000 0 1) :: (55, .ptr 9000 0 0) :: (54, zI (w64 (a0.fI + 1))) :: (53, zI a0.fI) :: (52, .ptr 9000 0 1) :: (51, .ptr 9000 0 0) :: (50, .ptr 9000 0 0) :: (49, .ptr 9000 0 0) :: T8, (9000, ⟨0, 0, true, some (.agg [.sl 0 (List.map encU8 a0.fB), zI (w64 (a0.fI + 1)), zI (w64 ((w64 (a0.fH * 6364136223846793005)) + 1442695040888963407))])⟩) :: B8⟩ ?_
   let T9 : List (Nat × X) := [(3, zI (bits .and .i64 (w64 ((bits .and .i64 (bits .xor .i64 (Int.fdiv (w64 ((w64 (a0.fH * 6364136223846793005)) + 1442695040888963407)) (2 ^ 33)) (Int.fdiv (w64 ((w64 (a0.fH * 6364136223846793005)) + 1442695040888963407)) (2 ^ 45))) 255) + (w64 x4))) 255))]
   let B9 : List (Nat × Bx) := [(9000, ⟨0, 0, true, some (.agg [.sl 0 (List.map encU8 a0.fB), zI (w64 (a0.fI + 1)), zI (w64 ((w64 (a0.fH * 6364136223846793005)) + 1442695040888963407))])⟩)]
   refine wkr [3] [(9000, 9000, false)] ⟨T9, B9⟩ ?_
   refine sqr cv hn ?_
   refine ro9 0 2 2 ⟨(2, zI (bits .and .i64 (w64 ((bits .and .i64 (bits .xor .i64 (Int.fdiv (w64 ((w64 (a0.fH * 6364136223846793005)) + 1442695040888963407)) (2 ^ 33)) (Int.fdiv (w64 ((w64 (a0.fH * 6364136223846793005)) + 1442695040888963407)) (2 ^ 45))) 255) + (w64 x4))) 255)) :: (57, zI (bits .and .i64 (w64 ((bits .and .i64 (bits .xor .i64 (Int.fdiv (w64 ((w64 (a0.fH * 6364136223846793005)) + 1442695040888963407)) (2 ^ 33)) (Int.fdiv (w64 ((w64 (a0.fH * 6364136223846793005)) + 1442695040888963407)) (2 ^ 45))) 255) + (w64 x4))) 255)) :: T9, B9⟩ ?_
   refine runs_ret ?_
   exact fin _ _ h (by kernel_rfl)
 · replace h := cond_f hb1 h
   refine cf hb1 ?_
   refine runs_skip ?_
   let T10 : List (Nat × X) := [(3, zI (bits .and .i64 (bits .xor .i64 (Int.fdiv (w64 ((w64 (a0.fH * 6364136223846793005)) + 1442695040888963407)) (2 ^ 33)) (Int.fdiv (w64 ((w64 (a0.fH * 6364136223846793005)) + 1442695040888963407)) (2 ^ 45))) 255))]
   let B10 : List (Nat × Bx) := [(9000, ⟨0, 0, true, some (.agg [.sl 0 (List.map encU8 a0.fB), zI a0.fI, zI (w64 ((w64 (a0.fH * 6364136223846793005)) + 1442695040888963407))])⟩)]
   refine wkr [3] [(9000, 9000, false)] ⟨T10, B10⟩ ?_
   refine sqr cv hn ?_
   refine ro9 0 2 2 ⟨(2, zI (bits .and .i64 (bits .xor .i64 (Int.fdiv (w64 ((w64 (a0.fH * 6364136223846793005)) + 1442695040888963407)) (2 ^ 33)) (Int.fdiv (w64 ((w64 (a0.fH * 6364136223846793005)) + 1442695040888963407)) (2 ^ 45))) 255)) :: (57, zI (bits .and .i64 (bits .xor .i64 (Int.fdiv (w64 ((w64 (a0.fH * 6364136223846793005)) + 1442695040888963407)) (2 ^ 33)) (Int.fdiv (w64 ((w64 (a0.fH * 6364136223846793005)) + 1442695040888963407)) (2 ^ 45))) 255)) :: T10, B10⟩ ?_
   refine runs_ret ?_
   exact fin _ _ h (by kernel_rfl)

set_option maxRecDepth 100000 in
set_option maxHeartbeats 2000000 in
theorem spec_l01Below_spec (a0 : SCur) (a1 : Int) (v0 : (Int) × SCur) (h : spec_l01Below a0 a1 = some v0) : Ax.Spec Try.prog 63 (some 0) [.box (encCur0 a0), zI a1] (zI v0.1 : X) (.box (encCur0 v0.2) : X) := by
 let B1 : List (Nat × Bx) := [(9000, ⟨1, 1, true, some (encCur0 a0)⟩)]
 refine walk0 (fn := Try.f63) (fun q0 : (Int) × SCur => (zI q0.1 : X)) (fun q0 : (Int) × SCur => (.box (encCur0 q0.2) : X)) v0 ⟨[(0, .ptr 9000 1 0), (1, zI a1)], B1⟩ Try.func63 rfl (by decide +kernel) fun Γ hn fin => ?_
 rw [spec_l01Below] at h
 refine sqr cv hn ?_
 refine ro9 0 1 1 ⟨[(4, zI 0), (0, .ptr 9000 1 0), (1, zI a1)], B1⟩ ?_
 refine runs_seq ?_
 refine sqr cv hn ?_
 refine ro9 0 2 2 ⟨[(10, zB (decide (a1 ≤ 0))), (9, zI a1), (4, zI 0), (0, .ptr 9000 1 0), (1, zI a1)], B1⟩ ?_
 rcases dich (decide (a1 ≤ 0)) with hb2 | hb2
 · replace h := cond_t hb2 h
   refine ct hb2 ?_
   refine sqr cv hn ?_
   refine ro9 0 1 1 ⟨[(4, zI 0), (10, zB (decide (a1 ≤ 0))), (9, zI a1), (4, zI 0), (0, .ptr 9000 1 0), (1, zI a1)], B1⟩ ?_
   refine runs_ret ?_
   exact fin _ _ h (by kernel_rfl)
 · replace h := cond_f hb2 h
   refine cf hb2 ?_
   refine runs_skip ?_
   refine runs_seq ?_
   refine sqr cv hn ?_
   refine ro9 0 2 2 ⟨[(12, zB (decide (a1 ≤ 256))), (11, zI a1), (10, zB (decide (a1 ≤ 0))), (9, zI a1), (4, zI 0), (0, .ptr 9000 1 0), (1, zI a1)], B1⟩ ?_
   rcases dich (decide (a1 ≤ 256)) with hb8 | hb8
   · replace h := cond_t hb8 h
     refine ct hb8 ?_
     let B3 : List (Nat × Bx) := [(9000, ⟨0, 0, true, some (encCur0 a0)⟩)]
     refine wkr [0, 1] [(9000, 9000, false)] ⟨[(0, .ptr 9000 0 0), (1, zI a1)], B3⟩ ?_
     refine sqr cv hn ?_
     refine ro 0 1 1 ⟨[(13, .ptr 9000 0 0), (0, .ptr 9000 0 0), (1, zI a1)], B3⟩ ?_
     obtain ⟨v9, hv10, h⟩ := bindO h
     refine rc 1 ⟨[(14, zI v9.1), (13, .ptr 9000 0 0), (0, .ptr 9000 0 0), (1, zI a1)], (9000, ⟨0, 1, true, some (encCur0 v9.2)⟩) :: B3⟩ (spec_l01Byte_spec a0 v9 hv10) ?_
     refine ro 2 1 1 ⟨[(15, zI a1), (14, zI v9.1), (13, .ptr 9000 0 0), (0, .ptr 9000 0 0), (1, zI a1)], (9000, ⟨0, 1, true, some (encCur0 v9.2)⟩) :: B3⟩ ?_
     obtain ⟨v11, hv12, h⟩ := bindO h
     refine ra 3 (zI v11 : X) (.junk : X) ⟨[(16, zI v11), (15, zI a1), (14, zI v9.1), (13, .ptr 9000 0 0), (0, .ptr 9000 0 0), (1, zI a1)], (9000, ⟨0, 1, true, some (encCur0 v9.2)⟩) :: B3⟩ [binV .rem (.int .i64 v9.1) (.int .i64 a1) = some (.int .i64 v11)] ⟨remO_bin (by decide) hv12, trivial⟩ ?_
     refine ro9 4 1 1 ⟨[(4, zI v11), (16, zI v11), (15, zI a1), (14, zI v9.1), (13, .ptr 9000 0 0), (0, .ptr 9000 0 0), (1, zI a1)], (9000, ⟨0, 1, true, some (encCur0 v9.2)⟩) :: B3⟩ ?_
     refine runs_ret ?_
     exact fin _ _ h (by kernel_rfl)
   · replace h := cond_f hb8 h
     refine cf hb8 ?_
     refine runs_skip ?_
     let B5 : List (Nat × Bx) := [(9000, ⟨0, 0, true, some (encCur0 a0)⟩)]
     refine wkr [0, 1] [(9000, 9000, false)] ⟨[(0, .ptr 9000 0 0), (1, zI a1)], B5⟩ ?_
     refine sqr cv hn ?_
     refine ro 0 1 1 ⟨[(17, .ptr 9000 0 0), (0, .ptr 9000 0 0), (1, zI a1)], B5⟩ ?_
     obtain ⟨v15, hv16, h⟩ := bindO h
     refine rc 1 ⟨[(18, zI v15.1), (17, .ptr 9000 0 0), (0, .ptr 9000 0 0), (1, zI a1)], (9000, ⟨0, 1, true, some (encCur0 v15.2)⟩) :: B5⟩ (spec_l01Byte_spec a0 v15 hv16) ?_
     refine ro9 2 1 1 ⟨[(5, zI v15.1), (18, zI v15.1), (17, .ptr 9000 0 0), (0, .ptr 9000 0 0), (1, zI a1)], (9000, ⟨0, 1, true, some (encCur0 v15.2)⟩) :: B5⟩ ?_
     refine sqr cv hn ?_
     refine ro 0 1 1 ⟨[(19, .ptr 9000 0 0), (5, zI v15.1), (18, zI v15.1), (17, .ptr 9000 0 0), (0, .ptr 9000 0 0), (1, zI a1)], (9000, ⟨0, 1, true, some (encCur0 v15.2)⟩) :: B5⟩ ?_
     obtain ⟨v19, hv20, h⟩ := bindO h
     refine rc 1 ⟨[(20, zI v19.1), (19, .ptr 9000 0 0), (5, zI v15.1), (18, zI v15.1), (17, .ptr 9000 0 0), (0, .ptr 9000 0 0), (1, zI a1)], (9000, ⟨0, 2, true, some (encCur0 v19.2)⟩) :: (9000, ⟨0, 1, true, some (encCur0 v15.2)⟩) :: B5⟩ (spec_l01Byte_spec v15.2 v19 hv20) ?_
     refine ro9 2 1 1 ⟨[(6, zI v19.1), (20, zI v19.1), (19, .ptr 9000 0 0), (5, zI v15.1), (18, zI v15.1), (17, .ptr 9000 0 0), (0, .ptr 9000 0 0), (1, zI a1)], (9000, ⟨0, 2, true, some (encCur0 v19.2)⟩) :: (9000, ⟨0, 1, true, some (encCur0 v15.2)⟩) :: B5⟩ ?_
     refine sqr cv hn ?_
     refine ro 0 1 1 ⟨[(21, .ptr 9000 0 0), (6, zI v19.1), (20, zI v19.1), (19, .ptr 9000 0 0), (5, zI v15.1), (18, zI v15.1), (17, .ptr 9000 0 0), (0, .ptr 9000 0 0), (1, zI a1)], (9000, ⟨0, 2, true, some (encCur0 v19.2)⟩) :: (9000, ⟨0, 1, true, some (encCur0 v15.2)⟩) :: B5⟩ ?_
     obtain ⟨v23, hv24, h⟩ := bindO h
     refine rc 1 ⟨[(22, zI v23.1), (21, .ptr 9000 0 0), (6, zI v19.1), (20, zI v19.1), (19, .ptr 9000 0 0), (5, zI v15.1), (18, zI v15.1), (17, .ptr 9000 0 0), (0, .ptr 9000 0 0), (1, zI a1)], (9000, ⟨0, 3, true, some (encCur0 v23.2)⟩) :: (9000, ⟨0, 2, true, some (encCur0 v19.2)⟩) :: (9000, ⟨0, 1, true, some (encCur0 v15.2)⟩) :: B5⟩ (spec_l01Byte_spec v19.2 v23 hv24) ?_
     refine ro9 2 1 1 ⟨[(7, zI v23.1), (22, zI v23.1), (21, .ptr 9000 0 0), (6, zI v19.1), (20, zI v19.1), (19, .ptr 9000 0 0), (5, zI v15.1), (18, zI v15.1), (17, .ptr 9000 0 0), (0, .ptr 9000 0 0), (1, zI a1)], (9000, ⟨0, 3, true, some (encCur0 v23.2)⟩) :: (9000, ⟨0, 2, true, some (encCur0 v19.2)⟩) :: (9000, ⟨0, 1, true, some (encCur0 v15.2)⟩) :: B5⟩ ?_
     let T7 : List (Nat × X) := [(7, zI v23.1), (6, zI v19.1), (5, zI v15.1), (0, .ptr 9000 0 0), (1, zI a1)]
     let B7 : List (Nat × Bx) := [(9000, ⟨0, 0, true, some (encCur0 v23.2)⟩)]
     refine wkr [7, 6, 5, 0, 1] [(9000, 9000, false)] ⟨T7, B7⟩ ?_
     refine sqr cv hn ?_
     refine ro 0 1 1 ⟨(23, .ptr 9000 0 0) :: T7, B7⟩ ?_
     obtain ⟨v27, hv28, h⟩ := bindO h
     refine rc 1 ⟨(24, zI v27.1) :: (23, .ptr 9000 0 0) :: T7, (9000, ⟨0, 1, true, some (encCur0 v27.2)⟩) :: B7⟩ (spec_l01Byte_spec v23.2 v27 hv28) ?_
     refine ro9 2 1 1 ⟨(8, zI v27.1) :: (24, zI v27.1) :: (23, .ptr 9000 0 0) :: T7, (9000, ⟨0, 1, true, some (encCur0 v27.2)⟩) :: B7⟩ ?_
     refine sqr cv hn ?_
     refine ro 0 11 11 ⟨(35, zI a1) :: (34, zI (w64 ((w64 ((w64 ((w64 (v15.1 * 16777216)) + (w64 (v19.1 * 65536)))) + (w64 (v23.1 * 256)))) + v27.1))) :: (33, zI v27.1) :: (32, zI (w64 ((w64 ((w64 (v15.1 * 16777216)) + (w64 (v19.1 * 65536)))) + (w64 (v23.1 * 256))))) :: (31, zI (w64 (v23.1 * 256))) :: (30, zI v23.1) :: (29, zI (w64 ((w64 (v15.1 * 16777216)) + (w64 (v19.1 * 65536))))) :: (28, zI (w64 (v19.1 * 65536))) :: (27, zI v19.1) :: (26, zI (w64 (v15.1 * 16777216))) :: (25, zI v15.1) :: (8, zI v27.1) :: (24, zI v27.1) :: (23, .ptr 9000 0 0) :: T7, (9000, ⟨0, 1, true, some (encCur0 v27.2)⟩) :: B7⟩ ?_
     obtain ⟨v29, hv30, h⟩ := bindO h
     refine ra 11 (zI v29 : X) (.junk : X) ⟨(36, zI v29) :: (35, zI a1) :: (34, zI (w64 ((w64 ((w64 ((w64 (v15.1 * 16777216)) + (w64 (v19.1 * 65536)))) + (w64 (v23.1 * 256)))) + v27.1))) :: (33, zI v27.1) :: (32, zI (w64 ((w64 ((w64 (v15.1 * 16777216)) + (w64 (v19.1 * 65536)))) + (w64 (v23.1 * 256))))) :: (31, zI (w64 (v23.1 * 256))) :: (30, zI v23.1) :: (29, zI (w64 ((w64 (v15.1 * 16777216)) + (w64 (v19.1 * 65536))))) :: (28, zI (w64 (v19.1 * 65536))) :: (27, zI v19.1) :: (26, zI (w64 (v15.1 * 16777216))) :: (25, zI v15.1) :: (8, zI v27.1) :: (24, zI v27.1) :: (23, .ptr 9000 0 0) :: T7, (9000, ⟨0, 1, true, some (encCur0 v27.2)⟩) :: B7⟩ [binV .rem (.int .i64 (w64 ((w64 ((w64 ((w64 (v15.1 * 16777216)) + (w64 (v19.1 * 65536)))) + (w64 (v23.1 * 256)))) + v27.1))) (.int .i64 a1) = some (.int .i64 v29)] ⟨remO_bin (by decide) hv30, trivial⟩ ?_
     refine ro9 12 1 1 ⟨(4, zI v29) :: (36, zI v29) :: (35, zI a1) :: (34, zI (w64 ((w64 ((w64 ((w64 (v15.1 * 16777216)) + (w64 (v19.1 * 65536)))) + (w64 (v23.1 * 256)))) + v27.1))) :: (33, zI v27.1) :: (32, zI (w64 ((w64 ((w64 (v15.1 * 16777216)) + (w64 (v19.1 * 65536)))) + (w64 (v23.1 * 256))))) :: (31, zI (w64 (v23.1 * 256))) :: (30, zI v23.1) :: (29, zI (w64 ((w64 (v15.1 * 16777216)) + (w64 (v19.1 * 65536))))) :: (28, zI (w64 (v19.1 * 65536))) :: (27, zI v19.1) :: (26, zI (w64 (v15.1 * 16777216))) :: (25, zI v15.1) :: (8, zI v27.1) :: (24, zI v27.1) :: (23, .ptr 9000 0 0) :: T7, (9000, ⟨0, 1, true, some (encCur0 v27.2)⟩) :: B7⟩ ?_
     refine runs_ret ?_
     exact fin _ _ h (by kernel_rfl)

set_option maxRecDepth 100000 in
set_option maxHeartbeats 2000000 in
theorem spec_MakeNum_spec (a0 : (List Int)) (a1 : Int) (v0 : Int) (h : spec_MakeNum a0 a1 = some v0) : Ax.Spec Try.prog 15 none [.sl 0 (List.map encU8 a0), zI a1] (zI v0 : X) (.junk : X) := by
 let T1 : List (Nat × X) := [(0, .sl 0 (List.map encU8 a0)), (1, zI a1)]
 refine walk0 (fn := Try.f15) (fun q0 : Int => (zI q0 : X)) (fun q0 : Int => (.junk : X)) v0 ⟨T1, []⟩ Try.func15 rfl (by decide +kernel) fun Γ hn fin => ?_
 rw [spec_MakeNum] at h
 refine sqr cv hn ?_
 refine ro9 0 1 1 ⟨(4, zI 0) :: T1, []⟩ ?_
 refine sqr cv hn ?_
 refine ro 0 1 1 ⟨(6, .sl 0 (List.map encU8 a0)) :: (4, zI 0) :: T1, []⟩ ?_
 obtain ⟨v3, hv4, h⟩ := bindO h
 refine rc 1 ⟨(7, .ptr 7 1 0) :: (6, .sl 0 (List.map encU8 a0)) :: (4, zI 0) :: T1, [(7, ⟨1, 1, true, some (encCur0 v3)⟩)]⟩ (spec_l01New_spec a0 v3 hv4) ?_
 refine ro9 2 1 1 ⟨(5, .ptr 7 1 0) :: (7, .ptr 7 1 0) :: (6, .sl 0 (List.map encU8 a0)) :: (4, zI 0) :: T1, [(7, ⟨1, 1, true, some (encCur0 v3)⟩)]⟩ ?_
 refine sqr cv hn ?_
 refine ro9 0 9 9 ⟨(15, .ptr 7 1 2) :: (14, .ptr 7 1 0) :: (13, zI (w64 (v3.fH + 777))) :: (12, zI v3.fH) :: (11, .ptr 7 1 2) :: (10, .ptr 7 1 0) :: (9, .ptr 7 1 0) :: (8, .ptr 7 1 0) :: (5, .ptr 7 1 0) :: (7, .ptr 7 1 0) :: (6, .sl 0 (List.map encU8 a0)) :: (4, zI 0) :: T1, [(7, ⟨1, 1, true, some (.agg [.sl 0 (List.map encU8 v3.fB), zI v3.fI, zI (w64 (v3.fH + 777))])⟩), (7, ⟨1, 1, true, some (encCur0 v3)⟩)]⟩ ?_
 let B2 : List (Nat × Bx) := [(7, ⟨0, 0, true, some (.agg [.sl 0 (List.map encU8 v3.fB), zI v3.fI, zI (w64 (v3.fH + 777))])⟩)]
 refine wkr [5, 1] [(7, 7, false)] ⟨[(5, .ptr 7 0 0), (1, zI a1)], B2⟩ ?_
 refine sqr cv hn ?_
 refine ro 0 2 2 ⟨[(17, zI a1), (16, .ptr 7 0 0), (5, .ptr 7 0 0), (1, zI a1)], B2⟩ ?_
 obtain ⟨v5, hv6, h⟩ := bindO h
 refine rc 2 ⟨[(18, zI v5.1), (17, zI a1), (16, .ptr 7 0 0), (5, .ptr 7 0 0), (1, zI a1)], (7, ⟨0, 1, true, some (encCur0 v5.2)⟩) :: B2⟩ (spec_l01Below_spec { v3 with fH := w64 (v3.fH + 777) } a1 v5 hv6) ?_
 refine ro9 3 1 1 ⟨[(4, zI v5.1), (18, zI v5.1), (17, zI a1), (16, .ptr 7 0 0), (5, .ptr 7 0 0), (1, zI a1)], (7, ⟨0, 1, true, some (encCur0 v5.2)⟩) :: B2⟩ ?_
 refine runs_ret ?_
 exact fin _ _ h (by kernel_rfl)

set_option maxRecDepth 100000 in
set_option maxHeartbeats 2000000 in
theorem impl_sameInts_spec (a0 : (List Int)) (a1 : (List Int)) (v0 : Bool) (h : impl_sameInts a0 a1 = some v0) : Ax.Spec Try.prog 92 none [.sl 0 (List.map encInt a0), .sl 0 (List.map encInt a1)] (zB v0 : X) (.junk : X) := by
 let T1 : List (Nat × X) := [(0, .sl 0 (List.map encInt a0)), (1, .sl 0 (List.map encInt a1))]
 refine walk0 (fn := Try.f92) (fun q0 : Bool => (zB q0 : X)) (fun q0 : Bool => (.junk : X)) v0 ⟨T1, []⟩ Try.func92 rfl (by decide +kernel) fun Γ hn fin => ?_
 rw [impl_sameInts] at h
 refine sqr cv hn ?_
 refine ro9 0 1 1 ⟨(4, zB false) :: T1, []⟩ ?_
 refine runs_seq ?_
 refine sqr cv hn ?_
 refine ro9 0 5 5 ⟨(10, zB ((a0.length : Int) != (a1.length : Int))) :: (9, zI (a1.length : Int)) :: (8, .sl 0 (List.map encInt a1)) :: (7, zI (a0.length : Int)) :: (6, .sl 0 (List.map encInt a0)) :: (4, zB false) :: T1, []⟩ ?_ (he := by rw [show (a0.length : Int) = ((List.map encInt a0).length : Int) from by rw [List.length_map]]; rw [show (a1.length : Int) = ((List.map encInt a1).length : Int) from by rw [List.length_map]]; kernel_rfl)
 rcases dich ((a0.length : Int) != (a1.length : Int)) with hb2 | hb2
 · replace h := cond_t hb2 h
   refine ct hb2 ?_
   let T3 : List (Nat × X) := [(0, .sl 0 (List.map encInt a0)), (1, .sl 0 (List.map encInt a1))]
   refine wkr [0, 1] [] ⟨T3, []⟩ ?_
   refine sqr cv hn ?_
   refine ro9 0 1 1 ⟨(4, zB false) :: T3, []⟩ ?_
   refine runs_ret ?_
   exact fin _ _ h (by kernel_rfl)
 · replace h := cond_f hb2 h
   refine cf hb2 ?_
   refine runs_skip ?_
   refine runs_seq ?_
   let T5 : List (Nat × X) := [(0, .sl 0 (List.map encInt a0)), (1, .sl 0 (List.map encInt a1))]
   refine wkr [0, 1] [] ⟨T5, []⟩ ?_
   refine sqr cv hn ?_
   refine ro9 0 3 3 ⟨(13, zI 0) :: (12, zI (a0.length : Int)) :: (11, .sl 0 (List.map encInt a0)) :: T5, []⟩ ?_ (he := by rw [show (a0.length : Int) = ((List.map encInt a0).length : Int) from by rw [List.length_map]]; kernel_rfl)
   refine runs_block ?_
   refine runs_loopM (σ := List Int × Nat) (fun s => ⟨[(13, zI (s.2 : Int)), (12, zI (a0.length : Int)), (0, .sl 0 (List.map encInt a0)), (1, .sl 0 (List.map encInt a1))], []⟩) (fun s => s.1 = List.drop s.2 a0 ∧ impl_sameInts_l1 a1 s.1 s.2 = some v0) (fun s => s.1.length) (a0, 0) ⟨rfl, h⟩ (wre [13, 12, 0, 1] []) ?_
   rintro ⟨t1, i1⟩ ⟨hd1, h⟩
   refine seq0 ⟨[(13, zI (i1 : Int)), (12, zI (a0.length : Int)), (0, .sl 0 (List.map encInt a0)), (1, .sl 0 (List.map encInt a1))], []⟩ ?_
   refine runs_len 0 (es := List.map encInt a0) (by kernel_rfl) fun hl1 => ?_
   replace hl1 := len_of_map hl1
   cases t1 with
   | nil =>
     rw [impl_sameInts_l1] at h
     have hLn1 := dnil hd1
     refine sqr cv hn ?_
     refine ro9 0 1 1 ⟨[(14, zB (decide ((i1 : Int) < (a0.length : Int)))), (13, zI (i1 : Int)), (12, zI (a0.length : Int)), (0, .sl 0 (List.map encInt a0)), (1, .sl 0 (List.map encInt a1))], []⟩ ?_
     refine runs_seq ?_
     refine cf hLn1 ?_
     refine runs_exit ?_
     repeat refine thenX_exit ?_
     refine block_here ?_
     refine wkr [] [] ⟨[], []⟩ ?_
     refine sqr cv hn ?_
     refine ro9 0 1 1 ⟨[(4, zB true)], []⟩ ?_
     refine runs_ret ?_
     exact fin _ _ h (by kernel_rfl)
   | cons x10 t1 =>
     rw [impl_sameInts_l1] at h
     have hLc1 := dcons hd1
     have hx10 := dget hd1
     have hi1 := dinc hd1 hl1
     refine sqr cv hn ?_
     refine ro9 0 1 1 ⟨[(14, zB (decide ((i1 : Int) < (a0.length : Int)))), (13, zI (i1 : Int)), (12, zI (a0.length : Int)), (0, .sl 0 (List.map encInt a0)), (1, .sl 0 (List.map encInt a1))], []⟩ ?_
     refine runs_seq ?_
     refine ct hLc1 ?_
     refine runs_skip ?_
     refine runs_seq ?_
     refine runs_block ?_
     refine sqr cv hn ?_
     refine ro9 0 2 2 ⟨[(5, zI (i1 : Int)), (15, zI (i1 : Int)), (14, zB (decide ((i1 : Int) < (a0.length : Int)))), (13, zI (i1 : Int)), (12, zI (a0.length : Int)), (0, .sl 0 (List.map encInt a0)), (1, .sl 0 (List.map encInt a1))], []⟩ ?_
     refine runs_seq ?_
     refine rgT cv mixed hn ?_
     refine roT 0 2 2 ⟨[(17, zI (i1 : Int)), (16, .sl 0 (List.map encInt a0)), (5, zI (i1 : Int)), (15, zI (i1 : Int)), (14, zB (decide ((i1 : Int) < (a0.length : Int)))), (13, zI (i1 : Int)), (12, zI (a0.length : Int)), (0, .sl 0 (List.map encInt a0)), (1, .sl 0 (List.map encInt a1))], []⟩ ?_
     refine rixT 2 encInt 3 hx10 (ix_nn hx10) ⟨[(18, .rp (zI x10) 0), (17, zI (i1 : Int)), (16, .sl 0 (List.map encInt a0)), (5, zI (i1 : Int)), (15, zI (i1 : Int)), (14, zB (decide ((i1 : Int) < (a0.length : Int)))), (13, zI (i1 : Int)), (12, zI (a0.length : Int)), (0, .sl 0 (List.map encInt a0)), (1, .sl 0 (List.map encInt a1))], []⟩ ?_
     refine roT 3 3 3 ⟨[(21, zI (i1 : Int)), (20, .sl 0 (List.map encInt a1)), (19, zI x10), (18, .rp (zI x10) 0), (17, zI (i1 : Int)), (16, .sl 0 (List.map encInt a0)), (5, zI (i1 : Int)), (15, zI (i1 : Int)), (14, zB (decide ((i1 : Int) < (a0.length : Int)))), (13, zI (i1 : Int)), (12, zI (a0.length : Int)), (0, .sl 0 (List.map encInt a0)), (1, .sl 0 (List.map encInt a1))], []⟩ ?_
     obtain ⟨x20, hx21, h⟩ := bindO h
     refine rixT 6 encInt 3 hx21 (ix_nn hx21) ⟨[(22, .rp (zI x20) 0), (21, zI (i1 : Int)), (20, .sl 0 (List.map encInt a1)), (19, zI x10), (18, .rp (zI x10) 0), (17, zI (i1 : Int)), (16, .sl 0 (List.map encInt a0)), (5, zI (i1 : Int)), (15, zI (i1 : Int)), (14, zB (decide ((i1 : Int) < (a0.length : Int)))), (13, zI (i1 : Int)), (12, zI (a0.length : Int)), (0, .sl 0 (List.map encInt a0)), (1, .sl 0 (List.map encInt a1))], []⟩ ?_
     refine roT9 7 2 2 ⟨[(24, zB (x10 != x20)), (23, zI x20), (22, .rp (zI x20) 0), (21, zI (i1 : Int)), (20, .sl 0 (List.map encInt a1)), (19, zI x10), (18, .rp (zI x10) 0), (17, zI (i1 : Int)), (16, .sl 0 (List.map encInt a0)), (5, zI (i1 : Int)), (15, zI (i1 : Int)), (14, zB (decide ((i1 : Int) < (a0.length : Int)))), (13, zI (i1 : Int)), (12, zI (a0.length : Int)), (0, .sl 0 (List.map encInt a0)), (1, .sl 0 (List.map encInt a1))], []⟩ ?_
     rcases dich (x10 != x20) with hb22 | hb22
     · replace h := cond_t hb22 h
       refine ct hb22 ?_
       refine sqr cv hn ?_
       refine ro9 0 1 1 ⟨[(4, zB false), (24, zB (x10 != x20)), (23, zI x20), (22, .rp (zI x20) 0), (21, zI (i1 : Int)), (20, .sl 0 (List.map encInt a1)), (19, zI x10), (18, .rp (zI x10) 0), (17, zI (i1 : Int)), (16, .sl 0 (List.map encInt a0)), (5, zI (i1 : Int)), (15, zI (i1 : Int)), (14, zB (decide ((i1 : Int) < (a0.length : Int)))), (13, zI (i1 : Int)), (12, zI (a0.length : Int)), (0, .sl 0 (List.map encInt a0)), (1, .sl 0 (List.map encInt a1))], []⟩ ?_
       refine runs_ret ?_
       exact fin _ _ h (by kernel_rfl)
     · replace h := cond_f hb22 h
       refine cf hb22 ?_
       refine runs_skip ?_
       refine rg cv hn ?_
       refine ro9 0 2 2 ⟨[(13, zI ((i1 + 1 : Nat) : Int)), (25, zI ((i1 + 1 : Nat) : Int)), (24, zB (x10 != x20)), (23, zI x20), (22, .rp (zI x20) 0), (21, zI (i1 : Int)), (20, .sl 0 (List.map encInt a1)), (19, zI x10), (18, .rp (zI x10) 0), (17, zI (i1 : Int)), (16, .sl 0 (List.map encInt a0)), (5, zI (i1 : Int)), (15, zI (i1 : Int)), (14, zB (decide ((i1 : Int) < (a0.length : Int)))), (13, zI (i1 : Int)), (12, zI (a0.length : Int)), (0, .sl 0 (List.map encInt a0)), (1, .sl 0 (List.map encInt a1))], []⟩ ?_ (he := by rw [← hi1]; kernel_rfl)
       exact ⟨(t1, i1 + 1), Nat.lt_succ_self _, ⟨dnext hd1, h⟩, wre [13, 12, 0, 1] []⟩

set_option maxRecDepth 100000 in
set_option maxHeartbeats 2000000 in
theorem impl_AcctSame_spec (a0 : SAcct) (a1 : SAcct) (v0 : Bool) (h : impl_AcctSame a0 a1 = some v0) : Ax.Spec Try.prog 48 none [encAcct0 a0, encAcct0 a1] (zB v0 : X) (.junk : X) := by
 let T1 : List (Nat × X) := [(0, encAcct0 a0), (1, encAcct0 a1)]
 refine walk0 (fn := Try.f48) (fun q0 : Bool => (zB q0 : X)) (fun q0 : Bool => (.junk : X)) v0 ⟨T1, []⟩ Try.func48 rfl (by decide +kernel) fun Γ hn fin => ?_
 rw [impl_AcctSame] at h
 refine sqr cv hn ?_
 refine ro9 0 3 3 ⟨(4, zB false) :: (3, .ptr 3 1 0) :: (2, .ptr 2 1 0) :: T1, [(3, ⟨1, 1, true, some (encAcct0 a1)⟩), (2, ⟨1, 1, true, some (encAcct0 a0)⟩)]⟩ ?_
 refine runs_seq ?_
 refine sqr cv hn ?_
 refine ro 0 6 6 ⟨(11, zB (a0.fHave != a1.fHave)) :: (10, zB (a0.fHave != a1.fHave)) :: (9, zI a1.fHave) :: (8, .ptr 3 1 0) :: (7, zI a0.fHave) :: (6, .ptr 2 1 0) :: (4, zB false) :: (3, .ptr 3 1 0) :: (2, .ptr 2 1 0) :: T1, [(3, ⟨1, 1, true, some (encAcct0 a1)⟩), (2, ⟨1, 1, true, some (encAcct0 a0)⟩)]⟩ ?_
 rcases dich (a0.fHave != a1.fHave) with hb8 | hb8
 · replace h := cond_t hb8 h
   refine rl 11 true hb8 ?_
   refine ro9 6 30 7 ⟨(41, zB true) :: (40, .tup []) :: (39, .tup []) :: (38, .tup []) :: (37, .tup []) :: (36, .tup []) :: (35, .tup []) :: (34, .tup []) :: (33, zB true) :: (32, zB true) :: (31, .tup []) :: (30, .tup []) :: (29, .tup []) :: (28, .tup []) :: (27, .tup []) :: (26, .tup []) :: (25, zB true) :: (24, zB true) :: (23, .tup []) :: (22, .tup []) :: (21, .tup []) :: (20, .tup []) :: (19, .tup []) :: (18, zB true) :: (17, zB true) :: (16, .tup []) :: (15, .tup []) :: (14, .tup []) :: (13, .tup []) :: (12, .tup []) :: (11, zB true) :: (10, zB (a0.fHave != a1.fHave)) :: (9, zI a1.fHave) :: (8, .ptr 3 1 0) :: (7, zI a0.fHave) :: (6, .ptr 2 1 0) :: (4, zB false) :: (3, .ptr 3 1 0) :: (2, .ptr 2 1 0) :: T1, [(3, ⟨1, 1, true, some (encAcct0 a1)⟩), (2, ⟨1, 1, true, some (encAcct0 a0)⟩)]⟩ ?_
   refine cT ?_
   let T7 : List (Nat × X) := [(3, .ptr 3 0 0), (2, .ptr 2 0 0)]
   let B7 : List (Nat × Bx) := [(3, ⟨0, 0, true, some (encAcct0 a1)⟩), (2, ⟨0, 0, true, some (encAcct0 a0)⟩)]
   refine wkr [3, 2] [(3, 3, false), (2, 2, false)] ⟨T7, B7⟩ ?_
   refine sqr cv hn ?_
   refine ro9 0 1 1 ⟨(4, zB false) :: T7, B7⟩ ?_
   refine runs_ret ?_
   exact fin _ _ h (by kernel_rfl)
 · replace h := cond_f hb8 h
   refine rl 11 false hb8 ?_
   refine ro 6 7 7 ⟨(18, zB (a0.fState != a1.fState)) :: (17, zB (a0.fState != a1.fState)) :: (16, zB (a0.fState != a1.fState)) :: (15, zI a1.fState) :: (14, .ptr 3 1 1) :: (13, zI a0.fState) :: (12, .ptr 2 1 1) :: (11, zB false) :: (10, zB (a0.fHave != a1.fHave)) :: (9, zI a1.fHave) :: (8, .ptr 3 1 0) :: (7, zI a0.fHave) :: (6, .ptr 2 1 0) :: (4, zB false) :: (3, .ptr 3 1 0) :: (2, .ptr 2 1 0) :: T1, [(3, ⟨1, 1, true, some (encAcct0 a1)⟩), (2, ⟨1, 1, true, some (encAcct0 a0)⟩)]⟩ ?_
   rcases dich (a0.fState != a1.fState) with hb9 | hb9
   · replace h := cond_t hb9 h
     refine rl 18 true hb9 ?_
     refine ro9 13 23 5 ⟨(41, zB true) :: (40, .tup []) :: (39, .tup []) :: (38, .tup []) :: (37, .tup []) :: (36, .tup []) :: (35, .tup []) :: (34, .tup []) :: (33, zB true) :: (32, zB true) :: (31, .tup []) :: (30, .tup []) :: (29, .tup []) :: (28, .tup []) :: (27, .tup []) :: (26, .tup []) :: (25, zB true) :: (24, zB true) :: (23, .tup []) :: (22, .tup []) :: (21, .tup []) :: (20, .tup []) :: (19, .tup []) :: (18, zB true) :: (17, zB (a0.fState != a1.fState)) :: (16, zB (a0.fState != a1.fState)) :: (15, zI a1.fState) :: (14, .ptr 3 1 1) :: (13, zI a0.fState) :: (12, .ptr 2 1 1) :: (11, zB false) :: (10, zB (a0.fHave != a1.fHave)) :: (9, zI a1.fHave) :: (8, .ptr 3 1 0) :: (7, zI a0.fHave) :: (6, .ptr 2 1 0) :: (4, zB false) :: (3, .ptr 3 1 0) :: (2, .ptr 2 1 0) :: T1, [(3, ⟨1, 1, true, some (encAcct0 a1)⟩), (2, ⟨1, 1, true, some (encAcct0 a0)⟩)]⟩ ?_
     refine cT ?_
     let T8 : List (Nat × X) := [(3, .ptr 3 0 0), (2, .ptr 2 0 0)]
     let B8 : List (Nat × Bx) := [(3, ⟨0, 0, true, some (encAcct0 a1)⟩), (2, ⟨0, 0, true, some (encAcct0 a0)⟩)]
     refine wkr [3, 2] [(3, 3, false), (2, 2, false)] ⟨T8, B8⟩ ?_
     refine sqr cv hn ?_
     refine ro9 0 1 1 ⟨(4, zB false) :: T8, B8⟩ ?_
     refine runs_ret ?_
     exact fin _ _ h (by kernel_rfl)
   · replace h := cond_f hb9 h
     refine rl 18 false hb9 ?_
     refine ro 13 7 7 ⟨(25, zB (a0.fBy != a1.fBy)) :: (24, zB (a0.fBy != a1.fBy)) :: (23, zB (a0.fBy != a1.fBy)) :: (22, zI a1.fBy) :: (21, .ptr 3 1 2) :: (20, zI a0.fBy) :: (19, .ptr 2 1 2) :: (18, zB false) :: (17, zB (a0.fState != a1.fState)) :: (16, zB (a0.fState != a1.fState)) :: (15, zI a1.fState) :: (14, .ptr 3 1 1) :: (13, zI a0.fState) :: (12, .ptr 2 1 1) :: (11, zB false) :: (10, zB (a0.fHave != a1.fHave)) :: (9, zI a1.fHave) :: (8, .ptr 3 1 0) :: (7, zI a0.fHave) :: (6, .ptr 2 1 0) :: (4, zB false) :: (3, .ptr 3 1 0) :: (2, .ptr 2 1 0) :: T1, [(3, ⟨1, 1, true, some (encAcct0 a1)⟩), (2, ⟨1, 1, true, some (encAcct0 a0)⟩)]⟩ ?_
     rcases dich (a0.fBy != a1.fBy) with hb10 | hb10
     · replace h := cond_t hb10 h
       refine rl 25 true hb10 ?_
       refine ro9 20 16 3 ⟨(41, zB true) :: (40, .tup []) :: (39, .tup []) :: (38, .tup []) :: (37, .tup []) :: (36, .tup []) :: (35, .tup []) :: (34, .tup []) :: (33, zB true) :: (32, zB true) :: (31, .tup []) :: (30, .tup []) :: (29, .tup []) :: (28, .tup []) :: (27, .tup []) :: (26, .tup []) :: (25, zB true) :: (24, zB (a0.fBy != a1.fBy)) :: (23, zB (a0.fBy != a1.fBy)) :: (22, zI a1.fBy) :: (21, .ptr 3 1 2) :: (20, zI a0.fBy) :: (19, .ptr 2 1 2) :: (18, zB false) :: (17, zB (a0.fState != a1.fState)) :: (16, zB (a0.fState != a1.fState)) :: (15, zI a1.fState) :: (14, .ptr 3 1 1) :: (13, zI a0.fState) :: (12, .ptr 2 1 1) :: (11, zB false) :: (10, zB (a0.fHave != a1.fHave)) :: (9, zI a1.fHave) :: (8, .ptr 3 1 0) :: (7, zI a0.fHave) :: (6, .ptr 2 1 0) :: (4, zB false) :: (3, .ptr 3 1 0) :: (2, .ptr 2 1 0) :: T1, [(3, ⟨1, 1, true, some (encAcct0 a1)⟩), (2, ⟨1, 1, true, some (encAcct0 a0)⟩)]⟩ ?_
       refine cT ?_
       let T9 : List (Nat × X) := [(3, .ptr 3 0 0), (2, .ptr 2 0 0)]
       let B9 : List (Nat × Bx) := [(3, ⟨0, 0, true, some (encAcct0 a1)⟩), (2, ⟨0, 0, true, some (encAcct0 a0)⟩)]
       refine wkr [3, 2] [(3, 3, false), (2, 2, false)] ⟨T9, B9⟩ ?_
       refine sqr cv hn ?_
       refine ro9 0 1 1 ⟨(4, zB false) :: T9, B9⟩ ?_
       refine runs_ret ?_
       exact fin _ _ h (by kernel_rfl)
     · replace h := cond_f hb10 h
       refine rl 25 false hb10 ?_
       refine ro 20 4 4 ⟨(29, .sl 0 (List.map encInt a1.fMarks)) :: (28, .ptr 3 1 3) :: (27, .sl 0 (List.map encInt a0.fMarks)) :: (26, .ptr 2 1 3) :: (25, zB false) :: (24, zB (a0.fBy != a1.fBy)) :: (23, zB (a0.fBy != a1.fBy)) :: (22, zI a1.fBy) :: (21, .ptr 3 1 2) :: (20, zI a0.fBy) :: (19, .ptr 2 1 2) :: (18, zB false) :: (17, zB (a0.fState != a1.fState)) :: (16, zB (a0.fState != a1.fState)) :: (15, zI a1.fState) :: (14, .ptr 3 1 1) :: (13, zI a0.fState) :: (12, .ptr 2 1 1) :: (11, zB false) :: (10, zB (a0.fHave != a1.fHave)) :: (9, zI a1.fHave) :: (8, .ptr 3 1 0) :: (7, zI a0.fHave) :: (6, .ptr 2 1 0) :: (4, zB false) :: (3, .ptr 3 1 0) :: (2, .ptr 2 1 0) :: T1, [(3, ⟨1, 1, true, some (encAcct0 a1)⟩), (2, ⟨1, 1, true, some (encAcct0 a0)⟩)]⟩ ?_
       obtain ⟨v11, hv12, h⟩ := bindO h
       refine rc 24 ⟨(30, zB v11) :: (29, .sl 0 (List.map encInt a1.fMarks)) :: (28, .ptr 3 1 3) :: (27, .sl 0 (List.map encInt a0.fMarks)) :: (26, .ptr 2 1 3) :: (25, zB false) :: (24, zB (a0.fBy != a1.fBy)) :: (23, zB (a0.fBy != a1.fBy)) :: (22, zI a1.fBy) :: (21, .ptr 3 1 2) :: (20, zI a0.fBy) :: (19, .ptr 2 1 2) :: (18, zB false) :: (17, zB (a0.fState != a1.fState)) :: (16, zB (a0.fState != a1.fState)) :: (15, zI a1.fState) :: (14, .ptr 3 1 1) :: (13, zI a0.fState) :: (12, .ptr 2 1 1) :: (11, zB false) :: (10, zB (a0.fHave != a1.fHave)) :: (9, zI a1.fHave) :: (8, .ptr 3 1 0) :: (7, zI a0.fHave) :: (6, .ptr 2 1 0) :: (4, zB false) :: (3, .ptr 3 1 0) :: (2, .ptr 2 1 0) :: T1, [(3, ⟨1, 1, true, some (encAcct0 a1)⟩), (2, ⟨1, 1, true, some (encAcct0 a0)⟩)]⟩ (impl_sameInts_spec a0.fMarks a1.fMarks v11 hv12) ?_
       refine ro 25 3 3 ⟨(33, zB (!v11)) :: (32, zB (!v11)) :: (31, zB (!v11)) :: (30, zB v11) :: (29, .sl 0 (List.map encInt a1.fMarks)) :: (28, .ptr 3 1 3) :: (27, .sl 0 (List.map encInt a0.fMarks)) :: (26, .ptr 2 1 3) :: (25, zB false) :: (24, zB (a0.fBy != a1.fBy)) :: (23, zB (a0.fBy != a1.fBy)) :: (22, zI a1.fBy) :: (21, .ptr 3 1 2) :: (20, zI a0.fBy) :: (19, .ptr 2 1 2) :: (18, zB false) :: (17, zB (a0.fState != a1.fState)) :: (16, zB (a0.fState != a1.fState)) :: (15, zI a1.fState) :: (14, .ptr 3 1 1) :: (13, zI a0.fState) :: (12, .ptr 2 1 1) :: (11, zB false) :: (10, zB (a0.fHave != a1.fHave)) :: (9, zI a1.fHave) :: (8, .ptr 3 1 0) :: (7, zI a0.fHave) :: (6, .ptr 2 1 0) :: (4, zB false) :: (3, .ptr 3 1 0) :: (2, .ptr 2 1 0) :: T1, [(3, ⟨1, 1, true, some (encAcct0 a1)⟩), (2, ⟨1, 1, true, some (encAcct0 a0)⟩)]⟩ ?_
       rcases dich (!v11) with hb13 | hb13
       · replace h := cond_t hb13 h
         refine rl 33 true hb13 ?_
         refine ro9 28 8 1 ⟨(41, zB true) :: (40, .tup []) :: (39, .tup []) :: (38, .tup []) :: (37, .tup []) :: (36, .tup []) :: (35, .tup []) :: (34, .tup []) :: (33, zB true) :: (32, zB (!v11)) :: (31, zB (!v11)) :: (30, zB v11) :: (29, .sl 0 (List.map encInt a1.fMarks)) :: (28, .ptr 3 1 3) :: (27, .sl 0 (List.map encInt a0.fMarks)) :: (26, .ptr 2 1 3) :: (25, zB false) :: (24, zB (a0.fBy != a1.fBy)) :: (23, zB (a0.fBy != a1.fBy)) :: (22, zI a1.fBy) :: (21, .ptr 3 1 2) :: (20, zI a0.fBy) :: (19, .ptr 2 1 2) :: (18, zB false) :: (17, zB (a0.fState != a1.fState)) :: (16, zB (a0.fState != a1.fState)) :: (15, zI a1.fState) :: (14, .ptr 3 1 1) :: (13, zI a0.fState) :: (12, .ptr 2 1 1) :: (11, zB false) :: (10, zB (a0.fHave != a1.fHave)) :: (9, zI a1.fHave) :: (8, .ptr 3 1 0) :: (7, zI a0.fHave) :: (6, .ptr 2 1 0) :: (4, zB false) :: (3, .ptr 3 1 0) :: (2, .ptr 2 1 0) :: T1, [(3, ⟨1, 1, true, some (encAcct0 a1)⟩), (2, ⟨1, 1, true, some (encAcct0 a0)⟩)]⟩ ?_
         refine cT ?_
         let T10 : List (Nat × X) := [(3, .ptr 3 0 0), (2, .ptr 2 0 0)]
         let B10 : List (Nat × Bx) := [(3, ⟨0, 0, true, some (encAcct0 a1)⟩), (2, ⟨0, 0, true, some (encAcct0 a0)⟩)]
         refine wkr [3, 2] [(3, 3, false), (2, 2, false)] ⟨T10, B10⟩ ?_
         refine sqr cv hn ?_
         refine ro9 0 1 1 ⟨(4, zB false) :: T10, B10⟩ ?_
         refine runs_ret ?_
         exact fin _ _ h (by kernel_rfl)
       · replace h := cond_f hb13 h
         refine rl 33 false hb13 ?_
         refine ro9 28 8 8 ⟨(41, zB ((a0.fReps.length : Int) != (a1.fReps.length : Int))) :: (40, zB ((a0.fReps.length : Int) != (a1.fReps.length : Int))) :: (39, zI (a1.fReps.length : Int)) :: (38, .sl 0 (List.map encRep a1.fReps)) :: (37, .ptr 3 1 4) :: (36, zI (a0.fReps.length : Int)) :: (35, .sl 0 (List.map encRep a0.fReps)) :: (34, .ptr 2 1 4) :: (33, zB false) :: (32, zB (!v11)) :: (31, zB (!v11)) :: (30, zB v11) :: (29, .sl 0 (List.map encInt a1.fMarks)) :: (28, .ptr 3 1 3) :: (27, .sl 0 (List.map encInt a0.fMarks)) :: (26, .ptr 2 1 3) :: (25, zB false) :: (24, zB (a0.fBy != a1.fBy)) :: (23, zB (a0.fBy != a1.fBy)) :: (22, zI a1.fBy) :: (21, .ptr 3 1 2) :: (20, zI a0.fBy) :: (19, .ptr 2 1 2) :: (18, zB false) :: (17, zB (a0.fState != a1.fState)) :: (16, zB (a0.fState != a1.fState)) :: (15, zI a1.fState) :: (14, .ptr 3 1 1) :: (13, zI a0.fState) :: (12, .ptr 2 1 1) :: (11, zB false) :: (10, zB (a0.fHave != a1.fHave)) :: (9, zI a1.fHave) :: (8, .ptr 3 1 0) :: (7, zI a0.fHave) :: (6, .ptr 2 1 0) :: (4, zB false) :: (3, .ptr 3 1 0) :: (2, .ptr 2 1 0) :: T1, [(3, ⟨1, 1, true, some (encAcct0 a1)⟩), (2, ⟨1, 1, true, some (encAcct0 a0)⟩)]⟩ ?_ (he := by rw [show (a0.fReps.length : Int) = ((List.map encRep a0.fReps).length : Int) from by rw [List.length_map]]; rw [show (a1.fReps.length : Int) = ((List.map encRep a1.fReps).length : Int) from by rw [List.length_map]]; kernel_rfl)
         rcases dich ((a0.fReps.length : Int) != (a1.fReps.length : Int)) with hb14 | hb14
         · replace h := cond_t hb14 h
           refine ct hb14 ?_
           let T11 : List (Nat × X) := [(3, .ptr 3 0 0), (2, .ptr 2 0 0)]
           let B11 : List (Nat × Bx) := [(3, ⟨0, 0, true, some (encAcct0 a1)⟩), (2, ⟨0, 0, true, some (encAcct0 a0)⟩)]
           refine wkr [3, 2] [(3, 3, false), (2, 2, false)] ⟨T11, B11⟩ ?_
           refine sqr cv hn ?_
           refine ro9 0 1 1 ⟨(4, zB false) :: T11, B11⟩ ?_
           refine runs_ret ?_
           exact fin _ _ h (by kernel_rfl)
         · replace h := cond_f hb14 h
           refine cf hb14 ?_
           refine runs_skip ?_
           refine runs_seq ?_
           let T13 : List (Nat × X) := [(3, .ptr 3 0 0), (2, .ptr 2 0 0)]
           let B13 : List (Nat × Bx) := [(3, ⟨0, 0, true, some (encAcct0 a1)⟩), (2, ⟨0, 0, true, some (encAcct0 a0)⟩)]
           refine wkr [3, 2] [(3, 3, false), (2, 2, false)] ⟨T13, B13⟩ ?_
           refine sqr cv hn ?_
           refine ro9 0 4 4 ⟨(45, zI 0) :: (44, zI (a0.fReps.length : Int)) :: (43, .sl 0 (List.map encRep a0.fReps)) :: (42, .ptr 2 0 4) :: T13, B13⟩ ?_ (he := by rw [show (a0.fReps.length : Int) = ((List.map encRep a0.fReps).length : Int) from by rw [List.length_map]]; kernel_rfl)
           refine runs_block ?_
           obtain ⟨hl1, h⟩ := gO_some h
           refine runs_loopM (σ := List SRep × Nat) (fun s => ⟨[(45, zI (s.2 : Int)), (44, zI (a0.fReps.length : Int)), (3, .ptr 3 0 0), (2, .ptr 2 0 0)], [(3, ⟨0, 0, true, some (encAcct0 a1)⟩), (2, ⟨0, 0, true, some (encAcct0 a0)⟩)]⟩) (fun s => s.1 = List.drop s.2 a0.fReps ∧ impl_AcctSame_l1 a1 s.1 s.2 = some v0) (fun s => s.1.length) (a0.fReps, 0) ⟨rfl, h⟩ (wre [45, 44, 3, 2] [(3, 3, false), (2, 2, false)]) ?_
           rintro ⟨t1, i1⟩ ⟨hd1, h⟩
           refine seq0 ⟨[(45, zI (i1 : Int)), (44, zI (a0.fReps.length : Int)), (3, .ptr 3 0 0), (2, .ptr 2 0 0)], [(3, ⟨0, 0, true, some (encAcct0 a1)⟩), (2, ⟨0, 0, true, some (encAcct0 a0)⟩)]⟩ ?_
           cases t1 with
           | nil =>
             rw [impl_AcctSame_l1] at h
             have hLn1 := dnil hd1
             refine sqr cv hn ?_
             refine ro9 0 1 1 ⟨[(46, zB (decide ((i1 : Int) < (a0.fReps.length : Int)))), (45, zI (i1 : Int)), (44, zI (a0.fReps.length : Int)), (3, .ptr 3 0 0), (2, .ptr 2 0 0)], [(3, ⟨0, 0, true, some (encAcct0 a1)⟩), (2, ⟨0, 0, true, some (encAcct0 a0)⟩)]⟩ ?_
             refine runs_seq ?_
             refine cf hLn1 ?_
             refine runs_exit ?_
             repeat refine thenX_exit ?_
             refine block_here ?_
             refine wkr [] [] ⟨[], []⟩ ?_
             refine sqr cv hn ?_
             refine ro9 0 1 1 ⟨[(4, zB true)], []⟩ ?_
             refine runs_ret ?_
             exact fin _ _ h (by kernel_rfl)
           | cons x10 t1 =>
             rw [impl_AcctSame_l1] at h
             have hLc1 := dcons hd1
             have hx10 := dget hd1
             have hi1 := dinc hd1 hl1
             refine sqr cv hn ?_
             refine ro9 0 1 1 ⟨[(46, zB (decide ((i1 : Int) < (a0.fReps.length : Int)))), (45, zI (i1 : Int)), (44, zI (a0.fReps.length : Int)), (3, .ptr 3 0 0), (2, .ptr 2 0 0)], [(3, ⟨0, 0, true, some (encAcct0 a1)⟩), (2, ⟨0, 0, true, some (encAcct0 a0)⟩)]⟩ ?_
             refine runs_seq ?_
             refine ct hLc1 ?_
             refine runs_skip ?_
             refine runs_seq ?_
             refine runs_block ?_
             refine sqr cv hn ?_
             refine ro9 0 2 2 ⟨[(5, zI (i1 : Int)), (47, zI (i1 : Int)), (46, zB (decide ((i1 : Int) < (a0.fReps.length : Int)))), (45, zI (i1 : Int)), (44, zI (a0.fReps.length : Int)), (3, .ptr 3 0 0), (2, .ptr 2 0 0)], [(3, ⟨0, 0, true, some (encAcct0 a1)⟩), (2, ⟨0, 0, true, some (encAcct0 a0)⟩)]⟩ ?_
             refine runs_seq ?_
             refine rgT cv mixed hn ?_
             refine roT 0 3 3 ⟨[(50, zI (i1 : Int)), (49, .sl 0 (List.map encRep a0.fReps)), (48, .ptr 2 0 4), (5, zI (i1 : Int)), (47, zI (i1 : Int)), (46, zB (decide ((i1 : Int) < (a0.fReps.length : Int)))), (45, zI (i1 : Int)), (44, zI (a0.fReps.length : Int)), (3, .ptr 3 0 0), (2, .ptr 2 0 0)], [(3, ⟨0, 0, true, some (encAcct0 a1)⟩), (2, ⟨0, 0, true, some (encAcct0 a0)⟩)]⟩ ?_
             refine rixT 3 encRep 110 hx10 (ix_nn hx10) ⟨[(51, .rp (encRep x10) 0), (50, zI (i1 : Int)), (49, .sl 0 (List.map encRep a0.fReps)), (48, .ptr 2 0 4), (5, zI (i1 : Int)), (47, zI (i1 : Int)), (46, zB (decide ((i1 : Int) < (a0.fReps.length : Int)))), (45, zI (i1 : Int)), (44, zI (a0.fReps.length : Int)), (3, .ptr 3 0 0), (2, .ptr 2 0 0)], [(3, ⟨0, 0, true, some (encAcct0 a1)⟩), (2, ⟨0, 0, true, some (encAcct0 a0)⟩)]⟩ ?_
             refine roT 4 4 4 ⟨[(55, zI (i1 : Int)), (54, .sl 0 (List.map encRep a1.fReps)), (53, .ptr 3 0 4), (52, encRep x10), (51, .rp (encRep x10) 0), (50, zI (i1 : Int)), (49, .sl 0 (List.map encRep a0.fReps)), (48, .ptr 2 0 4), (5, zI (i1 : Int)), (47, zI (i1 : Int)), (46, zB (decide ((i1 : Int) < (a0.fReps.length : Int)))), (45, zI (i1 : Int)), (44, zI (a0.fReps.length : Int)), (3, .ptr 3 0 0), (2, .ptr 2 0 0)], [(3, ⟨0, 0, true, some (encAcct0 a1)⟩), (2, ⟨0, 0, true, some (encAcct0 a0)⟩)]⟩ ?_
             obtain ⟨x32, hx33, h⟩ := bindO h
             refine rixT 8 encRep 110 hx33 (ix_nn hx33) ⟨[(56, .rp (encRep x32) 0), (55, zI (i1 : Int)), (54, .sl 0 (List.map encRep a1.fReps)), (53, .ptr 3 0 4), (52, encRep x10), (51, .rp (encRep x10) 0), (50, zI (i1 : Int)), (49, .sl 0 (List.map encRep a0.fReps)), (48, .ptr 2 0 4), (5, zI (i1 : Int)), (47, zI (i1 : Int)), (46, zB (decide ((i1 : Int) < (a0.fReps.length : Int)))), (45, zI (i1 : Int)), (44, zI (a0.fReps.length : Int)), (3, .ptr 3 0 0), (2, .ptr 2 0 0)], [(3, ⟨0, 0, true, some (encAcct0 a1)⟩), (2, ⟨0, 0, true, some (encAcct0 a0)⟩)]⟩ ?_
             refine roT 9 1 1 ⟨[(57, encRep x32), (56, .rp (encRep x32) 0), (55, zI (i1 : Int)), (54, .sl 0 (List.map encRep a1.fReps)), (53, .ptr 3 0 4), (52, encRep x10), (51, .rp (encRep x10) 0), (50, zI (i1 : Int)), (49, .sl 0 (List.map encRep a0.fReps)), (48, .ptr 2 0 4), (5, zI (i1 : Int)), (47, zI (i1 : Int)), (46, zB (decide ((i1 : Int) < (a0.fReps.length : Int)))), (45, zI (i1 : Int)), (44, zI (a0.fReps.length : Int)), (3, .ptr 3 0 0), (2, .ptr 2 0 0)], [(3, ⟨0, 0, true, some (encAcct0 a1)⟩), (2, ⟨0, 0, true, some (encAcct0 a0)⟩)]⟩ ?_
             refine rsT 10 ⟨[(58, zB (!((x10.fNode == x32.fNode) && ((x10.fAmt == x32.fAmt) && true)))), (57, encRep x32), (56, .rp (encRep x32) 0), (55, zI (i1 : Int)), (54, .sl 0 (List.map encRep a1.fReps)), (53, .ptr 3 0 4), (52, encRep x10), (51, .rp (encRep x10) 0), (50, zI (i1 : Int)), (49, .sl 0 (List.map encRep a0.fReps)), (48, .ptr 2 0 4), (5, zI (i1 : Int)), (47, zI (i1 : Int)), (46, zB (decide ((i1 : Int) < (a0.fReps.length : Int)))), (45, zI (i1 : Int)), (44, zI (a0.fReps.length : Int)), (3, .ptr 3 0 0), (2, .ptr 2 0 0)], [(3, ⟨0, 0, true, some (encAcct0 a1)⟩), (2, ⟨0, 0, true, some (encAcct0 a0)⟩)]⟩ [EqOK Try.prog 110 ∧ (2 : Nat) = tSize Try.prog 110] ⟨⟨eqok110, by kernel_rfl⟩, trivial⟩ ?_
             refine reT0 11 ?_
             rcases dich (!((x10.fNode == x32.fNode) && ((x10.fAmt == x32.fAmt) && true))) with hb34 | hb34
             · replace h := cond_t hb34 h
               refine ct hb34 ?_
               refine sqr cv hn ?_
               refine ro9 0 1 1 ⟨[(4, zB false), (58, zB (!((x10.fNode == x32.fNode) && ((x10.fAmt == x32.fAmt) && true)))), (57, encRep x32), (56, .rp (encRep x32) 0), (55, zI (i1 : Int)), (54, .sl 0 (List.map encRep a1.fReps)), (53, .ptr 3 0 4), (52, encRep x10), (51, .rp (encRep x10) 0), (50, zI (i1 : Int)), (49, .sl 0 (List.map encRep a0.fReps)), (48, .ptr 2 0 4), (5, zI (i1 : Int)), (47, zI (i1 : Int)), (46, zB (decide ((i1 : Int) < (a0.fReps.length : Int)))), (45, zI (i1 : Int)), (44, zI (a0.fReps.length : Int)), (3, .ptr 3 0 0), (2, .ptr 2 0 0)], [(3, ⟨0, 0, true, some (encAcct0 a1)⟩), (2, ⟨0, 0, true, some (encAcct0 a0)⟩)]⟩ ?_
               refine runs_ret ?_
               exact fin _ _ h (by kernel_rfl)
             · replace h := cond_f hb34 h
               refine cf hb34 ?_
               refine runs_skip ?_
               refine rg cv hn ?_
               refine ro9 0 2 2 ⟨[(45, zI ((i1 + 1 : Nat) : Int)), (59, zI ((i1 + 1 : Nat) : Int)), (58, zB (!((x10.fNode == x32.fNode) && ((x10.fAmt == x32.fAmt) && true)))), (57, encRep x32), (56, .rp (encRep x32) 0), (55, zI (i1 : Int)), (54, .sl 0 (List.map encRep a1.fReps)), (53, .ptr 3 0 4), (52, encRep x10), (51, .rp (encRep x10) 0), (50, zI (i1 : Int)), (49, .sl 0 (List.map encRep a0.fReps)), (48, .ptr 2 0 4), (5, zI (i1 : Int)), (47, zI (i1 : Int)), (46, zB (decide ((i1 : Int) < (a0.fReps.length : Int)))), (45, zI (i1 : Int)), (44, zI (a0.fReps.length : Int)), (3, .ptr 3 0 0), (2, .ptr 2 0 0)], [(3, ⟨0, 0, true, some (encAcct0 a1)⟩), (2, ⟨0, 0, true, some (encAcct0 a0)⟩)]⟩ ?_ (he := by rw [← hi1]; kernel_rfl)
               exact ⟨(t1, i1 + 1), Nat.lt_succ_self _, ⟨dnext hd1, h⟩, wre [45, 44, 3, 2] [(3, 3, false), (2, 2, false)]⟩

set_option maxRecDepth 100000 in
set_option maxHeartbeats 2000000 in
theorem impl_in_spec (a0 : Int) (a1 : Int) (a2 : Int) (v0 : Bool) (h : impl_in a0 a1 a2 = some v0) : Ax.Spec Try.prog 64 none [zI a0, zI a1, zI a2] (zB v0 : X) (.junk : X) := by
 let T1 : List (Nat × X) := [(0, zI a0), (1, zI a1), (2, zI a2)]
 refine walk0 (fn := Try.f64) (fun q0 : Bool => (zB q0 : X)) (fun q0 : Bool => (.junk : X)) v0 ⟨T1, []⟩ Try.func64 rfl (by decide +kernel) fun Γ hn fin => ?_
 rw [impl_in] at h
 refine sqr cv hn ?_
 refine ro9 0 1 1 ⟨(6, zB false) :: T1, []⟩ ?_
 refine sqr cv hn ?_
 refine ro 0 4 4 ⟨(10, zB (decide (a0 ≥ a1))) :: (9, zB (decide (a0 ≥ a1))) :: (8, zI a1) :: (7, zI a0) :: (6, zB false) :: T1, []⟩ ?_
 rcases dich (decide (a0 ≥ a1)) with hb1 | hb1
 · replace h := cond_t hb1 h
   refine rl 10 true hb1 ?_
   refine ro9 4 5 5 ⟨(6, zB (decide (a0 ≤ a2))) :: (14, zB (decide (a0 ≤ a2))) :: (13, zB (decide (a0 ≤ a2))) :: (12, zI a2) :: (11, zI a0) :: (10, zB true) :: (9, zB (decide (a0 ≥ a1))) :: (8, zI a1) :: (7, zI a0) :: (6, zB false) :: T1, []⟩ ?_
   refine runs_ret ?_
   exact fin _ _ h (by kernel_rfl)
 · replace h := cond_f hb1 h
   refine rl 10 false hb1 ?_
   refine ro9 4 5 2 ⟨(6, zB false) :: (14, zB false) :: (13, .tup []) :: (12, .tup []) :: (11, .tup []) :: (10, zB false) :: (9, zB (decide (a0 ≥ a1))) :: (8, zI a1) :: (7, zI a0) :: (6, zB false) :: T1, []⟩ ?_
   refine runs_ret ?_
   exact fin _ _ h (by kernel_rfl)

set_option maxRecDepth 100000 in
set_option maxHeartbeats 2000000 in
theorem impl_isNum_spec (a0 : Int) (v0 : Bool) (h : impl_isNum a0 = some v0) : Ax.Spec Try.prog 66 none [zI a0] (zB v0 : X) (.junk : X) := by
 refine walk0 (fn := Try.f66) (fun q0 : Bool => (zB q0 : X)) (fun q0 : Bool => (.junk : X)) v0 ⟨[(0, zI a0)], []⟩ Try.func66 rfl (by decide +kernel) fun Γ hn fin => ?_
 rw [impl_isNum] at h
 refine sqr cv hn ?_
 refine ro9 0 1 1 ⟨[(2, zB false), (0, zI a0)], []⟩ ?_
 refine sqr cv hn ?_
 refine ro 0 1 1 ⟨[(3, zI a0), (2, zB false), (0, zI a0)], []⟩ ?_
 obtain ⟨v1, hv2, h⟩ := bindO h
 refine rc 1 ⟨[(4, zB v1), (3, zI a0), (2, zB false), (0, zI a0)], []⟩ (impl_in_spec a0 0 1125899906842624 v1 hv2) ?_
 refine ro9 2 1 1 ⟨[(2, zB v1), (4, zB v1), (3, zI a0), (2, zB false), (0, zI a0)], []⟩ ?_
 refine runs_ret ?_
 exact fin _ _ h (by kernel_rfl)

set_option maxRecDepth 100000 in
set_option maxHeartbeats 2000000 in
theorem impl_IsAmt_spec (a0 : Int) (v0 : Bool) (h : impl_IsAmt a0 = some v0) : Ax.Spec Try.prog 86 none [zI a0] (zB v0 : X) (.junk : X) := by
 refine walk0 (fn := Try.f86) (fun q0 : Bool => (zB q0 : X)) (fun q0 : Bool => (.junk : X)) v0 ⟨[(0, zI a0)], []⟩ Try.func86 rfl (by decide +kernel) fun Γ hn fin => ?_
 rw [impl_IsAmt] at h
 refine sqr cv hn ?_
 refine ro9 0 1 1 ⟨[(2, zB false), (0, zI a0)], []⟩ ?_
 refine sqr cv hn ?_
 refine ro 0 1 1 ⟨[(3, zI a0), (2, zB false), (0, zI a0)], []⟩ ?_
 obtain ⟨v1, hv2, h⟩ := bindO h
 refine rc 1 ⟨[(4, zB v1), (3, zI a0), (2, zB false), (0, zI a0)], []⟩ (impl_in_spec a0 1 1000000000 v1 hv2) ?_
 refine ro9 2 1 1 ⟨[(2, zB v1), (4, zB v1), (3, zI a0), (2, zB false), (0, zI a0)], []⟩ ?_
 refine runs_ret ?_
 exact fin _ _ h (by kernel_rfl)

set_option maxRecDepth 100000 in
set_option maxHeartbeats 2000000 in
theorem impl_copyInts_spec (a0 : (List Int)) (v0 : (List Int)) (h : impl_copyInts a0 = some v0) : Ax.Spec Try.prog 101 none [.sl 0 (List.map encInt a0)] (.sl 1 (List.map encInt v0) : X) (.junk : X) := by
 let T1 : List (Nat × X) := [(0, .sl 0 (List.map encInt a0))]
 refine walk0 (fn := Try.f101) (fun q0 : (List Int) => (.sl 1 (List.map encInt q0) : X)) (fun q0 : (List Int) => (.junk : X)) v0 ⟨T1, []⟩ Try.func101 rfl (by decide +kernel) fun Γ hn fin => ?_
 rw [impl_copyInts] at h
 refine sqr cv hn ?_
 refine ro9 0 1 1 ⟨(2, .sc (.slice none 0 0)) :: T1, []⟩ ?_
 refine sqr cv hn ?_
 refine ro 0 1 1 ⟨(3, .sl 0 (List.map encInt a0)) :: (2, .sc (.slice none 0 0)) :: T1, []⟩ ?_
 obtain ⟨hg1, h⟩ := gO_some h
 refine rs 1 ⟨(4, .view 4 1 [] 0) :: (3, .sl 0 (List.map encInt a0)) :: (2, .sc (.slice none 0 0)) :: T1, [(4, ⟨1, 1, false, some (.sl 1 (List.map encInt a0))⟩)]⟩ [((List.map encInt [] : List X).length + (List.map encInt a0 : List X).length) * tBytes Try.prog 3 ≤ 140737488355328 ∧ (List.map encInt [] : List X).length + (List.map encInt a0 : List X).length ≤ 140737488355328 ∧ (∀ y ∈ (List.map encInt [] : List X), (X.cells y).length = tSize Try.prog 3) ∧ ∀ y ∈ (List.map encInt a0 : List X), (X.cells y).length = tSize Try.prog 3] ⟨⟨(app_side (b := 8) (b2 := tBytes Try.prog 3) (f := encInt) (A := []) (B := a0) (by kernel_rfl) hg1).1, (app_side (b := 8) (b2 := 8) (f := encInt) (A := []) (B := a0) rfl hg1).2, fmap fun _ => by kernel_rfl, fmap fun _ => by kernel_rfl⟩, trivial⟩ ?_
 refine ro9 2 1 1 ⟨(2, .view 4 1 [] 0) :: (4, .view 4 1 [] 0) :: (3, .sl 0 (List.map encInt a0)) :: (2, .sc (.slice none 0 0)) :: T1, [(4, ⟨1, 1, false, some (.sl 1 (List.map encInt a0))⟩)]⟩ ?_
 refine runs_ret ?_
 exact fin _ _ h (by kernel_rfl)

set_option maxRecDepth 100000 in
set_option maxHeartbeats 2000000 in
theorem impl_copyAcct_spec (a0 : SAcct) (v0 : SAcct) (h : impl_copyAcct a0 = some v0) : Ax.Spec Try.prog 93 none [encAcct0 a0] (encAcct1 v0 : X) (.junk : X) := by
 refine walk0 (fn := Try.f93) (fun q0 : SAcct => (encAcct1 q0 : X)) (fun q0 : SAcct => (.junk : X)) v0 ⟨[(0, encAcct0 a0)], []⟩ Try.func93 rfl (by decide +kernel) fun Γ hn fin => ?_
 rw [impl_copyAcct] at h
 refine sqr cv hn ?_
 refine ro9 0 2 2 ⟨[(2, .ptr 2 1 0), (1, .ptr 1 1 0), (0, encAcct0 a0)], [(2, ⟨1, 1, true, some (.agg [zI 0, zI 0, zI 0, .sl 1 (List.map encInt []), .sl 1 (List.map encRep [])])⟩), (1, ⟨1, 1, true, some (encAcct0 a0)⟩)]⟩ ?_
 refine runs_seq ?_
 refine rgT cv mixed hn ?_
 refine roT 0 2 2 ⟨[(4, .sl 0 (List.map encInt a0.fMarks)), (3, .ptr 1 1 3), (2, .ptr 2 1 0), (1, .ptr 1 1 0), (0, encAcct0 a0)], [(2, ⟨1, 1, true, some (.agg [zI 0, zI 0, zI 0, .sl 1 (List.map encInt []), .sl 1 (List.map encRep [])])⟩), (1, ⟨1, 1, true, some (encAcct0 a0)⟩)]⟩ ?_
 obtain ⟨v1, hv2, h⟩ := bindO h
 refine rcT 2 ⟨[(5, .view 5 1 [] 0), (4, .sl 0 (List.map encInt a0.fMarks)), (3, .ptr 1 1 3), (2, .ptr 2 1 0), (1, .ptr 1 1 0), (0, encAcct0 a0)], [(5, ⟨1, 1, false, some (.sl 1 (List.map encInt v1))⟩), (2, ⟨1, 1, true, some (.agg [zI 0, zI 0, zI 0, .sl 1 (List.map encInt []), .sl 1 (List.map encRep [])])⟩), (1, ⟨1, 1, true, some (encAcct0 a0)⟩)]⟩ (impl_copyInts_spec a0.fMarks v1 hv2) ?_
 refine roT 3 2 2 ⟨[(7, .sl 0 (List.map encRep a0.fReps)), (6, .ptr 1 1 4), (5, .view 5 1 [] 0), (4, .sl 0 (List.map encInt a0.fMarks)), (3, .ptr 1 1 3), (2, .ptr 2 1 0), (1, .ptr 1 1 0), (0, encAcct0 a0)], [(5, ⟨1, 1, false, some (.sl 1 (List.map encInt v1))⟩), (2, ⟨1, 1, true, some (.agg [zI 0, zI 0, zI 0, .sl 1 (List.map encInt []), .sl 1 (List.map encRep [])])⟩), (1, ⟨1, 1, true, some (encAcct0 a0)⟩)]⟩ ?_
 obtain ⟨hg3, h⟩ := gO_some h
 refine rsT 5 ⟨[(8, .view 8 1 [] 0), (7, .sl 0 (List.map encRep a0.fReps)), (6, .ptr 1 1 4), (5, .view 5 1 [] 0), (4, .sl 0 (List.map encInt a0.fMarks)), (3, .ptr 1 1 3), (2, .ptr 2 1 0), (1, .ptr 1 1 0), (0, encAcct0 a0)], [(8, ⟨1, 1, false, some (.sl 1 (List.map encRep a0.fReps))⟩), (5, ⟨1, 1, false, some (.sl 1 (List.map encInt v1))⟩), (2, ⟨1, 1, true, some (.agg [zI 0, zI 0, zI 0, .sl 1 (List.map encInt []), .sl 1 (List.map encRep [])])⟩), (1, ⟨1, 1, true, some (encAcct0 a0)⟩)]⟩ [((List.map encRep [] : List X).length + (List.map encRep a0.fReps : List X).length) * tBytes Try.prog 110 ≤ 140737488355328 ∧ (List.map encRep [] : List X).length + (List.map encRep a0.fReps : List X).length ≤ 140737488355328 ∧ (∀ y ∈ (List.map encRep [] : List X), (X.cells y).length = tSize Try.prog 110) ∧ ∀ y ∈ (List.map encRep a0.fReps : List X), (X.cells y).length = tSize Try.prog 110] ⟨⟨(app_side (b := 16) (b2 := tBytes Try.prog 110) (f := encRep) (A := []) (B := a0.fReps) (by kernel_rfl) hg3).1, (app_side (b := 16) (b2 := 16) (f := encRep) (A := []) (B := a0.fReps) rfl hg3).2, fmap fun _ => by kernel_rfl, fmap fun _ => by kernel_rfl⟩, trivial⟩ ?_
 refine roT9 6 4 4 ⟨[(10, .ptr 1 1 4), (9, .ptr 1 1 3), (8, .view 8 1 [] 0), (7, .sl 0 (List.map encRep a0.fReps)), (6, .ptr 1 1 4), (5, .view 5 1 [] 0), (4, .sl 0 (List.map encInt a0.fMarks)), (3, .ptr 1 1 3), (2, .ptr 2 1 0), (1, .ptr 1 1 0), (0, encAcct0 a0)], [(1, ⟨1, 3, true, some (.agg [zI a0.fHave, zI a0.fState, zI a0.fBy, .sl 1 (List.map encInt v1), .sl 1 (List.map encRep a0.fReps)])⟩), (8, ⟨1, 2, false, some (.junk)⟩), (1, ⟨1, 2, true, some (.agg [zI a0.fHave, zI a0.fState, zI a0.fBy, .sl 1 (List.map encInt v1), .sl 0 (List.map encRep a0.fReps)])⟩), (5, ⟨1, 2, false, some (.junk)⟩), (8, ⟨1, 1, false, some (.sl 1 (List.map encRep a0.fReps))⟩), (5, ⟨1, 1, false, some (.sl 1 (List.map encInt v1))⟩), (2, ⟨1, 1, true, some (.agg [zI 0, zI 0, zI 0, .sl 1 (List.map encInt []), .sl 1 (List.map encRep [])])⟩), (1, ⟨1, 1, true, some (encAcct0 a0)⟩)]⟩ ?_
 let T2 : List (Nat × X) := [(2, .ptr 2 0 0), (1, .ptr 1 0 0)]
 let B2 : List (Nat × Bx) := [(2, ⟨0, 0, true, some (.agg [zI 0, zI 0, zI 0, .sl 1 (List.map encInt []), .sl 1 (List.map encRep [])])⟩), (1, ⟨0, 0, true, some (.agg [zI a0.fHave, zI a0.fState, zI a0.fBy, .sl 1 (List.map encInt v1), .sl 1 (List.map encRep a0.fReps)])⟩)]
 refine wkr [2, 1] [(2, 2, false), (1, 1, false)] ⟨T2, B2⟩ ?_
 refine sqr cv hn ?_
 refine ro9 0 2 2 ⟨(11, .agg [zI a0.fHave, zI a0.fState, zI a0.fBy, .view 1 0 [] 3, .view 1 0 [] 4]) :: T2, (2, ⟨0, 1, true, some (.agg [zI a0.fHave, zI a0.fState, zI a0.fBy, .sl 1 (List.map encInt v1), .sl 1 (List.map encRep a0.fReps)])⟩) :: (1, ⟨0, 2, true, some (.agg [zI a0.fHave, zI a0.fState, zI a0.fBy, .junk, .junk])⟩) :: (1, ⟨0, 1, true, some (.agg [zI a0.fHave, zI a0.fState, zI a0.fBy, .junk, .sl 1 (List.map encRep a0.fReps)])⟩) :: B2⟩ ?_
 refine runs_ret ?_
 exact fin _ _ h (by kernel_rfl)

set_option maxRecDepth 100000 in
set_option maxHeartbeats 2000000 in
theorem impl_AcctAdd_spec (a0 : SAcct) (a1 : Int) (v0 : SAcct × Bool) (h : impl_AcctAdd a0 a1 = some v0) : Ax.Spec Try.prog 49 none [encAcct0 a0, zI a1] (.tup [encAcct1 v0.1, zB v0.2] : X) (.junk : X) := by
 refine walk0 (fn := Try.f49) (fun q0 : SAcct × Bool => (.tup [encAcct1 q0.1, zB q0.2] : X)) (fun q0 : SAcct × Bool => (.junk : X)) v0 ⟨[(0, encAcct0 a0), (1, zI a1)], []⟩ Try.func49 rfl (by decide +kernel) fun Γ hn fin => ?_
 rw [impl_AcctAdd] at h
 refine sqr cv hn ?_
 refine ro9 0 3 3 ⟨[(5, zB false), (4, .ptr 4 1 0), (2, .ptr 2 1 0), (0, encAcct0 a0), (1, zI a1)], [(4, ⟨1, 1, true, some (.agg [zI 0, zI 0, zI 0, .sl 1 (List.map encInt []), .sl 1 (List.map encRep [])])⟩), (2, ⟨1, 1, true, some (encAcct0 a0)⟩)]⟩ ?_
 refine runs_seq ?_
 refine runs_seqJ (σ := Bool) (fun s => ⟨[(1, zI a1), (2, .ptr 2 0 0), (4, .ptr 4 0 0), (22, zB s)], [(2, ⟨0, 0, true, some (encAcct0 a0)⟩), (4, ⟨0, 0, true, some (.agg [zI 0, zI 0, zI 0, .sl 1 (List.map encInt []), .sl 1 (List.map encRep [])])⟩)]⟩) (fun s => impl_AcctAdd_j1 a0 a1 s = some v0) ?_ ?_
 · rintro y21 h
   rw [impl_AcctAdd_j1] at h
   let T3 : List (Nat × X) := [(1, zI a1), (2, .ptr 2 0 0), (4, .ptr 4 0 0), (22, zB y21)]
   let B3 : List (Nat × Bx) := [(2, ⟨0, 0, true, some (encAcct0 a0)⟩), (4, ⟨0, 0, true, some (.agg [zI 0, zI 0, zI 0, .sl 1 (List.map encInt []), .sl 1 (List.map encRep [])])⟩)]
   refine seq0 ⟨T3, B3⟩ ?_
   rcases dich y21 with hb22 | hb22
   · replace h := cond_t hb22 h
     refine ct hb22 ?_
     refine sqr cv hn ?_
     refine ro9 0 3 3 ⟨(5, zB false) :: (23, .agg [zI 0, zI 0, zI 0, .sc (.slice none 0 0), .sc (.slice none 0 0)]) :: T3, (4, ⟨0, 1, true, some (.agg [zI 0, zI 0, zI 0, .sl 1 (List.map encInt []), .sl 1 (List.map encRep [])])⟩) :: B3⟩ ?_
     refine runs_ret ?_
     exact fin _ _ h (by kernel_rfl)
   · replace h := cond_f hb22 h
     refine cf hb22 ?_
     refine runs_skip ?_
     refine sqr cv hn ?_
     refine ro 0 1 1 ⟨(24, encAcct0 a0) :: T3, B3⟩ ?_
     obtain ⟨v25, hv26, h⟩ := bindO h
     refine rc 1 ⟨(25, .agg [zI v25.fHave, zI v25.fState, zI v25.fBy, .view 25 1 [] 0, .view 10025 1 [] 0]) :: (24, encAcct0 a0) :: T3, (10025, ⟨1, 1, false, some (.sl 1 (List.map encRep v25.fReps))⟩) :: (25, ⟨1, 1, false, some (.sl 1 (List.map encInt v25.fMarks))⟩) :: B3⟩ (impl_copyAcct_spec a0 v25 hv26) ?_
     refine ro9 2 2 2 ⟨(6, .ptr 6 1 0) :: (25, .agg [zI v25.fHave, zI v25.fState, zI v25.fBy, .view 25 1 [] 0, .view 10025 1 [] 0]) :: (24, encAcct0 a0) :: T3, (6, ⟨1, 2, true, some (encAcct1 v25)⟩) :: (10025, ⟨1, 2, false, some (.junk)⟩) :: (25, ⟨1, 2, false, some (.junk)⟩) :: (6, ⟨1, 1, true, some (.agg [zI 0, zI 0, zI 0, .sl 1 (List.map encInt []), .sl 1 (List.map encRep [])])⟩) :: (10025, ⟨1, 1, false, some (.sl 1 (List.map encRep v25.fReps))⟩) :: (25, ⟨1, 1, false, some (.sl 1 (List.map encInt v25.fMarks))⟩) :: B3⟩ ?_
     let T4 : List (Nat × X) := [(6, .ptr 6 0 0), (1, zI a1), (4, .ptr 4 0 0)]
     let B4 : List (Nat × Bx) := [(6, ⟨0, 0, true, some (encAcct1 v25)⟩), (4, ⟨0, 0, true, some (.agg [zI 0, zI 0, zI 0, .sl 1 (List.map encInt []), .sl 1 (List.map encRep [])])⟩)]
     refine wkr [6, 1, 4] [(6, 6, false), (4, 4, false)] ⟨T4, B4⟩ ?_
     refine sqr cv hn ?_
     refine ro9 0 6 6 ⟨(30, .ptr 6 0 0) :: (29, zI (w64 (v25.fHave + a1))) :: (28, zI a1) :: (27, zI v25.fHave) :: (26, .ptr 6 0 0) :: T4, (6, ⟨0, 0, true, some (.agg [zI (w64 (v25.fHave + a1)), zI v25.fState, zI v25.fBy, .sl 1 (List.map encInt v25.fMarks), .sl 1 (List.map encRep v25.fReps)])⟩) :: B4⟩ ?_
     let T5 : List (Nat × X) := [(6, .ptr 6 0 0), (4, .ptr 4 0 0)]
     let B5 : List (Nat × Bx) := [(6, ⟨0, 0, true, some (.agg [zI (w64 (v25.fHave + a1)), zI v25.fState, zI v25.fBy, .sl 1 (List.map encInt v25.fMarks), .sl 1 (List.map encRep v25.fReps)])⟩), (4, ⟨0, 0, true, some (.agg [zI 0, zI 0, zI 0, .sl 1 (List.map encInt []), .sl 1 (List.map encRep [])])⟩)]
     refine wkr [6, 4] [(6, 6, false), (4, 4, false)] ⟨T5, B5⟩ ?_
     refine sqr cv hn ?_
     refine ro9 0 3 3 ⟨(5, zB true) :: (31, .agg [zI (w64 (v25.fHave + a1)), zI v25.fState, zI v25.fBy, .view 6 0 [] 3, .view 6 0 [] 4]) :: T5, (4, ⟨0, 1, true, some (.agg [zI (w64 (v25.fHave + a1)), zI v25.fState, zI v25.fBy, .sl 1 (List.map encInt v25.fMarks), .sl 1 (List.map encRep v25.fReps)])⟩) :: (6, ⟨0, 2, true, some (.agg [zI (w64 (v25.fHave + a1)), zI v25.fState, zI v25.fBy, .junk, .junk])⟩) :: (6, ⟨0, 1, true, some (.agg [zI (w64 (v25.fHave + a1)), zI v25.fState, zI v25.fBy, .junk, .sl 1 (List.map encRep v25.fReps)])⟩) :: B5⟩ ?_
     refine runs_ret ?_
     exact fin _ _ h (by kernel_rfl)
 · skip
   refine rg cv hn ?_
   refine ro 0 1 1 ⟨[(7, zI a1), (5, zB false), (4, .ptr 4 1 0), (2, .ptr 2 1 0), (0, encAcct0 a0), (1, zI a1)], [(4, ⟨1, 1, true, some (.agg [zI 0, zI 0, zI 0, .sl 1 (List.map encInt []), .sl 1 (List.map encRep [])])⟩), (2, ⟨1, 1, true, some (encAcct0 a0)⟩)]⟩ ?_
   obtain ⟨v27, hv28, h⟩ := bindO h
   refine rc 1 ⟨[(8, zB v27), (7, zI a1), (5, zB false), (4, .ptr 4 1 0), (2, .ptr 2 1 0), (0, encAcct0 a0), (1, zI a1)], [(4, ⟨1, 1, true, some (.agg [zI 0, zI 0, zI 0, .sl 1 (List.map encInt []), .sl 1 (List.map encRep [])])⟩), (2, ⟨1, 1, true, some (encAcct0 a0)⟩)]⟩ (impl_IsAmt_spec a1 v27 hv28) ?_
   refine ro 2 2 2 ⟨[(10, zB (!v27)), (9, zB (!v27)), (8, zB v27), (7, zI a1), (5, zB false), (4, .ptr 4 1 0), (2, .ptr 2 1 0), (0, encAcct0 a0), (1, zI a1)], [(4, ⟨1, 1, true, some (.agg [zI 0, zI 0, zI 0, .sl 1 (List.map encInt []), .sl 1 (List.map encRep [])])⟩), (2, ⟨1, 1, true, some (encAcct0 a0)⟩)]⟩ ?_
   rcases dich (!v27) with hb29 | hb29
   · replace h := cond_t hb29 h
     refine rl 10 true hb29 ?_
     refine ro9 4 12 3 ⟨[(22, zB true), (21, .tup []), (20, .tup []), (19, .tup []), (18, .tup []), (17, .tup []), (16, .tup []), (15, zB true), (14, zB true), (13, .tup []), (12, .tup []), (11, .tup []), (10, zB true), (9, zB (!v27)), (8, zB v27), (7, zI a1), (5, zB false), (4, .ptr 4 1 0), (2, .ptr 2 1 0), (0, encAcct0 a0), (1, zI a1)], [(4, ⟨1, 1, true, some (.agg [zI 0, zI 0, zI 0, .sl 1 (List.map encInt []), .sl 1 (List.map encRep [])])⟩), (2, ⟨1, 1, true, some (encAcct0 a0)⟩)]⟩ ?_
     exact ⟨(true), h, wre [1, 2, 4, 22] [(2, 2, false), (4, 4, false)]⟩
   · replace h := cond_f hb29 h
     refine rl 10 false hb29 ?_
     refine ro 4 5 5 ⟨[(15, zB (decide (a0.fHave < 0))), (14, zB (decide (a0.fHave < 0))), (13, zB (decide (a0.fHave < 0))), (12, zI a0.fHave), (11, .ptr 2 1 0), (10, zB false), (9, zB (!v27)), (8, zB v27), (7, zI a1), (5, zB false), (4, .ptr 4 1 0), (2, .ptr 2 1 0), (0, encAcct0 a0), (1, zI a1)], [(4, ⟨1, 1, true, some (.agg [zI 0, zI 0, zI 0, .sl 1 (List.map encInt []), .sl 1 (List.map encRep [])])⟩), (2, ⟨1, 1, true, some (encAcct0 a0)⟩)]⟩ ?_
     rcases dich (decide (a0.fHave < 0)) with hb30 | hb30
     · replace h := cond_t hb30 h
       refine rl 15 true hb30 ?_
       refine ro9 9 7 1 ⟨[(22, zB true), (21, .tup []), (20, .tup []), (19, .tup []), (18, .tup []), (17, .tup []), (16, .tup []), (15, zB true), (14, zB (decide (a0.fHave < 0))), (13, zB (decide (a0.fHave < 0))), (12, zI a0.fHave), (11, .ptr 2 1 0), (10, zB false), (9, zB (!v27)), (8, zB v27), (7, zI a1), (5, zB false), (4, .ptr 4 1 0), (2, .ptr 2 1 0), (0, encAcct0 a0), (1, zI a1)], [(4, ⟨1, 1, true, some (.agg [zI 0, zI 0, zI 0, .sl 1 (List.map encInt []), .sl 1 (List.map encRep [])])⟩), (2, ⟨1, 1, true, some (encAcct0 a0)⟩)]⟩ ?_
       exact ⟨(true), h, wre [1, 2, 4, 22] [(2, 2, false), (4, 4, false)]⟩
     · replace h := cond_f hb30 h
       refine rl 15 false hb30 ?_
       refine ro 9 4 4 ⟨[(19, zI (w64 (a0.fHave + a1))), (18, zI a1), (17, zI a0.fHave), (16, .ptr 2 1 0), (15, zB false), (14, zB (decide (a0.fHave < 0))), (13, zB (decide (a0.fHave < 0))), (12, zI a0.fHave), (11, .ptr 2 1 0), (10, zB false), (9, zB (!v27)), (8, zB v27), (7, zI a1), (5, zB false), (4, .ptr 4 1 0), (2, .ptr 2 1 0), (0, encAcct0 a0), (1, zI a1)], [(4, ⟨1, 1, true, some (.agg [zI 0, zI 0, zI 0, .sl 1 (List.map encInt []), .sl 1 (List.map encRep [])])⟩), (2, ⟨1, 1, true, some (encAcct0 a0)⟩)]⟩ ?_
       obtain ⟨v31, hv32, h⟩ := bindO h
       refine rc 13 ⟨[(20, zB v31), (19, zI (w64 (a0.fHave + a1))), (18, zI a1), (17, zI a0.fHave), (16, .ptr 2 1 0), (15, zB false), (14, zB (decide (a0.fHave < 0))), (13, zB (decide (a0.fHave < 0))), (12, zI a0.fHave), (11, .ptr 2 1 0), (10, zB false), (9, zB (!v27)), (8, zB v27), (7, zI a1), (5, zB false), (4, .ptr 4 1 0), (2, .ptr 2 1 0), (0, encAcct0 a0), (1, zI a1)], [(4, ⟨1, 1, true, some (.agg [zI 0, zI 0, zI 0, .sl 1 (List.map encInt []), .sl 1 (List.map encRep [])])⟩), (2, ⟨1, 1, true, some (encAcct0 a0)⟩)]⟩ (impl_isNum_spec (w64 (a0.fHave + a1)) v31 hv32) ?_
       refine ro9 14 2 2 ⟨[(22, zB (!v31)), (21, zB (!v31)), (20, zB v31), (19, zI (w64 (a0.fHave + a1))), (18, zI a1), (17, zI a0.fHave), (16, .ptr 2 1 0), (15, zB false), (14, zB (decide (a0.fHave < 0))), (13, zB (decide (a0.fHave < 0))), (12, zI a0.fHave), (11, .ptr 2 1 0), (10, zB false), (9, zB (!v27)), (8, zB v27), (7, zI a1), (5, zB false), (4, .ptr 4 1 0), (2, .ptr 2 1 0), (0, encAcct0 a0), (1, zI a1)], [(4, ⟨1, 1, true, some (.agg [zI 0, zI 0, zI 0, .sl 1 (List.map encInt []), .sl 1 (List.map encRep [])])⟩), (2, ⟨1, 1, true, some (encAcct0 a0)⟩)]⟩ ?_
       exact ⟨(!v31), h, wre [1, 2, 4, 22] [(2, 2, false), (4, 4, false)]⟩

set_option maxRecDepth 100000 in
set_option maxHeartbeats 2000000 in
theorem impl_AcctNew_spec (v0 : SAcct) (h : impl_AcctNew = some v0) : Ax.Spec Try.prog 50 none [] (encAcct1 v0 : X) (.junk : X) := by
 refine walk0 (fn := Try.f50) (fun q0 : SAcct => (encAcct1 q0 : X)) (fun q0 : SAcct => (.junk : X)) v0 ⟨[], []⟩ Try.func50 rfl (by decide +kernel) fun Γ hn fin => ?_
 rw [impl_AcctNew] at h
 refine sqr cv hn ?_
 refine ro9 0 1 1 ⟨[(0, .ptr 0 1 0)], [(0, ⟨1, 1, true, some (.agg [zI 0, zI 0, zI 0, .sl 1 (List.map encInt []), .sl 1 (List.map encRep [])])⟩)]⟩ ?_
 refine sqr cv hn ?_
 refine ro9 0 2 2 ⟨[(1, .agg [zI 0, zI 0, zI 0, .sc (.slice none 0 0), .sc (.slice none 0 0)]), (0, .ptr 0 1 0)], [(0, ⟨1, 2, true, some (.agg [zI 0, zI 0, zI 0, .sl 1 (List.map encInt []), .sl 1 (List.map encRep [])])⟩), (0, ⟨1, 1, true, some (.agg [zI 0, zI 0, zI 0, .sl 1 (List.map encInt []), .sl 1 (List.map encRep [])])⟩)]⟩ ?_
 refine runs_ret ?_
 exact fin _ _ h (by kernel_rfl)

set_option maxRecDepth 100000 in
set_option maxHeartbeats 2000000 in
theorem impl_AcctTake_spec (a0 : SAcct) (a1 : Int) (v0 : SAcct × Bool) (h : impl_AcctTake a0 a1 = some v0) : Ax.Spec Try.prog 51 none [encAcct0 a0, zI a1] (.tup [encAcct1 v0.1, zB v0.2] : X) (.junk : X) := by
 refine walk0 (fn := Try.f51) (fun q0 : SAcct × Bool => (.tup [encAcct1 q0.1, zB q0.2] : X)) (fun q0 : SAcct × Bool => (.junk : X)) v0 ⟨[(0, encAcct0 a0), (1, zI a1)], []⟩ Try.func51 rfl (by decide +kernel) fun Γ hn fin => ?_
 rw [impl_AcctTake] at h
 refine sqr cv hn ?_
 refine ro9 0 3 3 ⟨[(5, zB false), (4, .ptr 4 1 0), (2, .ptr 2 1 0), (0, encAcct0 a0), (1, zI a1)], [(4, ⟨1, 1, true, some (.agg [zI 0, zI 0, zI 0, .sl 1 (List.map encInt []), .sl 1 (List.map encRep [])])⟩), (2, ⟨1, 1, true, some (encAcct0 a0)⟩)]⟩ ?_
 refine runs_seq ?_
 refine runs_seqJ (σ := Bool) (fun s => ⟨[(1, zI a1), (2, .ptr 2 0 0), (4, .ptr 4 0 0), (15, zB s)], [(2, ⟨0, 0, true, some (encAcct0 a0)⟩), (4, ⟨0, 0, true, some (.agg [zI 0, zI 0, zI 0, .sl 1 (List.map encInt []), .sl 1 (List.map encRep [])])⟩)]⟩) (fun s => impl_AcctTake_j1 a0 a1 s = some v0) ?_ ?_
 · rintro y12 h
   rw [impl_AcctTake_j1] at h
   let T3 : List (Nat × X) := [(1, zI a1), (2, .ptr 2 0 0), (4, .ptr 4 0 0), (15, zB y12)]
   let B3 : List (Nat × Bx) := [(2, ⟨0, 0, true, some (encAcct0 a0)⟩), (4, ⟨0, 0, true, some (.agg [zI 0, zI 0, zI 0, .sl 1 (List.map encInt []), .sl 1 (List.map encRep [])])⟩)]
   refine seq0 ⟨T3, B3⟩ ?_
   rcases dich y12 with hb13 | hb13
   · replace h := cond_t hb13 h
     refine ct hb13 ?_
     refine sqr cv hn ?_
     refine ro9 0 3 3 ⟨(5, zB false) :: (16, .agg [zI 0, zI 0, zI 0, .sc (.slice none 0 0), .sc (.slice none 0 0)]) :: T3, (4, ⟨0, 1, true, some (.agg [zI 0, zI 0, zI 0, .sl 1 (List.map encInt []), .sl 1 (List.map encRep [])])⟩) :: B3⟩ ?_
     refine runs_ret ?_
     exact fin _ _ h (by kernel_rfl)
   · replace h := cond_f hb13 h
     refine cf hb13 ?_
     refine runs_skip ?_
     refine sqr cv hn ?_
     refine ro 0 1 1 ⟨(17, encAcct0 a0) :: T3, B3⟩ ?_
     obtain ⟨v16, hv17, h⟩ := bindO h
     refine rc 1 ⟨(18, .agg [zI v16.fHave, zI v16.fState, zI v16.fBy, .view 18 1 [] 0, .view 10018 1 [] 0]) :: (17, encAcct0 a0) :: T3, (10018, ⟨1, 1, false, some (.sl 1 (List.map encRep v16.fReps))⟩) :: (18, ⟨1, 1, false, some (.sl 1 (List.map encInt v16.fMarks))⟩) :: B3⟩ (impl_copyAcct_spec a0 v16 hv17) ?_
     refine ro9 2 2 2 ⟨(6, .ptr 6 1 0) :: (18, .agg [zI v16.fHave, zI v16.fState, zI v16.fBy, .view 18 1 [] 0, .view 10018 1 [] 0]) :: (17, encAcct0 a0) :: T3, (6, ⟨1, 2, true, some (encAcct1 v16)⟩) :: (10018, ⟨1, 2, false, some (.junk)⟩) :: (18, ⟨1, 2, false, some (.junk)⟩) :: (6, ⟨1, 1, true, some (.agg [zI 0, zI 0, zI 0, .sl 1 (List.map encInt []), .sl 1 (List.map encRep [])])⟩) :: (10018, ⟨1, 1, false, some (.sl 1 (List.map encRep v16.fReps))⟩) :: (18, ⟨1, 1, false, some (.sl 1 (List.map encInt v16.fMarks))⟩) :: B3⟩ ?_
     let T4 : List (Nat × X) := [(6, .ptr 6 0 0), (1, zI a1), (4, .ptr 4 0 0)]
     let B4 : List (Nat × Bx) := [(6, ⟨0, 0, true, some (encAcct1 v16)⟩), (4, ⟨0, 0, true, some (.agg [zI 0, zI 0, zI 0, .sl 1 (List.map encInt []), .sl 1 (List.map encRep [])])⟩)]
     refine wkr [6, 1, 4] [(6, 6, false), (4, 4, false)] ⟨T4, B4⟩ ?_
     refine sqr cv hn ?_
     refine ro9 0 6 6 ⟨(23, .ptr 6 0 0) :: (22, zI (w64 (v16.fHave - a1))) :: (21, zI a1) :: (20, zI v16.fHave) :: (19, .ptr 6 0 0) :: T4, (6, ⟨0, 0, true, some (.agg [zI (w64 (v16.fHave - a1)), zI v16.fState, zI v16.fBy, .sl 1 (List.map encInt v16.fMarks), .sl 1 (List.map encRep v16.fReps)])⟩) :: B4⟩ ?_
     let T5 : List (Nat × X) := [(6, .ptr 6 0 0), (4, .ptr 4 0 0)]
     let B5 : List (Nat × Bx) := [(6, ⟨0, 0, true, some (.agg [zI (w64 (v16.fHave - a1)), zI v16.fState, zI v16.fBy, .sl 1 (List.map encInt v16.fMarks), .sl 1 (List.map encRep v16.fReps)])⟩), (4, ⟨0, 0, true, some (.agg [zI 0, zI 0, zI 0, .sl 1 (List.map encInt []), .sl 1 (List.map encRep [])])⟩)]
     refine wkr [6, 4] [(6, 6, false), (4, 4, false)] ⟨T5, B5⟩ ?_
     refine sqr cv hn ?_
     refine ro9 0 3 3 ⟨(5, zB true) :: (24, .agg [zI (w64 (v16.fHave - a1)), zI v16.fState, zI v16.fBy, .view 6 0 [] 3, .view 6 0 [] 4]) :: T5, (4, ⟨0, 1, true, some (.agg [zI (w64 (v16.fHave - a1)), zI v16.fState, zI v16.fBy, .sl 1 (List.map encInt v16.fMarks), .sl 1 (List.map encRep v16.fReps)])⟩) :: (6, ⟨0, 2, true, some (.agg [zI (w64 (v16.fHave - a1)), zI v16.fState, zI v16.fBy, .junk, .junk])⟩) :: (6, ⟨0, 1, true, some (.agg [zI (w64 (v16.fHave - a1)), zI v16.fState, zI v16.fBy, .junk, .sl 1 (List.map encRep v16.fReps)])⟩) :: B5⟩ ?_
     refine runs_ret ?_
     exact fin _ _ h (by kernel_rfl)
 · skip
   refine rg cv hn ?_
   refine ro 0 1 1 ⟨[(7, zI a1), (5, zB false), (4, .ptr 4 1 0), (2, .ptr 2 1 0), (0, encAcct0 a0), (1, zI a1)], [(4, ⟨1, 1, true, some (.agg [zI 0, zI 0, zI 0, .sl 1 (List.map encInt []), .sl 1 (List.map encRep [])])⟩), (2, ⟨1, 1, true, some (encAcct0 a0)⟩)]⟩ ?_
   obtain ⟨v18, hv19, h⟩ := bindO h
   refine rc 1 ⟨[(8, zB v18), (7, zI a1), (5, zB false), (4, .ptr 4 1 0), (2, .ptr 2 1 0), (0, encAcct0 a0), (1, zI a1)], [(4, ⟨1, 1, true, some (.agg [zI 0, zI 0, zI 0, .sl 1 (List.map encInt []), .sl 1 (List.map encRep [])])⟩), (2, ⟨1, 1, true, some (encAcct0 a0)⟩)]⟩ (impl_IsAmt_spec a1 v18 hv19) ?_
   refine ro 2 2 2 ⟨[(10, zB (!v18)), (9, zB (!v18)), (8, zB v18), (7, zI a1), (5, zB false), (4, .ptr 4 1 0), (2, .ptr 2 1 0), (0, encAcct0 a0), (1, zI a1)], [(4, ⟨1, 1, true, some (.agg [zI 0, zI 0, zI 0, .sl 1 (List.map encInt []), .sl 1 (List.map encRep [])])⟩), (2, ⟨1, 1, true, some (encAcct0 a0)⟩)]⟩ ?_
   rcases dich (!v18) with hb20 | hb20
   · replace h := cond_t hb20 h
     refine rl 10 true hb20 ?_
     refine ro9 4 5 1 ⟨[(15, zB true), (14, .tup []), (13, .tup []), (12, .tup []), (11, .tup []), (10, zB true), (9, zB (!v18)), (8, zB v18), (7, zI a1), (5, zB false), (4, .ptr 4 1 0), (2, .ptr 2 1 0), (0, encAcct0 a0), (1, zI a1)], [(4, ⟨1, 1, true, some (.agg [zI 0, zI 0, zI 0, .sl 1 (List.map encInt []), .sl 1 (List.map encRep [])])⟩), (2, ⟨1, 1, true, some (encAcct0 a0)⟩)]⟩ ?_
     exact ⟨(true), h, wre [1, 2, 4, 15] [(2, 2, false), (4, 4, false)]⟩
   · replace h := cond_f hb20 h
     refine rl 10 false hb20 ?_
     refine ro9 4 5 5 ⟨[(15, zB (decide (a1 > a0.fHave))), (14, zB (decide (a1 > a0.fHave))), (13, zI a0.fHave), (12, .ptr 2 1 0), (11, zI a1), (10, zB false), (9, zB (!v18)), (8, zB v18), (7, zI a1), (5, zB false), (4, .ptr 4 1 0), (2, .ptr 2 1 0), (0, encAcct0 a0), (1, zI a1)], [(4, ⟨1, 1, true, some (.agg [zI 0, zI 0, zI 0, .sl 1 (List.map encInt []), .sl 1 (List.map encRep [])])⟩), (2, ⟨1, 1, true, some (encAcct0 a0)⟩)]⟩ ?_
     exact ⟨(decide (a1 > a0.fHave)), h, wre [1, 2, 4, 15] [(2, 2, false), (4, 4, false)]⟩

set_option maxRecDepth 100000 in
set_option maxHeartbeats 2000000 in
theorem impl_isNode_spec (a0 : Int) (v0 : Bool) (h : impl_isNode a0 = some v0) : Ax.Spec Try.prog 65 none [zI a0] (zB v0 : X) (.junk : X) := by
 refine walk0 (fn := Try.f65) (fun q0 : Bool => (zB q0 : X)) (fun q0 : Bool => (.junk : X)) v0 ⟨[(0, zI a0)], []⟩ Try.func65 rfl (by decide +kernel) fun Γ hn fin => ?_
 rw [impl_isNode] at h
 refine sqr cv hn ?_
 refine ro9 0 1 1 ⟨[(2, zB false), (0, zI a0)], []⟩ ?_
 refine sqr cv hn ?_
 refine ro 0 1 1 ⟨[(3, zI a0), (2, zB false), (0, zI a0)], []⟩ ?_
 obtain ⟨v1, hv2, h⟩ := bindO h
 refine rc 1 ⟨[(4, zB v1), (3, zI a0), (2, zB false), (0, zI a0)], []⟩ (impl_in_spec a0 0 3 v1 hv2) ?_
 refine ro9 2 1 1 ⟨[(2, zB v1), (4, zB v1), (3, zI a0), (2, zB false), (0, zI a0)], []⟩ ?_
 refine runs_ret ?_
 exact fin _ _ h (by kernel_rfl)

set_option maxRecDepth 100000 in
set_option maxHeartbeats 2000000 in
theorem impl_AcctShut_spec (a0 : SAcct) (a1 : Int) (v0 : SAcct × Bool) (h : impl_AcctShut a0 a1 = some v0) : Ax.Spec Try.prog 52 none [encAcct0 a0, zI a1] (.tup [encAcct1 v0.1, zB v0.2] : X) (.junk : X) := by
 refine walk0 (fn := Try.f52) (fun q0 : SAcct × Bool => (.tup [encAcct1 q0.1, zB q0.2] : X)) (fun q0 : SAcct × Bool => (.junk : X)) v0 ⟨[(0, encAcct0 a0), (1, zI a1)], []⟩ Try.func52 rfl (by decide +kernel) fun Γ hn fin => ?_
 rw [impl_AcctShut] at h
 refine sqr cv hn ?_
 refine ro9 0 3 3 ⟨[(5, zB false), (4, .ptr 4 1 0), (2, .ptr 2 1 0), (0, encAcct0 a0), (1, zI a1)], [(4, ⟨1, 1, true, some (.agg [zI 0, zI 0, zI 0, .sl 1 (List.map encInt []), .sl 1 (List.map encRep [])])⟩), (2, ⟨1, 1, true, some (encAcct0 a0)⟩)]⟩ ?_
 refine runs_seq ?_
 refine runs_seqJ (σ := Bool) (fun s => ⟨[(1, zI a1), (2, .ptr 2 0 0), (4, .ptr 4 0 0), (14, zB s)], [(2, ⟨0, 0, true, some (encAcct0 a0)⟩), (4, ⟨0, 0, true, some (.agg [zI 0, zI 0, zI 0, .sl 1 (List.map encInt []), .sl 1 (List.map encRep [])])⟩)]⟩) (fun s => impl_AcctShut_j1 a0 a1 s = some v0) ?_ ?_
 · rintro y12 h
   rw [impl_AcctShut_j1] at h
   let T3 : List (Nat × X) := [(1, zI a1), (2, .ptr 2 0 0), (4, .ptr 4 0 0), (14, zB y12)]
   let B3 : List (Nat × Bx) := [(2, ⟨0, 0, true, some (encAcct0 a0)⟩), (4, ⟨0, 0, true, some (.agg [zI 0, zI 0, zI 0, .sl 1 (List.map encInt []), .sl 1 (List.map encRep [])])⟩)]
   refine seq0 ⟨T3, B3⟩ ?_
   rcases dich y12 with hb13 | hb13
   · replace h := cond_t hb13 h
     refine ct hb13 ?_
     refine sqr cv hn ?_
     refine ro9 0 3 3 ⟨(5, zB false) :: (15, .agg [zI 0, zI 0, zI 0, .sc (.slice none 0 0), .sc (.slice none 0 0)]) :: T3, (4, ⟨0, 1, true, some (.agg [zI 0, zI 0, zI 0, .sl 1 (List.map encInt []), .sl 1 (List.map encRep [])])⟩) :: B3⟩ ?_
     refine runs_ret ?_
     exact fin _ _ h (by kernel_rfl)
   · replace h := cond_f hb13 h
     refine cf hb13 ?_
     refine runs_skip ?_
     refine sqr cv hn ?_
     refine ro 0 1 1 ⟨(16, encAcct0 a0) :: T3, B3⟩ ?_
     obtain ⟨v16, hv17, h⟩ := bindO h
     refine rc 1 ⟨(17, .agg [zI v16.fHave, zI v16.fState, zI v16.fBy, .view 17 1 [] 0, .view 10017 1 [] 0]) :: (16, encAcct0 a0) :: T3, (10017, ⟨1, 1, false, some (.sl 1 (List.map encRep v16.fReps))⟩) :: (17, ⟨1, 1, false, some (.sl 1 (List.map encInt v16.fMarks))⟩) :: B3⟩ (impl_copyAcct_spec a0 v16 hv17) ?_
     refine ro9 2 2 2 ⟨(6, .ptr 6 1 0) :: (17, .agg [zI v16.fHave, zI v16.fState, zI v16.fBy, .view 17 1 [] 0, .view 10017 1 [] 0]) :: (16, encAcct0 a0) :: T3, (6, ⟨1, 2, true, some (encAcct1 v16)⟩) :: (10017, ⟨1, 2, false, some (.junk)⟩) :: (17, ⟨1, 2, false, some (.junk)⟩) :: (6, ⟨1, 1, true, some (.agg [zI 0, zI 0, zI 0, .sl 1 (List.map encInt []), .sl 1 (List.map encRep [])])⟩) :: (10017, ⟨1, 1, false, some (.sl 1 (List.map encRep v16.fReps))⟩) :: (17, ⟨1, 1, false, some (.sl 1 (List.map encInt v16.fMarks))⟩) :: B3⟩ ?_
     let T4 : List (Nat × X) := [(6, .ptr 6 0 0), (1, zI a1), (4, .ptr 4 0 0)]
     let B4 : List (Nat × Bx) := [(6, ⟨0, 0, true, some (encAcct1 v16)⟩), (4, ⟨0, 0, true, some (.agg [zI 0, zI 0, zI 0, .sl 1 (List.map encInt []), .sl 1 (List.map encRep [])])⟩)]
     refine wkr [6, 1, 4] [(6, 6, false), (4, 4, false)] ⟨T4, B4⟩ ?_
     refine sqr cv hn ?_
     refine ro9 0 5 5 ⟨(20, .ptr 6 0 2) :: (19, .ptr 6 0 1) :: (18, zI a1) :: T4, (6, ⟨0, 0, true, some (.agg [zI v16.fHave, zI 1, zI a1, .sl 1 (List.map encInt v16.fMarks), .sl 1 (List.map encRep v16.fReps)])⟩) :: (6, ⟨0, 0, true, some (.agg [zI v16.fHave, zI 1, zI v16.fBy, .sl 1 (List.map encInt v16.fMarks), .sl 1 (List.map encRep v16.fReps)])⟩) :: B4⟩ ?_
     refine sqr cv hn ?_
     refine ro9 0 3 3 ⟨(5, zB true) :: (21, .agg [zI v16.fHave, zI 1, zI a1, .view 6 0 [] 3, .view 6 0 [] 4]) :: (20, .ptr 6 0 2) :: (19, .ptr 6 0 1) :: (18, zI a1) :: T4, (4, ⟨0, 1, true, some (.agg [zI v16.fHave, zI 1, zI a1, .sl 1 (List.map encInt v16.fMarks), .sl 1 (List.map encRep v16.fReps)])⟩) :: (6, ⟨0, 2, true, some (.agg [zI v16.fHave, zI 1, zI a1, .junk, .junk])⟩) :: (6, ⟨0, 1, true, some (.agg [zI v16.fHave, zI 1, zI a1, .junk, .sl 1 (List.map encRep v16.fReps)])⟩) :: (6, ⟨0, 0, true, some (.agg [zI v16.fHave, zI 1, zI a1, .sl 1 (List.map encInt v16.fMarks), .sl 1 (List.map encRep v16.fReps)])⟩) :: (6, ⟨0, 0, true, some (.agg [zI v16.fHave, zI 1, zI v16.fBy, .sl 1 (List.map encInt v16.fMarks), .sl 1 (List.map encRep v16.fReps)])⟩) :: B4⟩ ?_
     refine runs_ret ?_
     exact fin _ _ h (by kernel_rfl)
 · skip
   refine rg cv hn ?_
   refine ro 0 4 4 ⟨[(10, zB (a0.fState != 0)), (9, zB (a0.fState != 0)), (8, zI a0.fState), (7, .ptr 2 1 1), (5, zB false), (4, .ptr 4 1 0), (2, .ptr 2 1 0), (0, encAcct0 a0), (1, zI a1)], [(4, ⟨1, 1, true, some (.agg [zI 0, zI 0, zI 0, .sl 1 (List.map encInt []), .sl 1 (List.map encRep [])])⟩), (2, ⟨1, 1, true, some (encAcct0 a0)⟩)]⟩ ?_
   rcases dich (a0.fState != 0) with hb18 | hb18
   · replace h := cond_t hb18 h
     refine rl 10 true hb18 ?_
     refine ro9 4 4 1 ⟨[(14, zB true), (13, .tup []), (12, .tup []), (11, .tup []), (10, zB true), (9, zB (a0.fState != 0)), (8, zI a0.fState), (7, .ptr 2 1 1), (5, zB false), (4, .ptr 4 1 0), (2, .ptr 2 1 0), (0, encAcct0 a0), (1, zI a1)], [(4, ⟨1, 1, true, some (.agg [zI 0, zI 0, zI 0, .sl 1 (List.map encInt []), .sl 1 (List.map encRep [])])⟩), (2, ⟨1, 1, true, some (encAcct0 a0)⟩)]⟩ ?_
     exact ⟨(true), h, wre [1, 2, 4, 14] [(2, 2, false), (4, 4, false)]⟩
   · replace h := cond_f hb18 h
     refine rl 10 false hb18 ?_
     refine ro 4 1 1 ⟨[(11, zI a1), (10, zB false), (9, zB (a0.fState != 0)), (8, zI a0.fState), (7, .ptr 2 1 1), (5, zB false), (4, .ptr 4 1 0), (2, .ptr 2 1 0), (0, encAcct0 a0), (1, zI a1)], [(4, ⟨1, 1, true, some (.agg [zI 0, zI 0, zI 0, .sl 1 (List.map encInt []), .sl 1 (List.map encRep [])])⟩), (2, ⟨1, 1, true, some (encAcct0 a0)⟩)]⟩ ?_
     obtain ⟨v19, hv20, h⟩ := bindO h
     refine rc 5 ⟨[(12, zB v19), (11, zI a1), (10, zB false), (9, zB (a0.fState != 0)), (8, zI a0.fState), (7, .ptr 2 1 1), (5, zB false), (4, .ptr 4 1 0), (2, .ptr 2 1 0), (0, encAcct0 a0), (1, zI a1)], [(4, ⟨1, 1, true, some (.agg [zI 0, zI 0, zI 0, .sl 1 (List.map encInt []), .sl 1 (List.map encRep [])])⟩), (2, ⟨1, 1, true, some (encAcct0 a0)⟩)]⟩ (impl_isNode_spec a1 v19 hv20) ?_
     refine ro9 6 2 2 ⟨[(14, zB (!v19)), (13, zB (!v19)), (12, zB v19), (11, zI a1), (10, zB false), (9, zB (a0.fState != 0)), (8, zI a0.fState), (7, .ptr 2 1 1), (5, zB false), (4, .ptr 4 1 0), (2, .ptr 2 1 0), (0, encAcct0 a0), (1, zI a1)], [(4, ⟨1, 1, true, some (.agg [zI 0, zI 0, zI 0, .sl 1 (List.map encInt []), .sl 1 (List.map encRep [])])⟩), (2, ⟨1, 1, true, some (encAcct0 a0)⟩)]⟩ ?_
     exact ⟨(!v19), h, wre [1, 2, 4, 14] [(2, 2, false), (4, 4, false)]⟩

set_option maxRecDepth 100000 in
set_option maxHeartbeats 2000000 in
theorem impl_hasInt_spec (a0 : (List Int)) (a1 : Int) (v0 : Bool) (h : impl_hasInt a0 a1 = some v0) : Ax.Spec Try.prog 94 none [.sl 0 (List.map encInt a0), zI a1] (zB v0 : X) (.junk : X) := by
 let T1 : List (Nat × X) := [(0, .sl 0 (List.map encInt a0)), (1, zI a1)]
 refine walk0 (fn := Try.f94) (fun q0 : Bool => (zB q0 : X)) (fun q0 : Bool => (.junk : X)) v0 ⟨T1, []⟩ Try.func94 rfl (by decide +kernel) fun Γ hn fin => ?_
 rw [impl_hasInt] at h
 refine sqr cv hn ?_
 refine ro9 0 1 1 ⟨(4, zB false) :: T1, []⟩ ?_
 refine runs_seq ?_
 refine sqr cv hn ?_
 refine ro9 0 3 3 ⟨(9, zI 0) :: (8, zI (a0.length : Int)) :: (7, .sl 0 (List.map encInt a0)) :: (4, zB false) :: T1, []⟩ ?_ (he := by rw [show (a0.length : Int) = ((List.map encInt a0).length : Int) from by rw [List.length_map]]; kernel_rfl)
 refine runs_block ?_
 refine runs_loopM (σ := List Int × Nat) (fun s => ⟨[(9, zI (s.2 : Int)), (8, zI (a0.length : Int)), (7, .sl 0 (List.map encInt a0)), (1, zI a1)], []⟩) (fun s => s.1 = List.drop s.2 a0 ∧ impl_hasInt_l1 a1 s.1 s.2 = some v0) (fun s => s.1.length) (a0, 0) ⟨rfl, h⟩ (wre [9, 8, 7, 1] []) ?_
 rintro ⟨t1, i1⟩ ⟨hd1, h⟩
 refine seq0 ⟨[(9, zI (i1 : Int)), (8, zI (a0.length : Int)), (7, .sl 0 (List.map encInt a0)), (1, zI a1)], []⟩ ?_
 refine runs_len 7 (es := List.map encInt a0) (by kernel_rfl) fun hl1 => ?_
 replace hl1 := len_of_map hl1
 cases t1 with
 | nil =>
   rw [impl_hasInt_l1] at h
   have hLn1 := dnil hd1
   refine sqr cv hn ?_
   refine ro9 0 1 1 ⟨[(10, zB (decide ((i1 : Int) < (a0.length : Int)))), (9, zI (i1 : Int)), (8, zI (a0.length : Int)), (7, .sl 0 (List.map encInt a0)), (1, zI a1)], []⟩ ?_
   refine runs_seq ?_
   refine cf hLn1 ?_
   refine runs_exit ?_
   repeat refine thenX_exit ?_
   refine block_here ?_
   refine wkr [] [] ⟨[], []⟩ ?_
   refine sqr cv hn ?_
   refine ro9 0 1 1 ⟨[(4, zB false)], []⟩ ?_
   refine runs_ret ?_
   exact fin _ _ h (by kernel_rfl)
 | cons x10 t1 =>
   rw [impl_hasInt_l1] at h
   have hLc1 := dcons hd1
   have hx10 := dget hd1
   have hi1 := dinc hd1 hl1
   refine sqr cv hn ?_
   refine ro9 0 1 1 ⟨[(10, zB (decide ((i1 : Int) < (a0.length : Int)))), (9, zI (i1 : Int)), (8, zI (a0.length : Int)), (7, .sl 0 (List.map encInt a0)), (1, zI a1)], []⟩ ?_
   refine runs_seq ?_
   refine ct hLc1 ?_
   refine runs_skip ?_
   refine runs_seq ?_
   refine runs_block ?_
   refine sqr cv hn ?_
   refine rix 0 encInt 3 hx10 (ix_nn hx10) ⟨[(11, .rp (zI x10) 0), (10, zB (decide ((i1 : Int) < (a0.length : Int)))), (9, zI (i1 : Int)), (8, zI (a0.length : Int)), (7, .sl 0 (List.map encInt a0)), (1, zI a1)], []⟩ ?_
   refine ro9 1 2 2 ⟨[(6, zI x10), (12, zI x10), (11, .rp (zI x10) 0), (10, zB (decide ((i1 : Int) < (a0.length : Int)))), (9, zI (i1 : Int)), (8, zI (a0.length : Int)), (7, .sl 0 (List.map encInt a0)), (1, zI a1)], []⟩ ?_
   refine sqr cv hn ?_
   refine ro9 0 3 3 ⟨[(15, zB (x10 == a1)), (14, zI a1), (13, zI x10), (6, zI x10), (12, zI x10), (11, .rp (zI x10) 0), (10, zB (decide ((i1 : Int) < (a0.length : Int)))), (9, zI (i1 : Int)), (8, zI (a0.length : Int)), (7, .sl 0 (List.map encInt a0)), (1, zI a1)], []⟩ ?_
   rcases dich (x10 == a1) with hb18 | hb18
   · replace h := cond_t hb18 h
     refine ct hb18 ?_
     refine sqr cv hn ?_
     refine ro9 0 1 1 ⟨[(4, zB true), (15, zB (x10 == a1)), (14, zI a1), (13, zI x10), (6, zI x10), (12, zI x10), (11, .rp (zI x10) 0), (10, zB (decide ((i1 : Int) < (a0.length : Int)))), (9, zI (i1 : Int)), (8, zI (a0.length : Int)), (7, .sl 0 (List.map encInt a0)), (1, zI a1)], []⟩ ?_
     refine runs_ret ?_
     exact fin _ _ h (by kernel_rfl)
   · replace h := cond_f hb18 h
     refine cf hb18 ?_
     refine runs_skip ?_
     refine rg cv hn ?_
     refine ro9 0 2 2 ⟨[(9, zI ((i1 + 1 : Nat) : Int)), (16, zI ((i1 + 1 : Nat) : Int)), (15, zB (x10 == a1)), (14, zI a1), (13, zI x10), (6, zI x10), (12, zI x10), (11, .rp (zI x10) 0), (10, zB (decide ((i1 : Int) < (a0.length : Int)))), (9, zI (i1 : Int)), (8, zI (a0.length : Int)), (7, .sl 0 (List.map encInt a0)), (1, zI a1)], []⟩ ?_ (he := by rw [← hi1]; kernel_rfl)
     exact ⟨(t1, i1 + 1), Nat.lt_succ_self _, ⟨dnext hd1, h⟩, wre [9, 8, 7, 1] []⟩

set_option maxRecDepth 100000 in
set_option maxHeartbeats 2000000 in
theorem impl_AcctMark_spec (a0 : SAcct) (a1 : Int) (v0 : SAcct × Bool) (h : impl_AcctMark a0 a1 = some v0) : Ax.Spec Try.prog 53 none [encAcct0 a0, zI a1] (.tup [encAcct1 v0.1, zB v0.2] : X) (.junk : X) := by
 refine walk0 (fn := Try.f53) (fun q0 : SAcct × Bool => (.tup [encAcct1 q0.1, zB q0.2] : X)) (fun q0 : SAcct × Bool => (.junk : X)) v0 ⟨[(0, encAcct0 a0), (1, zI a1)], []⟩ Try.func53 rfl (by decide +kernel) fun Γ hn fin => ?_
 rw [impl_AcctMark] at h
 refine sqr cv hn ?_
 refine ro9 0 3 3 ⟨[(5, zB false), (4, .ptr 4 1 0), (2, .ptr 2 1 0), (0, encAcct0 a0), (1, zI a1)], [(4, ⟨1, 1, true, some (.agg [zI 0, zI 0, zI 0, .sl 1 (List.map encInt []), .sl 1 (List.map encRep [])])⟩), (2, ⟨1, 1, true, some (encAcct0 a0)⟩)]⟩ ?_
 refine runs_seq ?_
 refine runs_seqJ (σ := Bool) (fun s => ⟨[(1, zI a1), (2, .ptr 2 0 0), (4, .ptr 4 0 0), (24, zB s)], [(2, ⟨0, 0, true, some (encAcct0 a0)⟩), (4, ⟨0, 0, true, some (.agg [zI 0, zI 0, zI 0, .sl 1 (List.map encInt []), .sl 1 (List.map encRep [])])⟩)]⟩) (fun s => impl_AcctMark_j1 a0 a1 s = some v0) ?_ ?_
 · rintro y21 h
   rw [impl_AcctMark_j1] at h
   let T3 : List (Nat × X) := [(1, zI a1), (2, .ptr 2 0 0), (4, .ptr 4 0 0), (24, zB y21)]
   let B3 : List (Nat × Bx) := [(2, ⟨0, 0, true, some (encAcct0 a0)⟩), (4, ⟨0, 0, true, some (.agg [zI 0, zI 0, zI 0, .sl 1 (List.map encInt []), .sl 1 (List.map encRep [])])⟩)]
   refine seq0 ⟨T3, B3⟩ ?_
   rcases dich y21 with hb22 | hb22
   · replace h := cond_t hb22 h
     refine ct hb22 ?_
     refine sqr cv hn ?_
     refine ro9 0 3 3 ⟨(5, zB false) :: (25, .agg [zI 0, zI 0, zI 0, .sc (.slice none 0 0), .sc (.slice none 0 0)]) :: T3, (4, ⟨0, 1, true, some (.agg [zI 0, zI 0, zI 0, .sl 1 (List.map encInt []), .sl 1 (List.map encRep [])])⟩) :: B3⟩ ?_
     refine runs_ret ?_
     exact fin _ _ h (by kernel_rfl)
   · replace h := cond_f hb22 h
     refine cf hb22 ?_
     refine runs_skip ?_
     refine sqr cv hn ?_
     refine ro 0 1 1 ⟨(26, encAcct0 a0) :: T3, B3⟩ ?_
     obtain ⟨v25, hv26, h⟩ := bindO h
     refine rc 1 ⟨(27, .agg [zI v25.fHave, zI v25.fState, zI v25.fBy, .view 27 1 [] 0, .view 10027 1 [] 0]) :: (26, encAcct0 a0) :: T3, (10027, ⟨1, 1, false, some (.sl 1 (List.map encRep v25.fReps))⟩) :: (27, ⟨1, 1, false, some (.sl 1 (List.map encInt v25.fMarks))⟩) :: B3⟩ (impl_copyAcct_spec a0 v25 hv26) ?_
     refine ro9 2 2 2 ⟨(6, .ptr 6 1 0) :: (27, .agg [zI v25.fHave, zI v25.fState, zI v25.fBy, .view 27 1 [] 0, .view 10027 1 [] 0]) :: (26, encAcct0 a0) :: T3, (6, ⟨1, 2, true, some (encAcct1 v25)⟩) :: (10027, ⟨1, 2, false, some (.junk)⟩) :: (27, ⟨1, 2, false, some (.junk)⟩) :: (6, ⟨1, 1, true, some (.agg [zI 0, zI 0, zI 0, .sl 1 (List.map encInt []), .sl 1 (List.map encRep [])])⟩) :: (10027, ⟨1, 1, false, some (.sl 1 (List.map encRep v25.fReps))⟩) :: (27, ⟨1, 1, false, some (.sl 1 (List.map encInt v25.fMarks))⟩) :: B3⟩ ?_
     let T5 : List (Nat × X) := [(6, .ptr 6 0 0), (1, zI a1), (2, .ptr 2 0 0), (4, .ptr 4 0 0)]
     let B5 : List (Nat × Bx) := [(6, ⟨0, 0, true, some (encAcct1 v25)⟩), (2, ⟨0, 0, true, some (encAcct0 a0)⟩), (4, ⟨0, 0, true, some (.agg [zI 0, zI 0, zI 0, .sl 1 (List.map encInt []), .sl 1 (List.map encRep [])])⟩)]
     refine wkr [6, 1, 2, 4] [(6, 6, false), (2, 2, false), (4, 4, false)] ⟨T5, B5⟩ ?_
     refine sqr cv hn ?_
     refine ro9 0 2 2 ⟨(8, .sc (.slice none 0 0)) :: (7, .sc (.slice none 0 0)) :: T5, B5⟩ ?_
     refine runs_seq ?_
     refine sqr cv hn ?_
     refine ro9 0 4 4 ⟨(31, zI 0) :: (30, zI (a0.fMarks.length : Int)) :: (29, .sl 0 (List.map encInt a0.fMarks)) :: (28, .ptr 2 0 3) :: (8, .sc (.slice none 0 0)) :: (7, .sc (.slice none 0 0)) :: T5, B5⟩ ?_ (he := by rw [show (a0.fMarks.length : Int) = ((List.map encInt a0.fMarks).length : Int) from by rw [List.length_map]]; kernel_rfl)
     refine runs_block ?_
     refine runs_loopM (σ := List Int × Nat × (List Int) × (List Int)) (fun s => ⟨[(31, zI (s.2.1 : Int)), (30, zI (a0.fMarks.length : Int)), (29, .sl 0 (List.map encInt a0.fMarks)), (8, .view 5000008 0 [] 0), (7, .view 5000007 0 [] 0), (6, .ptr 6 0 0), (1, zI a1), (4, .ptr 4 0 0)], [(5000008, ⟨0, 0, false, some (.sl 1 (List.map encInt s.2.2.1))⟩), (5000007, ⟨0, 0, false, some (.sl 1 (List.map encInt s.2.2.2))⟩), (6, ⟨0, 0, true, some (encAcct1 v25)⟩), (4, ⟨0, 0, true, some (.agg [zI 0, zI 0, zI 0, .sl 1 (List.map encInt []), .sl 1 (List.map encRep [])])⟩)]⟩) (fun s => s.1 = List.drop s.2.1 a0.fMarks ∧ impl_AcctMark_l2 a1 v25 s.1 s.2.1 s.2.2.1 s.2.2.2 = some v0) (fun s => s.1.length) (a0.fMarks, 0, [], []) ⟨rfl, h⟩ ((Wk.nil (s2 := ⟨[(8, .view 6000008 1 [] 0), (31, zI 0), (30, zI (a0.fMarks.length : Int)), (29, .sl 0 (List.map encInt a0.fMarks)), (28, .ptr 2 0 3), (8, .sc (.slice none 0 0)), (7, .sc (.slice none 0 0)), (6, .ptr 6 0 0), (1, zI a1), (2, .ptr 2 0 0), (4, .ptr 4 0 0)], [(6000008, ⟨1, 1, false, some (.sl 1 [])⟩), (6, ⟨0, 0, true, some (encAcct1 v25)⟩), (2, ⟨0, 0, true, some (encAcct0 a0)⟩), (4, ⟨0, 0, true, some (.agg [zI 0, zI 0, zI 0, .sl 1 [], .sl 1 (List.map encRep [])])⟩)]⟩) 8 6000008 (by kernel_rfl)).trans <| (Wk.nil (s2 := ⟨[(7, .view 6000007 1 [] 0), (8, .view 6000008 1 [] 0), (31, zI 0), (30, zI (a0.fMarks.length : Int)), (29, .sl 0 (List.map encInt a0.fMarks)), (28, .ptr 2 0 3), (8, .sc (.slice none 0 0)), (7, .sc (.slice none 0 0)), (6, .ptr 6 0 0), (1, zI a1), (2, .ptr 2 0 0), (4, .ptr 4 0 0)], [(6000007, ⟨1, 1, false, some (.sl 1 [])⟩), (6000008, ⟨1, 1, false, some (.sl 1 [])⟩), (6, ⟨0, 0, true, some (encAcct1 v25)⟩), (2, ⟨0, 0, true, some (encAcct0 a0)⟩), (4, ⟨0, 0, true, some (.agg [zI 0, zI 0, zI 0, .sl 1 [], .sl 1 (List.map encRep [])])⟩)]⟩) 7 6000007 (by kernel_rfl)).trans <| wre [31, 30, 29, 8, 7, 6, 1, 4] [(5000008, 6000008, false), (5000007, 6000007, false), (6, 6, false), (4, 4, false)]) ?_
     rintro ⟨t2, i2, y70, y71⟩ ⟨hd2, h⟩
     refine seq0 ⟨[(31, zI (i2 : Int)), (30, zI (a0.fMarks.length : Int)), (29, .sl 0 (List.map encInt a0.fMarks)), (8, .view 5000008 0 [] 0), (7, .view 5000007 0 [] 0), (6, .ptr 6 0 0), (1, zI a1), (4, .ptr 4 0 0)], [(5000008, ⟨0, 0, false, some (.sl 1 (List.map encInt y70))⟩), (5000007, ⟨0, 0, false, some (.sl 1 (List.map encInt y71))⟩), (6, ⟨0, 0, true, some (encAcct1 v25)⟩), (4, ⟨0, 0, true, some (.agg [zI 0, zI 0, zI 0, .sl 1 (List.map encInt []), .sl 1 (List.map encRep [])])⟩)]⟩ ?_
     refine runs_len 29 (es := List.map encInt a0.fMarks) (by kernel_rfl) fun hl2 => ?_
     replace hl2 := len_of_map hl2
     cases t2 with
     | nil =>
       rw [impl_AcctMark_l2] at h
       have hLn2 := dnil hd2
       refine sqr cv hn ?_
       refine ro9 0 1 1 ⟨[(32, zB (decide ((i2 : Int) < (a0.fMarks.length : Int)))), (31, zI (i2 : Int)), (30, zI (a0.fMarks.length : Int)), (29, .sl 0 (List.map encInt a0.fMarks)), (8, .view 5000008 0 [] 0), (7, .view 5000007 0 [] 0), (6, .ptr 6 0 0), (1, zI a1), (4, .ptr 4 0 0)], [(5000008, ⟨0, 0, false, some (.sl 1 (List.map encInt y70))⟩), (5000007, ⟨0, 0, false, some (.sl 1 (List.map encInt y71))⟩), (6, ⟨0, 0, true, some (encAcct1 v25)⟩), (4, ⟨0, 0, true, some (.agg [zI 0, zI 0, zI 0, .sl 1 (List.map encInt []), .sl 1 (List.map encRep [])])⟩)]⟩ ?_
       refine runs_seq ?_
       refine cf hLn2 ?_
       refine runs_exit ?_
       repeat refine thenX_exit ?_
       refine block_here ?_
       refine sqr cv hn ?_
       refine ro 0 2 2 ⟨[(48, zI a1), (47, .view 5000007 0 [] 0), (32, zB (decide ((i2 : Int) < (a0.fMarks.length : Int)))), (31, zI (i2 : Int)), (30, zI (a0.fMarks.length : Int)), (29, .sl 0 (List.map encInt a0.fMarks)), (8, .view 5000008 0 [] 0), (7, .view 5000007 0 [] 0), (6, .ptr 6 0 0), (1, zI a1), (4, .ptr 4 0 0)], [(5000008, ⟨0, 0, false, some (.sl 1 (List.map encInt y70))⟩), (5000007, ⟨0, 0, false, some (.sl 1 (List.map encInt y71))⟩), (6, ⟨0, 0, true, some (encAcct1 v25)⟩), (4, ⟨0, 0, true, some (.agg [zI 0, zI 0, zI 0, .sl 1 (List.map encInt []), .sl 1 (List.map encRep [])])⟩)]⟩ ?_
       refine rs 2 ⟨[(49, .view 49 1 [] 0), (48, zI a1), (47, .view 5000007 0 [] 0), (32, zB (decide ((i2 : Int) < (a0.fMarks.length : Int)))), (31, zI (i2 : Int)), (30, zI (a0.fMarks.length : Int)), (29, .sl 0 (List.map encInt a0.fMarks)), (8, .view 5000008 0 [] 0), (7, .view 5000007 0 [] 0), (6, .ptr 6 0 0), (1, zI a1), (4, .ptr 4 0 0)], [(49, ⟨1, 1, false, some (.sl 1 (List.map encInt [a1]))⟩), (5000008, ⟨0, 0, false, some (.sl 1 (List.map encInt y70))⟩), (5000007, ⟨0, 0, false, some (.sl 1 (List.map encInt y71))⟩), (6, ⟨0, 0, true, some (encAcct1 v25)⟩), (4, ⟨0, 0, true, some (.agg [zI 0, zI 0, zI 0, .sl 1 (List.map encInt []), .sl 1 (List.map encRep [])])⟩)]⟩ [∀ y ∈ (List.map encInt [a1] : List X), (X.cells y).length = tSize Try.prog 3] ⟨fmap fun _ => by kernel_rfl, trivial⟩ ?_
       obtain ⟨hg84, h⟩ := gO_some h
       refine rs 3 ⟨[(50, .view 50 1 [] 0), (49, .view 49 1 [] 0), (48, zI a1), (47, .view 5000007 0 [] 0), (32, zB (decide ((i2 : Int) < (a0.fMarks.length : Int)))), (31, zI (i2 : Int)), (30, zI (a0.fMarks.length : Int)), (29, .sl 0 (List.map encInt a0.fMarks)), (8, .view 5000008 0 [] 0), (7, .view 5000007 0 [] 0), (6, .ptr 6 0 0), (1, zI a1), (4, .ptr 4 0 0)], [(50, ⟨1, 1, false, some (.sl 1 (List.map encInt (y71 ++ [a1])))⟩), (5000007, ⟨0, 1, false, some (.junk)⟩), (49, ⟨1, 1, false, some (.sl 1 (List.map encInt [a1]))⟩), (5000008, ⟨0, 0, false, some (.sl 1 (List.map encInt y70))⟩), (5000007, ⟨0, 0, false, some (.sl 1 (List.map encInt y71))⟩), (6, ⟨0, 0, true, some (encAcct1 v25)⟩), (4, ⟨0, 0, true, some (.agg [zI 0, zI 0, zI 0, .sl 1 (List.map encInt []), .sl 1 (List.map encRep [])])⟩)]⟩ [((List.map encInt y71 : List X).length + (List.map encInt [a1] : List X).length) * tBytes Try.prog 3 ≤ 140737488355328 ∧ (List.map encInt y71 : List X).length + (List.map encInt [a1] : List X).length ≤ 140737488355328 ∧ (∀ y ∈ (List.map encInt y71 : List X), (X.cells y).length = tSize Try.prog 3) ∧ ∀ y ∈ (List.map encInt [a1] : List X), (X.cells y).length = tSize Try.prog 3] ⟨⟨(app_side (b := 8) (b2 := tBytes Try.prog 3) (f := encInt) (A := y71) (B := [a1]) (by kernel_rfl) hg84).1, (app_side (b := 8) (b2 := 8) (f := encInt) (A := y71) (B := [a1]) rfl hg84).2, fmap fun _ => by kernel_rfl, fmap fun _ => by kernel_rfl⟩, trivial⟩ ?_ (he := by rw [show List.map encInt (y71 ++ [a1]) = List.map encInt y71 ++ List.map encInt [a1] from List.map_append]; kernel_rfl)
       refine ro 4 1 1 ⟨[(51, .view 5000008 0 [] 0), (50, .view 50 1 [] 0), (49, .view 49 1 [] 0), (48, zI a1), (47, .view 5000007 0 [] 0), (32, zB (decide ((i2 : Int) < (a0.fMarks.length : Int)))), (31, zI (i2 : Int)), (30, zI (a0.fMarks.length : Int)), (29, .sl 0 (List.map encInt a0.fMarks)), (8, .view 5000008 0 [] 0), (7, .view 5000007 0 [] 0), (6, .ptr 6 0 0), (1, zI a1), (4, .ptr 4 0 0)], [(50, ⟨1, 1, false, some (.sl 1 (List.map encInt (y71 ++ [a1])))⟩), (5000007, ⟨0, 1, false, some (.junk)⟩), (49, ⟨1, 1, false, some (.sl 1 (List.map encInt [a1]))⟩), (5000008, ⟨0, 0, false, some (.sl 1 (List.map encInt y70))⟩), (5000007, ⟨0, 0, false, some (.sl 1 (List.map encInt y71))⟩), (6, ⟨0, 0, true, some (encAcct1 v25)⟩), (4, ⟨0, 0, true, some (.agg [zI 0, zI 0, zI 0, .sl 1 (List.map encInt []), .sl 1 (List.map encRep [])])⟩)]⟩ ?_
       obtain ⟨hg85, h⟩ := gO_some h
       refine ra 5 (.junk : X) (.junk : X) ⟨[(52, .view 52 1 [] 0), (51, .view 5000008 0 [] 0), (50, .view 50 1 [] 0), (49, .view 49 1 [] 0), (48, zI a1), (47, .view 5000007 0 [] 0), (32, zB (decide ((i2 : Int) < (a0.fMarks.length : Int)))), (31, zI (i2 : Int)), (30, zI (a0.fMarks.length : Int)), (29, .sl 0 (List.map encInt a0.fMarks)), (8, .view 5000008 0 [] 0), (7, .view 5000007 0 [] 0), (6, .ptr 6 0 0), (1, zI a1), (4, .ptr 4 0 0)], [(52, ⟨1, 1, false, some (.sl 1 (List.map encInt ((y71 ++ [a1]) ++ y70)))⟩), (50, ⟨1, 2, false, some (.junk)⟩), (50, ⟨1, 1, false, some (.sl 1 (List.map encInt (y71 ++ [a1])))⟩), (5000007, ⟨0, 1, false, some (.junk)⟩), (49, ⟨1, 1, false, some (.sl 1 (List.map encInt [a1]))⟩), (5000008, ⟨0, 0, false, some (.sl 1 (List.map encInt y70))⟩), (5000007, ⟨0, 0, false, some (.sl 1 (List.map encInt y71))⟩), (6, ⟨0, 0, true, some (encAcct1 v25)⟩), (4, ⟨0, 0, true, some (.agg [zI 0, zI 0, zI 0, .sl 1 (List.map encInt []), .sl 1 (List.map encRep [])])⟩)]⟩ [List.all (List.map encInt y70) X.plain = true, ((List.map encInt (y71 ++ [a1]) : List X).length + (List.map encInt y70 : List X).length) * tBytes Try.prog 3 ≤ 140737488355328 ∧ (List.map encInt (y71 ++ [a1]) : List X).length + (List.map encInt y70 : List X).length ≤ 140737488355328 ∧ (∀ y ∈ (List.map encInt (y71 ++ [a1]) : List X), (X.cells y).length = tSize Try.prog 3) ∧ ∀ y ∈ (List.map encInt y70 : List X), (X.cells y).length = tSize Try.prog 3] ⟨pl_map pl_Int _, ⟨(app_side (b := 8) (b2 := tBytes Try.prog 3) (f := encInt) (A := y71 ++ [a1]) (B := y70) (by kernel_rfl) hg85).1, (app_side (b := 8) (b2 := 8) (f := encInt) (A := y71 ++ [a1]) (B := y70) rfl hg85).2, fmap fun _ => by kernel_rfl, fmap fun _ => by kernel_rfl⟩, trivial⟩ ?_ (he := by rw [show List.map encInt ((y71 ++ [a1]) ++ y70) = List.map encInt (y71 ++ [a1]) ++ List.map encInt y70 from List.map_append]; kernel_rfl)
       refine ro9 6 2 2 ⟨[(53, .ptr 6 0 3), (52, .view 52 1 [] 0), (51, .view 5000008 0 [] 0), (50, .view 50 1 [] 0), (49, .view 49 1 [] 0), (48, zI a1), (47, .view 5000007 0 [] 0), (32, zB (decide ((i2 : Int) < (a0.fMarks.length : Int)))), (31, zI (i2 : Int)), (30, zI (a0.fMarks.length : Int)), (29, .sl 0 (List.map encInt a0.fMarks)), (8, .view 5000008 0 [] 0), (7, .view 5000007 0 [] 0), (6, .ptr 6 0 0), (1, zI a1), (4, .ptr 4 0 0)], [(6, ⟨0, 1, true, some (.agg [zI v25.fHave, zI v25.fState, zI v25.fBy, .sl 1 (List.map encInt ((y71 ++ [a1]) ++ y70)), .sl 1 (List.map encRep v25.fReps)])⟩), (52, ⟨1, 2, false, some (.junk)⟩), (52, ⟨1, 1, false, some (.sl 1 (List.map encInt ((y71 ++ [a1]) ++ y70)))⟩), (50, ⟨1, 2, false, some (.junk)⟩), (50, ⟨1, 1, false, some (.sl 1 (List.map encInt (y71 ++ [a1])))⟩), (5000007, ⟨0, 1, false, some (.junk)⟩), (49, ⟨1, 1, false, some (.sl 1 (List.map encInt [a1]))⟩), (5000008, ⟨0, 0, false, some (.sl 1 (List.map encInt y70))⟩), (5000007, ⟨0, 0, false, some (.sl 1 (List.map encInt y71))⟩), (6, ⟨0, 0, true, some (encAcct1 v25)⟩), (4, ⟨0, 0, true, some (.agg [zI 0, zI 0, zI 0, .sl 1 (List.map encInt []), .sl 1 (List.map encRep [])])⟩)]⟩ ?_
       let T12 : List (Nat × X) := [(6, .ptr 6 0 0), (4, .ptr 4 0 0)]
       let B12 : List (Nat × Bx) := [(6, ⟨0, 0, true, some (.agg [zI v25.fHave, zI v25.fState, zI v25.fBy, .sl 1 (List.map encInt ((y71 ++ [a1]) ++ y70)), .sl 1 (List.map encRep v25.fReps)])⟩), (4, ⟨0, 0, true, some (.agg [zI 0, zI 0, zI 0, .sl 1 (List.map encInt []), .sl 1 (List.map encRep [])])⟩)]
       refine wkr [6, 4] [(6, 6, false), (4, 4, false)] ⟨T12, B12⟩ ?_
       refine sqr cv hn ?_
       refine ro9 0 3 3 ⟨(5, zB true) :: (54, .agg [zI v25.fHave, zI v25.fState, zI v25.fBy, .view 6 0 [] 3, .view 6 0 [] 4]) :: T12, (4, ⟨0, 1, true, some (.agg [zI v25.fHave, zI v25.fState, zI v25.fBy, .sl 1 (List.map encInt ((y71 ++ [a1]) ++ y70)), .sl 1 (List.map encRep v25.fReps)])⟩) :: (6, ⟨0, 2, true, some (.agg [zI v25.fHave, zI v25.fState, zI v25.fBy, .junk, .junk])⟩) :: (6, ⟨0, 1, true, some (.agg [zI v25.fHave, zI v25.fState, zI v25.fBy, .junk, .sl 1 (List.map encRep v25.fReps)])⟩) :: B12⟩ ?_
       refine runs_ret ?_
       exact fin _ _ h (by kernel_rfl)
     | cons x20 t2 =>
       rw [impl_AcctMark_l2] at h
       have hLc2 := dcons hd2
       have hx20 := dget hd2
       have hi2 := dinc hd2 hl2
       refine sqr cv hn ?_
       refine ro9 0 1 1 ⟨[(32, zB (decide ((i2 : Int) < (a0.fMarks.length : Int)))), (31, zI (i2 : Int)), (30, zI (a0.fMarks.length : Int)), (29, .sl 0 (List.map encInt a0.fMarks)), (8, .view 5000008 0 [] 0), (7, .view 5000007 0 [] 0), (6, .ptr 6 0 0), (1, zI a1), (4, .ptr 4 0 0)], [(5000008, ⟨0, 0, false, some (.sl 1 (List.map encInt y70))⟩), (5000007, ⟨0, 0, false, some (.sl 1 (List.map encInt y71))⟩), (6, ⟨0, 0, true, some (encAcct1 v25)⟩), (4, ⟨0, 0, true, some (.agg [zI 0, zI 0, zI 0, .sl 1 (List.map encInt []), .sl 1 (List.map encRep [])])⟩)]⟩ ?_
       refine runs_seq ?_
       refine ct hLc2 ?_
       refine runs_skip ?_
       refine runs_seq ?_
       refine runs_block ?_
       refine sqr cv hn ?_
       refine rix 0 encInt 3 hx20 (ix_nn hx20) ⟨[(33, .rp (zI x20) 0), (32, zB (decide ((i2 : Int) < (a0.fMarks.length : Int)))), (31, zI (i2 : Int)), (30, zI (a0.fMarks.length : Int)), (29, .sl 0 (List.map encInt a0.fMarks)), (8, .view 5000008 0 [] 0), (7, .view 5000007 0 [] 0), (6, .ptr 6 0 0), (1, zI a1), (4, .ptr 4 0 0)], [(5000008, ⟨0, 0, false, some (.sl 1 (List.map encInt y70))⟩), (5000007, ⟨0, 0, false, some (.sl 1 (List.map encInt y71))⟩), (6, ⟨0, 0, true, some (encAcct1 v25)⟩), (4, ⟨0, 0, true, some (.agg [zI 0, zI 0, zI 0, .sl 1 (List.map encInt []), .sl 1 (List.map encRep [])])⟩)]⟩ ?_
       refine ro9 1 2 2 ⟨[(10, zI x20), (34, zI x20), (33, .rp (zI x20) 0), (32, zB (decide ((i2 : Int) < (a0.fMarks.length : Int)))), (31, zI (i2 : Int)), (30, zI (a0.fMarks.length : Int)), (29, .sl 0 (List.map encInt a0.fMarks)), (8, .view 5000008 0 [] 0), (7, .view 5000007 0 [] 0), (6, .ptr 6 0 0), (1, zI a1), (4, .ptr 4 0 0)], [(5000008, ⟨0, 0, false, some (.sl 1 (List.map encInt y70))⟩), (5000007, ⟨0, 0, false, some (.sl 1 (List.map encInt y71))⟩), (6, ⟨0, 0, true, some (encAcct1 v25)⟩), (4, ⟨0, 0, true, some (.agg [zI 0, zI 0, zI 0, .sl 1 (List.map encInt []), .sl 1 (List.map encRep [])])⟩)]⟩ ?_
       refine sqr cv hn ?_
       refine ro9 0 3 3 ⟨[(37, zB (decide (x20 < a1))), (36, zI a1), (35, zI x20), (10, zI x20), (34, zI x20), (33, .rp (zI x20) 0), (32, zB (decide ((i2 : Int) < (a0.fMarks.length : Int)))), (31, zI (i2 : Int)), (30, zI (a0.fMarks.length : Int)), (29, .sl 0 (List.map encInt a0.fMarks)), (8, .view 5000008 0 [] 0), (7, .view 5000007 0 [] 0), (6, .ptr 6 0 0), (1, zI a1), (4, .ptr 4 0 0)], [(5000008, ⟨0, 0, false, some (.sl 1 (List.map encInt y70))⟩), (5000007, ⟨0, 0, false, some (.sl 1 (List.map encInt y71))⟩), (6, ⟨0, 0, true, some (encAcct1 v25)⟩), (4, ⟨0, 0, true, some (.agg [zI 0, zI 0, zI 0, .sl 1 (List.map encInt []), .sl 1 (List.map encRep [])])⟩)]⟩ ?_
       rcases dich (decide (x20 < a1)) with hb86 | hb86
       · replace h := cond_t hb86 h
         refine ct hb86 ?_
         refine rg cv hn ?_
         refine ro 0 2 2 ⟨[(39, zI x20), (38, .view 5000007 0 [] 0), (37, zB (decide (x20 < a1))), (36, zI a1), (35, zI x20), (10, zI x20), (34, zI x20), (33, .rp (zI x20) 0), (32, zB (decide ((i2 : Int) < (a0.fMarks.length : Int)))), (31, zI (i2 : Int)), (30, zI (a0.fMarks.length : Int)), (29, .sl 0 (List.map encInt a0.fMarks)), (8, .view 5000008 0 [] 0), (7, .view 5000007 0 [] 0), (6, .ptr 6 0 0), (1, zI a1), (4, .ptr 4 0 0)], [(5000008, ⟨0, 0, false, some (.sl 1 (List.map encInt y70))⟩), (5000007, ⟨0, 0, false, some (.sl 1 (List.map encInt y71))⟩), (6, ⟨0, 0, true, some (encAcct1 v25)⟩), (4, ⟨0, 0, true, some (.agg [zI 0, zI 0, zI 0, .sl 1 (List.map encInt []), .sl 1 (List.map encRep [])])⟩)]⟩ ?_
         refine rs 2 ⟨[(40, .view 40 1 [] 0), (39, zI x20), (38, .view 5000007 0 [] 0), (37, zB (decide (x20 < a1))), (36, zI a1), (35, zI x20), (10, zI x20), (34, zI x20), (33, .rp (zI x20) 0), (32, zB (decide ((i2 : Int) < (a0.fMarks.length : Int)))), (31, zI (i2 : Int)), (30, zI (a0.fMarks.length : Int)), (29, .sl 0 (List.map encInt a0.fMarks)), (8, .view 5000008 0 [] 0), (7, .view 5000007 0 [] 0), (6, .ptr 6 0 0), (1, zI a1), (4, .ptr 4 0 0)], [(40, ⟨1, 1, false, some (.sl 1 (List.map encInt [x20]))⟩), (5000008, ⟨0, 0, false, some (.sl 1 (List.map encInt y70))⟩), (5000007, ⟨0, 0, false, some (.sl 1 (List.map encInt y71))⟩), (6, ⟨0, 0, true, some (encAcct1 v25)⟩), (4, ⟨0, 0, true, some (.agg [zI 0, zI 0, zI 0, .sl 1 (List.map encInt []), .sl 1 (List.map encRep [])])⟩)]⟩ [∀ y ∈ (List.map encInt [x20] : List X), (X.cells y).length = tSize Try.prog 3] ⟨fmap fun _ => by kernel_rfl, trivial⟩ ?_
         obtain ⟨hg87, h⟩ := gO_some h
         refine rs 3 ⟨[(41, .view 41 1 [] 0), (40, .view 40 1 [] 0), (39, zI x20), (38, .view 5000007 0 [] 0), (37, zB (decide (x20 < a1))), (36, zI a1), (35, zI x20), (10, zI x20), (34, zI x20), (33, .rp (zI x20) 0), (32, zB (decide ((i2 : Int) < (a0.fMarks.length : Int)))), (31, zI (i2 : Int)), (30, zI (a0.fMarks.length : Int)), (29, .sl 0 (List.map encInt a0.fMarks)), (8, .view 5000008 0 [] 0), (7, .view 5000007 0 [] 0), (6, .ptr 6 0 0), (1, zI a1), (4, .ptr 4 0 0)], [(41, ⟨1, 1, false, some (.sl 1 (List.map encInt (y71 ++ [x20])))⟩), (5000007, ⟨0, 1, false, some (.junk)⟩), (40, ⟨1, 1, false, some (.sl 1 (List.map encInt [x20]))⟩), (5000008, ⟨0, 0, false, some (.sl 1 (List.map encInt y70))⟩), (5000007, ⟨0, 0, false, some (.sl 1 (List.map encInt y71))⟩), (6, ⟨0, 0, true, some (encAcct1 v25)⟩), (4, ⟨0, 0, true, some (.agg [zI 0, zI 0, zI 0, .sl 1 (List.map encInt []), .sl 1 (List.map encRep [])])⟩)]⟩ [((List.map encInt y71 : List X).length + (List.map encInt [x20] : List X).length) * tBytes Try.prog 3 ≤ 140737488355328 ∧ (List.map encInt y71 : List X).length + (List.map encInt [x20] : List X).length ≤ 140737488355328 ∧ (∀ y ∈ (List.map encInt y71 : List X), (X.cells y).length = tSize Try.prog 3) ∧ ∀ y ∈ (List.map encInt [x20] : List X), (X.cells y).length = tSize Try.prog 3] ⟨⟨(app_side (b := 8) (b2 := tBytes Try.prog 3) (f := encInt) (A := y71) (B := [x20]) (by kernel_rfl) hg87).1, (app_side (b := 8) (b2 := 8) (f := encInt) (A := y71) (B := [x20]) rfl hg87).2, fmap fun _ => by kernel_rfl, fmap fun _ => by kernel_rfl⟩, trivial⟩ ?_ (he := by rw [show List.map encInt (y71 ++ [x20]) = List.map encInt y71 ++ List.map encInt [x20] from List.map_append]; kernel_rfl)
         refine ro9 4 1 1 ⟨[(7, .view 41 1 [] 0), (41, .view 41 1 [] 0), (40, .view 40 1 [] 0), (39, zI x20), (38, .view 5000007 0 [] 0), (37, zB (decide (x20 < a1))), (36, zI a1), (35, zI x20), (10, zI x20), (34, zI x20), (33, .rp (zI x20) 0), (32, zB (decide ((i2 : Int) < (a0.fMarks.length : Int)))), (31, zI (i2 : Int)), (30, zI (a0.fMarks.length : Int)), (29, .sl 0 (List.map encInt a0.fMarks)), (8, .view 5000008 0 [] 0), (7, .view 5000007 0 [] 0), (6, .ptr 6 0 0), (1, zI a1), (4, .ptr 4 0 0)], [(41, ⟨1, 1, false, some (.sl 1 (List.map encInt (y71 ++ [x20])))⟩), (5000007, ⟨0, 1, false, some (.junk)⟩), (40, ⟨1, 1, false, some (.sl 1 (List.map encInt [x20]))⟩), (5000008, ⟨0, 0, false, some (.sl 1 (List.map encInt y70))⟩), (5000007, ⟨0, 0, false, some (.sl 1 (List.map encInt y71))⟩), (6, ⟨0, 0, true, some (encAcct1 v25)⟩), (4, ⟨0, 0, true, some (.agg [zI 0, zI 0, zI 0, .sl 1 (List.map encInt []), .sl 1 (List.map encRep [])])⟩)]⟩ ?_
         let T13 : List (Nat × X) := [(7, .view 5000007 0 [] 0), (41, .view 5000007 0 [] 0), (40, .view 5000040 0 [] 0), (39, zI x20), (37, zB (decide (x20 < a1))), (36, zI a1), (35, zI x20), (10, zI x20), (34, zI x20), (33, .rp (zI x20) 0), (32, zB (decide ((i2 : Int) < (a0.fMarks.length : Int)))), (31, zI (i2 : Int)), (30, zI (a0.fMarks.length : Int)), (29, .sl 0 (List.map encInt a0.fMarks)), (8, .view 5000008 0 [] 0), (6, .ptr 6 0 0), (1, zI a1), (4, .ptr 4 0 0)]
         let B13 : List (Nat × Bx) := [(5000007, ⟨0, 0, false, some (.sl 1 (List.map encInt (y71 ++ [x20])))⟩), (5000040, ⟨0, 0, false, some (.sl 1 (List.map encInt [x20]))⟩), (5000008, ⟨0, 0, false, some (.sl 1 (List.map encInt y70))⟩), (6, ⟨0, 0, true, some (encAcct1 v25)⟩), (4, ⟨0, 0, true, some (.agg [zI 0, zI 0, zI 0, .sl 1 (List.map encInt []), .sl 1 (List.map encRep [])])⟩)]
         refine wkr [7, 41, 40, 39, 37, 36, 35, 10, 34, 33, 32, 31, 30, 29, 8, 6, 1, 4] [(5000007, 41, false), (5000040, 40, false), (5000008, 5000008, false), (6, 6, false), (4, 4, false)] ⟨T13, B13⟩ ?_
         refine rg cv hn ?_
         refine ro9 0 2 2 ⟨(31, zI ((i2 + 1 : Nat) : Int)) :: (46, zI ((i2 + 1 : Nat) : Int)) :: T13, B13⟩ ?_ (he := by rw [← hi2]; kernel_rfl)
         exact ⟨(t2, i2 + 1, y70, y71 ++ [x20]), Nat.lt_succ_self _, ⟨dnext hd2, h⟩, wre [31, 30, 29, 8, 7, 6, 1, 4] [(5000008, 5000008, false), (5000007, 5000007, false), (6, 6, false), (4, 4, false)]⟩
       · replace h := cond_f hb86 h
         refine cf hb86 ?_
         refine rg cv hn ?_
         refine ro 0 2 2 ⟨[(43, zI x20), (42, .view 5000008 0 [] 0), (37, zB (decide (x20 < a1))), (36, zI a1), (35, zI x20), (10, zI x20), (34, zI x20), (33, .rp (zI x20) 0), (32, zB (decide ((i2 : Int) < (a0.fMarks.length : Int)))), (31, zI (i2 : Int)), (30, zI (a0.fMarks.length : Int)), (29, .sl 0 (List.map encInt a0.fMarks)), (8, .view 5000008 0 [] 0), (7, .view 5000007 0 [] 0), (6, .ptr 6 0 0), (1, zI a1), (4, .ptr 4 0 0)], [(5000008, ⟨0, 0, false, some (.sl 1 (List.map encInt y70))⟩), (5000007, ⟨0, 0, false, some (.sl 1 (List.map encInt y71))⟩), (6, ⟨0, 0, true, some (encAcct1 v25)⟩), (4, ⟨0, 0, true, some (.agg [zI 0, zI 0, zI 0, .sl 1 (List.map encInt []), .sl 1 (List.map encRep [])])⟩)]⟩ ?_
         refine rs 2 ⟨[(44, .view 44 1 [] 0), (43, zI x20), (42, .view 5000008 0 [] 0), (37, zB (decide (x20 < a1))), (36, zI a1), (35, zI x20), (10, zI x20), (34, zI x20), (33, .rp (zI x20) 0), (32, zB (decide ((i2 : Int) < (a0.fMarks.length : Int)))), (31, zI (i2 : Int)), (30, zI (a0.fMarks.length : Int)), (29, .sl 0 (List.map encInt a0.fMarks)), (8, .view 5000008 0 [] 0), (7, .view 5000007 0 [] 0), (6, .ptr 6 0 0), (1, zI a1), (4, .ptr 4 0 0)], [(44, ⟨1, 1, false, some (.sl 1 (List.map encInt [x20]))⟩), (5000008, ⟨0, 0, false, some (.sl 1 (List.map encInt y70))⟩), (5000007, ⟨0, 0, false, some (.sl 1 (List.map encInt y71))⟩), (6, ⟨0, 0, true, some (encAcct1 v25)⟩), (4, ⟨0, 0, true, some (.agg [zI 0, zI 0, zI 0, .sl 1 (List.map encInt []), .sl 1 (List.map encRep [])])⟩)]⟩ [∀ y ∈ (List.map encInt [x20] : List X), (X.cells y).length = tSize Try.prog 3] ⟨fmap fun _ => by kernel_rfl, trivial⟩ ?_
         obtain ⟨hg88, h⟩ := gO_some h
         refine rs 3 ⟨[(45, .view 45 1 [] 0), (44, .view 44 1 [] 0), (43, zI x20), (42, .view 5000008 0 [] 0), (37, zB (decide (x20 < a1))), (36, zI a1), (35, zI x20), (10, zI x20), (34, zI x20), (33, .rp (zI x20) 0), (32, zB (decide ((i2 : Int) < (a0.fMarks.length : Int)))), (31, zI (i2 : Int)), (30, zI (a0.fMarks.length : Int)), (29, .sl 0 (List.map encInt a0.fMarks)), (8, .view 5000008 0 [] 0), (7, .view 5000007 0 [] 0), (6, .ptr 6 0 0), (1, zI a1), (4, .ptr 4 0 0)], [(45, ⟨1, 1, false, some (.sl 1 (List.map encInt (y70 ++ [x20])))⟩), (5000008, ⟨0, 1, false, some (.junk)⟩), (44, ⟨1, 1, false, some (.sl 1 (List.map encInt [x20]))⟩), (5000008, ⟨0, 0, false, some (.sl 1 (List.map encInt y70))⟩), (5000007, ⟨0, 0, false, some (.sl 1 (List.map encInt y71))⟩), (6, ⟨0, 0, true, some (encAcct1 v25)⟩), (4, ⟨0, 0, true, some (.agg [zI 0, zI 0, zI 0, .sl 1 (List.map encInt []), .sl 1 (List.map encRep [])])⟩)]⟩ [((List.map encInt y70 : List X).length + (List.map encInt [x20] : List X).length) * tBytes Try.prog 3 ≤ 140737488355328 ∧ (List.map encInt y70 : List X).length + (List.map encInt [x20] : List X).length ≤ 140737488355328 ∧ (∀ y ∈ (List.map encInt y70 : List X), (X.cells y).length = tSize Try.prog 3) ∧ ∀ y ∈ (List.map encInt [x20] : List X), (X.cells y).length = tSize Try.prog 3] ⟨⟨(app_side (b := 8) (b2 := tBytes Try.prog 3) (f := encInt) (A := y70) (B := [x20]) (by kernel_rfl) hg88).1, (app_side (b := 8) (b2 := 8) (f := encInt) (A := y70) (B := [x20]) rfl hg88).2, fmap fun _ => by kernel_rfl, fmap fun _ => by kernel_rfl⟩, trivial⟩ ?_ (he := by rw [show List.map encInt (y70 ++ [x20]) = List.map encInt y70 ++ List.map encInt [x20] from List.map_append]; kernel_rfl)
         refine ro9 4 1 1 ⟨[(8, .view 45 1 [] 0), (45, .view 45 1 [] 0), (44, .view 44 1 [] 0), (43, zI x20), (42, .view 5000008 0 [] 0), (37, zB (decide (x20 < a1))), (36, zI a1), (35, zI x20), (10, zI x20), (34, zI x20), (33, .rp (zI x20) 0), (32, zB (decide ((i2 : Int) < (a0.fMarks.length : Int)))), (31, zI (i2 : Int)), (30, zI (a0.fMarks.length : Int)), (29, .sl 0 (List.map encInt a0.fMarks)), (8, .view 5000008 0 [] 0), (7, .view 5000007 0 [] 0), (6, .ptr 6 0 0), (1, zI a1), (4, .ptr 4 0 0)], [(45, ⟨1, 1, false, some (.sl 1 (List.map encInt (y70 ++ [x20])))⟩), (5000008, ⟨0, 1, false, some (.junk)⟩), (44, ⟨1, 1, false, some (.sl 1 (List.map encInt [x20]))⟩), (5000008, ⟨0, 0, false, some (.sl 1 (List.map encInt y70))⟩), (5000007, ⟨0, 0, false, some (.sl 1 (List.map encInt y71))⟩), (6, ⟨0, 0, true, some (encAcct1 v25)⟩), (4, ⟨0, 0, true, some (.agg [zI 0, zI 0, zI 0, .sl 1 (List.map encInt []), .sl 1 (List.map encRep [])])⟩)]⟩ ?_
         let T14 : List (Nat × X) := [(8, .view 5000008 0 [] 0), (45, .view 5000008 0 [] 0), (44, .view 5000044 0 [] 0), (43, zI x20), (37, zB (decide (x20 < a1))), (36, zI a1), (35, zI x20), (10, zI x20), (34, zI x20), (33, .rp (zI x20) 0), (32, zB (decide ((i2 : Int) < (a0.fMarks.length : Int)))), (31, zI (i2 : Int)), (30, zI (a0.fMarks.length : Int)), (29, .sl 0 (List.map encInt a0.fMarks)), (7, .view 5000007 0 [] 0), (6, .ptr 6 0 0), (1, zI a1), (4, .ptr 4 0 0)]
         let B14 : List (Nat × Bx) := [(5000008, ⟨0, 0, false, some (.sl 1 (List.map encInt (y70 ++ [x20])))⟩), (5000044, ⟨0, 0, false, some (.sl 1 (List.map encInt [x20]))⟩), (5000007, ⟨0, 0, false, some (.sl 1 (List.map encInt y71))⟩), (6, ⟨0, 0, true, some (encAcct1 v25)⟩), (4, ⟨0, 0, true, some (.agg [zI 0, zI 0, zI 0, .sl 1 (List.map encInt []), .sl 1 (List.map encRep [])])⟩)]
         refine wkr [8, 45, 44, 43, 37, 36, 35, 10, 34, 33, 32, 31, 30, 29, 7, 6, 1, 4] [(5000008, 45, false), (5000044, 44, false), (5000007, 5000007, false), (6, 6, false), (4, 4, false)] ⟨T14, B14⟩ ?_
         refine rg cv hn ?_
         refine ro9 0 2 2 ⟨(31, zI ((i2 + 1 : Nat) : Int)) :: (46, zI ((i2 + 1 : Nat) : Int)) :: T14, B14⟩ ?_ (he := by rw [← hi2]; kernel_rfl)
         exact ⟨(t2, i2 + 1, y70 ++ [x20], y71), Nat.lt_succ_self _, ⟨dnext hd2, h⟩, wre [31, 30, 29, 8, 7, 6, 1, 4] [(5000008, 5000008, false), (5000007, 5000007, false), (6, 6, false), (4, 4, false)]⟩
 · skip
   refine rg cv hn ?_
   refine ro 0 4 4 ⟨[(14, zB (a0.fState == 0)), (13, zB (a0.fState == 0)), (12, zI a0.fState), (11, .ptr 2 1 1), (5, zB false), (4, .ptr 4 1 0), (2, .ptr 2 1 0), (0, encAcct0 a0), (1, zI a1)], [(4, ⟨1, 1, true, some (.agg [zI 0, zI 0, zI 0, .sl 1 (List.map encInt []), .sl 1 (List.map encRep [])])⟩), (2, ⟨1, 1, true, some (encAcct0 a0)⟩)]⟩ ?_
   rcases dich (a0.fState == 0) with hb89 | hb89
   · replace h := cond_t hb89 h
     refine rl 14 true hb89 ?_
     refine ro9 4 10 3 ⟨[(24, zB true), (23, .tup []), (22, .tup []), (21, .tup []), (20, .tup []), (19, zB true), (18, zB true), (17, .tup []), (16, .tup []), (15, .tup []), (14, zB true), (13, zB (a0.fState == 0)), (12, zI a0.fState), (11, .ptr 2 1 1), (5, zB false), (4, .ptr 4 1 0), (2, .ptr 2 1 0), (0, encAcct0 a0), (1, zI a1)], [(4, ⟨1, 1, true, some (.agg [zI 0, zI 0, zI 0, .sl 1 (List.map encInt []), .sl 1 (List.map encRep [])])⟩), (2, ⟨1, 1, true, some (encAcct0 a0)⟩)]⟩ ?_
     exact ⟨(true), h, wre [1, 2, 4, 24] [(2, 2, false), (4, 4, false)]⟩
   · replace h := cond_f hb89 h
     refine rl 14 false hb89 ?_
     refine ro 4 1 1 ⟨[(15, zI a1), (14, zB false), (13, zB (a0.fState == 0)), (12, zI a0.fState), (11, .ptr 2 1 1), (5, zB false), (4, .ptr 4 1 0), (2, .ptr 2 1 0), (0, encAcct0 a0), (1, zI a1)], [(4, ⟨1, 1, true, some (.agg [zI 0, zI 0, zI 0, .sl 1 (List.map encInt []), .sl 1 (List.map encRep [])])⟩), (2, ⟨1, 1, true, some (encAcct0 a0)⟩)]⟩ ?_
     obtain ⟨v90, hv91, h⟩ := bindO h
     refine rc 5 ⟨[(16, zB v90), (15, zI a1), (14, zB false), (13, zB (a0.fState == 0)), (12, zI a0.fState), (11, .ptr 2 1 1), (5, zB false), (4, .ptr 4 1 0), (2, .ptr 2 1 0), (0, encAcct0 a0), (1, zI a1)], [(4, ⟨1, 1, true, some (.agg [zI 0, zI 0, zI 0, .sl 1 (List.map encInt []), .sl 1 (List.map encRep [])])⟩), (2, ⟨1, 1, true, some (encAcct0 a0)⟩)]⟩ (impl_isNode_spec a1 v90 hv91) ?_
     refine ro 6 3 3 ⟨[(19, zB (!v90)), (18, zB (!v90)), (17, zB (!v90)), (16, zB v90), (15, zI a1), (14, zB false), (13, zB (a0.fState == 0)), (12, zI a0.fState), (11, .ptr 2 1 1), (5, zB false), (4, .ptr 4 1 0), (2, .ptr 2 1 0), (0, encAcct0 a0), (1, zI a1)], [(4, ⟨1, 1, true, some (.agg [zI 0, zI 0, zI 0, .sl 1 (List.map encInt []), .sl 1 (List.map encRep [])])⟩), (2, ⟨1, 1, true, some (encAcct0 a0)⟩)]⟩ ?_
     rcases dich (!v90) with hb92 | hb92
     · replace h := cond_t hb92 h
       refine rl 19 true hb92 ?_
       refine ro9 9 5 1 ⟨[(24, zB true), (23, .tup []), (22, .tup []), (21, .tup []), (20, .tup []), (19, zB true), (18, zB (!v90)), (17, zB (!v90)), (16, zB v90), (15, zI a1), (14, zB false), (13, zB (a0.fState == 0)), (12, zI a0.fState), (11, .ptr 2 1 1), (5, zB false), (4, .ptr 4 1 0), (2, .ptr 2 1 0), (0, encAcct0 a0), (1, zI a1)], [(4, ⟨1, 1, true, some (.agg [zI 0, zI 0, zI 0, .sl 1 (List.map encInt []), .sl 1 (List.map encRep [])])⟩), (2, ⟨1, 1, true, some (encAcct0 a0)⟩)]⟩ ?_
       exact ⟨(true), h, wre [1, 2, 4, 24] [(2, 2, false), (4, 4, false)]⟩
     · replace h := cond_f hb92 h
       refine rl 19 false hb92 ?_
       refine ro 9 3 3 ⟨[(22, zI a1), (21, .sl 0 (List.map encInt a0.fMarks)), (20, .ptr 2 1 3), (19, zB false), (18, zB (!v90)), (17, zB (!v90)), (16, zB v90), (15, zI a1), (14, zB false), (13, zB (a0.fState == 0)), (12, zI a0.fState), (11, .ptr 2 1 1), (5, zB false), (4, .ptr 4 1 0), (2, .ptr 2 1 0), (0, encAcct0 a0), (1, zI a1)], [(4, ⟨1, 1, true, some (.agg [zI 0, zI 0, zI 0, .sl 1 (List.map encInt []), .sl 1 (List.map encRep [])])⟩), (2, ⟨1, 1, true, some (encAcct0 a0)⟩)]⟩ ?_
       obtain ⟨v93, hv94, h⟩ := bindO h
       refine rc 12 ⟨[(23, zB v93), (22, zI a1), (21, .sl 0 (List.map encInt a0.fMarks)), (20, .ptr 2 1 3), (19, zB false), (18, zB (!v90)), (17, zB (!v90)), (16, zB v90), (15, zI a1), (14, zB false), (13, zB (a0.fState == 0)), (12, zI a0.fState), (11, .ptr 2 1 1), (5, zB false), (4, .ptr 4 1 0), (2, .ptr 2 1 0), (0, encAcct0 a0), (1, zI a1)], [(4, ⟨1, 1, true, some (.agg [zI 0, zI 0, zI 0, .sl 1 (List.map encInt []), .sl 1 (List.map encRep [])])⟩), (2, ⟨1, 1, true, some (encAcct0 a0)⟩)]⟩ (impl_hasInt_spec a0.fMarks a1 v93 hv94) ?_
       refine ro9 13 1 1 ⟨[(24, zB v93), (23, zB v93), (22, zI a1), (21, .sl 0 (List.map encInt a0.fMarks)), (20, .ptr 2 1 3), (19, zB false), (18, zB (!v90)), (17, zB (!v90)), (16, zB v90), (15, zI a1), (14, zB false), (13, zB (a0.fState == 0)), (12, zI a0.fState), (11, .ptr 2 1 1), (5, zB false), (4, .ptr 4 1 0), (2, .ptr 2 1 0), (0, encAcct0 a0), (1, zI a1)], [(4, ⟨1, 1, true, some (.agg [zI 0, zI 0, zI 0, .sl 1 (List.map encInt []), .sl 1 (List.map encRep [])])⟩), (2, ⟨1, 1, true, some (encAcct0 a0)⟩)]⟩ ?_
       exact ⟨(v93), h, wre [1, 2, 4, 24] [(2, 2, false), (4, 4, false)]⟩

set_option maxRecDepth 100000 in
set_option maxHeartbeats 2000000 in
theorem impl_nodesOk_spec (a0 : (List Int)) (a1 : Int) (v0 : Bool) (h : impl_nodesOk a0 a1 = some v0) : Ax.Spec Try.prog 74 none [.sl 0 (List.map encInt a0), zI a1] (zB v0 : X) (.junk : X) := by
 let T1 : List (Nat × X) := [(0, .sl 0 (List.map encInt a0)), (1, zI a1)]
 refine walk0 (fn := Try.f74) (fun q0 : Bool => (zB q0 : X)) (fun q0 : Bool => (.junk : X)) v0 ⟨T1, []⟩ Try.func74 rfl (by decide +kernel) fun Γ hn fin => ?_
 rw [impl_nodesOk] at h
 refine sqr cv hn ?_
 refine ro9 0 1 1 ⟨(4, zB false) :: T1, []⟩ ?_
 refine runs_seq ?_
 refine sqr cv hn ?_
 refine ro9 0 3 3 ⟨(9, zI 0) :: (8, zI (a0.length : Int)) :: (7, .sl 0 (List.map encInt a0)) :: (4, zB false) :: T1, []⟩ ?_ (he := by rw [show (a0.length : Int) = ((List.map encInt a0).length : Int) from by rw [List.length_map]]; kernel_rfl)
 refine runs_block ?_
 refine runs_loopM (σ := List Int × Nat) (fun s => ⟨[(9, zI (s.2 : Int)), (8, zI (a0.length : Int)), (7, .sl 0 (List.map encInt a0)), (0, .sl 0 (List.map encInt a0)), (1, zI a1)], []⟩) (fun s => s.1 = List.drop s.2 a0 ∧ impl_nodesOk_l1 a0 a1 s.1 s.2 = some v0) (fun s => s.1.length) (a0, 0) ⟨rfl, h⟩ (wre [9, 8, 7, 0, 1] []) ?_
 rintro ⟨t1, i1⟩ ⟨hd1, h⟩
 refine seq0 ⟨[(9, zI (i1 : Int)), (8, zI (a0.length : Int)), (7, .sl 0 (List.map encInt a0)), (0, .sl 0 (List.map encInt a0)), (1, zI a1)], []⟩ ?_
 refine runs_len 7 (es := List.map encInt a0) (by kernel_rfl) fun hl1 => ?_
 replace hl1 := len_of_map hl1
 cases t1 with
 | nil =>
   rw [impl_nodesOk_l1] at h
   have hLn1 := dnil hd1
   refine sqr cv hn ?_
   refine ro9 0 1 1 ⟨[(10, zB (decide ((i1 : Int) < (a0.length : Int)))), (9, zI (i1 : Int)), (8, zI (a0.length : Int)), (7, .sl 0 (List.map encInt a0)), (0, .sl 0 (List.map encInt a0)), (1, zI a1)], []⟩ ?_
   refine runs_seq ?_
   refine cf hLn1 ?_
   refine runs_exit ?_
   repeat refine thenX_exit ?_
   refine block_here ?_
   refine wkr [] [] ⟨[], []⟩ ?_
   refine sqr cv hn ?_
   refine ro9 0 1 1 ⟨[(4, zB true)], []⟩ ?_
   refine runs_ret ?_
   exact fin _ _ h (by kernel_rfl)
 | cons x10 t1 =>
   rw [impl_nodesOk_l1] at h
   have hLc1 := dcons hd1
   have hx10 := dget hd1
   have hi1 := dinc hd1 hl1
   refine sqr cv hn ?_
   refine ro9 0 1 1 ⟨[(10, zB (decide ((i1 : Int) < (a0.length : Int)))), (9, zI (i1 : Int)), (8, zI (a0.length : Int)), (7, .sl 0 (List.map encInt a0)), (0, .sl 0 (List.map encInt a0)), (1, zI a1)], []⟩ ?_
   refine runs_seq ?_
   refine ct hLc1 ?_
   refine runs_skip ?_
   refine runs_seq ?_
   refine runs_block ?_
   refine sqr cv hn ?_
   refine ro 0 1 1 ⟨[(11, zI (i1 : Int)), (10, zB (decide ((i1 : Int) < (a0.length : Int)))), (9, zI (i1 : Int)), (8, zI (a0.length : Int)), (7, .sl 0 (List.map encInt a0)), (0, .sl 0 (List.map encInt a0)), (1, zI a1)], []⟩ ?_
   refine rix 1 encInt 3 hx10 (ix_nn hx10) ⟨[(12, .rp (zI x10) 0), (11, zI (i1 : Int)), (10, zB (decide ((i1 : Int) < (a0.length : Int)))), (9, zI (i1 : Int)), (8, zI (a0.length : Int)), (7, .sl 0 (List.map encInt a0)), (0, .sl 0 (List.map encInt a0)), (1, zI a1)], []⟩ ?_
   refine ro9 2 3 3 ⟨[(6, zI x10), (5, zI (i1 : Int)), (13, zI x10), (12, .rp (zI x10) 0), (11, zI (i1 : Int)), (10, zB (decide ((i1 : Int) < (a0.length : Int)))), (9, zI (i1 : Int)), (8, zI (a0.length : Int)), (7, .sl 0 (List.map encInt a0)), (0, .sl 0 (List.map encInt a0)), (1, zI a1)], []⟩ ?_
   refine sqr cv hn ?_
   refine ro 0 3 3 ⟨[(16, zI (w64 (a1 - 1))), (15, zI a1), (14, zI x10), (6, zI x10), (5, zI (i1 : Int)), (13, zI x10), (12, .rp (zI x10) 0), (11, zI (i1 : Int)), (10, zB (decide ((i1 : Int) < (a0.length : Int)))), (9, zI (i1 : Int)), (8, zI (a0.length : Int)), (7, .sl 0 (List.map encInt a0)), (0, .sl 0 (List.map encInt a0)), (1, zI a1)], []⟩ ?_
   obtain ⟨v26, hv27, h⟩ := bindO h
   refine rc 3 ⟨[(17, zB v26), (16, zI (w64 (a1 - 1))), (15, zI a1), (14, zI x10), (6, zI x10), (5, zI (i1 : Int)), (13, zI x10), (12, .rp (zI x10) 0), (11, zI (i1 : Int)), (10, zB (decide ((i1 : Int) < (a0.length : Int)))), (9, zI (i1 : Int)), (8, zI (a0.length : Int)), (7, .sl 0 (List.map encInt a0)), (0, .sl 0 (List.map encInt a0)), (1, zI a1)], []⟩ (impl_in_spec x10 0 (w64 (a1 - 1)) v26 hv27) ?_
   refine ro 4 2 2 ⟨[(19, zB (!v26)), (18, zB (!v26)), (17, zB v26), (16, zI (w64 (a1 - 1))), (15, zI a1), (14, zI x10), (6, zI x10), (5, zI (i1 : Int)), (13, zI x10), (12, .rp (zI x10) 0), (11, zI (i1 : Int)), (10, zB (decide ((i1 : Int) < (a0.length : Int)))), (9, zI (i1 : Int)), (8, zI (a0.length : Int)), (7, .sl 0 (List.map encInt a0)), (0, .sl 0 (List.map encInt a0)), (1, zI a1)], []⟩ ?_
   rcases dich (!v26) with hb28 | hb28
   · replace h := cond_t hb28 h
     refine rl 19 true hb28 ?_
     refine ro9 6 12 1 ⟨[(31, zB true), (30, .tup []), (29, .tup []), (28, .tup []), (27, .tup []), (26, .tup []), (25, .tup []), (24, .tup []), (23, .tup []), (22, .tup []), (21, .tup []), (20, .tup []), (19, zB true), (18, zB (!v26)), (17, zB v26), (16, zI (w64 (a1 - 1))), (15, zI a1), (14, zI x10), (6, zI x10), (5, zI (i1 : Int)), (13, zI x10), (12, .rp (zI x10) 0), (11, zI (i1 : Int)), (10, zB (decide ((i1 : Int) < (a0.length : Int)))), (9, zI (i1 : Int)), (8, zI (a0.length : Int)), (7, .sl 0 (List.map encInt a0)), (0, .sl 0 (List.map encInt a0)), (1, zI a1)], []⟩ ?_
     refine cT ?_
     refine sqr cv hn ?_
     refine ro9 0 1 1 ⟨[(4, zB false), (31, zB true), (30, .tup []), (29, .tup []), (28, .tup []), (27, .tup []), (26, .tup []), (25, .tup []), (24, .tup []), (23, .tup []), (22, .tup []), (21, .tup []), (20, .tup []), (19, zB true), (18, zB (!v26)), (17, zB v26), (16, zI (w64 (a1 - 1))), (15, zI a1), (14, zI x10), (6, zI x10), (5, zI (i1 : Int)), (13, zI x10), (12, .rp (zI x10) 0), (11, zI (i1 : Int)), (10, zB (decide ((i1 : Int) < (a0.length : Int)))), (9, zI (i1 : Int)), (8, zI (a0.length : Int)), (7, .sl 0 (List.map encInt a0)), (0, .sl 0 (List.map encInt a0)), (1, zI a1)], []⟩ ?_
     refine runs_ret ?_
     exact fin _ _ h (by kernel_rfl)
   · replace h := cond_f hb28 h
     refine rl 19 false hb28 ?_
     refine ro 6 3 3 ⟨[(22, zB (decide ((i1 : Int) > 0))), (21, zB (decide ((i1 : Int) > 0))), (20, zI (i1 : Int)), (19, zB false), (18, zB (!v26)), (17, zB v26), (16, zI (w64 (a1 - 1))), (15, zI a1), (14, zI x10), (6, zI x10), (5, zI (i1 : Int)), (13, zI x10), (12, .rp (zI x10) 0), (11, zI (i1 : Int)), (10, zB (decide ((i1 : Int) < (a0.length : Int)))), (9, zI (i1 : Int)), (8, zI (a0.length : Int)), (7, .sl 0 (List.map encInt a0)), (0, .sl 0 (List.map encInt a0)), (1, zI a1)], []⟩ ?_
     rcases dich (decide ((i1 : Int) > 0)) with hb29 | hb29
     · replace h := cond_t hb29 h
       refine rl 22 true hb29 ?_
       refine ro 9 3 3 ⟨[(25, zI (w64 ((i1 : Int) - 1))), (24, zI (i1 : Int)), (23, .sl 0 (List.map encInt a0)), (22, zB true), (21, zB (decide ((i1 : Int) > 0))), (20, zI (i1 : Int)), (19, zB false), (18, zB (!v26)), (17, zB v26), (16, zI (w64 (a1 - 1))), (15, zI a1), (14, zI x10), (6, zI x10), (5, zI (i1 : Int)), (13, zI x10), (12, .rp (zI x10) 0), (11, zI (i1 : Int)), (10, zB (decide ((i1 : Int) < (a0.length : Int)))), (9, zI (i1 : Int)), (8, zI (a0.length : Int)), (7, .sl 0 (List.map encInt a0)), (0, .sl 0 (List.map encInt a0)), (1, zI a1)], []⟩ ?_
       obtain ⟨x30, hx31, h⟩ := bindO h
       refine rix 12 encInt 3 hx31 (ix_nn hx31) ⟨[(26, .rp (zI x30) 0), (25, zI (w64 ((i1 : Int) - 1))), (24, zI (i1 : Int)), (23, .sl 0 (List.map encInt a0)), (22, zB true), (21, zB (decide ((i1 : Int) > 0))), (20, zI (i1 : Int)), (19, zB false), (18, zB (!v26)), (17, zB v26), (16, zI (w64 (a1 - 1))), (15, zI a1), (14, zI x10), (6, zI x10), (5, zI (i1 : Int)), (13, zI x10), (12, .rp (zI x10) 0), (11, zI (i1 : Int)), (10, zB (decide ((i1 : Int) < (a0.length : Int)))), (9, zI (i1 : Int)), (8, zI (a0.length : Int)), (7, .sl 0 (List.map encInt a0)), (0, .sl 0 (List.map encInt a0)), (1, zI a1)], []⟩ ?_
       refine ro9 13 5 5 ⟨[(31, zB (decide (x30 ≥ x10))), (30, zB (decide (x30 ≥ x10))), (29, zB (decide (x30 ≥ x10))), (28, zI x10), (27, zI x30), (26, .rp (zI x30) 0), (25, zI (w64 ((i1 : Int) - 1))), (24, zI (i1 : Int)), (23, .sl 0 (List.map encInt a0)), (22, zB true), (21, zB (decide ((i1 : Int) > 0))), (20, zI (i1 : Int)), (19, zB false), (18, zB (!v26)), (17, zB v26), (16, zI (w64 (a1 - 1))), (15, zI a1), (14, zI x10), (6, zI x10), (5, zI (i1 : Int)), (13, zI x10), (12, .rp (zI x10) 0), (11, zI (i1 : Int)), (10, zB (decide ((i1 : Int) < (a0.length : Int)))), (9, zI (i1 : Int)), (8, zI (a0.length : Int)), (7, .sl 0 (List.map encInt a0)), (0, .sl 0 (List.map encInt a0)), (1, zI a1)], []⟩ ?_
       rcases dich (decide (x30 ≥ x10)) with hb32 | hb32
       · replace h := cond_t hb32 h
         refine ct hb32 ?_
         refine sqr cv hn ?_
         refine ro9 0 1 1 ⟨[(4, zB false), (31, zB (decide (x30 ≥ x10))), (30, zB (decide (x30 ≥ x10))), (29, zB (decide (x30 ≥ x10))), (28, zI x10), (27, zI x30), (26, .rp (zI x30) 0), (25, zI (w64 ((i1 : Int) - 1))), (24, zI (i1 : Int)), (23, .sl 0 (List.map encInt a0)), (22, zB true), (21, zB (decide ((i1 : Int) > 0))), (20, zI (i1 : Int)), (19, zB false), (18, zB (!v26)), (17, zB v26), (16, zI (w64 (a1 - 1))), (15, zI a1), (14, zI x10), (6, zI x10), (5, zI (i1 : Int)), (13, zI x10), (12, .rp (zI x10) 0), (11, zI (i1 : Int)), (10, zB (decide ((i1 : Int) < (a0.length : Int)))), (9, zI (i1 : Int)), (8, zI (a0.length : Int)), (7, .sl 0 (List.map encInt a0)), (0, .sl 0 (List.map encInt a0)), (1, zI a1)], []⟩ ?_
         refine runs_ret ?_
         exact fin _ _ h (by kernel_rfl)
       · replace h := cond_f hb32 h
         refine cf hb32 ?_
         refine runs_skip ?_
         refine rg cv hn ?_
         refine ro9 0 2 2 ⟨[(9, zI ((i1 + 1 : Nat) : Int)), (32, zI ((i1 + 1 : Nat) : Int)), (31, zB (decide (x30 ≥ x10))), (30, zB (decide (x30 ≥ x10))), (29, zB (decide (x30 ≥ x10))), (28, zI x10), (27, zI x30), (26, .rp (zI x30) 0), (25, zI (w64 ((i1 : Int) - 1))), (24, zI (i1 : Int)), (23, .sl 0 (List.map encInt a0)), (22, zB true), (21, zB (decide ((i1 : Int) > 0))), (20, zI (i1 : Int)), (19, zB false), (18, zB (!v26)), (17, zB v26), (16, zI (w64 (a1 - 1))), (15, zI a1), (14, zI x10), (6, zI x10), (5, zI (i1 : Int)), (13, zI x10), (12, .rp (zI x10) 0), (11, zI (i1 : Int)), (10, zB (decide ((i1 : Int) < (a0.length : Int)))), (9, zI (i1 : Int)), (8, zI (a0.length : Int)), (7, .sl 0 (List.map encInt a0)), (0, .sl 0 (List.map encInt a0)), (1, zI a1)], []⟩ ?_ (he := by rw [← hi1]; kernel_rfl)
         exact ⟨(t1, i1 + 1), Nat.lt_succ_self _, ⟨dnext hd1, h⟩, wre [9, 8, 7, 0, 1] []⟩
     · replace h := cond_f hb29 h
       refine rl 22 false hb29 ?_
       refine ro9 9 9 2 ⟨[(31, zB false), (30, zB false), (29, .tup []), (28, .tup []), (27, .tup []), (26, .tup []), (25, .tup []), (24, .tup []), (23, .tup []), (22, zB false), (21, zB (decide ((i1 : Int) > 0))), (20, zI (i1 : Int)), (19, zB false), (18, zB (!v26)), (17, zB v26), (16, zI (w64 (a1 - 1))), (15, zI a1), (14, zI x10), (6, zI x10), (5, zI (i1 : Int)), (13, zI x10), (12, .rp (zI x10) 0), (11, zI (i1 : Int)), (10, zB (decide ((i1 : Int) < (a0.length : Int)))), (9, zI (i1 : Int)), (8, zI (a0.length : Int)), (7, .sl 0 (List.map encInt a0)), (0, .sl 0 (List.map encInt a0)), (1, zI a1)], []⟩ ?_
       refine cF ?_
       refine runs_skip ?_
       refine rg cv hn ?_
       refine ro9 0 2 2 ⟨[(9, zI ((i1 + 1 : Nat) : Int)), (32, zI ((i1 + 1 : Nat) : Int)), (31, zB false), (30, zB false), (29, .tup []), (28, .tup []), (27, .tup []), (26, .tup []), (25, .tup []), (24, .tup []), (23, .tup []), (22, zB false), (21, zB (decide ((i1 : Int) > 0))), (20, zI (i1 : Int)), (19, zB false), (18, zB (!v26)), (17, zB v26), (16, zI (w64 (a1 - 1))), (15, zI a1), (14, zI x10), (6, zI x10), (5, zI (i1 : Int)), (13, zI x10), (12, .rp (zI x10) 0), (11, zI (i1 : Int)), (10, zB (decide ((i1 : Int) < (a0.length : Int)))), (9, zI (i1 : Int)), (8, zI (a0.length : Int)), (7, .sl 0 (List.map encInt a0)), (0, .sl 0 (List.map encInt a0)), (1, zI a1)], []⟩ ?_ (he := by rw [← hi1]; kernel_rfl)
       exact ⟨(t1, i1 + 1), Nat.lt_succ_self _, ⟨dnext hd1, h⟩, wre [9, 8, 7, 0, 1] []⟩

set_option maxRecDepth 100000 in
set_option maxHeartbeats 2000000 in
theorem impl_repsOk_spec (a0 : SAcct) (a1 : Int) (v0 : Bool) (h : impl_repsOk a0 a1 = some v0) : Ax.Spec Try.prog 95 none [encAcct0 a0, zI a1] (zB v0 : X) (.junk : X) := by
 refine walk0 (fn := Try.f95) (fun q0 : Bool => (zB q0 : X)) (fun q0 : Bool => (.junk : X)) v0 ⟨[(0, encAcct0 a0), (1, zI a1)], []⟩ Try.func95 rfl (by decide +kernel) fun Γ hn fin => ?_
 rw [impl_repsOk] at h
 refine sqr cv hn ?_
 refine ro9 0 2 2 ⟨[(4, zB false), (2, .ptr 2 1 0), (0, encAcct0 a0), (1, zI a1)], [(2, ⟨1, 1, true, some (encAcct0 a0)⟩)]⟩ ?_
 refine runs_seq ?_
 refine sqr cv hn ?_
 refine ro9 0 4 4 ⟨[(10, zI 0), (9, zI (a0.fReps.length : Int)), (8, .sl 0 (List.map encRep a0.fReps)), (7, .ptr 2 1 4), (4, zB false), (2, .ptr 2 1 0), (0, encAcct0 a0), (1, zI a1)], [(2, ⟨1, 1, true, some (encAcct0 a0)⟩)]⟩ ?_ (he := by rw [show (a0.fReps.length : Int) = ((List.map encRep a0.fReps).length : Int) from by rw [List.length_map]]; kernel_rfl)
 refine runs_block ?_
 refine runs_loopM (σ := List SRep × Nat) (fun s => ⟨[(10, zI (s.2 : Int)), (9, zI (a0.fReps.length : Int)), (8, .sl 0 (List.map encRep a0.fReps)), (2, .ptr 2 0 0), (1, zI a1)], [(2, ⟨0, 0, true, some (encAcct0 a0)⟩)]⟩) (fun s => s.1 = List.drop s.2 a0.fReps ∧ impl_repsOk_l1 a0 a1 s.1 s.2 = some v0) (fun s => s.1.length) (a0.fReps, 0) ⟨rfl, h⟩ (wre [10, 9, 8, 2, 1] [(2, 2, false)]) ?_
 rintro ⟨t1, i1⟩ ⟨hd1, h⟩
 refine seq0 ⟨[(10, zI (i1 : Int)), (9, zI (a0.fReps.length : Int)), (8, .sl 0 (List.map encRep a0.fReps)), (2, .ptr 2 0 0), (1, zI a1)], [(2, ⟨0, 0, true, some (encAcct0 a0)⟩)]⟩ ?_
 refine runs_len 8 (es := List.map encRep a0.fReps) (by kernel_rfl) fun hl1 => ?_
 replace hl1 := len_of_map hl1
 cases t1 with
 | nil =>
   rw [impl_repsOk_l1] at h
   have hLn1 := dnil hd1
   refine sqr cv hn ?_
   refine ro9 0 1 1 ⟨[(11, zB (decide ((i1 : Int) < (a0.fReps.length : Int)))), (10, zI (i1 : Int)), (9, zI (a0.fReps.length : Int)), (8, .sl 0 (List.map encRep a0.fReps)), (2, .ptr 2 0 0), (1, zI a1)], [(2, ⟨0, 0, true, some (encAcct0 a0)⟩)]⟩ ?_
   refine runs_seq ?_
   refine cf hLn1 ?_
   refine runs_exit ?_
   repeat refine thenX_exit ?_
   refine block_here ?_
   refine wkr [] [] ⟨[], []⟩ ?_
   refine sqr cv hn ?_
   refine ro9 0 1 1 ⟨[(4, zB true)], []⟩ ?_
   refine runs_ret ?_
   exact fin _ _ h (by kernel_rfl)
 | cons x10 t1 =>
   rw [impl_repsOk_l1] at h
   have hLc1 := dcons hd1
   have hx10 := dget hd1
   have hi1 := dinc hd1 hl1
   refine sqr cv hn ?_
   refine ro9 0 1 1 ⟨[(11, zB (decide ((i1 : Int) < (a0.fReps.length : Int)))), (10, zI (i1 : Int)), (9, zI (a0.fReps.length : Int)), (8, .sl 0 (List.map encRep a0.fReps)), (2, .ptr 2 0 0), (1, zI a1)], [(2, ⟨0, 0, true, some (encAcct0 a0)⟩)]⟩ ?_
   refine runs_seq ?_
   refine ct hLc1 ?_
   refine runs_skip ?_
   refine runs_seq ?_
   refine runs_block ?_
   refine sqr cv hn ?_
   refine ro 0 1 1 ⟨[(12, zI (i1 : Int)), (11, zB (decide ((i1 : Int) < (a0.fReps.length : Int)))), (10, zI (i1 : Int)), (9, zI (a0.fReps.length : Int)), (8, .sl 0 (List.map encRep a0.fReps)), (2, .ptr 2 0 0), (1, zI a1)], [(2, ⟨0, 0, true, some (encAcct0 a0)⟩)]⟩ ?_
   refine rix 1 encRep 110 hx10 (ix_nn hx10) ⟨[(13, .rp (encRep x10) 0), (12, zI (i1 : Int)), (11, zB (decide ((i1 : Int) < (a0.fReps.length : Int)))), (10, zI (i1 : Int)), (9, zI (a0.fReps.length : Int)), (8, .sl 0 (List.map encRep a0.fReps)), (2, .ptr 2 0 0), (1, zI a1)], [(2, ⟨0, 0, true, some (encAcct0 a0)⟩)]⟩ ?_
   refine ro9 2 4 4 ⟨[(5, zI (i1 : Int)), (6, .ptr 6 1 0), (14, encRep x10), (13, .rp (encRep x10) 0), (12, zI (i1 : Int)), (11, zB (decide ((i1 : Int) < (a0.fReps.length : Int)))), (10, zI (i1 : Int)), (9, zI (a0.fReps.length : Int)), (8, .sl 0 (List.map encRep a0.fReps)), (2, .ptr 2 0 0), (1, zI a1)], [(6, ⟨1, 1, true, some (encRep x10)⟩), (6, ⟨1, 1, true, some (.agg [zI 0, zI 0])⟩), (2, ⟨0, 0, true, some (encAcct0 a0)⟩)]⟩ ?_
   refine runs_seq ?_
   refine rgT cv mixed hn ?_
   refine roT 0 4 4 ⟨[(18, zI (w64 (a1 - 1))), (17, zI a1), (16, zI x10.fNode), (15, .ptr 6 1 0), (5, zI (i1 : Int)), (6, .ptr 6 1 0), (14, encRep x10), (13, .rp (encRep x10) 0), (12, zI (i1 : Int)), (11, zB (decide ((i1 : Int) < (a0.fReps.length : Int)))), (10, zI (i1 : Int)), (9, zI (a0.fReps.length : Int)), (8, .sl 0 (List.map encRep a0.fReps)), (2, .ptr 2 0 0), (1, zI a1)], [(6, ⟨1, 1, true, some (encRep x10)⟩), (6, ⟨1, 1, true, some (.agg [zI 0, zI 0])⟩), (2, ⟨0, 0, true, some (encAcct0 a0)⟩)]⟩ ?_
   obtain ⟨v32, hv33, h⟩ := bindO h
   refine rcT 4 ⟨[(19, zB v32), (18, zI (w64 (a1 - 1))), (17, zI a1), (16, zI x10.fNode), (15, .ptr 6 1 0), (5, zI (i1 : Int)), (6, .ptr 6 1 0), (14, encRep x10), (13, .rp (encRep x10) 0), (12, zI (i1 : Int)), (11, zB (decide ((i1 : Int) < (a0.fReps.length : Int)))), (10, zI (i1 : Int)), (9, zI (a0.fReps.length : Int)), (8, .sl 0 (List.map encRep a0.fReps)), (2, .ptr 2 0 0), (1, zI a1)], [(6, ⟨1, 1, true, some (encRep x10)⟩), (6, ⟨1, 1, true, some (.agg [zI 0, zI 0])⟩), (2, ⟨0, 0, true, some (encAcct0 a0)⟩)]⟩ (impl_in_spec x10.fNode 0 (w64 (a1 - 1)) v32 hv33) ?_
   refine roT 5 2 2 ⟨[(21, zB (!v32)), (20, zB (!v32)), (19, zB v32), (18, zI (w64 (a1 - 1))), (17, zI a1), (16, zI x10.fNode), (15, .ptr 6 1 0), (5, zI (i1 : Int)), (6, .ptr 6 1 0), (14, encRep x10), (13, .rp (encRep x10) 0), (12, zI (i1 : Int)), (11, zB (decide ((i1 : Int) < (a0.fReps.length : Int)))), (10, zI (i1 : Int)), (9, zI (a0.fReps.length : Int)), (8, .sl 0 (List.map encRep a0.fReps)), (2, .ptr 2 0 0), (1, zI a1)], [(6, ⟨1, 1, true, some (encRep x10)⟩), (6, ⟨1, 1, true, some (.agg [zI 0, zI 0])⟩), (2, ⟨0, 0, true, some (encAcct0 a0)⟩)]⟩ ?_
   rcases dich (!v32) with hb34 | hb34
   · replace h := cond_t hb34 h
     refine rlT 21 true hb34 ?_
     refine roT9 7 21 3 ⟨[(42, zB true), (41, .tup []), (40, .tup []), (39, .tup []), (38, .tup []), (37, .tup []), (36, .tup []), (35, .tup []), (34, .tup []), (33, .tup []), (32, .tup []), (31, .tup []), (30, .tup []), (29, .tup []), (28, .tup []), (27, zB true), (26, zB true), (25, .tup []), (24, .tup []), (23, .tup []), (22, .tup []), (21, zB true), (20, zB (!v32)), (19, zB v32), (18, zI (w64 (a1 - 1))), (17, zI a1), (16, zI x10.fNode), (15, .ptr 6 1 0), (5, zI (i1 : Int)), (6, .ptr 6 1 0), (14, encRep x10), (13, .rp (encRep x10) 0), (12, zI (i1 : Int)), (11, zB (decide ((i1 : Int) < (a0.fReps.length : Int)))), (10, zI (i1 : Int)), (9, zI (a0.fReps.length : Int)), (8, .sl 0 (List.map encRep a0.fReps)), (2, .ptr 2 0 0), (1, zI a1)], [(6, ⟨1, 1, true, some (encRep x10)⟩), (6, ⟨1, 1, true, some (.agg [zI 0, zI 0])⟩), (2, ⟨0, 0, true, some (encAcct0 a0)⟩)]⟩ ?_
     refine cT ?_
     refine sqr cv hn ?_
     refine ro9 0 1 1 ⟨[(4, zB false), (42, zB true), (41, .tup []), (40, .tup []), (39, .tup []), (38, .tup []), (37, .tup []), (36, .tup []), (35, .tup []), (34, .tup []), (33, .tup []), (32, .tup []), (31, .tup []), (30, .tup []), (29, .tup []), (28, .tup []), (27, zB true), (26, zB true), (25, .tup []), (24, .tup []), (23, .tup []), (22, .tup []), (21, zB true), (20, zB (!v32)), (19, zB v32), (18, zI (w64 (a1 - 1))), (17, zI a1), (16, zI x10.fNode), (15, .ptr 6 1 0), (5, zI (i1 : Int)), (6, .ptr 6 1 0), (14, encRep x10), (13, .rp (encRep x10) 0), (12, zI (i1 : Int)), (11, zB (decide ((i1 : Int) < (a0.fReps.length : Int)))), (10, zI (i1 : Int)), (9, zI (a0.fReps.length : Int)), (8, .sl 0 (List.map encRep a0.fReps)), (2, .ptr 2 0 0), (1, zI a1)], [(6, ⟨1, 1, true, some (encRep x10)⟩), (6, ⟨1, 1, true, some (.agg [zI 0, zI 0])⟩), (2, ⟨0, 0, true, some (encAcct0 a0)⟩)]⟩ ?_
     refine runs_ret ?_
     exact fin _ _ h (by kernel_rfl)
   · replace h := cond_f hb34 h
     refine rlT 21 false hb34 ?_
     refine roT 7 2 2 ⟨[(23, zI x10.fAmt), (22, .ptr 6 1 1), (21, zB false), (20, zB (!v32)), (19, zB v32), (18, zI (w64 (a1 - 1))), (17, zI a1), (16, zI x10.fNode), (15, .ptr 6 1 0), (5, zI (i1 : Int)), (6, .ptr 6 1 0), (14, encRep x10), (13, .rp (encRep x10) 0), (12, zI (i1 : Int)), (11, zB (decide ((i1 : Int) < (a0.fReps.length : Int)))), (10, zI (i1 : Int)), (9, zI (a0.fReps.length : Int)), (8, .sl 0 (List.map encRep a0.fReps)), (2, .ptr 2 0 0), (1, zI a1)], [(6, ⟨1, 1, true, some (encRep x10)⟩), (6, ⟨1, 1, true, some (.agg [zI 0, zI 0])⟩), (2, ⟨0, 0, true, some (encAcct0 a0)⟩)]⟩ ?_
     obtain ⟨v35, hv36, h⟩ := bindO h
     refine rcT 9 ⟨[(24, zB v35), (23, zI x10.fAmt), (22, .ptr 6 1 1), (21, zB false), (20, zB (!v32)), (19, zB v32), (18, zI (w64 (a1 - 1))), (17, zI a1), (16, zI x10.fNode), (15, .ptr 6 1 0), (5, zI (i1 : Int)), (6, .ptr 6 1 0), (14, encRep x10), (13, .rp (encRep x10) 0), (12, zI (i1 : Int)), (11, zB (decide ((i1 : Int) < (a0.fReps.length : Int)))), (10, zI (i1 : Int)), (9, zI (a0.fReps.length : Int)), (8, .sl 0 (List.map encRep a0.fReps)), (2, .ptr 2 0 0), (1, zI a1)], [(6, ⟨1, 1, true, some (encRep x10)⟩), (6, ⟨1, 1, true, some (.agg [zI 0, zI 0])⟩), (2, ⟨0, 0, true, some (encAcct0 a0)⟩)]⟩ (impl_isNum_spec x10.fAmt v35 hv36) ?_
     refine roT 10 3 3 ⟨[(27, zB (!v35)), (26, zB (!v35)), (25, zB (!v35)), (24, zB v35), (23, zI x10.fAmt), (22, .ptr 6 1 1), (21, zB false), (20, zB (!v32)), (19, zB v32), (18, zI (w64 (a1 - 1))), (17, zI a1), (16, zI x10.fNode), (15, .ptr 6 1 0), (5, zI (i1 : Int)), (6, .ptr 6 1 0), (14, encRep x10), (13, .rp (encRep x10) 0), (12, zI (i1 : Int)), (11, zB (decide ((i1 : Int) < (a0.fReps.length : Int)))), (10, zI (i1 : Int)), (9, zI (a0.fReps.length : Int)), (8, .sl 0 (List.map encRep a0.fReps)), (2, .ptr 2 0 0), (1, zI a1)], [(6, ⟨1, 1, true, some (encRep x10)⟩), (6, ⟨1, 1, true, some (.agg [zI 0, zI 0])⟩), (2, ⟨0, 0, true, some (encAcct0 a0)⟩)]⟩ ?_
     rcases dich (!v35) with hb37 | hb37
     · replace h := cond_t hb37 h
       refine rlT 27 true hb37 ?_
       refine roT9 13 15 1 ⟨[(42, zB true), (41, .tup []), (40, .tup []), (39, .tup []), (38, .tup []), (37, .tup []), (36, .tup []), (35, .tup []), (34, .tup []), (33, .tup []), (32, .tup []), (31, .tup []), (30, .tup []), (29, .tup []), (28, .tup []), (27, zB true), (26, zB (!v35)), (25, zB (!v35)), (24, zB v35), (23, zI x10.fAmt), (22, .ptr 6 1 1), (21, zB false), (20, zB (!v32)), (19, zB v32), (18, zI (w64 (a1 - 1))), (17, zI a1), (16, zI x10.fNode), (15, .ptr 6 1 0), (5, zI (i1 : Int)), (6, .ptr 6 1 0), (14, encRep x10), (13, .rp (encRep x10) 0), (12, zI (i1 : Int)), (11, zB (decide ((i1 : Int) < (a0.fReps.length : Int)))), (10, zI (i1 : Int)), (9, zI (a0.fReps.length : Int)), (8, .sl 0 (List.map encRep a0.fReps)), (2, .ptr 2 0 0), (1, zI a1)], [(6, ⟨1, 1, true, some (encRep x10)⟩), (6, ⟨1, 1, true, some (.agg [zI 0, zI 0])⟩), (2, ⟨0, 0, true, some (encAcct0 a0)⟩)]⟩ ?_
       refine cT ?_
       refine sqr cv hn ?_
       refine ro9 0 1 1 ⟨[(4, zB false), (42, zB true), (41, .tup []), (40, .tup []), (39, .tup []), (38, .tup []), (37, .tup []), (36, .tup []), (35, .tup []), (34, .tup []), (33, .tup []), (32, .tup []), (31, .tup []), (30, .tup []), (29, .tup []), (28, .tup []), (27, zB true), (26, zB (!v35)), (25, zB (!v35)), (24, zB v35), (23, zI x10.fAmt), (22, .ptr 6 1 1), (21, zB false), (20, zB (!v32)), (19, zB v32), (18, zI (w64 (a1 - 1))), (17, zI a1), (16, zI x10.fNode), (15, .ptr 6 1 0), (5, zI (i1 : Int)), (6, .ptr 6 1 0), (14, encRep x10), (13, .rp (encRep x10) 0), (12, zI (i1 : Int)), (11, zB (decide ((i1 : Int) < (a0.fReps.length : Int)))), (10, zI (i1 : Int)), (9, zI (a0.fReps.length : Int)), (8, .sl 0 (List.map encRep a0.fReps)), (2, .ptr 2 0 0), (1, zI a1)], [(6, ⟨1, 1, true, some (encRep x10)⟩), (6, ⟨1, 1, true, some (.agg [zI 0, zI 0])⟩), (2, ⟨0, 0, true, some (encAcct0 a0)⟩)]⟩ ?_
       refine runs_ret ?_
       exact fin _ _ h (by kernel_rfl)
     · replace h := cond_f hb37 h
       refine rlT 27 false hb37 ?_
       refine roT 13 3 3 ⟨[(30, zB (decide ((i1 : Int) > 0))), (29, zB (decide ((i1 : Int) > 0))), (28, zI (i1 : Int)), (27, zB false), (26, zB (!v35)), (25, zB (!v35)), (24, zB v35), (23, zI x10.fAmt), (22, .ptr 6 1 1), (21, zB false), (20, zB (!v32)), (19, zB v32), (18, zI (w64 (a1 - 1))), (17, zI a1), (16, zI x10.fNode), (15, .ptr 6 1 0), (5, zI (i1 : Int)), (6, .ptr 6 1 0), (14, encRep x10), (13, .rp (encRep x10) 0), (12, zI (i1 : Int)), (11, zB (decide ((i1 : Int) < (a0.fReps.length : Int)))), (10, zI (i1 : Int)), (9, zI (a0.fReps.length : Int)), (8, .sl 0 (List.map encRep a0.fReps)), (2, .ptr 2 0 0), (1, zI a1)], [(6, ⟨1, 1, true, some (encRep x10)⟩), (6, ⟨1, 1, true, some (.agg [zI 0, zI 0])⟩), (2, ⟨0, 0, true, some (encAcct0 a0)⟩)]⟩ ?_
       rcases dich (decide ((i1 : Int) > 0)) with hb38 | hb38
       · replace h := cond_t hb38 h
         refine rlT 30 true hb38 ?_
         refine roT 16 4 4 ⟨[(34, zI (w64 ((i1 : Int) - 1))), (33, zI (i1 : Int)), (32, .sl 0 (List.map encRep a0.fReps)), (31, .ptr 2 0 4), (30, zB true), (29, zB (decide ((i1 : Int) > 0))), (28, zI (i1 : Int)), (27, zB false), (26, zB (!v35)), (25, zB (!v35)), (24, zB v35), (23, zI x10.fAmt), (22, .ptr 6 1 1), (21, zB false), (20, zB (!v32)), (19, zB v32), (18, zI (w64 (a1 - 1))), (17, zI a1), (16, zI x10.fNode), (15, .ptr 6 1 0), (5, zI (i1 : Int)), (6, .ptr 6 1 0), (14, encRep x10), (13, .rp (encRep x10) 0), (12, zI (i1 : Int)), (11, zB (decide ((i1 : Int) < (a0.fReps.length : Int)))), (10, zI (i1 : Int)), (9, zI (a0.fReps.length : Int)), (8, .sl 0 (List.map encRep a0.fReps)), (2, .ptr 2 0 0), (1, zI a1)], [(6, ⟨1, 1, true, some (encRep x10)⟩), (6, ⟨1, 1, true, some (.agg [zI 0, zI 0])⟩), (2, ⟨0, 0, true, some (encAcct0 a0)⟩)]⟩ ?_
         obtain ⟨x39, hx40, h⟩ := bindO h
         refine rixT 20 encRep 110 hx40 (ix_nn hx40) ⟨[(35, .rp (encRep x39) 0), (34, zI (w64 ((i1 : Int) - 1))), (33, zI (i1 : Int)), (32, .sl 0 (List.map encRep a0.fReps)), (31, .ptr 2 0 4), (30, zB true), (29, zB (decide ((i1 : Int) > 0))), (28, zI (i1 : Int)), (27, zB false), (26, zB (!v35)), (25, zB (!v35)), (24, zB v35), (23, zI x10.fAmt), (22, .ptr 6 1 1), (21, zB false), (20, zB (!v32)), (19, zB v32), (18, zI (w64 (a1 - 1))), (17, zI a1), (16, zI x10.fNode), (15, .ptr 6 1 0), (5, zI (i1 : Int)), (6, .ptr 6 1 0), (14, encRep x10), (13, .rp (encRep x10) 0), (12, zI (i1 : Int)), (11, zB (decide ((i1 : Int) < (a0.fReps.length : Int)))), (10, zI (i1 : Int)), (9, zI (a0.fReps.length : Int)), (8, .sl 0 (List.map encRep a0.fReps)), (2, .ptr 2 0 0), (1, zI a1)], [(6, ⟨1, 1, true, some (encRep x10)⟩), (6, ⟨1, 1, true, some (.agg [zI 0, zI 0])⟩), (2, ⟨0, 0, true, some (encAcct0 a0)⟩)]⟩ ?_
         refine roT9 21 7 7 ⟨[(42, zB (decide (x39.fNode ≥ x10.fNode))), (41, zB (decide (x39.fNode ≥ x10.fNode))), (40, zB (decide (x39.fNode ≥ x10.fNode))), (39, zI x10.fNode), (38, .ptr 6 1 0), (37, zI x39.fNode), (36, .rp (encRep x39) 0), (35, .rp (encRep x39) 0), (34, zI (w64 ((i1 : Int) - 1))), (33, zI (i1 : Int)), (32, .sl 0 (List.map encRep a0.fReps)), (31, .ptr 2 0 4), (30, zB true), (29, zB (decide ((i1 : Int) > 0))), (28, zI (i1 : Int)), (27, zB false), (26, zB (!v35)), (25, zB (!v35)), (24, zB v35), (23, zI x10.fAmt), (22, .ptr 6 1 1), (21, zB false), (20, zB (!v32)), (19, zB v32), (18, zI (w64 (a1 - 1))), (17, zI a1), (16, zI x10.fNode), (15, .ptr 6 1 0), (5, zI (i1 : Int)), (6, .ptr 6 1 0), (14, encRep x10), (13, .rp (encRep x10) 0), (12, zI (i1 : Int)), (11, zB (decide ((i1 : Int) < (a0.fReps.length : Int)))), (10, zI (i1 : Int)), (9, zI (a0.fReps.length : Int)), (8, .sl 0 (List.map encRep a0.fReps)), (2, .ptr 2 0 0), (1, zI a1)], [(6, ⟨1, 1, true, some (encRep x10)⟩), (6, ⟨1, 1, true, some (.agg [zI 0, zI 0])⟩), (2, ⟨0, 0, true, some (encAcct0 a0)⟩)]⟩ ?_
         rcases dich (decide (x39.fNode ≥ x10.fNode)) with hb41 | hb41
         · replace h := cond_t hb41 h
           refine ct hb41 ?_
           refine sqr cv hn ?_
           refine ro9 0 1 1 ⟨[(4, zB false), (42, zB (decide (x39.fNode ≥ x10.fNode))), (41, zB (decide (x39.fNode ≥ x10.fNode))), (40, zB (decide (x39.fNode ≥ x10.fNode))), (39, zI x10.fNode), (38, .ptr 6 1 0), (37, zI x39.fNode), (36, .rp (encRep x39) 0), (35, .rp (encRep x39) 0), (34, zI (w64 ((i1 : Int) - 1))), (33, zI (i1 : Int)), (32, .sl 0 (List.map encRep a0.fReps)), (31, .ptr 2 0 4), (30, zB true), (29, zB (decide ((i1 : Int) > 0))), (28, zI (i1 : Int)), (27, zB false), (26, zB (!v35)), (25, zB (!v35)), (24, zB v35), (23, zI x10.fAmt), (22, .ptr 6 1 1), (21, zB false), (20, zB (!v32)), (19, zB v32), (18, zI (w64 (a1 - 1))), (17, zI a1), (16, zI x10.fNode), (15, .ptr 6 1 0), (5, zI (i1 : Int)), (6, .ptr 6 1 0), (14, encRep x10), (13, .rp (encRep x10) 0), (12, zI (i1 : Int)), (11, zB (decide ((i1 : Int) < (a0.fReps.length : Int)))), (10, zI (i1 : Int)), (9, zI (a0.fReps.length : Int)), (8, .sl 0 (List.map encRep a0.fReps)), (2, .ptr 2 0 0), (1, zI a1)], [(6, ⟨1, 1, true, some (encRep x10)⟩), (6, ⟨1, 1, true, some (.agg [zI 0, zI 0])⟩), (2, ⟨0, 0, true, some (encAcct0 a0)⟩)]⟩ ?_
           refine runs_ret ?_
           exact fin _ _ h (by kernel_rfl)
         · replace h := cond_f hb41 h
           refine cf hb41 ?_
           refine runs_skip ?_
           refine rg cv hn ?_
           refine ro9 0 2 2 ⟨[(10, zI ((i1 + 1 : Nat) : Int)), (43, zI ((i1 + 1 : Nat) : Int)), (42, zB (decide (x39.fNode ≥ x10.fNode))), (41, zB (decide (x39.fNode ≥ x10.fNode))), (40, zB (decide (x39.fNode ≥ x10.fNode))), (39, zI x10.fNode), (38, .ptr 6 1 0), (37, zI x39.fNode), (36, .rp (encRep x39) 0), (35, .rp (encRep x39) 0), (34, zI (w64 ((i1 : Int) - 1))), (33, zI (i1 : Int)), (32, .sl 0 (List.map encRep a0.fReps)), (31, .ptr 2 0 4), (30, zB true), (29, zB (decide ((i1 : Int) > 0))), (28, zI (i1 : Int)), (27, zB false), (26, zB (!v35)), (25, zB (!v35)), (24, zB v35), (23, zI x10.fAmt), (22, .ptr 6 1 1), (21, zB false), (20, zB (!v32)), (19, zB v32), (18, zI (w64 (a1 - 1))), (17, zI a1), (16, zI x10.fNode), (15, .ptr 6 1 0), (5, zI (i1 : Int)), (6, .ptr 6 1 0), (14, encRep x10), (13, .rp (encRep x10) 0), (12, zI (i1 : Int)), (11, zB (decide ((i1 : Int) < (a0.fReps.length : Int)))), (10, zI (i1 : Int)), (9, zI (a0.fReps.length : Int)), (8, .sl 0 (List.map encRep a0.fReps)), (2, .ptr 2 0 0), (1, zI a1)], [(6, ⟨1, 1, true, some (encRep x10)⟩), (6, ⟨1, 1, true, some (.agg [zI 0, zI 0])⟩), (2, ⟨0, 0, true, some (encAcct0 a0)⟩)]⟩ ?_ (he := by rw [← hi1]; kernel_rfl)
           exact ⟨(t1, i1 + 1), Nat.lt_succ_self _, ⟨dnext hd1, h⟩, wre [10, 9, 8, 2, 1] [(2, 2, false)]⟩
       · replace h := cond_f hb38 h
         refine rlT 30 false hb38 ?_
         refine roT9 16 12 2 ⟨[(42, zB false), (41, zB false), (40, .tup []), (39, .tup []), (38, .tup []), (37, .tup []), (36, .tup []), (35, .tup []), (34, .tup []), (33, .tup []), (32, .tup []), (31, .tup []), (30, zB false), (29, zB (decide ((i1 : Int) > 0))), (28, zI (i1 : Int)), (27, zB false), (26, zB (!v35)), (25, zB (!v35)), (24, zB v35), (23, zI x10.fAmt), (22, .ptr 6 1 1), (21, zB false), (20, zB (!v32)), (19, zB v32), (18, zI (w64 (a1 - 1))), (17, zI a1), (16, zI x10.fNode), (15, .ptr 6 1 0), (5, zI (i1 : Int)), (6, .ptr 6 1 0), (14, encRep x10), (13, .rp (encRep x10) 0), (12, zI (i1 : Int)), (11, zB (decide ((i1 : Int) < (a0.fReps.length : Int)))), (10, zI (i1 : Int)), (9, zI (a0.fReps.length : Int)), (8, .sl 0 (List.map encRep a0.fReps)), (2, .ptr 2 0 0), (1, zI a1)], [(6, ⟨1, 1, true, some (encRep x10)⟩), (6, ⟨1, 1, true, some (.agg [zI 0, zI 0])⟩), (2, ⟨0, 0, true, some (encAcct0 a0)⟩)]⟩ ?_
         refine cF ?_
         refine runs_skip ?_
         refine rg cv hn ?_
         refine ro9 0 2 2 ⟨[(10, zI ((i1 + 1 : Nat) : Int)), (43, zI ((i1 + 1 : Nat) : Int)), (42, zB false), (41, zB false), (40, .tup []), (39, .tup []), (38, .tup []), (37, .tup []), (36, .tup []), (35, .tup []), (34, .tup []), (33, .tup []), (32, .tup []), (31, .tup []), (30, zB false), (29, zB (decide ((i1 : Int) > 0))), (28, zI (i1 : Int)), (27, zB false), (26, zB (!v35)), (25, zB (!v35)), (24, zB v35), (23, zI x10.fAmt), (22, .ptr 6 1 1), (21, zB false), (20, zB (!v32)), (19, zB v32), (18, zI (w64 (a1 - 1))), (17, zI a1), (16, zI x10.fNode), (15, .ptr 6 1 0), (5, zI (i1 : Int)), (6, .ptr 6 1 0), (14, encRep x10), (13, .rp (encRep x10) 0), (12, zI (i1 : Int)), (11, zB (decide ((i1 : Int) < (a0.fReps.length : Int)))), (10, zI (i1 : Int)), (9, zI (a0.fReps.length : Int)), (8, .sl 0 (List.map encRep a0.fReps)), (2, .ptr 2 0 0), (1, zI a1)], [(6, ⟨1, 1, true, some (encRep x10)⟩), (6, ⟨1, 1, true, some (.agg [zI 0, zI 0])⟩), (2, ⟨0, 0, true, some (encAcct0 a0)⟩)]⟩ ?_ (he := by rw [← hi1]; kernel_rfl)
         exact ⟨(t1, i1 + 1), Nat.lt_succ_self _, ⟨dnext hd1, h⟩, wre [10, 9, 8, 2, 1] [(2, 2, false)]⟩

set_option maxRecDepth 100000 in
set_option maxHeartbeats 2000000 in
theorem impl_repAt_spec (a0 : SAcct) (a1 : Int) (v0 : Int) (h : impl_repAt a0 a1 = some v0) : Ax.Spec Try.prog 96 none [encAcct0 a0, zI a1] (zI v0 : X) (.junk : X) := by
 refine walk0 (fn := Try.f96) (fun q0 : Int => (zI q0 : X)) (fun q0 : Int => (.junk : X)) v0 ⟨[(0, encAcct0 a0), (1, zI a1)], []⟩ Try.func96 rfl (by decide +kernel) fun Γ hn fin => ?_
 rw [impl_repAt] at h
 refine sqr cv hn ?_
 refine ro9 0 2 2 ⟨[(4, zI 0), (2, .ptr 2 1 0), (0, encAcct0 a0), (1, zI a1)], [(2, ⟨1, 1, true, some (encAcct0 a0)⟩)]⟩ ?_
 refine runs_seq ?_
 refine sqr cv hn ?_
 refine ro9 0 4 4 ⟨[(10, zI 0), (9, zI (a0.fReps.length : Int)), (8, .sl 0 (List.map encRep a0.fReps)), (7, .ptr 2 1 4), (4, zI 0), (2, .ptr 2 1 0), (0, encAcct0 a0), (1, zI a1)], [(2, ⟨1, 1, true, some (encAcct0 a0)⟩)]⟩ ?_ (he := by rw [show (a0.fReps.length : Int) = ((List.map encRep a0.fReps).length : Int) from by rw [List.length_map]]; kernel_rfl)
 refine runs_block ?_
 refine runs_loopM (σ := List SRep × Nat) (fun s => ⟨[(10, zI (s.2 : Int)), (9, zI (a0.fReps.length : Int)), (8, .sl 0 (List.map encRep a0.fReps)), (1, zI a1)], []⟩) (fun s => s.1 = List.drop s.2 a0.fReps ∧ impl_repAt_l1 a1 s.1 s.2 = some v0) (fun s => s.1.length) (a0.fReps, 0) ⟨rfl, h⟩ (wre [10, 9, 8, 1] []) ?_
 rintro ⟨t1, i1⟩ ⟨hd1, h⟩
 refine seq0 ⟨[(10, zI (i1 : Int)), (9, zI (a0.fReps.length : Int)), (8, .sl 0 (List.map encRep a0.fReps)), (1, zI a1)], []⟩ ?_
 refine runs_len 8 (es := List.map encRep a0.fReps) (by kernel_rfl) fun hl1 => ?_
 replace hl1 := len_of_map hl1
 cases t1 with
 | nil =>
   rw [impl_repAt_l1] at h
   have hLn1 := dnil hd1
   refine sqr cv hn ?_
   refine ro9 0 1 1 ⟨[(11, zB (decide ((i1 : Int) < (a0.fReps.length : Int)))), (10, zI (i1 : Int)), (9, zI (a0.fReps.length : Int)), (8, .sl 0 (List.map encRep a0.fReps)), (1, zI a1)], []⟩ ?_
   refine runs_seq ?_
   refine cf hLn1 ?_
   refine runs_exit ?_
   repeat refine thenX_exit ?_
   refine block_here ?_
   refine wkr [] [] ⟨[], []⟩ ?_
   refine sqr cv hn ?_
   refine ro9 0 1 1 ⟨[(4, zI (-1))], []⟩ ?_
   refine runs_ret ?_
   exact fin _ _ h (by kernel_rfl)
 | cons x10 t1 =>
   rw [impl_repAt_l1] at h
   have hLc1 := dcons hd1
   have hx10 := dget hd1
   have hi1 := dinc hd1 hl1
   refine sqr cv hn ?_
   refine ro9 0 1 1 ⟨[(11, zB (decide ((i1 : Int) < (a0.fReps.length : Int)))), (10, zI (i1 : Int)), (9, zI (a0.fReps.length : Int)), (8, .sl 0 (List.map encRep a0.fReps)), (1, zI a1)], []⟩ ?_
   refine runs_seq ?_
   refine ct hLc1 ?_
   refine runs_skip ?_
   refine runs_seq ?_
   refine runs_block ?_
   refine sqr cv hn ?_
   refine ro 0 1 1 ⟨[(12, zI (i1 : Int)), (11, zB (decide ((i1 : Int) < (a0.fReps.length : Int)))), (10, zI (i1 : Int)), (9, zI (a0.fReps.length : Int)), (8, .sl 0 (List.map encRep a0.fReps)), (1, zI a1)], []⟩ ?_
   refine rix 1 encRep 110 hx10 (ix_nn hx10) ⟨[(13, .rp (encRep x10) 0), (12, zI (i1 : Int)), (11, zB (decide ((i1 : Int) < (a0.fReps.length : Int)))), (10, zI (i1 : Int)), (9, zI (a0.fReps.length : Int)), (8, .sl 0 (List.map encRep a0.fReps)), (1, zI a1)], []⟩ ?_
   refine ro9 2 4 4 ⟨[(5, zI (i1 : Int)), (6, .ptr 6 1 0), (14, encRep x10), (13, .rp (encRep x10) 0), (12, zI (i1 : Int)), (11, zB (decide ((i1 : Int) < (a0.fReps.length : Int)))), (10, zI (i1 : Int)), (9, zI (a0.fReps.length : Int)), (8, .sl 0 (List.map encRep a0.fReps)), (1, zI a1)], [(6, ⟨1, 1, true, some (encRep x10)⟩), (6, ⟨1, 1, true, some (.agg [zI 0, zI 0])⟩)]⟩ ?_
   refine sqr cv hn ?_
   refine ro9 0 4 4 ⟨[(18, zB (x10.fNode == a1)), (17, zI a1), (16, zI x10.fNode), (15, .ptr 6 1 0), (5, zI (i1 : Int)), (6, .ptr 6 1 0), (14, encRep x10), (13, .rp (encRep x10) 0), (12, zI (i1 : Int)), (11, zB (decide ((i1 : Int) < (a0.fReps.length : Int)))), (10, zI (i1 : Int)), (9, zI (a0.fReps.length : Int)), (8, .sl 0 (List.map encRep a0.fReps)), (1, zI a1)], [(6, ⟨1, 1, true, some (encRep x10)⟩), (6, ⟨1, 1, true, some (.agg [zI 0, zI 0])⟩)]⟩ ?_
   rcases dich (x10.fNode == a1) with hb18 | hb18
   · replace h := cond_t hb18 h
     refine ct hb18 ?_
     refine sqr cv hn ?_
     refine ro9 0 2 2 ⟨[(4, zI (i1 : Int)), (19, zI (i1 : Int)), (18, zB (x10.fNode == a1)), (17, zI a1), (16, zI x10.fNode), (15, .ptr 6 1 0), (5, zI (i1 : Int)), (6, .ptr 6 1 0), (14, encRep x10), (13, .rp (encRep x10) 0), (12, zI (i1 : Int)), (11, zB (decide ((i1 : Int) < (a0.fReps.length : Int)))), (10, zI (i1 : Int)), (9, zI (a0.fReps.length : Int)), (8, .sl 0 (List.map encRep a0.fReps)), (1, zI a1)], [(6, ⟨1, 1, true, some (encRep x10)⟩), (6, ⟨1, 1, true, some (.agg [zI 0, zI 0])⟩)]⟩ ?_
     refine runs_ret ?_
     exact fin _ _ h (by kernel_rfl)
   · replace h := cond_f hb18 h
     refine cf hb18 ?_
     refine runs_skip ?_
     refine rg cv hn ?_
     refine ro9 0 2 2 ⟨[(10, zI ((i1 + 1 : Nat) : Int)), (20, zI ((i1 + 1 : Nat) : Int)), (18, zB (x10.fNode == a1)), (17, zI a1), (16, zI x10.fNode), (15, .ptr 6 1 0), (5, zI (i1 : Int)), (6, .ptr 6 1 0), (14, encRep x10), (13, .rp (encRep x10) 0), (12, zI (i1 : Int)), (11, zB (decide ((i1 : Int) < (a0.fReps.length : Int)))), (10, zI (i1 : Int)), (9, zI (a0.fReps.length : Int)), (8, .sl 0 (List.map encRep a0.fReps)), (1, zI a1)], [(6, ⟨1, 1, true, some (encRep x10)⟩), (6, ⟨1, 1, true, some (.agg [zI 0, zI 0])⟩)]⟩ ?_ (he := by rw [← hi1]; kernel_rfl)
     exact ⟨(t1, i1 + 1), Nat.lt_succ_self _, ⟨dnext hd1, h⟩, wre [10, 9, 8, 1] []⟩

set_option maxRecDepth 100000 in
set_option maxHeartbeats 2000000 in
theorem impl_AcctOk_spec (a0 : SAcct) (a1 : Int) (a2 : Int) (v0 : Bool) (h : impl_AcctOk a0 a1 a2 = some v0) : Ax.Spec Try.prog 54 none [encAcct0 a0, zI a1, zI a2] (zB v0 : X) (.junk : X) := by
 let T1 : List (Nat × X) := [(0, encAcct0 a0), (1, zI a1), (2, zI a2)]
 refine walk0 (fn := Try.f54) (fun q0 : Bool => (zB q0 : X)) (fun q0 : Bool => (.junk : X)) v0 ⟨T1, []⟩ Try.func54 rfl (by decide +kernel) fun Γ hn fin => ?_
 rw [impl_AcctOk] at h
 refine sqr cv hn ?_
 refine ro9 0 2 2 ⟨(6, zB false) :: (3, .ptr 3 1 0) :: T1, [(3, ⟨1, 1, true, some (encAcct0 a0)⟩)]⟩ ?_
 refine runs_seq ?_
 refine sqr cv hn ?_
 refine ro 0 1 1 ⟨(8, zI a1) :: (6, zB false) :: (3, .ptr 3 1 0) :: T1, [(3, ⟨1, 1, true, some (encAcct0 a0)⟩)]⟩ ?_
 obtain ⟨v10, hv11, h⟩ := bindO h
 refine rc 1 ⟨(9, zB v10) :: (8, zI a1) :: (6, zB false) :: (3, .ptr 3 1 0) :: T1, [(3, ⟨1, 1, true, some (encAcct0 a0)⟩)]⟩ (impl_in_spec a1 1 4 v10 hv11) ?_
 refine ro 2 2 2 ⟨(11, zB (!v10)) :: (10, zB (!v10)) :: (9, zB v10) :: (8, zI a1) :: (6, zB false) :: (3, .ptr 3 1 0) :: T1, [(3, ⟨1, 1, true, some (encAcct0 a0)⟩)]⟩ ?_
 rcases dich (!v10) with hb12 | hb12
 · replace h := cond_t hb12 h
   refine rl 11 true hb12 ?_
   refine ro9 4 12 3 ⟨(23, zB true) :: (22, .tup []) :: (21, .tup []) :: (20, .tup []) :: (19, .tup []) :: (18, zB true) :: (17, zB true) :: (16, .tup []) :: (15, .tup []) :: (14, .tup []) :: (13, .tup []) :: (12, .tup []) :: (11, zB true) :: (10, zB (!v10)) :: (9, zB v10) :: (8, zI a1) :: (6, zB false) :: (3, .ptr 3 1 0) :: T1, [(3, ⟨1, 1, true, some (encAcct0 a0)⟩)]⟩ ?_
   refine cT ?_
   let T5 : List (Nat × X) := [(3, .ptr 3 0 0), (1, zI a1), (2, zI a2)]
   let B5 : List (Nat × Bx) := [(3, ⟨0, 0, true, some (encAcct0 a0)⟩)]
   refine wkr [3, 1, 2] [(3, 3, false)] ⟨T5, B5⟩ ?_
   refine sqr cv hn ?_
   refine ro9 0 1 1 ⟨(6, zB false) :: T5, B5⟩ ?_
   refine runs_ret ?_
   exact fin _ _ h (by kernel_rfl)
 · replace h := cond_f hb12 h
   refine rl 11 false hb12 ?_
   refine ro 4 3 3 ⟨(14, zI (w64 (a1 - 1))) :: (13, zI a1) :: (12, zI a2) :: (11, zB false) :: (10, zB (!v10)) :: (9, zB v10) :: (8, zI a1) :: (6, zB false) :: (3, .ptr 3 1 0) :: T1, [(3, ⟨1, 1, true, some (encAcct0 a0)⟩)]⟩ ?_
   obtain ⟨v13, hv14, h⟩ := bindO h
   refine rc 7 ⟨(15, zB v13) :: (14, zI (w64 (a1 - 1))) :: (13, zI a1) :: (12, zI a2) :: (11, zB false) :: (10, zB (!v10)) :: (9, zB v10) :: (8, zI a1) :: (6, zB false) :: (3, .ptr 3 1 0) :: T1, [(3, ⟨1, 1, true, some (encAcct0 a0)⟩)]⟩ (impl_in_spec a2 0 (w64 (a1 - 1)) v13 hv14) ?_
   refine ro 8 3 3 ⟨(18, zB (!v13)) :: (17, zB (!v13)) :: (16, zB (!v13)) :: (15, zB v13) :: (14, zI (w64 (a1 - 1))) :: (13, zI a1) :: (12, zI a2) :: (11, zB false) :: (10, zB (!v10)) :: (9, zB v10) :: (8, zI a1) :: (6, zB false) :: (3, .ptr 3 1 0) :: T1, [(3, ⟨1, 1, true, some (encAcct0 a0)⟩)]⟩ ?_
   rcases dich (!v13) with hb15 | hb15
   · replace h := cond_t hb15 h
     refine rl 18 true hb15 ?_
     refine ro9 11 5 1 ⟨(23, zB true) :: (22, .tup []) :: (21, .tup []) :: (20, .tup []) :: (19, .tup []) :: (18, zB true) :: (17, zB (!v13)) :: (16, zB (!v13)) :: (15, zB v13) :: (14, zI (w64 (a1 - 1))) :: (13, zI a1) :: (12, zI a2) :: (11, zB false) :: (10, zB (!v10)) :: (9, zB v10) :: (8, zI a1) :: (6, zB false) :: (3, .ptr 3 1 0) :: T1, [(3, ⟨1, 1, true, some (encAcct0 a0)⟩)]⟩ ?_
     refine cT ?_
     let T6 : List (Nat × X) := [(3, .ptr 3 0 0), (1, zI a1), (2, zI a2)]
     let B6 : List (Nat × Bx) := [(3, ⟨0, 0, true, some (encAcct0 a0)⟩)]
     refine wkr [3, 1, 2] [(3, 3, false)] ⟨T6, B6⟩ ?_
     refine sqr cv hn ?_
     refine ro9 0 1 1 ⟨(6, zB false) :: T6, B6⟩ ?_
     refine runs_ret ?_
     exact fin _ _ h (by kernel_rfl)
   · replace h := cond_f hb15 h
     refine rl 18 false hb15 ?_
     refine ro 11 2 2 ⟨(20, zI a0.fHave) :: (19, .ptr 3 1 0) :: (18, zB false) :: (17, zB (!v13)) :: (16, zB (!v13)) :: (15, zB v13) :: (14, zI (w64 (a1 - 1))) :: (13, zI a1) :: (12, zI a2) :: (11, zB false) :: (10, zB (!v10)) :: (9, zB v10) :: (8, zI a1) :: (6, zB false) :: (3, .ptr 3 1 0) :: T1, [(3, ⟨1, 1, true, some (encAcct0 a0)⟩)]⟩ ?_
     obtain ⟨v16, hv17, h⟩ := bindO h
     refine rc 13 ⟨(21, zB v16) :: (20, zI a0.fHave) :: (19, .ptr 3 1 0) :: (18, zB false) :: (17, zB (!v13)) :: (16, zB (!v13)) :: (15, zB v13) :: (14, zI (w64 (a1 - 1))) :: (13, zI a1) :: (12, zI a2) :: (11, zB false) :: (10, zB (!v10)) :: (9, zB v10) :: (8, zI a1) :: (6, zB false) :: (3, .ptr 3 1 0) :: T1, [(3, ⟨1, 1, true, some (encAcct0 a0)⟩)]⟩ (impl_isNum_spec a0.fHave v16 hv17) ?_
     refine ro9 14 2 2 ⟨(23, zB (!v16)) :: (22, zB (!v16)) :: (21, zB v16) :: (20, zI a0.fHave) :: (19, .ptr 3 1 0) :: (18, zB false) :: (17, zB (!v13)) :: (16, zB (!v13)) :: (15, zB v13) :: (14, zI (w64 (a1 - 1))) :: (13, zI a1) :: (12, zI a2) :: (11, zB false) :: (10, zB (!v10)) :: (9, zB v10) :: (8, zI a1) :: (6, zB false) :: (3, .ptr 3 1 0) :: T1, [(3, ⟨1, 1, true, some (encAcct0 a0)⟩)]⟩ ?_
     rcases dich (!v16) with hb18 | hb18
     · replace h := cond_t hb18 h
       refine ct hb18 ?_
       let T7 : List (Nat × X) := [(3, .ptr 3 0 0), (1, zI a1), (2, zI a2)]
       let B7 : List (Nat × Bx) := [(3, ⟨0, 0, true, some (encAcct0 a0)⟩)]
       refine wkr [3, 1, 2] [(3, 3, false)] ⟨T7, B7⟩ ?_
       refine sqr cv hn ?_
       refine ro9 0 1 1 ⟨(6, zB false) :: T7, B7⟩ ?_
       refine runs_ret ?_
       exact fin _ _ h (by kernel_rfl)
     · replace h := cond_f hb18 h
       refine cf hb18 ?_
       refine runs_skip ?_
       refine runs_seq ?_
       let T11 : List (Nat × X) := [(3, .ptr 3 0 0), (1, zI a1), (2, zI a2)]
       let B11 : List (Nat × Bx) := [(3, ⟨0, 0, true, some (encAcct0 a0)⟩)]
       refine wkr [3, 1, 2] [(3, 3, false)] ⟨T11, B11⟩ ?_
       refine sqr cv hn ?_
       refine ro9 0 3 3 ⟨(26, zB (a0.fState == 0)) :: (25, zI a0.fState) :: (24, .ptr 3 0 1) :: T11, B11⟩ ?_
       rcases dich (a0.fState == 0) with hb22 | hb22
       · replace h := cond_t hb22 h
         refine ct hb22 ?_
         refine sqr cv hn ?_
         refine ro 0 4 4 ⟨(30, zB (a0.fBy == 0)) :: (29, zB (a0.fBy == 0)) :: (28, zI a0.fBy) :: (27, .ptr 3 0 2) :: (26, zB (a0.fState == 0)) :: (25, zI a0.fState) :: (24, .ptr 3 0 1) :: T11, B11⟩ ?_
         rcases dich (a0.fBy == 0) with hb23 | hb23
         · replace h := cond_t hb23 h
           refine rl 30 true hb23 ?_
           refine ro 4 6 6 ⟨(36, zB ((a0.fMarks.length : Int) == 0)) :: (35, zB ((a0.fMarks.length : Int) == 0)) :: (34, zB ((a0.fMarks.length : Int) == 0)) :: (33, zI (a0.fMarks.length : Int)) :: (32, .sl 0 (List.map encInt a0.fMarks)) :: (31, .ptr 3 0 3) :: (30, zB true) :: (29, zB (a0.fBy == 0)) :: (28, zI a0.fBy) :: (27, .ptr 3 0 2) :: (26, zB (a0.fState == 0)) :: (25, zI a0.fState) :: (24, .ptr 3 0 1) :: T11, B11⟩ ?_ (he := by rw [show (a0.fMarks.length : Int) = ((List.map encInt a0.fMarks).length : Int) from by rw [List.length_map]]; kernel_rfl)
           rcases dich ((a0.fMarks.length : Int) == 0) with hb24 | hb24
           · replace h := cond_t hb24 h
             refine rl 36 true hb24 ?_
             refine ro9 10 6 6 ⟨(6, zB ((a0.fReps.length : Int) == 0)) :: (41, zB ((a0.fReps.length : Int) == 0)) :: (40, zB ((a0.fReps.length : Int) == 0)) :: (39, zI (a0.fReps.length : Int)) :: (38, .sl 0 (List.map encRep a0.fReps)) :: (37, .ptr 3 0 4) :: (36, zB true) :: (35, zB ((a0.fMarks.length : Int) == 0)) :: (34, zB ((a0.fMarks.length : Int) == 0)) :: (33, zI (a0.fMarks.length : Int)) :: (32, .sl 0 (List.map encInt a0.fMarks)) :: (31, .ptr 3 0 3) :: (30, zB true) :: (29, zB (a0.fBy == 0)) :: (28, zI a0.fBy) :: (27, .ptr 3 0 2) :: (26, zB (a0.fState == 0)) :: (25, zI a0.fState) :: (24, .ptr 3 0 1) :: T11, B11⟩ ?_ (he := by rw [show (a0.fReps.length : Int) = ((List.map encRep a0.fReps).length : Int) from by rw [List.length_map]]; kernel_rfl)
             refine runs_ret ?_
             exact fin _ _ h (by kernel_rfl)
           · replace h := cond_f hb24 h
             refine rl 36 false hb24 ?_
             refine ro9 10 6 2 ⟨(6, zB false) :: (41, zB false) :: (40, .tup []) :: (39, .tup []) :: (38, .tup []) :: (37, .tup []) :: (36, zB false) :: (35, zB ((a0.fMarks.length : Int) == 0)) :: (34, zB ((a0.fMarks.length : Int) == 0)) :: (33, zI (a0.fMarks.length : Int)) :: (32, .sl 0 (List.map encInt a0.fMarks)) :: (31, .ptr 3 0 3) :: (30, zB true) :: (29, zB (a0.fBy == 0)) :: (28, zI a0.fBy) :: (27, .ptr 3 0 2) :: (26, zB (a0.fState == 0)) :: (25, zI a0.fState) :: (24, .ptr 3 0 1) :: T11, B11⟩ ?_
             refine runs_ret ?_
             exact fin _ _ h (by kernel_rfl)
         · replace h := cond_f hb23 h
           refine rl 30 false hb23 ?_
           refine ro9 4 12 4 ⟨(6, zB false) :: (41, zB false) :: (40, .tup []) :: (39, .tup []) :: (38, .tup []) :: (37, .tup []) :: (36, zB false) :: (35, zB false) :: (34, .tup []) :: (33, .tup []) :: (32, .tup []) :: (31, .tup []) :: (30, zB false) :: (29, zB (a0.fBy == 0)) :: (28, zI a0.fBy) :: (27, .ptr 3 0 2) :: (26, zB (a0.fState == 0)) :: (25, zI a0.fState) :: (24, .ptr 3 0 1) :: T11, B11⟩ ?_
           refine runs_ret ?_
           exact fin _ _ h (by kernel_rfl)
       · replace h := cond_f hb22 h
         refine cf hb22 ?_
         refine runs_skip ?_
         refine runs_seq ?_
         refine sqr cv hn ?_
         refine ro 0 4 4 ⟨(45, zI (w64 (a1 - 1))) :: (44, zI a1) :: (43, zI a0.fBy) :: (42, .ptr 3 0 2) :: (26, zB (a0.fState == 0)) :: (25, zI a0.fState) :: (24, .ptr 3 0 1) :: T11, B11⟩ ?_
         obtain ⟨v37, hv38, h⟩ := bindO h
         refine rc 4 ⟨(46, zB v37) :: (45, zI (w64 (a1 - 1))) :: (44, zI a1) :: (43, zI a0.fBy) :: (42, .ptr 3 0 2) :: (26, zB (a0.fState == 0)) :: (25, zI a0.fState) :: (24, .ptr 3 0 1) :: T11, B11⟩ (impl_in_spec a0.fBy 0 (w64 (a1 - 1)) v37 hv38) ?_
         refine ro 5 2 2 ⟨(48, zB (!v37)) :: (47, zB (!v37)) :: (46, zB v37) :: (45, zI (w64 (a1 - 1))) :: (44, zI a1) :: (43, zI a0.fBy) :: (42, .ptr 3 0 2) :: (26, zB (a0.fState == 0)) :: (25, zI a0.fState) :: (24, .ptr 3 0 1) :: T11, B11⟩ ?_
         rcases dich (!v37) with hb39 | hb39
         · replace h := cond_t hb39 h
           refine rl 48 true hb39 ?_
           refine ro9 7 18 5 ⟨(66, zB true) :: (65, .tup []) :: (64, .tup []) :: (63, .tup []) :: (62, .tup []) :: (61, zB true) :: (60, zB true) :: (59, .tup []) :: (58, .tup []) :: (57, .tup []) :: (56, .tup []) :: (55, zB true) :: (54, zB true) :: (53, .tup []) :: (52, .tup []) :: (51, .tup []) :: (50, .tup []) :: (49, .tup []) :: (48, zB true) :: (47, zB (!v37)) :: (46, zB v37) :: (45, zI (w64 (a1 - 1))) :: (44, zI a1) :: (43, zI a0.fBy) :: (42, .ptr 3 0 2) :: (26, zB (a0.fState == 0)) :: (25, zI a0.fState) :: (24, .ptr 3 0 1) :: T11, B11⟩ ?_
           refine cT ?_
           let T16 : List (Nat × X) := [(3, .ptr 3 0 0), (1, zI a1), (2, zI a2)]
           let B16 : List (Nat × Bx) := [(3, ⟨0, 0, true, some (encAcct0 a0)⟩)]
           refine wkr [3, 1, 2] [(3, 3, false)] ⟨T16, B16⟩ ?_
           refine sqr cv hn ?_
           refine ro9 0 1 1 ⟨(6, zB false) :: T16, B16⟩ ?_
           refine runs_ret ?_
           exact fin _ _ h (by kernel_rfl)
         · replace h := cond_f hb39 h
           refine rl 48 false hb39 ?_
           refine ro 7 3 3 ⟨(51, zI a1) :: (50, .sl 0 (List.map encInt a0.fMarks)) :: (49, .ptr 3 0 3) :: (48, zB false) :: (47, zB (!v37)) :: (46, zB v37) :: (45, zI (w64 (a1 - 1))) :: (44, zI a1) :: (43, zI a0.fBy) :: (42, .ptr 3 0 2) :: (26, zB (a0.fState == 0)) :: (25, zI a0.fState) :: (24, .ptr 3 0 1) :: T11, B11⟩ ?_
           obtain ⟨v40, hv41, h⟩ := bindO h
           refine rc 10 ⟨(52, zB v40) :: (51, zI a1) :: (50, .sl 0 (List.map encInt a0.fMarks)) :: (49, .ptr 3 0 3) :: (48, zB false) :: (47, zB (!v37)) :: (46, zB v37) :: (45, zI (w64 (a1 - 1))) :: (44, zI a1) :: (43, zI a0.fBy) :: (42, .ptr 3 0 2) :: (26, zB (a0.fState == 0)) :: (25, zI a0.fState) :: (24, .ptr 3 0 1) :: T11, B11⟩ (impl_nodesOk_spec a0.fMarks a1 v40 hv41) ?_
           refine ro 11 3 3 ⟨(55, zB (!v40)) :: (54, zB (!v40)) :: (53, zB (!v40)) :: (52, zB v40) :: (51, zI a1) :: (50, .sl 0 (List.map encInt a0.fMarks)) :: (49, .ptr 3 0 3) :: (48, zB false) :: (47, zB (!v37)) :: (46, zB v37) :: (45, zI (w64 (a1 - 1))) :: (44, zI a1) :: (43, zI a0.fBy) :: (42, .ptr 3 0 2) :: (26, zB (a0.fState == 0)) :: (25, zI a0.fState) :: (24, .ptr 3 0 1) :: T11, B11⟩ ?_
           rcases dich (!v40) with hb42 | hb42
           · replace h := cond_t hb42 h
             refine rl 55 true hb42 ?_
             refine ro9 14 11 3 ⟨(66, zB true) :: (65, .tup []) :: (64, .tup []) :: (63, .tup []) :: (62, .tup []) :: (61, zB true) :: (60, zB true) :: (59, .tup []) :: (58, .tup []) :: (57, .tup []) :: (56, .tup []) :: (55, zB true) :: (54, zB (!v40)) :: (53, zB (!v40)) :: (52, zB v40) :: (51, zI a1) :: (50, .sl 0 (List.map encInt a0.fMarks)) :: (49, .ptr 3 0 3) :: (48, zB false) :: (47, zB (!v37)) :: (46, zB v37) :: (45, zI (w64 (a1 - 1))) :: (44, zI a1) :: (43, zI a0.fBy) :: (42, .ptr 3 0 2) :: (26, zB (a0.fState == 0)) :: (25, zI a0.fState) :: (24, .ptr 3 0 1) :: T11, B11⟩ ?_
             refine cT ?_
             let T17 : List (Nat × X) := [(3, .ptr 3 0 0), (1, zI a1), (2, zI a2)]
             let B17 : List (Nat × Bx) := [(3, ⟨0, 0, true, some (encAcct0 a0)⟩)]
             refine wkr [3, 1, 2] [(3, 3, false)] ⟨T17, B17⟩ ?_
             refine sqr cv hn ?_
             refine ro9 0 1 1 ⟨(6, zB false) :: T17, B17⟩ ?_
             refine runs_ret ?_
             exact fin _ _ h (by kernel_rfl)
           · replace h := cond_f hb42 h
             refine rl 55 false hb42 ?_
             refine ro 14 3 3 ⟨(58, zI a2) :: (57, .sl 0 (List.map encInt a0.fMarks)) :: (56, .ptr 3 0 3) :: (55, zB false) :: (54, zB (!v40)) :: (53, zB (!v40)) :: (52, zB v40) :: (51, zI a1) :: (50, .sl 0 (List.map encInt a0.fMarks)) :: (49, .ptr 3 0 3) :: (48, zB false) :: (47, zB (!v37)) :: (46, zB v37) :: (45, zI (w64 (a1 - 1))) :: (44, zI a1) :: (43, zI a0.fBy) :: (42, .ptr 3 0 2) :: (26, zB (a0.fState == 0)) :: (25, zI a0.fState) :: (24, .ptr 3 0 1) :: T11, B11⟩ ?_
             obtain ⟨v43, hv44, h⟩ := bindO h
             refine rc 17 ⟨(59, zB v43) :: (58, zI a2) :: (57, .sl 0 (List.map encInt a0.fMarks)) :: (56, .ptr 3 0 3) :: (55, zB false) :: (54, zB (!v40)) :: (53, zB (!v40)) :: (52, zB v40) :: (51, zI a1) :: (50, .sl 0 (List.map encInt a0.fMarks)) :: (49, .ptr 3 0 3) :: (48, zB false) :: (47, zB (!v37)) :: (46, zB v37) :: (45, zI (w64 (a1 - 1))) :: (44, zI a1) :: (43, zI a0.fBy) :: (42, .ptr 3 0 2) :: (26, zB (a0.fState == 0)) :: (25, zI a0.fState) :: (24, .ptr 3 0 1) :: T11, B11⟩ (impl_hasInt_spec a0.fMarks a2 v43 hv44) ?_
             refine ro 18 2 2 ⟨(61, zB v43) :: (60, zB v43) :: (59, zB v43) :: (58, zI a2) :: (57, .sl 0 (List.map encInt a0.fMarks)) :: (56, .ptr 3 0 3) :: (55, zB false) :: (54, zB (!v40)) :: (53, zB (!v40)) :: (52, zB v40) :: (51, zI a1) :: (50, .sl 0 (List.map encInt a0.fMarks)) :: (49, .ptr 3 0 3) :: (48, zB false) :: (47, zB (!v37)) :: (46, zB v37) :: (45, zI (w64 (a1 - 1))) :: (44, zI a1) :: (43, zI a0.fBy) :: (42, .ptr 3 0 2) :: (26, zB (a0.fState == 0)) :: (25, zI a0.fState) :: (24, .ptr 3 0 1) :: T11, B11⟩ ?_
             rcases dich v43 with hb45 | hb45
             · replace h := cond_t hb45 h
               refine rl 61 true hb45 ?_
               refine ro9 20 5 1 ⟨(66, zB true) :: (65, .tup []) :: (64, .tup []) :: (63, .tup []) :: (62, .tup []) :: (61, zB true) :: (60, zB v43) :: (59, zB v43) :: (58, zI a2) :: (57, .sl 0 (List.map encInt a0.fMarks)) :: (56, .ptr 3 0 3) :: (55, zB false) :: (54, zB (!v40)) :: (53, zB (!v40)) :: (52, zB v40) :: (51, zI a1) :: (50, .sl 0 (List.map encInt a0.fMarks)) :: (49, .ptr 3 0 3) :: (48, zB false) :: (47, zB (!v37)) :: (46, zB v37) :: (45, zI (w64 (a1 - 1))) :: (44, zI a1) :: (43, zI a0.fBy) :: (42, .ptr 3 0 2) :: (26, zB (a0.fState == 0)) :: (25, zI a0.fState) :: (24, .ptr 3 0 1) :: T11, B11⟩ ?_
               refine cT ?_
               let T18 : List (Nat × X) := [(3, .ptr 3 0 0), (1, zI a1), (2, zI a2)]
               let B18 : List (Nat × Bx) := [(3, ⟨0, 0, true, some (encAcct0 a0)⟩)]
               refine wkr [3, 1, 2] [(3, 3, false)] ⟨T18, B18⟩ ?_
               refine sqr cv hn ?_
               refine ro9 0 1 1 ⟨(6, zB false) :: T18, B18⟩ ?_
               refine runs_ret ?_
               exact fin _ _ h (by kernel_rfl)
             · replace h := cond_f hb45 h
               refine rl 61 false hb45 ?_
               refine ro 20 2 2 ⟨(63, zI a1) :: (62, encAcct0 a0) :: (61, zB false) :: (60, zB v43) :: (59, zB v43) :: (58, zI a2) :: (57, .sl 0 (List.map encInt a0.fMarks)) :: (56, .ptr 3 0 3) :: (55, zB false) :: (54, zB (!v40)) :: (53, zB (!v40)) :: (52, zB v40) :: (51, zI a1) :: (50, .sl 0 (List.map encInt a0.fMarks)) :: (49, .ptr 3 0 3) :: (48, zB false) :: (47, zB (!v37)) :: (46, zB v37) :: (45, zI (w64 (a1 - 1))) :: (44, zI a1) :: (43, zI a0.fBy) :: (42, .ptr 3 0 2) :: (26, zB (a0.fState == 0)) :: (25, zI a0.fState) :: (24, .ptr 3 0 1) :: T11, B11⟩ ?_
               obtain ⟨v46, hv47, h⟩ := bindO h
               refine rc 22 ⟨(64, zB v46) :: (63, zI a1) :: (62, encAcct0 a0) :: (61, zB false) :: (60, zB v43) :: (59, zB v43) :: (58, zI a2) :: (57, .sl 0 (List.map encInt a0.fMarks)) :: (56, .ptr 3 0 3) :: (55, zB false) :: (54, zB (!v40)) :: (53, zB (!v40)) :: (52, zB v40) :: (51, zI a1) :: (50, .sl 0 (List.map encInt a0.fMarks)) :: (49, .ptr 3 0 3) :: (48, zB false) :: (47, zB (!v37)) :: (46, zB v37) :: (45, zI (w64 (a1 - 1))) :: (44, zI a1) :: (43, zI a0.fBy) :: (42, .ptr 3 0 2) :: (26, zB (a0.fState == 0)) :: (25, zI a0.fState) :: (24, .ptr 3 0 1) :: T11, B11⟩ (impl_repsOk_spec a0 a1 v46 hv47) ?_
               refine ro9 23 2 2 ⟨(66, zB (!v46)) :: (65, zB (!v46)) :: (64, zB v46) :: (63, zI a1) :: (62, encAcct0 a0) :: (61, zB false) :: (60, zB v43) :: (59, zB v43) :: (58, zI a2) :: (57, .sl 0 (List.map encInt a0.fMarks)) :: (56, .ptr 3 0 3) :: (55, zB false) :: (54, zB (!v40)) :: (53, zB (!v40)) :: (52, zB v40) :: (51, zI a1) :: (50, .sl 0 (List.map encInt a0.fMarks)) :: (49, .ptr 3 0 3) :: (48, zB false) :: (47, zB (!v37)) :: (46, zB v37) :: (45, zI (w64 (a1 - 1))) :: (44, zI a1) :: (43, zI a0.fBy) :: (42, .ptr 3 0 2) :: (26, zB (a0.fState == 0)) :: (25, zI a0.fState) :: (24, .ptr 3 0 1) :: T11, B11⟩ ?_
               rcases dich (!v46) with hb48 | hb48
               · replace h := cond_t hb48 h
                 refine ct hb48 ?_
                 let T19 : List (Nat × X) := [(3, .ptr 3 0 0), (1, zI a1), (2, zI a2)]
                 let B19 : List (Nat × Bx) := [(3, ⟨0, 0, true, some (encAcct0 a0)⟩)]
                 refine wkr [3, 1, 2] [(3, 3, false)] ⟨T19, B19⟩ ?_
                 refine sqr cv hn ?_
                 refine ro9 0 1 1 ⟨(6, zB false) :: T19, B19⟩ ?_
                 refine runs_ret ?_
                 exact fin _ _ h (by kernel_rfl)
               · replace h := cond_f hb48 h
                 refine cf hb48 ?_
                 refine runs_skip ?_
                 let T21 : List (Nat × X) := [(3, .ptr 3 0 0), (1, zI a1), (2, zI a2)]
                 let B21 : List (Nat × Bx) := [(3, ⟨0, 0, true, some (encAcct0 a0)⟩)]
                 refine wkr [3, 1, 2] [(3, 3, false)] ⟨T21, B21⟩ ?_
                 refine sqr cv hn ?_
                 refine ro 0 2 2 ⟨(68, zI a2) :: (67, encAcct0 a0) :: T21, B21⟩ ?_
                 obtain ⟨v51, hv52, h⟩ := bindO h
                 refine rc 2 ⟨(69, zI v51) :: (68, zI a2) :: (67, encAcct0 a0) :: T21, B21⟩ (impl_repAt_spec a0 a2 v51 hv52) ?_
                 refine ro9 3 1 1 ⟨(7, zI v51) :: (69, zI v51) :: (68, zI a2) :: (67, encAcct0 a0) :: T21, B21⟩ ?_
                 refine runs_seqJ (σ := Unit) (fun s => ⟨[(1, zI a1), (3, .ptr 3 0 0)], [(3, ⟨0, 0, true, some (encAcct0 a0)⟩)]⟩) (fun s => impl_AcctOk_j1 a0 a1 = some v0) ?_ ?_
                 · rintro _ h
                   rw [impl_AcctOk_j1] at h
                   let B24 : List (Nat × Bx) := [(3, ⟨0, 0, true, some (encAcct0 a0)⟩)]
                   refine seq0 ⟨[(1, zI a1), (3, .ptr 3 0 0)], B24⟩ ?_
                   refine runs_seq ?_
                   refine sqr cv hn ?_
                   refine ro9 0 5 5 ⟨[(98, zB ((a0.fReps.length : Int) == a1)), (97, zI a1), (96, zI (a0.fReps.length : Int)), (95, .sl 0 (List.map encRep a0.fReps)), (94, .ptr 3 0 4), (1, zI a1), (3, .ptr 3 0 0)], B24⟩ ?_ (he := by rw [show (a0.fReps.length : Int) = ((List.map encRep a0.fReps).length : Int) from by rw [List.length_map]]; kernel_rfl)
                   rcases dich ((a0.fReps.length : Int) == a1) with hb58 | hb58
                   · replace h := cond_t hb58 h
                     refine ct hb58 ?_
                     let B25 : List (Nat × Bx) := [(3, ⟨0, 0, true, some (encAcct0 a0)⟩)]
                     refine wkr [3] [(3, 3, false)] ⟨[(3, .ptr 3 0 0)], B25⟩ ?_
                     refine sqr cv hn ?_
                     refine ro9 0 4 4 ⟨[(6, zB (a0.fState == 2)), (101, zB (a0.fState == 2)), (100, zI a0.fState), (99, .ptr 3 0 1), (3, .ptr 3 0 0)], B25⟩ ?_
                     refine runs_ret ?_
                     exact fin _ _ h (by kernel_rfl)
                   · replace h := cond_f hb58 h
                     refine cf hb58 ?_
                     refine runs_skip ?_
                     let B26 : List (Nat × Bx) := [(3, ⟨0, 0, true, some (encAcct0 a0)⟩)]
                     refine wkr [3] [(3, 3, false)] ⟨[(3, .ptr 3 0 0)], B26⟩ ?_
                     refine sqr cv hn ?_
                     refine ro9 0 4 4 ⟨[(6, zB (a0.fState == 1)), (104, zB (a0.fState == 1)), (103, zI a0.fState), (102, .ptr 3 0 1), (3, .ptr 3 0 0)], B26⟩ ?_
                     refine runs_ret ?_
                     exact fin _ _ h (by kernel_rfl)
                 · skip
                   refine runs_seq ?_
                   refine rgT cv mixed hn ?_
                   refine roT 0 10 10 ⟨(79, zB ((decide (v51 ≥ 0)) != ((a0.fMarks.length : Int) == (w64 (a1 - 1))))) :: (78, zB ((decide (v51 ≥ 0)) != ((a0.fMarks.length : Int) == (w64 (a1 - 1))))) :: (77, zB ((a0.fMarks.length : Int) == (w64 (a1 - 1)))) :: (76, zI (w64 (a1 - 1))) :: (75, zI a1) :: (74, zI (a0.fMarks.length : Int)) :: (73, .sl 0 (List.map encInt a0.fMarks)) :: (72, .ptr 3 0 3) :: (71, zB (decide (v51 ≥ 0))) :: (70, zI v51) :: (7, zI v51) :: (69, zI v51) :: (68, zI a2) :: (67, encAcct0 a0) :: T21, B21⟩ ?_ (he := by rw [show (a0.fMarks.length : Int) = ((List.map encInt a0.fMarks).length : Int) from by rw [List.length_map]]; kernel_rfl)
                   rcases dich ((decide (v51 ≥ 0)) != ((a0.fMarks.length : Int) == (w64 (a1 - 1)))) with hb59 | hb59
                   · replace h := cond_t hb59 h
                     refine rlT 79 true hb59 ?_
                     refine roT9 10 14 1 ⟨(93, zB true) :: (92, .tup []) :: (91, .tup []) :: (90, .tup []) :: (89, .tup []) :: (88, .tup []) :: (87, .tup []) :: (86, .tup []) :: (85, .tup []) :: (84, .tup []) :: (83, .tup []) :: (82, .tup []) :: (81, .tup []) :: (80, .tup []) :: (79, zB true) :: (78, zB ((decide (v51 ≥ 0)) != ((a0.fMarks.length : Int) == (w64 (a1 - 1))))) :: (77, zB ((a0.fMarks.length : Int) == (w64 (a1 - 1)))) :: (76, zI (w64 (a1 - 1))) :: (75, zI a1) :: (74, zI (a0.fMarks.length : Int)) :: (73, .sl 0 (List.map encInt a0.fMarks)) :: (72, .ptr 3 0 3) :: (71, zB (decide (v51 ≥ 0))) :: (70, zI v51) :: (7, zI v51) :: (69, zI v51) :: (68, zI a2) :: (67, encAcct0 a0) :: T21, B21⟩ ?_
                     refine cT ?_
                     let B27 : List (Nat × Bx) := [(3, ⟨0, 0, true, some (encAcct0 a0)⟩)]
                     refine wkr [3, 1] [(3, 3, false)] ⟨[(3, .ptr 3 0 0), (1, zI a1)], B27⟩ ?_
                     refine sqr cv hn ?_
                     refine ro9 0 1 1 ⟨[(6, zB false), (3, .ptr 3 0 0), (1, zI a1)], B27⟩ ?_
                     refine runs_ret ?_
                     exact fin _ _ h (by kernel_rfl)
                   · replace h := cond_f hb59 h
                     refine rlT 79 false hb59 ?_
                     refine roT 10 3 3 ⟨(82, zB (decide (v51 ≥ 0))) :: (81, zB (decide (v51 ≥ 0))) :: (80, zI v51) :: (79, zB false) :: (78, zB ((decide (v51 ≥ 0)) != ((a0.fMarks.length : Int) == (w64 (a1 - 1))))) :: (77, zB ((a0.fMarks.length : Int) == (w64 (a1 - 1)))) :: (76, zI (w64 (a1 - 1))) :: (75, zI a1) :: (74, zI (a0.fMarks.length : Int)) :: (73, .sl 0 (List.map encInt a0.fMarks)) :: (72, .ptr 3 0 3) :: (71, zB (decide (v51 ≥ 0))) :: (70, zI v51) :: (7, zI v51) :: (69, zI v51) :: (68, zI a2) :: (67, encAcct0 a0) :: T21, B21⟩ ?_
                     rcases dich (decide (v51 ≥ 0)) with hb60 | hb60
                     · replace h := cond_t hb60 h
                       refine rlT 82 true hb60 ?_
                       refine roT 13 3 3 ⟨(85, zI v51) :: (84, .sl 0 (List.map encRep a0.fReps)) :: (83, .ptr 3 0 4) :: (82, zB true) :: (81, zB (decide (v51 ≥ 0))) :: (80, zI v51) :: (79, zB false) :: (78, zB ((decide (v51 ≥ 0)) != ((a0.fMarks.length : Int) == (w64 (a1 - 1))))) :: (77, zB ((a0.fMarks.length : Int) == (w64 (a1 - 1)))) :: (76, zI (w64 (a1 - 1))) :: (75, zI a1) :: (74, zI (a0.fMarks.length : Int)) :: (73, .sl 0 (List.map encInt a0.fMarks)) :: (72, .ptr 3 0 3) :: (71, zB (decide (v51 ≥ 0))) :: (70, zI v51) :: (7, zI v51) :: (69, zI v51) :: (68, zI a2) :: (67, encAcct0 a0) :: T21, B21⟩ ?_
                       obtain ⟨x61, hx62, h⟩ := bindO h
                       refine rixT 16 encRep 110 hx62 (ix_nn hx62) ⟨(86, .rp (encRep x61) 0) :: (85, zI v51) :: (84, .sl 0 (List.map encRep a0.fReps)) :: (83, .ptr 3 0 4) :: (82, zB true) :: (81, zB (decide (v51 ≥ 0))) :: (80, zI v51) :: (79, zB false) :: (78, zB ((decide (v51 ≥ 0)) != ((a0.fMarks.length : Int) == (w64 (a1 - 1))))) :: (77, zB ((a0.fMarks.length : Int) == (w64 (a1 - 1)))) :: (76, zI (w64 (a1 - 1))) :: (75, zI a1) :: (74, zI (a0.fMarks.length : Int)) :: (73, .sl 0 (List.map encInt a0.fMarks)) :: (72, .ptr 3 0 3) :: (71, zB (decide (v51 ≥ 0))) :: (70, zI v51) :: (7, zI v51) :: (69, zI v51) :: (68, zI a2) :: (67, encAcct0 a0) :: T21, B21⟩ ?_
                       refine roT9 17 7 7 ⟨(93, zB (x61.fAmt != a0.fHave)) :: (92, zB (x61.fAmt != a0.fHave)) :: (91, zB (x61.fAmt != a0.fHave)) :: (90, zI a0.fHave) :: (89, .ptr 3 0 0) :: (88, zI x61.fAmt) :: (87, .rp (encRep x61) 1) :: (86, .rp (encRep x61) 0) :: (85, zI v51) :: (84, .sl 0 (List.map encRep a0.fReps)) :: (83, .ptr 3 0 4) :: (82, zB true) :: (81, zB (decide (v51 ≥ 0))) :: (80, zI v51) :: (79, zB false) :: (78, zB ((decide (v51 ≥ 0)) != ((a0.fMarks.length : Int) == (w64 (a1 - 1))))) :: (77, zB ((a0.fMarks.length : Int) == (w64 (a1 - 1)))) :: (76, zI (w64 (a1 - 1))) :: (75, zI a1) :: (74, zI (a0.fMarks.length : Int)) :: (73, .sl 0 (List.map encInt a0.fMarks)) :: (72, .ptr 3 0 3) :: (71, zB (decide (v51 ≥ 0))) :: (70, zI v51) :: (7, zI v51) :: (69, zI v51) :: (68, zI a2) :: (67, encAcct0 a0) :: T21, B21⟩ ?_
                       rcases dich (x61.fAmt != a0.fHave) with hb63 | hb63
                       · replace h := cond_t hb63 h
                         refine ct hb63 ?_
                         let B28 : List (Nat × Bx) := [(3, ⟨0, 0, true, some (encAcct0 a0)⟩)]
                         refine wkr [3, 1] [(3, 3, false)] ⟨[(3, .ptr 3 0 0), (1, zI a1)], B28⟩ ?_
                         refine sqr cv hn ?_
                         refine ro9 0 1 1 ⟨[(6, zB false), (3, .ptr 3 0 0), (1, zI a1)], B28⟩ ?_
                         refine runs_ret ?_
                         exact fin _ _ h (by kernel_rfl)
                       · replace h := cond_f hb63 h
                         refine cf hb63 ?_
                         refine runs_skip ?_
                         exact ⟨(), h, wre [1, 3] [(3, 3, false)]⟩
                     · replace h := cond_f hb60 h
                       refine rlT 82 false hb60 ?_
                       refine roT9 13 11 2 ⟨(93, zB false) :: (92, zB false) :: (91, .tup []) :: (90, .tup []) :: (89, .tup []) :: (88, .tup []) :: (87, .tup []) :: (86, .tup []) :: (85, .tup []) :: (84, .tup []) :: (83, .tup []) :: (82, zB false) :: (81, zB (decide (v51 ≥ 0))) :: (80, zI v51) :: (79, zB false) :: (78, zB ((decide (v51 ≥ 0)) != ((a0.fMarks.length : Int) == (w64 (a1 - 1))))) :: (77, zB ((a0.fMarks.length : Int) == (w64 (a1 - 1)))) :: (76, zI (w64 (a1 - 1))) :: (75, zI a1) :: (74, zI (a0.fMarks.length : Int)) :: (73, .sl 0 (List.map encInt a0.fMarks)) :: (72, .ptr 3 0 3) :: (71, zB (decide (v51 ≥ 0))) :: (70, zI v51) :: (7, zI v51) :: (69, zI v51) :: (68, zI a2) :: (67, encAcct0 a0) :: T21, B21⟩ ?_
                       refine cF ?_
                       refine runs_skip ?_
                       exact ⟨(), h, wre [1, 3] [(3, 3, false)]⟩

set_option maxRecDepth 100000 in
set_option maxHeartbeats 2000000 in
theorem laws_FnAcct_spec (a0 : (List Int)) (v0 : Bool) (h : laws_FnAcct a0 = some v0) : Ax.Spec Try.prog 13 none [.sl 0 (List.map encU8 a0)] (zB v0 : X) (.junk : X) := by
 refine walk0 (fn := Try.f13) (fun q0 : Bool => (zB q0 : X)) (fun q0 : Bool => (.junk : X)) v0 ⟨[(0, .sl 0 (List.map encU8 a0))], []⟩ Try.func13 rfl (by decide +kernel) fun Γ hn fin => ?_
 rw [laws_FnAcct] at h
 refine sqr cv hn ?_
 refine ro9 0 1 1 ⟨[(2, zB false), (0, .sl 0 (List.map encU8 a0))], []⟩ ?_
 refine runs_seq ?_
 refine sqr cv hn ?_
 refine ro9 0 3 3 ⟨[(21, zB (decide ((a0.length : Int) > 1048576))), (20, zI (a0.length : Int)), (19, .sl 0 (List.map encU8 a0)), (2, zB false), (0, .sl 0 (List.map encU8 a0))], []⟩ ?_ (he := by rw [show (a0.length : Int) = ((List.map encU8 a0).length : Int) from by rw [List.length_map]]; kernel_rfl)
 rcases dich (decide ((a0.length : Int) > 1048576)) with hb2 | hb2
 · replace h := cond_t hb2 h
   refine ct hb2 ?_
   refine sqr cv hn ?_
   refine ro9 0 1 1 ⟨[(2, zB true), (21, zB (decide ((a0.length : Int) > 1048576))), (20, zI (a0.length : Int)), (19, .sl 0 (List.map encU8 a0)), (2, zB false), (0, .sl 0 (List.map encU8 a0))], []⟩ ?_
   refine runs_ret ?_
   exact fin _ _ h (by kernel_rfl)
 · replace h := cond_f hb2 h
   refine cf hb2 ?_
   refine runs_skip ?_
   refine sqr cv hn ?_
   refine ro 0 1 1 ⟨[(22, .sl 0 (List.map encU8 a0)), (21, zB (decide ((a0.length : Int) > 1048576))), (20, zI (a0.length : Int)), (19, .sl 0 (List.map encU8 a0)), (2, zB false), (0, .sl 0 (List.map encU8 a0))], []⟩ ?_
   obtain ⟨v5, hv6, h⟩ := bindO h
   refine rc 1 ⟨[(23, zI v5), (22, .sl 0 (List.map encU8 a0)), (21, zB (decide ((a0.length : Int) > 1048576))), (20, zI (a0.length : Int)), (19, .sl 0 (List.map encU8 a0)), (2, zB false), (0, .sl 0 (List.map encU8 a0))], []⟩ (spec_MakeNum_spec a0 1000 v5 hv6) ?_
   refine ro9 2 2 2 ⟨[(3, zI (w64 (1 + v5))), (24, zI (w64 (1 + v5))), (23, zI v5), (22, .sl 0 (List.map encU8 a0)), (21, zB (decide ((a0.length : Int) > 1048576))), (20, zI (a0.length : Int)), (19, .sl 0 (List.map encU8 a0)), (2, zB false), (0, .sl 0 (List.map encU8 a0))], []⟩ ?_
   let T3 : List (Nat × X) := [(3, zI (w64 (1 + v5))), (0, .sl 0 (List.map encU8 a0))]
   refine wkr [3, 0] [] ⟨T3, []⟩ ?_
   refine sqr cv hn ?_
   obtain ⟨v11, hv12, h⟩ := bindO h
   refine rc 0 ⟨(26, .agg [zI v11.fHave, zI v11.fState, zI v11.fBy, .view 26 1 [] 0, .view 10026 1 [] 0]) :: T3, [(10026, ⟨1, 1, false, some (.sl 1 (List.map encRep v11.fReps))⟩), (26, ⟨1, 1, false, some (.sl 1 (List.map encInt v11.fMarks))⟩)]⟩ (impl_AcctNew_spec  v11 hv12) ?_
   refine ro 1 1 1 ⟨(27, zI (w64 (1 + v5))) :: (26, .agg [zI v11.fHave, zI v11.fState, zI v11.fBy, .view 26 1 [] 0, .view 10026 1 [] 0]) :: T3, [(10026, ⟨1, 1, false, some (.sl 1 (List.map encRep v11.fReps))⟩), (26, ⟨1, 1, false, some (.sl 1 (List.map encInt v11.fMarks))⟩)]⟩ ?_
   obtain ⟨v13, hv14, h⟩ := bindO h
   refine rcH 2 [List.map encInt v11.fMarks, List.map encRep v11.fReps] ⟨(28, .tup [.agg [zI v13.1.fHave, zI v13.1.fState, zI v13.1.fBy, .view 28 1 [] 0, .view 10028 1 [] 0], zB v13.2]) :: (27, zI (w64 (1 + v5))) :: (26, .agg [zI v11.fHave, zI v11.fState, zI v11.fBy, .view 26 1 [] 0, .view 10026 1 [] 0]) :: T3, [(10028, ⟨1, 1, false, some (.sl 1 (List.map encRep v13.1.fReps))⟩), (28, ⟨1, 1, false, some (.sl 1 (List.map encInt v13.1.fMarks))⟩), (10026, ⟨1, 1, false, some (.sl 1 (List.map encRep v11.fReps))⟩), (26, ⟨1, 1, false, some (.sl 1 (List.map encInt v11.fMarks))⟩)]⟩ [X.rds (List.map encInt v11.fMarks) = true, X.roifys (List.map encInt v11.fMarks) = List.map encInt v11.fMarks, X.rds (List.map encRep v11.fReps) = true, X.roifys (List.map encRep v11.fReps) = List.map encRep v11.fReps, rootsBut (cv 49) 0 [.agg [zI v11.fHave, zI v11.fState, zI v11.fBy, .view 26 1 [] 0, .view 10026 1 [] 0], zI (w64 (1 + v5))] = false ∨ (X.noRo (.tup [encAcct1 v13.1, zB v13.2] : X) = true ∧ X.noRo (.junk : X) = true)] (impl_AcctAdd_spec v11 (w64 (1 + v5)) v13 hv14) ⟨rds_map rde_Int _, ro_map ro_Int _, rds_map rde_Rep _, ro_map ro_Rep _, .inr ⟨(nr_tup (nr_cons (nr_agg (nr_cons rfl (nr_cons rfl (nr_cons rfl (nr_cons (nr_sl (nr_map nr_Int _)) (nr_cons (nr_sl (nr_map nr_Rep _)) nr_nil)))))) (nr_cons rfl nr_nil))), rfl⟩, trivial⟩ ?_
   refine ro9 3 6 6 ⟨(5, zB v13.2) :: (4, .ptr 4 1 0) :: (30, zB v13.2) :: (29, .agg [zI v13.1.fHave, zI v13.1.fState, zI v13.1.fBy, .view 28 1 [] 0, .view 10028 1 [] 0]) :: (25, .tup [.agg [zI v13.1.fHave, zI v13.1.fState, zI v13.1.fBy, .view 28 1 [] 0, .view 10028 1 [] 0], zB v13.2]) :: (28, .tup [.agg [zI v13.1.fHave, zI v13.1.fState, zI v13.1.fBy, .view 28 1 [] 0, .view 10028 1 [] 0], zB v13.2]) :: (27, zI (w64 (1 + v5))) :: (26, .agg [zI v11.fHave, zI v11.fState, zI v11.fBy, .view 26 1 [] 0, .view 10026 1 [] 0]) :: T3, [(4, ⟨1, 2, true, some (encAcct1 v13.1)⟩), (10028, ⟨1, 2, false, some (.junk)⟩), (28, ⟨1, 2, false, some (.junk)⟩), (4, ⟨1, 1, true, some (.agg [zI 0, zI 0, zI 0, .sl 1 (List.map encInt []), .sl 1 (List.map encRep [])])⟩), (10028, ⟨1, 1, false, some (.sl 1 (List.map encRep v13.1.fReps))⟩), (28, ⟨1, 1, false, some (.sl 1 (List.map encInt v13.1.fMarks))⟩), (10026, ⟨1, 1, false, some (.sl 1 (List.map encRep v11.fReps))⟩), (26, ⟨1, 1, false, some (.sl 1 (List.map encInt v11.fMarks))⟩)]⟩ ?_
   let T5 : List (Nat × X) := [(5, zB v13.2), (4, .ptr 4 0 0), (3, zI (w64 (1 + v5))), (0, .sl 0 (List.map encU8 a0))]
   let B5 : List (Nat × Bx) := [(4, ⟨0, 0, true, some (encAcct1 v13.1)⟩)]
   refine wkr [5, 4, 3, 0] [(4, 4, false)] ⟨T5, B5⟩ ?_
   refine sqr cv hn ?_
   refine ro 0 2 2 ⟨(32, zI (w64 (1 + v5))) :: (31, .sl 0 (List.map encU8 a0)) :: T5, B5⟩ ?_
   obtain ⟨v17, hv18, h⟩ := bindO h
   refine rc 2 ⟨(33, zI v17) :: (32, zI (w64 (1 + v5))) :: (31, .sl 0 (List.map encU8 a0)) :: T5, B5⟩ (spec_MakeNum_spec a0 (w64 (1 + v5)) v17 hv18) ?_
   refine ro9 3 2 2 ⟨(6, zI (w64 (1 + v17))) :: (34, zI (w64 (1 + v17))) :: (33, zI v17) :: (32, zI (w64 (1 + v5))) :: (31, .sl 0 (List.map encU8 a0)) :: T5, B5⟩ ?_
   let T7 : List (Nat × X) := [(6, zI (w64 (1 + v17))), (5, zB v13.2), (4, .ptr 4 0 0), (3, zI (w64 (1 + v5)))]
   let B7 : List (Nat × Bx) := [(4, ⟨0, 0, true, some (encAcct1 v13.1)⟩)]
   refine wkr [6, 5, 4, 3] [(4, 4, false)] ⟨T7, B7⟩ ?_
   refine sqr cv hn ?_
   refine ro 0 2 2 ⟨(37, zI (w64 (1 + v17))) :: (36, .agg [zI v13.1.fHave, zI v13.1.fState, zI v13.1.fBy, .view 4 0 [] 3, .view 4 0 [] 4]) :: T7, B7⟩ ?_
   obtain ⟨v21, hv22, h⟩ := bindO h
   refine rcH 2 [List.map encInt v13.1.fMarks, List.map encRep v13.1.fReps] ⟨(38, .tup [.agg [zI v21.1.fHave, zI v21.1.fState, zI v21.1.fBy, .view 38 1 [] 0, .view 10038 1 [] 0], zB v21.2]) :: (37, zI (w64 (1 + v17))) :: (36, .agg [zI v13.1.fHave, zI v13.1.fState, zI v13.1.fBy, .view 4 0 [] 3, .view 4 0 [] 4]) :: T7, (10038, ⟨1, 1, false, some (.sl 1 (List.map encRep v21.1.fReps))⟩) :: (38, ⟨1, 1, false, some (.sl 1 (List.map encInt v21.1.fMarks))⟩) :: B7⟩ [X.rds (List.map encInt v13.1.fMarks) = true, X.roifys (List.map encInt v13.1.fMarks) = List.map encInt v13.1.fMarks, X.rds (List.map encRep v13.1.fReps) = true, X.roifys (List.map encRep v13.1.fReps) = List.map encRep v13.1.fReps, rootsBut (cv 51) 0 [.agg [zI v13.1.fHave, zI v13.1.fState, zI v13.1.fBy, .view 4 0 [] 3, .view 4 0 [] 4], zI (w64 (1 + v17))] = false ∨ (X.noRo (.tup [encAcct1 v21.1, zB v21.2] : X) = true ∧ X.noRo (.junk : X) = true)] (impl_AcctTake_spec v13.1 (w64 (1 + v17)) v21 hv22) ⟨rds_map rde_Int _, ro_map ro_Int _, rds_map rde_Rep _, ro_map ro_Rep _, .inr ⟨(nr_tup (nr_cons (nr_agg (nr_cons rfl (nr_cons rfl (nr_cons rfl (nr_cons (nr_sl (nr_map nr_Int _)) (nr_cons (nr_sl (nr_map nr_Rep _)) nr_nil)))))) (nr_cons rfl nr_nil))), rfl⟩, trivial⟩ ?_
   refine ro9 3 6 6 ⟨(8, zB v21.2) :: (7, .ptr 7 1 0) :: (40, zB v21.2) :: (39, .agg [zI v21.1.fHave, zI v21.1.fState, zI v21.1.fBy, .view 38 1 [] 0, .view 10038 1 [] 0]) :: (35, .tup [.agg [zI v21.1.fHave, zI v21.1.fState, zI v21.1.fBy, .view 38 1 [] 0, .view 10038 1 [] 0], zB v21.2]) :: (38, .tup [.agg [zI v21.1.fHave, zI v21.1.fState, zI v21.1.fBy, .view 38 1 [] 0, .view 10038 1 [] 0], zB v21.2]) :: (37, zI (w64 (1 + v17))) :: (36, .agg [zI v13.1.fHave, zI v13.1.fState, zI v13.1.fBy, .view 4 0 [] 3, .view 4 0 [] 4]) :: T7, (7, ⟨1, 2, true, some (encAcct1 v21.1)⟩) :: (10038, ⟨1, 2, false, some (.junk)⟩) :: (38, ⟨1, 2, false, some (.junk)⟩) :: (7, ⟨1, 1, true, some (.agg [zI 0, zI 0, zI 0, .sl 1 (List.map encInt []), .sl 1 (List.map encRep [])])⟩) :: (10038, ⟨1, 1, false, some (.sl 1 (List.map encRep v21.1.fReps))⟩) :: (38, ⟨1, 1, false, some (.sl 1 (List.map encInt v21.1.fMarks))⟩) :: B7⟩ ?_
   let T9 : List (Nat × X) := [(8, zB v21.2), (7, .ptr 7 0 0), (6, zI (w64 (1 + v17))), (5, zB v13.2), (4, .ptr 4 0 0), (3, zI (w64 (1 + v5)))]
   let B9 : List (Nat × Bx) := [(7, ⟨0, 0, true, some (encAcct1 v21.1)⟩), (4, ⟨0, 0, true, some (encAcct1 v13.1)⟩)]
   refine wkr [8, 7, 6, 5, 4, 3] [(7, 7, false), (4, 4, false)] ⟨T9, B9⟩ ?_
   refine sqr cv hn ?_
   refine ro 0 3 3 ⟨(44, zI (w64 ((w64 (1 + v5)) + 1))) :: (43, zI (w64 (1 + v5))) :: (42, .agg [zI v13.1.fHave, zI v13.1.fState, zI v13.1.fBy, .view 4 0 [] 3, .view 4 0 [] 4]) :: T9, B9⟩ ?_
   obtain ⟨v25, hv26, h⟩ := bindO h
   refine rcH 3 [List.map encInt v13.1.fMarks, List.map encRep v13.1.fReps] ⟨(45, .tup [.agg [zI v25.1.fHave, zI v25.1.fState, zI v25.1.fBy, .view 45 1 [] 0, .view 10045 1 [] 0], zB v25.2]) :: (44, zI (w64 ((w64 (1 + v5)) + 1))) :: (43, zI (w64 (1 + v5))) :: (42, .agg [zI v13.1.fHave, zI v13.1.fState, zI v13.1.fBy, .view 4 0 [] 3, .view 4 0 [] 4]) :: T9, (10045, ⟨1, 1, false, some (.sl 1 (List.map encRep v25.1.fReps))⟩) :: (45, ⟨1, 1, false, some (.sl 1 (List.map encInt v25.1.fMarks))⟩) :: B9⟩ [X.rds (List.map encInt v13.1.fMarks) = true, X.roifys (List.map encInt v13.1.fMarks) = List.map encInt v13.1.fMarks, X.rds (List.map encRep v13.1.fReps) = true, X.roifys (List.map encRep v13.1.fReps) = List.map encRep v13.1.fReps, rootsBut (cv 51) 0 [.agg [zI v13.1.fHave, zI v13.1.fState, zI v13.1.fBy, .view 4 0 [] 3, .view 4 0 [] 4], zI (w64 ((w64 (1 + v5)) + 1))] = false ∨ (X.noRo (.tup [encAcct1 v25.1, zB v25.2] : X) = true ∧ X.noRo (.junk : X) = true)] (impl_AcctTake_spec v13.1 (w64 ((w64 (1 + v5)) + 1)) v25 hv26) ⟨rds_map rde_Int _, ro_map ro_Int _, rds_map rde_Rep _, ro_map ro_Rep _, .inr ⟨(nr_tup (nr_cons (nr_agg (nr_cons rfl (nr_cons rfl (nr_cons rfl (nr_cons (nr_sl (nr_map nr_Int _)) (nr_cons (nr_sl (nr_map nr_Rep _)) nr_nil)))))) (nr_cons rfl nr_nil))), rfl⟩, trivial⟩ ?_
   refine ro9 4 6 6 ⟨(10, zB v25.2) :: (9, .ptr 9 1 0) :: (47, zB v25.2) :: (46, .agg [zI v25.1.fHave, zI v25.1.fState, zI v25.1.fBy, .view 45 1 [] 0, .view 10045 1 [] 0]) :: (41, .tup [.agg [zI v25.1.fHave, zI v25.1.fState, zI v25.1.fBy, .view 45 1 [] 0, .view 10045 1 [] 0], zB v25.2]) :: (45, .tup [.agg [zI v25.1.fHave, zI v25.1.fState, zI v25.1.fBy, .view 45 1 [] 0, .view 10045 1 [] 0], zB v25.2]) :: (44, zI (w64 ((w64 (1 + v5)) + 1))) :: (43, zI (w64 (1 + v5))) :: (42, .agg [zI v13.1.fHave, zI v13.1.fState, zI v13.1.fBy, .view 4 0 [] 3, .view 4 0 [] 4]) :: T9, (9, ⟨1, 2, true, some (encAcct1 v25.1)⟩) :: (10045, ⟨1, 2, false, some (.junk)⟩) :: (45, ⟨1, 2, false, some (.junk)⟩) :: (9, ⟨1, 1, true, some (.agg [zI 0, zI 0, zI 0, .sl 1 (List.map encInt []), .sl 1 (List.map encRep [])])⟩) :: (10045, ⟨1, 1, false, some (.sl 1 (List.map encRep v25.1.fReps))⟩) :: (45, ⟨1, 1, false, some (.sl 1 (List.map encInt v25.1.fMarks))⟩) :: B9⟩ ?_
   let T11 : List (Nat × X) := [(10, zB v25.2), (8, zB v21.2), (7, .ptr 7 0 0), (6, zI (w64 (1 + v17))), (5, zB v13.2), (4, .ptr 4 0 0), (3, zI (w64 (1 + v5)))]
   let B11 : List (Nat × Bx) := [(7, ⟨0, 0, true, some (encAcct1 v21.1)⟩), (4, ⟨0, 0, true, some (encAcct1 v13.1)⟩)]
   refine wkr [10, 8, 7, 6, 5, 4, 3] [(7, 7, false), (4, 4, false)] ⟨T11, B11⟩ ?_
   refine sqr cv hn ?_
   refine ro 0 1 1 ⟨(49, .agg [zI v21.1.fHave, zI v21.1.fState, zI v21.1.fBy, .view 7 0 [] 3, .view 7 0 [] 4]) :: T11, B11⟩ ?_
   obtain ⟨v29, hv30, h⟩ := bindO h
   refine rcH 1 [List.map encInt v21.1.fMarks, List.map encRep v21.1.fReps] ⟨(50, .tup [.agg [zI v29.1.fHave, zI v29.1.fState, zI v29.1.fBy, .view 50 1 [] 0, .view 10050 1 [] 0], zB v29.2]) :: (49, .agg [zI v21.1.fHave, zI v21.1.fState, zI v21.1.fBy, .view 7 0 [] 3, .view 7 0 [] 4]) :: T11, (10050, ⟨1, 1, false, some (.sl 1 (List.map encRep v29.1.fReps))⟩) :: (50, ⟨1, 1, false, some (.sl 1 (List.map encInt v29.1.fMarks))⟩) :: B11⟩ [X.rds (List.map encInt v21.1.fMarks) = true, X.roifys (List.map encInt v21.1.fMarks) = List.map encInt v21.1.fMarks, X.rds (List.map encRep v21.1.fReps) = true, X.roifys (List.map encRep v21.1.fReps) = List.map encRep v21.1.fReps, rootsBut (cv 52) 0 [.agg [zI v21.1.fHave, zI v21.1.fState, zI v21.1.fBy, .view 7 0 [] 3, .view 7 0 [] 4], zI 2] = false ∨ (X.noRo (.tup [encAcct1 v29.1, zB v29.2] : X) = true ∧ X.noRo (.junk : X) = true)] (impl_AcctShut_spec v21.1 2 v29 hv30) ⟨rds_map rde_Int _, ro_map ro_Int _, rds_map rde_Rep _, ro_map ro_Rep _, .inr ⟨(nr_tup (nr_cons (nr_agg (nr_cons rfl (nr_cons rfl (nr_cons rfl (nr_cons (nr_sl (nr_map nr_Int _)) (nr_cons (nr_sl (nr_map nr_Rep _)) nr_nil)))))) (nr_cons rfl nr_nil))), rfl⟩, trivial⟩ ?_
   refine ro9 2 6 6 ⟨(12, zB v29.2) :: (11, .ptr 11 1 0) :: (52, zB v29.2) :: (51, .agg [zI v29.1.fHave, zI v29.1.fState, zI v29.1.fBy, .view 50 1 [] 0, .view 10050 1 [] 0]) :: (48, .tup [.agg [zI v29.1.fHave, zI v29.1.fState, zI v29.1.fBy, .view 50 1 [] 0, .view 10050 1 [] 0], zB v29.2]) :: (50, .tup [.agg [zI v29.1.fHave, zI v29.1.fState, zI v29.1.fBy, .view 50 1 [] 0, .view 10050 1 [] 0], zB v29.2]) :: (49, .agg [zI v21.1.fHave, zI v21.1.fState, zI v21.1.fBy, .view 7 0 [] 3, .view 7 0 [] 4]) :: T11, (11, ⟨1, 2, true, some (encAcct1 v29.1)⟩) :: (10050, ⟨1, 2, false, some (.junk)⟩) :: (50, ⟨1, 2, false, some (.junk)⟩) :: (11, ⟨1, 1, true, some (.agg [zI 0, zI 0, zI 0, .sl 1 (List.map encInt []), .sl 1 (List.map encRep [])])⟩) :: (10050, ⟨1, 1, false, some (.sl 1 (List.map encRep v29.1.fReps))⟩) :: (50, ⟨1, 1, false, some (.sl 1 (List.map encInt v29.1.fMarks))⟩) :: B11⟩ ?_
   let T13 : List (Nat × X) := [(12, zB v29.2), (11, .ptr 11 0 0), (10, zB v25.2), (8, zB v21.2), (7, .ptr 7 0 0), (6, zI (w64 (1 + v17))), (5, zB v13.2), (4, .ptr 4 0 0), (3, zI (w64 (1 + v5)))]
   let B13 : List (Nat × Bx) := [(11, ⟨0, 0, true, some (encAcct1 v29.1)⟩), (7, ⟨0, 0, true, some (encAcct1 v21.1)⟩), (4, ⟨0, 0, true, some (encAcct1 v13.1)⟩)]
   refine wkr [12, 11, 10, 8, 7, 6, 5, 4, 3] [(11, 11, false), (7, 7, false), (4, 4, false)] ⟨T13, B13⟩ ?_
   refine sqr cv hn ?_
   refine ro 0 1 1 ⟨(54, .agg [zI v29.1.fHave, zI v29.1.fState, zI v29.1.fBy, .view 11 0 [] 3, .view 11 0 [] 4]) :: T13, B13⟩ ?_
   obtain ⟨v33, hv34, h⟩ := bindO h
   refine rcH 1 [List.map encInt v29.1.fMarks, List.map encRep v29.1.fReps] ⟨(55, .tup [.agg [zI v33.1.fHave, zI v33.1.fState, zI v33.1.fBy, .view 55 1 [] 0, .view 10055 1 [] 0], zB v33.2]) :: (54, .agg [zI v29.1.fHave, zI v29.1.fState, zI v29.1.fBy, .view 11 0 [] 3, .view 11 0 [] 4]) :: T13, (10055, ⟨1, 1, false, some (.sl 1 (List.map encRep v33.1.fReps))⟩) :: (55, ⟨1, 1, false, some (.sl 1 (List.map encInt v33.1.fMarks))⟩) :: B13⟩ [X.rds (List.map encInt v29.1.fMarks) = true, X.roifys (List.map encInt v29.1.fMarks) = List.map encInt v29.1.fMarks, X.rds (List.map encRep v29.1.fReps) = true, X.roifys (List.map encRep v29.1.fReps) = List.map encRep v29.1.fReps, rootsBut (cv 52) 0 [.agg [zI v29.1.fHave, zI v29.1.fState, zI v29.1.fBy, .view 11 0 [] 3, .view 11 0 [] 4], zI 2] = false ∨ (X.noRo (.tup [encAcct1 v33.1, zB v33.2] : X) = true ∧ X.noRo (.junk : X) = true)] (impl_AcctShut_spec v29.1 2 v33 hv34) ⟨rds_map rde_Int _, ro_map ro_Int _, rds_map rde_Rep _, ro_map ro_Rep _, .inr ⟨(nr_tup (nr_cons (nr_agg (nr_cons rfl (nr_cons rfl (nr_cons rfl (nr_cons (nr_sl (nr_map nr_Int _)) (nr_cons (nr_sl (nr_map nr_Rep _)) nr_nil)))))) (nr_cons rfl nr_nil))), rfl⟩, trivial⟩ ?_
   refine ro9 2 6 6 ⟨(14, zB v33.2) :: (13, .ptr 13 1 0) :: (57, zB v33.2) :: (56, .agg [zI v33.1.fHave, zI v33.1.fState, zI v33.1.fBy, .view 55 1 [] 0, .view 10055 1 [] 0]) :: (53, .tup [.agg [zI v33.1.fHave, zI v33.1.fState, zI v33.1.fBy, .view 55 1 [] 0, .view 10055 1 [] 0], zB v33.2]) :: (55, .tup [.agg [zI v33.1.fHave, zI v33.1.fState, zI v33.1.fBy, .view 55 1 [] 0, .view 10055 1 [] 0], zB v33.2]) :: (54, .agg [zI v29.1.fHave, zI v29.1.fState, zI v29.1.fBy, .view 11 0 [] 3, .view 11 0 [] 4]) :: T13, (13, ⟨1, 2, true, some (encAcct1 v33.1)⟩) :: (10055, ⟨1, 2, false, some (.junk)⟩) :: (55, ⟨1, 2, false, some (.junk)⟩) :: (13, ⟨1, 1, true, some (.agg [zI 0, zI 0, zI 0, .sl 1 (List.map encInt []), .sl 1 (List.map encRep [])])⟩) :: (10055, ⟨1, 1, false, some (.sl 1 (List.map encRep v33.1.fReps))⟩) :: (55, ⟨1, 1, false, some (.sl 1 (List.map encInt v33.1.fMarks))⟩) :: B13⟩ ?_
   let T15 : List (Nat × X) := [(14, zB v33.2), (12, zB v29.2), (11, .ptr 11 0 0), (10, zB v25.2), (8, zB v21.2), (7, .ptr 7 0 0), (6, zI (w64 (1 + v17))), (5, zB v13.2), (4, .ptr 4 0 0), (3, zI (w64 (1 + v5)))]
   let B15 : List (Nat × Bx) := [(11, ⟨0, 0, true, some (encAcct1 v29.1)⟩), (7, ⟨0, 0, true, some (encAcct1 v21.1)⟩), (4, ⟨0, 0, true, some (encAcct1 v13.1)⟩)]
   refine wkr [14, 12, 11, 10, 8, 7, 6, 5, 4, 3] [(11, 11, false), (7, 7, false), (4, 4, false)] ⟨T15, B15⟩ ?_
   refine sqr cv hn ?_
   refine ro 0 1 1 ⟨(59, .agg [zI v29.1.fHave, zI v29.1.fState, zI v29.1.fBy, .view 11 0 [] 3, .view 11 0 [] 4]) :: T15, B15⟩ ?_
   obtain ⟨v37, hv38, h⟩ := bindO h
   refine rcH 1 [List.map encInt v29.1.fMarks, List.map encRep v29.1.fReps] ⟨(60, .tup [.agg [zI v37.1.fHave, zI v37.1.fState, zI v37.1.fBy, .view 60 1 [] 0, .view 10060 1 [] 0], zB v37.2]) :: (59, .agg [zI v29.1.fHave, zI v29.1.fState, zI v29.1.fBy, .view 11 0 [] 3, .view 11 0 [] 4]) :: T15, (10060, ⟨1, 1, false, some (.sl 1 (List.map encRep v37.1.fReps))⟩) :: (60, ⟨1, 1, false, some (.sl 1 (List.map encInt v37.1.fMarks))⟩) :: B15⟩ [X.rds (List.map encInt v29.1.fMarks) = true, X.roifys (List.map encInt v29.1.fMarks) = List.map encInt v29.1.fMarks, X.rds (List.map encRep v29.1.fReps) = true, X.roifys (List.map encRep v29.1.fReps) = List.map encRep v29.1.fReps, rootsBut (cv 53) 0 [.agg [zI v29.1.fHave, zI v29.1.fState, zI v29.1.fBy, .view 11 0 [] 3, .view 11 0 [] 4], zI 1] = false ∨ (X.noRo (.tup [encAcct1 v37.1, zB v37.2] : X) = true ∧ X.noRo (.junk : X) = true)] (impl_AcctMark_spec v29.1 1 v37 hv38) ⟨rds_map rde_Int _, ro_map ro_Int _, rds_map rde_Rep _, ro_map ro_Rep _, .inr ⟨(nr_tup (nr_cons (nr_agg (nr_cons rfl (nr_cons rfl (nr_cons rfl (nr_cons (nr_sl (nr_map nr_Int _)) (nr_cons (nr_sl (nr_map nr_Rep _)) nr_nil)))))) (nr_cons rfl nr_nil))), rfl⟩, trivial⟩ ?_
   refine ro9 2 6 6 ⟨(16, zB v37.2) :: (15, .ptr 15 1 0) :: (62, zB v37.2) :: (61, .agg [zI v37.1.fHave, zI v37.1.fState, zI v37.1.fBy, .view 60 1 [] 0, .view 10060 1 [] 0]) :: (58, .tup [.agg [zI v37.1.fHave, zI v37.1.fState, zI v37.1.fBy, .view 60 1 [] 0, .view 10060 1 [] 0], zB v37.2]) :: (60, .tup [.agg [zI v37.1.fHave, zI v37.1.fState, zI v37.1.fBy, .view 60 1 [] 0, .view 10060 1 [] 0], zB v37.2]) :: (59, .agg [zI v29.1.fHave, zI v29.1.fState, zI v29.1.fBy, .view 11 0 [] 3, .view 11 0 [] 4]) :: T15, (15, ⟨1, 2, true, some (encAcct1 v37.1)⟩) :: (10060, ⟨1, 2, false, some (.junk)⟩) :: (60, ⟨1, 2, false, some (.junk)⟩) :: (15, ⟨1, 1, true, some (.agg [zI 0, zI 0, zI 0, .sl 1 (List.map encInt []), .sl 1 (List.map encRep [])])⟩) :: (10060, ⟨1, 1, false, some (.sl 1 (List.map encRep v37.1.fReps))⟩) :: (60, ⟨1, 1, false, some (.sl 1 (List.map encInt v37.1.fMarks))⟩) :: B15⟩ ?_
   let T17 : List (Nat × X) := [(16, zB v37.2), (15, .ptr 15 0 0), (14, zB v33.2), (12, zB v29.2), (11, .ptr 11 0 0), (10, zB v25.2), (8, zB v21.2), (7, .ptr 7 0 0), (6, zI (w64 (1 + v17))), (5, zB v13.2), (4, .ptr 4 0 0), (3, zI (w64 (1 + v5)))]
   let B17 : List (Nat × Bx) := [(15, ⟨0, 0, true, some (encAcct1 v37.1)⟩), (11, ⟨0, 0, true, some (encAcct1 v29.1)⟩), (7, ⟨0, 0, true, some (encAcct1 v21.1)⟩), (4, ⟨0, 0, true, some (encAcct1 v13.1)⟩)]
   refine wkr [16, 15, 14, 12, 11, 10, 8, 7, 6, 5, 4, 3] [(15, 15, false), (11, 11, false), (7, 7, false), (4, 4, false)] ⟨T17, B17⟩ ?_
   refine sqr cv hn ?_
   refine ro 0 1 1 ⟨(64, .agg [zI v21.1.fHave, zI v21.1.fState, zI v21.1.fBy, .view 7 0 [] 3, .view 7 0 [] 4]) :: T17, B17⟩ ?_
   obtain ⟨v41, hv42, h⟩ := bindO h
   refine rcH 1 [List.map encInt v21.1.fMarks, List.map encRep v21.1.fReps] ⟨(65, .tup [.agg [zI v41.1.fHave, zI v41.1.fState, zI v41.1.fBy, .view 65 1 [] 0, .view 10065 1 [] 0], zB v41.2]) :: (64, .agg [zI v21.1.fHave, zI v21.1.fState, zI v21.1.fBy, .view 7 0 [] 3, .view 7 0 [] 4]) :: T17, (10065, ⟨1, 1, false, some (.sl 1 (List.map encRep v41.1.fReps))⟩) :: (65, ⟨1, 1, false, some (.sl 1 (List.map encInt v41.1.fMarks))⟩) :: B17⟩ [X.rds (List.map encInt v21.1.fMarks) = true, X.roifys (List.map encInt v21.1.fMarks) = List.map encInt v21.1.fMarks, X.rds (List.map encRep v21.1.fReps) = true, X.roifys (List.map encRep v21.1.fReps) = List.map encRep v21.1.fReps, rootsBut (cv 53) 0 [.agg [zI v21.1.fHave, zI v21.1.fState, zI v21.1.fBy, .view 7 0 [] 3, .view 7 0 [] 4], zI 1] = false ∨ (X.noRo (.tup [encAcct1 v41.1, zB v41.2] : X) = true ∧ X.noRo (.junk : X) = true)] (impl_AcctMark_spec v21.1 1 v41 hv42) ⟨rds_map rde_Int _, ro_map ro_Int _, rds_map rde_Rep _, ro_map ro_Rep _, .inr ⟨(nr_tup (nr_cons (nr_agg (nr_cons rfl (nr_cons rfl (nr_cons rfl (nr_cons (nr_sl (nr_map nr_Int _)) (nr_cons (nr_sl (nr_map nr_Rep _)) nr_nil)))))) (nr_cons rfl nr_nil))), rfl⟩, trivial⟩ ?_
   refine ro9 2 6 6 ⟨(18, zB v41.2) :: (17, .ptr 17 1 0) :: (67, zB v41.2) :: (66, .agg [zI v41.1.fHave, zI v41.1.fState, zI v41.1.fBy, .view 65 1 [] 0, .view 10065 1 [] 0]) :: (63, .tup [.agg [zI v41.1.fHave, zI v41.1.fState, zI v41.1.fBy, .view 65 1 [] 0, .view 10065 1 [] 0], zB v41.2]) :: (65, .tup [.agg [zI v41.1.fHave, zI v41.1.fState, zI v41.1.fBy, .view 65 1 [] 0, .view 10065 1 [] 0], zB v41.2]) :: (64, .agg [zI v21.1.fHave, zI v21.1.fState, zI v21.1.fBy, .view 7 0 [] 3, .view 7 0 [] 4]) :: T17, (17, ⟨1, 2, true, some (encAcct1 v41.1)⟩) :: (10065, ⟨1, 2, false, some (.junk)⟩) :: (65, ⟨1, 2, false, some (.junk)⟩) :: (17, ⟨1, 1, true, some (.agg [zI 0, zI 0, zI 0, .sl 1 (List.map encInt []), .sl 1 (List.map encRep [])])⟩) :: (10065, ⟨1, 1, false, some (.sl 1 (List.map encRep v41.1.fReps))⟩) :: (65, ⟨1, 1, false, some (.sl 1 (List.map encInt v41.1.fMarks))⟩) :: B17⟩ ?_
   let T18 : List (Nat × X) := [(18, zB v41.2), (16, zB v37.2), (15, .ptr 15 0 0), (14, zB v33.2), (12, zB v29.2), (11, .ptr 11 0 0), (10, zB v25.2), (8, zB v21.2), (7, .ptr 7 0 0), (6, zI (w64 (1 + v17))), (5, zB v13.2), (4, .ptr 4 0 0), (3, zI (w64 (1 + v5)))]
   let B18 : List (Nat × Bx) := [(15, ⟨0, 0, true, some (encAcct1 v37.1)⟩), (11, ⟨0, 0, true, some (encAcct1 v29.1)⟩), (7, ⟨0, 0, true, some (encAcct1 v21.1)⟩), (4, ⟨0, 0, true, some (encAcct1 v13.1)⟩)]
   refine wkr [18, 16, 15, 14, 12, 11, 10, 8, 7, 6, 5, 4, 3] [(15, 15, false), (11, 11, false), (7, 7, false), (4, 4, false)] ⟨T18, B18⟩ ?_
   refine sqr cv hn ?_
   refine ro 0 2 2 ⟨(69, zB v13.2) :: (68, zB v13.2) :: T18, B18⟩ ?_
   rcases dich v13.2 with hb43 | hb43
   · replace h := cond_t hb43 h
     refine rl 69 true hb43 ?_
     refine ro 2 3 3 ⟨(72, zB v21.2) :: (71, zB v21.2) :: (70, zB v21.2) :: (69, zB true) :: (68, zB v13.2) :: T18, B18⟩ ?_
     rcases dich v21.2 with hb44 | hb44
     · replace h := cond_t hb44 h
       refine rl 72 true hb44 ?_
       refine ro 5 4 4 ⟨(76, zB (!v25.2)) :: (75, zB (!v25.2)) :: (74, zB (!v25.2)) :: (73, zB v25.2) :: (72, zB true) :: (71, zB v21.2) :: (70, zB v21.2) :: (69, zB true) :: (68, zB v13.2) :: T18, B18⟩ ?_
       rcases dich (!v25.2) with hb45 | hb45
       · replace h := cond_t hb45 h
         refine rl 76 true hb45 ?_
         refine ro 9 3 3 ⟨(79, zB v29.2) :: (78, zB v29.2) :: (77, zB v29.2) :: (76, zB true) :: (75, zB (!v25.2)) :: (74, zB (!v25.2)) :: (73, zB v25.2) :: (72, zB true) :: (71, zB v21.2) :: (70, zB v21.2) :: (69, zB true) :: (68, zB v13.2) :: T18, B18⟩ ?_
         rcases dich v29.2 with hb46 | hb46
         · replace h := cond_t hb46 h
           refine rl 79 true hb46 ?_
           refine ro 12 4 4 ⟨(83, zB (!v33.2)) :: (82, zB (!v33.2)) :: (81, zB (!v33.2)) :: (80, zB v33.2) :: (79, zB true) :: (78, zB v29.2) :: (77, zB v29.2) :: (76, zB true) :: (75, zB (!v25.2)) :: (74, zB (!v25.2)) :: (73, zB v25.2) :: (72, zB true) :: (71, zB v21.2) :: (70, zB v21.2) :: (69, zB true) :: (68, zB v13.2) :: T18, B18⟩ ?_
           rcases dich (!v33.2) with hb47 | hb47
           · replace h := cond_t hb47 h
             refine rl 83 true hb47 ?_
             refine ro 16 3 3 ⟨(86, zB v37.2) :: (85, zB v37.2) :: (84, zB v37.2) :: (83, zB true) :: (82, zB (!v33.2)) :: (81, zB (!v33.2)) :: (80, zB v33.2) :: (79, zB true) :: (78, zB v29.2) :: (77, zB v29.2) :: (76, zB true) :: (75, zB (!v25.2)) :: (74, zB (!v25.2)) :: (73, zB v25.2) :: (72, zB true) :: (71, zB v21.2) :: (70, zB v21.2) :: (69, zB true) :: (68, zB v13.2) :: T18, B18⟩ ?_
             rcases dich v37.2 with hb48 | hb48
             · replace h := cond_t hb48 h
               refine rl 86 true hb48 ?_
               refine ro 19 4 4 ⟨(90, zB (!v41.2)) :: (89, zB (!v41.2)) :: (88, zB (!v41.2)) :: (87, zB v41.2) :: (86, zB true) :: (85, zB v37.2) :: (84, zB v37.2) :: (83, zB true) :: (82, zB (!v33.2)) :: (81, zB (!v33.2)) :: (80, zB v33.2) :: (79, zB true) :: (78, zB v29.2) :: (77, zB v29.2) :: (76, zB true) :: (75, zB (!v25.2)) :: (74, zB (!v25.2)) :: (73, zB v25.2) :: (72, zB true) :: (71, zB v21.2) :: (70, zB v21.2) :: (69, zB true) :: (68, zB v13.2) :: T18, B18⟩ ?_
               rcases dich (!v41.2) with hb49 | hb49
               · replace h := cond_t hb49 h
                 refine rl 90 true hb49 ?_
                 refine ro 23 6 6 ⟨(96, zB (v13.1.fHave == (w64 (1 + v5)))) :: (95, zB (v13.1.fHave == (w64 (1 + v5)))) :: (94, zB (v13.1.fHave == (w64 (1 + v5)))) :: (93, zI (w64 (1 + v5))) :: (92, zI v13.1.fHave) :: (91, .ptr 4 0 0) :: (90, zB true) :: (89, zB (!v41.2)) :: (88, zB (!v41.2)) :: (87, zB v41.2) :: (86, zB true) :: (85, zB v37.2) :: (84, zB v37.2) :: (83, zB true) :: (82, zB (!v33.2)) :: (81, zB (!v33.2)) :: (80, zB v33.2) :: (79, zB true) :: (78, zB v29.2) :: (77, zB v29.2) :: (76, zB true) :: (75, zB (!v25.2)) :: (74, zB (!v25.2)) :: (73, zB v25.2) :: (72, zB true) :: (71, zB v21.2) :: (70, zB v21.2) :: (69, zB true) :: (68, zB v13.2) :: T18, B18⟩ ?_
                 rcases dich (v13.1.fHave == (w64 (1 + v5))) with hb50 | hb50
                 · replace h := cond_t hb50 h
                   refine rl 96 true hb50 ?_
                   refine ro 29 8 8 ⟨(104, zB (v21.1.fHave == (w64 ((w64 (1 + v5)) - (w64 (1 + v17)))))) :: (103, zB (v21.1.fHave == (w64 ((w64 (1 + v5)) - (w64 (1 + v17)))))) :: (102, zB (v21.1.fHave == (w64 ((w64 (1 + v5)) - (w64 (1 + v17)))))) :: (101, zI (w64 ((w64 (1 + v5)) - (w64 (1 + v17))))) :: (100, zI (w64 (1 + v17))) :: (99, zI (w64 (1 + v5))) :: (98, zI v21.1.fHave) :: (97, .ptr 7 0 0) :: (96, zB true) :: (95, zB (v13.1.fHave == (w64 (1 + v5)))) :: (94, zB (v13.1.fHave == (w64 (1 + v5)))) :: (93, zI (w64 (1 + v5))) :: (92, zI v13.1.fHave) :: (91, .ptr 4 0 0) :: (90, zB true) :: (89, zB (!v41.2)) :: (88, zB (!v41.2)) :: (87, zB v41.2) :: (86, zB true) :: (85, zB v37.2) :: (84, zB v37.2) :: (83, zB true) :: (82, zB (!v33.2)) :: (81, zB (!v33.2)) :: (80, zB v33.2) :: (79, zB true) :: (78, zB v29.2) :: (77, zB v29.2) :: (76, zB true) :: (75, zB (!v25.2)) :: (74, zB (!v25.2)) :: (73, zB v25.2) :: (72, zB true) :: (71, zB v21.2) :: (70, zB v21.2) :: (69, zB true) :: (68, zB v13.2) :: T18, B18⟩ ?_
                   rcases dich (v21.1.fHave == (w64 ((w64 (1 + v5)) - (w64 (1 + v17))))) with hb51 | hb51
                   · replace h := cond_t hb51 h
                     refine rl 104 true hb51 ?_
                     refine ro 37 1 1 ⟨(105, .agg [zI v13.1.fHave, zI v13.1.fState, zI v13.1.fBy, .view 4 0 [] 3, .view 4 0 [] 4]) :: (104, zB true) :: (103, zB (v21.1.fHave == (w64 ((w64 (1 + v5)) - (w64 (1 + v17)))))) :: (102, zB (v21.1.fHave == (w64 ((w64 (1 + v5)) - (w64 (1 + v17)))))) :: (101, zI (w64 ((w64 (1 + v5)) - (w64 (1 + v17))))) :: (100, zI (w64 (1 + v17))) :: (99, zI (w64 (1 + v5))) :: (98, zI v21.1.fHave) :: (97, .ptr 7 0 0) :: (96, zB true) :: (95, zB (v13.1.fHave == (w64 (1 + v5)))) :: (94, zB (v13.1.fHave == (w64 (1 + v5)))) :: (93, zI (w64 (1 + v5))) :: (92, zI v13.1.fHave) :: (91, .ptr 4 0 0) :: (90, zB true) :: (89, zB (!v41.2)) :: (88, zB (!v41.2)) :: (87, zB v41.2) :: (86, zB true) :: (85, zB v37.2) :: (84, zB v37.2) :: (83, zB true) :: (82, zB (!v33.2)) :: (81, zB (!v33.2)) :: (80, zB v33.2) :: (79, zB true) :: (78, zB v29.2) :: (77, zB v29.2) :: (76, zB true) :: (75, zB (!v25.2)) :: (74, zB (!v25.2)) :: (73, zB v25.2) :: (72, zB true) :: (71, zB v21.2) :: (70, zB v21.2) :: (69, zB true) :: (68, zB v13.2) :: T18, B18⟩ ?_
                     obtain ⟨v52, hv53, h⟩ := bindO h
                     refine rcH 38 [List.map encInt v13.1.fMarks, List.map encRep v13.1.fReps] ⟨(106, zB v52) :: (105, .agg [zI v13.1.fHave, zI v13.1.fState, zI v13.1.fBy, .view 4 0 [] 3, .view 4 0 [] 4]) :: (104, zB true) :: (103, zB (v21.1.fHave == (w64 ((w64 (1 + v5)) - (w64 (1 + v17)))))) :: (102, zB (v21.1.fHave == (w64 ((w64 (1 + v5)) - (w64 (1 + v17)))))) :: (101, zI (w64 ((w64 (1 + v5)) - (w64 (1 + v17))))) :: (100, zI (w64 (1 + v17))) :: (99, zI (w64 (1 + v5))) :: (98, zI v21.1.fHave) :: (97, .ptr 7 0 0) :: (96, zB true) :: (95, zB (v13.1.fHave == (w64 (1 + v5)))) :: (94, zB (v13.1.fHave == (w64 (1 + v5)))) :: (93, zI (w64 (1 + v5))) :: (92, zI v13.1.fHave) :: (91, .ptr 4 0 0) :: (90, zB true) :: (89, zB (!v41.2)) :: (88, zB (!v41.2)) :: (87, zB v41.2) :: (86, zB true) :: (85, zB v37.2) :: (84, zB v37.2) :: (83, zB true) :: (82, zB (!v33.2)) :: (81, zB (!v33.2)) :: (80, zB v33.2) :: (79, zB true) :: (78, zB v29.2) :: (77, zB v29.2) :: (76, zB true) :: (75, zB (!v25.2)) :: (74, zB (!v25.2)) :: (73, zB v25.2) :: (72, zB true) :: (71, zB v21.2) :: (70, zB v21.2) :: (69, zB true) :: (68, zB v13.2) :: T18, B18⟩ [X.rds (List.map encInt v13.1.fMarks) = true, X.roifys (List.map encInt v13.1.fMarks) = List.map encInt v13.1.fMarks, X.rds (List.map encRep v13.1.fReps) = true, X.roifys (List.map encRep v13.1.fReps) = List.map encRep v13.1.fReps, rootsBut (cv 54) 0 [.agg [zI v13.1.fHave, zI v13.1.fState, zI v13.1.fBy, .view 4 0 [] 3, .view 4 0 [] 4], zI 3, zI 0] = false ∨ (X.noRo (zB v52 : X) = true ∧ X.noRo (.junk : X) = true)] (impl_AcctOk_spec v13.1 3 0 v52 hv53) ⟨rds_map rde_Int _, ro_map ro_Int _, rds_map rde_Rep _, ro_map ro_Rep _, .inr ⟨rfl, rfl⟩, trivial⟩ ?_
                     refine ro 39 2 2 ⟨(108, zB v52) :: (107, zB v52) :: (106, zB v52) :: (105, .agg [zI v13.1.fHave, zI v13.1.fState, zI v13.1.fBy, .view 4 0 [] 3, .view 4 0 [] 4]) :: (104, zB true) :: (103, zB (v21.1.fHave == (w64 ((w64 (1 + v5)) - (w64 (1 + v17)))))) :: (102, zB (v21.1.fHave == (w64 ((w64 (1 + v5)) - (w64 (1 + v17)))))) :: (101, zI (w64 ((w64 (1 + v5)) - (w64 (1 + v17))))) :: (100, zI (w64 (1 + v17))) :: (99, zI (w64 (1 + v5))) :: (98, zI v21.1.fHave) :: (97, .ptr 7 0 0) :: (96, zB true) :: (95, zB (v13.1.fHave == (w64 (1 + v5)))) :: (94, zB (v13.1.fHave == (w64 (1 + v5)))) :: (93, zI (w64 (1 + v5))) :: (92, zI v13.1.fHave) :: (91, .ptr 4 0 0) :: (90, zB true) :: (89, zB (!v41.2)) :: (88, zB (!v41.2)) :: (87, zB v41.2) :: (86, zB true) :: (85, zB v37.2) :: (84, zB v37.2) :: (83, zB true) :: (82, zB (!v33.2)) :: (81, zB (!v33.2)) :: (80, zB v33.2) :: (79, zB true) :: (78, zB v29.2) :: (77, zB v29.2) :: (76, zB true) :: (75, zB (!v25.2)) :: (74, zB (!v25.2)) :: (73, zB v25.2) :: (72, zB true) :: (71, zB v21.2) :: (70, zB v21.2) :: (69, zB true) :: (68, zB v13.2) :: T18, B18⟩ ?_
                     rcases dich v52 with hb54 | hb54
                     · replace h := cond_t hb54 h
                       refine rl 108 true hb54 ?_
                       refine ro 41 1 1 ⟨(109, .agg [zI v29.1.fHave, zI v29.1.fState, zI v29.1.fBy, .view 11 0 [] 3, .view 11 0 [] 4]) :: (108, zB true) :: (107, zB v52) :: (106, zB v52) :: (105, .agg [zI v13.1.fHave, zI v13.1.fState, zI v13.1.fBy, .view 4 0 [] 3, .view 4 0 [] 4]) :: (104, zB true) :: (103, zB (v21.1.fHave == (w64 ((w64 (1 + v5)) - (w64 (1 + v17)))))) :: (102, zB (v21.1.fHave == (w64 ((w64 (1 + v5)) - (w64 (1 + v17)))))) :: (101, zI (w64 ((w64 (1 + v5)) - (w64 (1 + v17))))) :: (100, zI (w64 (1 + v17))) :: (99, zI (w64 (1 + v5))) :: (98, zI v21.1.fHave) :: (97, .ptr 7 0 0) :: (96, zB true) :: (95, zB (v13.1.fHave == (w64 (1 + v5)))) :: (94, zB (v13.1.fHave == (w64 (1 + v5)))) :: (93, zI (w64 (1 + v5))) :: (92, zI v13.1.fHave) :: (91, .ptr 4 0 0) :: (90, zB true) :: (89, zB (!v41.2)) :: (88, zB (!v41.2)) :: (87, zB v41.2) :: (86, zB true) :: (85, zB v37.2) :: (84, zB v37.2) :: (83, zB true) :: (82, zB (!v33.2)) :: (81, zB (!v33.2)) :: (80, zB v33.2) :: (79, zB true) :: (78, zB v29.2) :: (77, zB v29.2) :: (76, zB true) :: (75, zB (!v25.2)) :: (74, zB (!v25.2)) :: (73, zB v25.2) :: (72, zB true) :: (71, zB v21.2) :: (70, zB v21.2) :: (69, zB true) :: (68, zB v13.2) :: T18, B18⟩ ?_
                       obtain ⟨v55, hv56, h⟩ := bindO h
                       refine rcH 42 [List.map encInt v29.1.fMarks, List.map encRep v29.1.fReps] ⟨(110, zB v55) :: (109, .agg [zI v29.1.fHave, zI v29.1.fState, zI v29.1.fBy, .view 11 0 [] 3, .view 11 0 [] 4]) :: (108, zB true) :: (107, zB v52) :: (106, zB v52) :: (105, .agg [zI v13.1.fHave, zI v13.1.fState, zI v13.1.fBy, .view 4 0 [] 3, .view 4 0 [] 4]) :: (104, zB true) :: (103, zB (v21.1.fHave == (w64 ((w64 (1 + v5)) - (w64 (1 + v17)))))) :: (102, zB (v21.1.fHave == (w64 ((w64 (1 + v5)) - (w64 (1 + v17)))))) :: (101, zI (w64 ((w64 (1 + v5)) - (w64 (1 + v17))))) :: (100, zI (w64 (1 + v17))) :: (99, zI (w64 (1 + v5))) :: (98, zI v21.1.fHave) :: (97, .ptr 7 0 0) :: (96, zB true) :: (95, zB (v13.1.fHave == (w64 (1 + v5)))) :: (94, zB (v13.1.fHave == (w64 (1 + v5)))) :: (93, zI (w64 (1 + v5))) :: (92, zI v13.1.fHave) :: (91, .ptr 4 0 0) :: (90, zB true) :: (89, zB (!v41.2)) :: (88, zB (!v41.2)) :: (87, zB v41.2) :: (86, zB true) :: (85, zB v37.2) :: (84, zB v37.2) :: (83, zB true) :: (82, zB (!v33.2)) :: (81, zB (!v33.2)) :: (80, zB v33.2) :: (79, zB true) :: (78, zB v29.2) :: (77, zB v29.2) :: (76, zB true) :: (75, zB (!v25.2)) :: (74, zB (!v25.2)) :: (73, zB v25.2) :: (72, zB true) :: (71, zB v21.2) :: (70, zB v21.2) :: (69, zB true) :: (68, zB v13.2) :: T18, B18⟩ [X.rds (List.map encInt v29.1.fMarks) = true, X.roifys (List.map encInt v29.1.fMarks) = List.map encInt v29.1.fMarks, X.rds (List.map encRep v29.1.fReps) = true, X.roifys (List.map encRep v29.1.fReps) = List.map encRep v29.1.fReps, rootsBut (cv 54) 0 [.agg [zI v29.1.fHave, zI v29.1.fState, zI v29.1.fBy, .view 11 0 [] 3, .view 11 0 [] 4], zI 3, zI 0] = false ∨ (X.noRo (zB v55 : X) = true ∧ X.noRo (.junk : X) = true)] (impl_AcctOk_spec v29.1 3 0 v55 hv56) ⟨rds_map rde_Int _, ro_map ro_Int _, rds_map rde_Rep _, ro_map ro_Rep _, .inr ⟨rfl, rfl⟩, trivial⟩ ?_
                       refine ro 43 2 2 ⟨(112, zB v55) :: (111, zB v55) :: (110, zB v55) :: (109, .agg [zI v29.1.fHave, zI v29.1.fState, zI v29.1.fBy, .view 11 0 [] 3, .view 11 0 [] 4]) :: (108, zB true) :: (107, zB v52) :: (106, zB v52) :: (105, .agg [zI v13.1.fHave, zI v13.1.fState, zI v13.1.fBy, .view 4 0 [] 3, .view 4 0 [] 4]) :: (104, zB true) :: (103, zB (v21.1.fHave == (w64 ((w64 (1 + v5)) - (w64 (1 + v17)))))) :: (102, zB (v21.1.fHave == (w64 ((w64 (1 + v5)) - (w64 (1 + v17)))))) :: (101, zI (w64 ((w64 (1 + v5)) - (w64 (1 + v17))))) :: (100, zI (w64 (1 + v17))) :: (99, zI (w64 (1 + v5))) :: (98, zI v21.1.fHave) :: (97, .ptr 7 0 0) :: (96, zB true) :: (95, zB (v13.1.fHave == (w64 (1 + v5)))) :: (94, zB (v13.1.fHave == (w64 (1 + v5)))) :: (93, zI (w64 (1 + v5))) :: (92, zI v13.1.fHave) :: (91, .ptr 4 0 0) :: (90, zB true) :: (89, zB (!v41.2)) :: (88, zB (!v41.2)) :: (87, zB v41.2) :: (86, zB true) :: (85, zB v37.2) :: (84, zB v37.2) :: (83, zB true) :: (82, zB (!v33.2)) :: (81, zB (!v33.2)) :: (80, zB v33.2) :: (79, zB true) :: (78, zB v29.2) :: (77, zB v29.2) :: (76, zB true) :: (75, zB (!v25.2)) :: (74, zB (!v25.2)) :: (73, zB v25.2) :: (72, zB true) :: (71, zB v21.2) :: (70, zB v21.2) :: (69, zB true) :: (68, zB v13.2) :: T18, B18⟩ ?_
                       rcases dich v55 with hb57 | hb57
                       · replace h := cond_t hb57 h
                         refine rl 112 true hb57 ?_
                         refine ro 45 1 1 ⟨(113, .agg [zI v37.1.fHave, zI v37.1.fState, zI v37.1.fBy, .view 15 0 [] 3, .view 15 0 [] 4]) :: (112, zB true) :: (111, zB v55) :: (110, zB v55) :: (109, .agg [zI v29.1.fHave, zI v29.1.fState, zI v29.1.fBy, .view 11 0 [] 3, .view 11 0 [] 4]) :: (108, zB true) :: (107, zB v52) :: (106, zB v52) :: (105, .agg [zI v13.1.fHave, zI v13.1.fState, zI v13.1.fBy, .view 4 0 [] 3, .view 4 0 [] 4]) :: (104, zB true) :: (103, zB (v21.1.fHave == (w64 ((w64 (1 + v5)) - (w64 (1 + v17)))))) :: (102, zB (v21.1.fHave == (w64 ((w64 (1 + v5)) - (w64 (1 + v17)))))) :: (101, zI (w64 ((w64 (1 + v5)) - (w64 (1 + v17))))) :: (100, zI (w64 (1 + v17))) :: (99, zI (w64 (1 + v5))) :: (98, zI v21.1.fHave) :: (97, .ptr 7 0 0) :: (96, zB true) :: (95, zB (v13.1.fHave == (w64 (1 + v5)))) :: (94, zB (v13.1.fHave == (w64 (1 + v5)))) :: (93, zI (w64 (1 + v5))) :: (92, zI v13.1.fHave) :: (91, .ptr 4 0 0) :: (90, zB true) :: (89, zB (!v41.2)) :: (88, zB (!v41.2)) :: (87, zB v41.2) :: (86, zB true) :: (85, zB v37.2) :: (84, zB v37.2) :: (83, zB true) :: (82, zB (!v33.2)) :: (81, zB (!v33.2)) :: (80, zB v33.2) :: (79, zB true) :: (78, zB v29.2) :: (77, zB v29.2) :: (76, zB true) :: (75, zB (!v25.2)) :: (74, zB (!v25.2)) :: (73, zB v25.2) :: (72, zB true) :: (71, zB v21.2) :: (70, zB v21.2) :: (69, zB true) :: (68, zB v13.2) :: T18, B18⟩ ?_
                         obtain ⟨v58, hv59, h⟩ := bindO h
                         refine rcH 46 [List.map encInt v37.1.fMarks, List.map encRep v37.1.fReps] ⟨(114, zB v58) :: (113, .agg [zI v37.1.fHave, zI v37.1.fState, zI v37.1.fBy, .view 15 0 [] 3, .view 15 0 [] 4]) :: (112, zB true) :: (111, zB v55) :: (110, zB v55) :: (109, .agg [zI v29.1.fHave, zI v29.1.fState, zI v29.1.fBy, .view 11 0 [] 3, .view 11 0 [] 4]) :: (108, zB true) :: (107, zB v52) :: (106, zB v52) :: (105, .agg [zI v13.1.fHave, zI v13.1.fState, zI v13.1.fBy, .view 4 0 [] 3, .view 4 0 [] 4]) :: (104, zB true) :: (103, zB (v21.1.fHave == (w64 ((w64 (1 + v5)) - (w64 (1 + v17)))))) :: (102, zB (v21.1.fHave == (w64 ((w64 (1 + v5)) - (w64 (1 + v17)))))) :: (101, zI (w64 ((w64 (1 + v5)) - (w64 (1 + v17))))) :: (100, zI (w64 (1 + v17))) :: (99, zI (w64 (1 + v5))) :: (98, zI v21.1.fHave) :: (97, .ptr 7 0 0) :: (96, zB true) :: (95, zB (v13.1.fHave == (w64 (1 + v5)))) :: (94, zB (v13.1.fHave == (w64 (1 + v5)))) :: (93, zI (w64 (1 + v5))) :: (92, zI v13.1.fHave) :: (91, .ptr 4 0 0) :: (90, zB true) :: (89, zB (!v41.2)) :: (88, zB (!v41.2)) :: (87, zB v41.2) :: (86, zB true) :: (85, zB v37.2) :: (84, zB v37.2) :: (83, zB true) :: (82, zB (!v33.2)) :: (81, zB (!v33.2)) :: (80, zB v33.2) :: (79, zB true) :: (78, zB v29.2) :: (77, zB v29.2) :: (76, zB true) :: (75, zB (!v25.2)) :: (74, zB (!v25.2)) :: (73, zB v25.2) :: (72, zB true) :: (71, zB v21.2) :: (70, zB v21.2) :: (69, zB true) :: (68, zB v13.2) :: T18, B18⟩ [X.rds (List.map encInt v37.1.fMarks) = true, X.roifys (List.map encInt v37.1.fMarks) = List.map encInt v37.1.fMarks, X.rds (List.map encRep v37.1.fReps) = true, X.roifys (List.map encRep v37.1.fReps) = List.map encRep v37.1.fReps, rootsBut (cv 54) 0 [.agg [zI v37.1.fHave, zI v37.1.fState, zI v37.1.fBy, .view 15 0 [] 3, .view 15 0 [] 4], zI 3, zI 0] = false ∨ (X.noRo (zB v58 : X) = true ∧ X.noRo (.junk : X) = true)] (impl_AcctOk_spec v37.1 3 0 v58 hv59) ⟨rds_map rde_Int _, ro_map ro_Int _, rds_map rde_Rep _, ro_map ro_Rep _, .inr ⟨rfl, rfl⟩, trivial⟩ ?_
                         refine ro 47 2 2 ⟨(116, zB v58) :: (115, zB v58) :: (114, zB v58) :: (113, .agg [zI v37.1.fHave, zI v37.1.fState, zI v37.1.fBy, .view 15 0 [] 3, .view 15 0 [] 4]) :: (112, zB true) :: (111, zB v55) :: (110, zB v55) :: (109, .agg [zI v29.1.fHave, zI v29.1.fState, zI v29.1.fBy, .view 11 0 [] 3, .view 11 0 [] 4]) :: (108, zB true) :: (107, zB v52) :: (106, zB v52) :: (105, .agg [zI v13.1.fHave, zI v13.1.fState, zI v13.1.fBy, .view 4 0 [] 3, .view 4 0 [] 4]) :: (104, zB true) :: (103, zB (v21.1.fHave == (w64 ((w64 (1 + v5)) - (w64 (1 + v17)))))) :: (102, zB (v21.1.fHave == (w64 ((w64 (1 + v5)) - (w64 (1 + v17)))))) :: (101, zI (w64 ((w64 (1 + v5)) - (w64 (1 + v17))))) :: (100, zI (w64 (1 + v17))) :: (99, zI (w64 (1 + v5))) :: (98, zI v21.1.fHave) :: (97, .ptr 7 0 0) :: (96, zB true) :: (95, zB (v13.1.fHave == (w64 (1 + v5)))) :: (94, zB (v13.1.fHave == (w64 (1 + v5)))) :: (93, zI (w64 (1 + v5))) :: (92, zI v13.1.fHave) :: (91, .ptr 4 0 0) :: (90, zB true) :: (89, zB (!v41.2)) :: (88, zB (!v41.2)) :: (87, zB v41.2) :: (86, zB true) :: (85, zB v37.2) :: (84, zB v37.2) :: (83, zB true) :: (82, zB (!v33.2)) :: (81, zB (!v33.2)) :: (80, zB v33.2) :: (79, zB true) :: (78, zB v29.2) :: (77, zB v29.2) :: (76, zB true) :: (75, zB (!v25.2)) :: (74, zB (!v25.2)) :: (73, zB v25.2) :: (72, zB true) :: (71, zB v21.2) :: (70, zB v21.2) :: (69, zB true) :: (68, zB v13.2) :: T18, B18⟩ ?_
                         rcases dich v58 with hb60 | hb60
                         · replace h := cond_t hb60 h
                           refine rl 116 true hb60 ?_
                           refine ro 49 2 2 ⟨(118, .agg [zI v29.1.fHave, zI v29.1.fState, zI v29.1.fBy, .view 11 0 [] 3, .view 11 0 [] 4]) :: (117, .agg [zI v29.1.fHave, zI v29.1.fState, zI v29.1.fBy, .view 11 0 [] 3, .view 11 0 [] 4]) :: (116, zB true) :: (115, zB v58) :: (114, zB v58) :: (113, .agg [zI v37.1.fHave, zI v37.1.fState, zI v37.1.fBy, .view 15 0 [] 3, .view 15 0 [] 4]) :: (112, zB true) :: (111, zB v55) :: (110, zB v55) :: (109, .agg [zI v29.1.fHave, zI v29.1.fState, zI v29.1.fBy, .view 11 0 [] 3, .view 11 0 [] 4]) :: (108, zB true) :: (107, zB v52) :: (106, zB v52) :: (105, .agg [zI v13.1.fHave, zI v13.1.fState, zI v13.1.fBy, .view 4 0 [] 3, .view 4 0 [] 4]) :: (104, zB true) :: (103, zB (v21.1.fHave == (w64 ((w64 (1 + v5)) - (w64 (1 + v17)))))) :: (102, zB (v21.1.fHave == (w64 ((w64 (1 + v5)) - (w64 (1 + v17)))))) :: (101, zI (w64 ((w64 (1 + v5)) - (w64 (1 + v17))))) :: (100, zI (w64 (1 + v17))) :: (99, zI (w64 (1 + v5))) :: (98, zI v21.1.fHave) :: (97, .ptr 7 0 0) :: (96, zB true) :: (95, zB (v13.1.fHave == (w64 (1 + v5)))) :: (94, zB (v13.1.fHave == (w64 (1 + v5)))) :: (93, zI (w64 (1 + v5))) :: (92, zI v13.1.fHave) :: (91, .ptr 4 0 0) :: (90, zB true) :: (89, zB (!v41.2)) :: (88, zB (!v41.2)) :: (87, zB v41.2) :: (86, zB true) :: (85, zB v37.2) :: (84, zB v37.2) :: (83, zB true) :: (82, zB (!v33.2)) :: (81, zB (!v33.2)) :: (80, zB v33.2) :: (79, zB true) :: (78, zB v29.2) :: (77, zB v29.2) :: (76, zB true) :: (75, zB (!v25.2)) :: (74, zB (!v25.2)) :: (73, zB v25.2) :: (72, zB true) :: (71, zB v21.2) :: (70, zB v21.2) :: (69, zB true) :: (68, zB v13.2) :: T18, B18⟩ ?_
                           obtain ⟨v61, hv62, h⟩ := bindO h
                           refine rcH 51 [List.map encInt v29.1.fMarks, List.map encRep v29.1.fReps, List.map encInt v29.1.fMarks, List.map encRep v29.1.fReps] ⟨(119, zB v61) :: (118, .agg [zI v29.1.fHave, zI v29.1.fState, zI v29.1.fBy, .view 11 0 [] 3, .view 11 0 [] 4]) :: (117, .agg [zI v29.1.fHave, zI v29.1.fState, zI v29.1.fBy, .view 11 0 [] 3, .view 11 0 [] 4]) :: (116, zB true) :: (115, zB v58) :: (114, zB v58) :: (113, .agg [zI v37.1.fHave, zI v37.1.fState, zI v37.1.fBy, .view 15 0 [] 3, .view 15 0 [] 4]) :: (112, zB true) :: (111, zB v55) :: (110, zB v55) :: (109, .agg [zI v29.1.fHave, zI v29.1.fState, zI v29.1.fBy, .view 11 0 [] 3, .view 11 0 [] 4]) :: (108, zB true) :: (107, zB v52) :: (106, zB v52) :: (105, .agg [zI v13.1.fHave, zI v13.1.fState, zI v13.1.fBy, .view 4 0 [] 3, .view 4 0 [] 4]) :: (104, zB true) :: (103, zB (v21.1.fHave == (w64 ((w64 (1 + v5)) - (w64 (1 + v17)))))) :: (102, zB (v21.1.fHave == (w64 ((w64 (1 + v5)) - (w64 (1 + v17)))))) :: (101, zI (w64 ((w64 (1 + v5)) - (w64 (1 + v17))))) :: (100, zI (w64 (1 + v17))) :: (99, zI (w64 (1 + v5))) :: (98, zI v21.1.fHave) :: (97, .ptr 7 0 0) :: (96, zB true) :: (95, zB (v13.1.fHave == (w64 (1 + v5)))) :: (94, zB (v13.1.fHave == (w64 (1 + v5)))) :: (93, zI (w64 (1 + v5))) :: (92, zI v13.1.fHave) :: (91, .ptr 4 0 0) :: (90, zB true) :: (89, zB (!v41.2)) :: (88, zB (!v41.2)) :: (87, zB v41.2) :: (86, zB true) :: (85, zB v37.2) :: (84, zB v37.2) :: (83, zB true) :: (82, zB (!v33.2)) :: (81, zB (!v33.2)) :: (80, zB v33.2) :: (79, zB true) :: (78, zB v29.2) :: (77, zB v29.2) :: (76, zB true) :: (75, zB (!v25.2)) :: (74, zB (!v25.2)) :: (73, zB v25.2) :: (72, zB true) :: (71, zB v21.2) :: (70, zB v21.2) :: (69, zB true) :: (68, zB v13.2) :: T18, B18⟩ [X.rds (List.map encInt v29.1.fMarks) = true, X.roifys (List.map encInt v29.1.fMarks) = List.map encInt v29.1.fMarks, X.rds (List.map encRep v29.1.fReps) = true, X.roifys (List.map encRep v29.1.fReps) = List.map encRep v29.1.fReps, X.rds (List.map encInt v29.1.fMarks) = true, X.roifys (List.map encInt v29.1.fMarks) = List.map encInt v29.1.fMarks, X.rds (List.map encRep v29.1.fReps) = true, X.roifys (List.map encRep v29.1.fReps) = List.map encRep v29.1.fReps, rootsBut (cv 48) 0 [.agg [zI v29.1.fHave, zI v29.1.fState, zI v29.1.fBy, .view 11 0 [] 3, .view 11 0 [] 4], .agg [zI v29.1.fHave, zI v29.1.fState, zI v29.1.fBy, .view 11 0 [] 3, .view 11 0 [] 4]] = false ∨ (X.noRo (zB v61 : X) = true ∧ X.noRo (.junk : X) = true)] (impl_AcctSame_spec v29.1 v29.1 v61 hv62) ⟨rds_map rde_Int _, ro_map ro_Int _, rds_map rde_Rep _, ro_map ro_Rep _, rds_map rde_Int _, ro_map ro_Int _, rds_map rde_Rep _, ro_map ro_Rep _, .inr ⟨rfl, rfl⟩, trivial⟩ ?_
                           refine ro 52 2 2 ⟨(121, zB v61) :: (120, zB v61) :: (119, zB v61) :: (118, .agg [zI v29.1.fHave, zI v29.1.fState, zI v29.1.fBy, .view 11 0 [] 3, .view 11 0 [] 4]) :: (117, .agg [zI v29.1.fHave, zI v29.1.fState, zI v29.1.fBy, .view 11 0 [] 3, .view 11 0 [] 4]) :: (116, zB true) :: (115, zB v58) :: (114, zB v58) :: (113, .agg [zI v37.1.fHave, zI v37.1.fState, zI v37.1.fBy, .view 15 0 [] 3, .view 15 0 [] 4]) :: (112, zB true) :: (111, zB v55) :: (110, zB v55) :: (109, .agg [zI v29.1.fHave, zI v29.1.fState, zI v29.1.fBy, .view 11 0 [] 3, .view 11 0 [] 4]) :: (108, zB true) :: (107, zB v52) :: (106, zB v52) :: (105, .agg [zI v13.1.fHave, zI v13.1.fState, zI v13.1.fBy, .view 4 0 [] 3, .view 4 0 [] 4]) :: (104, zB true) :: (103, zB (v21.1.fHave == (w64 ((w64 (1 + v5)) - (w64 (1 + v17)))))) :: (102, zB (v21.1.fHave == (w64 ((w64 (1 + v5)) - (w64 (1 + v17)))))) :: (101, zI (w64 ((w64 (1 + v5)) - (w64 (1 + v17))))) :: (100, zI (w64 (1 + v17))) :: (99, zI (w64 (1 + v5))) :: (98, zI v21.1.fHave) :: (97, .ptr 7 0 0) :: (96, zB true) :: (95, zB (v13.1.fHave == (w64 (1 + v5)))) :: (94, zB (v13.1.fHave == (w64 (1 + v5)))) :: (93, zI (w64 (1 + v5))) :: (92, zI v13.1.fHave) :: (91, .ptr 4 0 0) :: (90, zB true) :: (89, zB (!v41.2)) :: (88, zB (!v41.2)) :: (87, zB v41.2) :: (86, zB true) :: (85, zB v37.2) :: (84, zB v37.2) :: (83, zB true) :: (82, zB (!v33.2)) :: (81, zB (!v33.2)) :: (80, zB v33.2) :: (79, zB true) :: (78, zB v29.2) :: (77, zB v29.2) :: (76, zB true) :: (75, zB (!v25.2)) :: (74, zB (!v25.2)) :: (73, zB v25.2) :: (72, zB true) :: (71, zB v21.2) :: (70, zB v21.2) :: (69, zB true) :: (68, zB v13.2) :: T18, B18⟩ ?_
                           rcases dich v61 with hb63 | hb63
                           · replace h := cond_t hb63 h
                             refine rl 121 true hb63 ?_
                             refine ro 54 2 2 ⟨(123, .agg [zI v37.1.fHave, zI v37.1.fState, zI v37.1.fBy, .view 15 0 [] 3, .view 15 0 [] 4]) :: (122, .agg [zI v29.1.fHave, zI v29.1.fState, zI v29.1.fBy, .view 11 0 [] 3, .view 11 0 [] 4]) :: (121, zB true) :: (120, zB v61) :: (119, zB v61) :: (118, .agg [zI v29.1.fHave, zI v29.1.fState, zI v29.1.fBy, .view 11 0 [] 3, .view 11 0 [] 4]) :: (117, .agg [zI v29.1.fHave, zI v29.1.fState, zI v29.1.fBy, .view 11 0 [] 3, .view 11 0 [] 4]) :: (116, zB true) :: (115, zB v58) :: (114, zB v58) :: (113, .agg [zI v37.1.fHave, zI v37.1.fState, zI v37.1.fBy, .view 15 0 [] 3, .view 15 0 [] 4]) :: (112, zB true) :: (111, zB v55) :: (110, zB v55) :: (109, .agg [zI v29.1.fHave, zI v29.1.fState, zI v29.1.fBy, .view 11 0 [] 3, .view 11 0 [] 4]) :: (108, zB true) :: (107, zB v52) :: (106, zB v52) :: (105, .agg [zI v13.1.fHave, zI v13.1.fState, zI v13.1.fBy, .view 4 0 [] 3, .view 4 0 [] 4]) :: (104, zB true) :: (103, zB (v21.1.fHave == (w64 ((w64 (1 + v5)) - (w64 (1 + v17)))))) :: (102, zB (v21.1.fHave == (w64 ((w64 (1 + v5)) - (w64 (1 + v17)))))) :: (101, zI (w64 ((w64 (1 + v5)) - (w64 (1 + v17))))) :: (100, zI (w64 (1 + v17))) :: (99, zI (w64 (1 + v5))) :: (98, zI v21.1.fHave) :: (97, .ptr 7 0 0) :: (96, zB true) :: (95, zB (v13.1.fHave == (w64 (1 + v5)))) :: (94, zB (v13.1.fHave == (w64 (1 + v5)))) :: (93, zI (w64 (1 + v5))) :: (92, zI v13.1.fHave) :: (91, .ptr 4 0 0) :: (90, zB true) :: (89, zB (!v41.2)) :: (88, zB (!v41.2)) :: (87, zB v41.2) :: (86, zB true) :: (85, zB v37.2) :: (84, zB v37.2) :: (83, zB true) :: (82, zB (!v33.2)) :: (81, zB (!v33.2)) :: (80, zB v33.2) :: (79, zB true) :: (78, zB v29.2) :: (77, zB v29.2) :: (76, zB true) :: (75, zB (!v25.2)) :: (74, zB (!v25.2)) :: (73, zB v25.2) :: (72, zB true) :: (71, zB v21.2) :: (70, zB v21.2) :: (69, zB true) :: (68, zB v13.2) :: T18, B18⟩ ?_
                             obtain ⟨v64, hv65, h⟩ := bindO h
                             refine rcH 56 [List.map encInt v29.1.fMarks, List.map encRep v29.1.fReps, List.map encInt v37.1.fMarks, List.map encRep v37.1.fReps] ⟨(124, zB v64) :: (123, .agg [zI v37.1.fHave, zI v37.1.fState, zI v37.1.fBy, .view 15 0 [] 3, .view 15 0 [] 4]) :: (122, .agg [zI v29.1.fHave, zI v29.1.fState, zI v29.1.fBy, .view 11 0 [] 3, .view 11 0 [] 4]) :: (121, zB true) :: (120, zB v61) :: (119, zB v61) :: (118, .agg [zI v29.1.fHave, zI v29.1.fState, zI v29.1.fBy, .view 11 0 [] 3, .view 11 0 [] 4]) :: (117, .agg [zI v29.1.fHave, zI v29.1.fState, zI v29.1.fBy, .view 11 0 [] 3, .view 11 0 [] 4]) :: (116, zB true) :: (115, zB v58) :: (114, zB v58) :: (113, .agg [zI v37.1.fHave, zI v37.1.fState, zI v37.1.fBy, .view 15 0 [] 3, .view 15 0 [] 4]) :: (112, zB true) :: (111, zB v55) :: (110, zB v55) :: (109, .agg [zI v29.1.fHave, zI v29.1.fState, zI v29.1.fBy, .view 11 0 [] 3, .view 11 0 [] 4]) :: (108, zB true) :: (107, zB v52) :: (106, zB v52) :: (105, .agg [zI v13.1.fHave, zI v13.1.fState, zI v13.1.fBy, .view 4 0 [] 3, .view 4 0 [] 4]) :: (104, zB true) :: (103, zB (v21.1.fHave == (w64 ((w64 (1 + v5)) - (w64 (1 + v17)))))) :: (102, zB (v21.1.fHave == (w64 ((w64 (1 + v5)) - (w64 (1 + v17)))))) :: (101, zI (w64 ((w64 (1 + v5)) - (w64 (1 + v17))))) :: (100, zI (w64 (1 + v17))) :: (99, zI (w64 (1 + v5))) :: (98, zI v21.1.fHave) :: (97, .ptr 7 0 0) :: (96, zB true) :: (95, zB (v13.1.fHave == (w64 (1 + v5)))) :: (94, zB (v13.1.fHave == (w64 (1 + v5)))) :: (93, zI (w64 (1 + v5))) :: (92, zI v13.1.fHave) :: (91, .ptr 4 0 0) :: (90, zB true) :: (89, zB (!v41.2)) :: (88, zB (!v41.2)) :: (87, zB v41.2) :: (86, zB true) :: (85, zB v37.2) :: (84, zB v37.2) :: (83, zB true) :: (82, zB (!v33.2)) :: (81, zB (!v33.2)) :: (80, zB v33.2) :: (79, zB true) :: (78, zB v29.2) :: (77, zB v29.2) :: (76, zB true) :: (75, zB (!v25.2)) :: (74, zB (!v25.2)) :: (73, zB v25.2) :: (72, zB true) :: (71, zB v21.2) :: (70, zB v21.2) :: (69, zB true) :: (68, zB v13.2) :: T18, B18⟩ [X.rds (List.map encInt v29.1.fMarks) = true, X.roifys (List.map encInt v29.1.fMarks) = List.map encInt v29.1.fMarks, X.rds (List.map encRep v29.1.fReps) = true, X.roifys (List.map encRep v29.1.fReps) = List.map encRep v29.1.fReps, X.rds (List.map encInt v37.1.fMarks) = true, X.roifys (List.map encInt v37.1.fMarks) = List.map encInt v37.1.fMarks, X.rds (List.map encRep v37.1.fReps) = true, X.roifys (List.map encRep v37.1.fReps) = List.map encRep v37.1.fReps, rootsBut (cv 48) 0 [.agg [zI v29.1.fHave, zI v29.1.fState, zI v29.1.fBy, .view 11 0 [] 3, .view 11 0 [] 4], .agg [zI v37.1.fHave, zI v37.1.fState, zI v37.1.fBy, .view 15 0 [] 3, .view 15 0 [] 4]] = false ∨ (X.noRo (zB v64 : X) = true ∧ X.noRo (.junk : X) = true)] (impl_AcctSame_spec v29.1 v37.1 v64 hv65) ⟨rds_map rde_Int _, ro_map ro_Int _, rds_map rde_Rep _, ro_map ro_Rep _, rds_map rde_Int _, ro_map ro_Int _, rds_map rde_Rep _, ro_map ro_Rep _, .inr ⟨rfl, rfl⟩, trivial⟩ ?_
                             refine ro9 57 3 3 ⟨(2, zB (!v64)) :: (126, zB (!v64)) :: (125, zB (!v64)) :: (124, zB v64) :: (123, .agg [zI v37.1.fHave, zI v37.1.fState, zI v37.1.fBy, .view 15 0 [] 3, .view 15 0 [] 4]) :: (122, .agg [zI v29.1.fHave, zI v29.1.fState, zI v29.1.fBy, .view 11 0 [] 3, .view 11 0 [] 4]) :: (121, zB true) :: (120, zB v61) :: (119, zB v61) :: (118, .agg [zI v29.1.fHave, zI v29.1.fState, zI v29.1.fBy, .view 11 0 [] 3, .view 11 0 [] 4]) :: (117, .agg [zI v29.1.fHave, zI v29.1.fState, zI v29.1.fBy, .view 11 0 [] 3, .view 11 0 [] 4]) :: (116, zB true) :: (115, zB v58) :: (114, zB v58) :: (113, .agg [zI v37.1.fHave, zI v37.1.fState, zI v37.1.fBy, .view 15 0 [] 3, .view 15 0 [] 4]) :: (112, zB true) :: (111, zB v55) :: (110, zB v55) :: (109, .agg [zI v29.1.fHave, zI v29.1.fState, zI v29.1.fBy, .view 11 0 [] 3, .view 11 0 [] 4]) :: (108, zB true) :: (107, zB v52) :: (106, zB v52) :: (105, .agg [zI v13.1.fHave, zI v13.1.fState, zI v13.1.fBy, .view 4 0 [] 3, .view 4 0 [] 4]) :: (104, zB true) :: (103, zB (v21.1.fHave == (w64 ((w64 (1 + v5)) - (w64 (1 + v17)))))) :: (102, zB (v21.1.fHave == (w64 ((w64 (1 + v5)) - (w64 (1 + v17)))))) :: (101, zI (w64 ((w64 (1 + v5)) - (w64 (1 + v17))))) :: (100, zI (w64 (1 + v17))) :: (99, zI (w64 (1 + v5))) :: (98, zI v21.1.fHave) :: (97, .ptr 7 0 0) :: (96, zB true) :: (95, zB (v13.1.fHave == (w64 (1 + v5)))) :: (94, zB (v13.1.fHave == (w64 (1 + v5)))) :: (93, zI (w64 (1 + v5))) :: (92, zI v13.1.fHave) :: (91, .ptr 4 0 0) :: (90, zB true) :: (89, zB (!v41.2)) :: (88, zB (!v41.2)) :: (87, zB v41.2) :: (86, zB true) :: (85, zB v37.2) :: (84, zB v37.2) :: (83, zB true) :: (82, zB (!v33.2)) :: (81, zB (!v33.2)) :: (80, zB v33.2) :: (79, zB true) :: (78, zB v29.2) :: (77, zB v29.2) :: (76, zB true) :: (75, zB (!v25.2)) :: (74, zB (!v25.2)) :: (73, zB v25.2) :: (72, zB true) :: (71, zB v21.2) :: (70, zB v21.2) :: (69, zB true) :: (68, zB v13.2) :: T18, B18⟩ ?_
                             refine runs_ret ?_
                             exact fin _ _ h (by kernel_rfl)
                           · replace h := cond_f hb63 h
                             refine rl 121 false hb63 ?_
                             refine ro9 54 6 2 ⟨(2, zB false) :: (126, zB false) :: (125, .tup []) :: (124, .tup []) :: (123, .tup []) :: (122, .tup []) :: (121, zB false) :: (120, zB v61) :: (119, zB v61) :: (118, .agg [zI v29.1.fHave, zI v29.1.fState, zI v29.1.fBy, .view 11 0 [] 3, .view 11 0 [] 4]) :: (117, .agg [zI v29.1.fHave, zI v29.1.fState, zI v29.1.fBy, .view 11 0 [] 3, .view 11 0 [] 4]) :: (116, zB true) :: (115, zB v58) :: (114, zB v58) :: (113, .agg [zI v37.1.fHave, zI v37.1.fState, zI v37.1.fBy, .view 15 0 [] 3, .view 15 0 [] 4]) :: (112, zB true) :: (111, zB v55) :: (110, zB v55) :: (109, .agg [zI v29.1.fHave, zI v29.1.fState, zI v29.1.fBy, .view 11 0 [] 3, .view 11 0 [] 4]) :: (108, zB true) :: (107, zB v52) :: (106, zB v52) :: (105, .agg [zI v13.1.fHave, zI v13.1.fState, zI v13.1.fBy, .view 4 0 [] 3, .view 4 0 [] 4]) :: (104, zB true) :: (103, zB (v21.1.fHave == (w64 ((w64 (1 + v5)) - (w64 (1 + v17)))))) :: (102, zB (v21.1.fHave == (w64 ((w64 (1 + v5)) - (w64 (1 + v17)))))) :: (101, zI (w64 ((w64 (1 + v5)) - (w64 (1 + v17))))) :: (100, zI (w64 (1 + v17))) :: (99, zI (w64 (1 + v5))) :: (98, zI v21.1.fHave) :: (97, .ptr 7 0 0) :: (96, zB true) :: (95, zB (v13.1.fHave == (w64 (1 + v5)))) :: (94, zB (v13.1.fHave == (w64 (1 + v5)))) :: (93, zI (w64 (1 + v5))) :: (92, zI v13.1.fHave) :: (91, .ptr 4 0 0) :: (90, zB true) :: (89, zB (!v41.2)) :: (88, zB (!v41.2)) :: (87, zB v41.2) :: (86, zB true) :: (85, zB v37.2) :: (84, zB v37.2) :: (83, zB true) :: (82, zB (!v33.2)) :: (81, zB (!v33.2)) :: (80, zB v33.2) :: (79, zB true) :: (78, zB v29.2) :: (77, zB v29.2) :: (76, zB true) :: (75, zB (!v25.2)) :: (74, zB (!v25.2)) :: (73, zB v25.2) :: (72, zB true) :: (71, zB v21.2) :: (70, zB v21.2) :: (69, zB true) :: (68, zB v13.2) :: T18, B18⟩ ?_
                             refine runs_ret ?_
                             exact fin _ _ h (by kernel_rfl)
                         · replace h := cond_f hb60 h
                           refine rl 116 false hb60 ?_
                           refine ro9 49 11 4 ⟨(2, zB false) :: (126, zB false) :: (125, .tup []) :: (124, .tup []) :: (123, .tup []) :: (122, .tup []) :: (121, zB false) :: (120, zB false) :: (119, .tup []) :: (118, .tup []) :: (117, .tup []) :: (116, zB false) :: (115, zB v58) :: (114, zB v58) :: (113, .agg [zI v37.1.fHave, zI v37.1.fState, zI v37.1.fBy, .view 15 0 [] 3, .view 15 0 [] 4]) :: (112, zB true) :: (111, zB v55) :: (110, zB v55) :: (109, .agg [zI v29.1.fHave, zI v29.1.fState, zI v29.1.fBy, .view 11 0 [] 3, .view 11 0 [] 4]) :: (108, zB true) :: (107, zB v52) :: (106, zB v52) :: (105, .agg [zI v13.1.fHave, zI v13.1.fState, zI v13.1.fBy, .view 4 0 [] 3, .view 4 0 [] 4]) :: (104, zB true) :: (103, zB (v21.1.fHave == (w64 ((w64 (1 + v5)) - (w64 (1 + v17)))))) :: (102, zB (v21.1.fHave == (w64 ((w64 (1 + v5)) - (w64 (1 + v17)))))) :: (101, zI (w64 ((w64 (1 + v5)) - (w64 (1 + v17))))) :: (100, zI (w64 (1 + v17))) :: (99, zI (w64 (1 + v5))) :: (98, zI v21.1.fHave) :: (97, .ptr 7 0 0) :: (96, zB true) :: (95, zB (v13.1.fHave == (w64 (1 + v5)))) :: (94, zB (v13.1.fHave == (w64 (1 + v5)))) :: (93, zI (w64 (1 + v5))) :: (92, zI v13.1.fHave) :: (91, .ptr 4 0 0) :: (90, zB true) :: (89, zB (!v41.2)) :: (88, zB (!v41.2)) :: (87, zB v41.2) :: (86, zB true) :: (85, zB v37.2) :: (84, zB v37.2) :: (83, zB true) :: (82, zB (!v33.2)) :: (81, zB (!v33.2)) :: (80, zB v33.2) :: (79, zB true) :: (78, zB v29.2) :: (77, zB v29.2) :: (76, zB true) :: (75, zB (!v25.2)) :: (74, zB (!v25.2)) :: (73, zB v25.2) :: (72, zB true) :: (71, zB v21.2) :: (70, zB v21.2) :: (69, zB true) :: (68, zB v13.2) :: T18, B18⟩ ?_
                           refine runs_ret ?_
                           exact fin _ _ h (by kernel_rfl)
                       · replace h := cond_f hb57 h
                         refine rl 112 false hb57 ?_
                         refine ro9 45 15 6 ⟨(2, zB false) :: (126, zB false) :: (125, .tup []) :: (124, .tup []) :: (123, .tup []) :: (122, .tup []) :: (121, zB false) :: (120, zB false) :: (119, .tup []) :: (118, .tup []) :: (117, .tup []) :: (116, zB false) :: (115, zB false) :: (114, .tup []) :: (113, .tup []) :: (112, zB false) :: (111, zB v55) :: (110, zB v55) :: (109, .agg [zI v29.1.fHave, zI v29.1.fState, zI v29.1.fBy, .view 11 0 [] 3, .view 11 0 [] 4]) :: (108, zB true) :: (107, zB v52) :: (106, zB v52) :: (105, .agg [zI v13.1.fHave, zI v13.1.fState, zI v13.1.fBy, .view 4 0 [] 3, .view 4 0 [] 4]) :: (104, zB true) :: (103, zB (v21.1.fHave == (w64 ((w64 (1 + v5)) - (w64 (1 + v17)))))) :: (102, zB (v21.1.fHave == (w64 ((w64 (1 + v5)) - (w64 (1 + v17)))))) :: (101, zI (w64 ((w64 (1 + v5)) - (w64 (1 + v17))))) :: (100, zI (w64 (1 + v17))) :: (99, zI (w64 (1 + v5))) :: (98, zI v21.1.fHave) :: (97, .ptr 7 0 0) :: (96, zB true) :: (95, zB (v13.1.fHave == (w64 (1 + v5)))) :: (94, zB (v13.1.fHave == (w64 (1 + v5)))) :: (93, zI (w64 (1 + v5))) :: (92, zI v13.1.fHave) :: (91, .ptr 4 0 0) :: (90, zB true) :: (89, zB (!v41.2)) :: (88, zB (!v41.2)) :: (87, zB v41.2) :: (86, zB true) :: (85, zB v37.2) :: (84, zB v37.2) :: (83, zB true) :: (82, zB (!v33.2)) :: (81, zB (!v33.2)) :: (80, zB v33.2) :: (79, zB true) :: (78, zB v29.2) :: (77, zB v29.2) :: (76, zB true) :: (75, zB (!v25.2)) :: (74, zB (!v25.2)) :: (73, zB v25.2) :: (72, zB true) :: (71, zB v21.2) :: (70, zB v21.2) :: (69, zB true) :: (68, zB v13.2) :: T18, B18⟩ ?_
                         refine runs_ret ?_
                         exact fin _ _ h (by kernel_rfl)
                     · replace h := cond_f hb54 h
                       refine rl 108 false hb54 ?_
                       refine ro9 41 19 8 ⟨(2, zB false) :: (126, zB false) :: (125, .tup []) :: (124, .tup []) :: (123, .tup []) :: (122, .tup []) :: (121, zB false) :: (120, zB false) :: (119, .tup []) :: (118, .tup []) :: (117, .tup []) :: (116, zB false) :: (115, zB false) :: (114, .tup []) :: (113, .tup []) :: (112, zB false) :: (111, zB false) :: (110, .tup []) :: (109, .tup []) :: (108, zB false) :: (107, zB v52) :: (106, zB v52) :: (105, .agg [zI v13.1.fHave, zI v13.1.fState, zI v13.1.fBy, .view 4 0 [] 3, .view 4 0 [] 4]) :: (104, zB true) :: (103, zB (v21.1.fHave == (w64 ((w64 (1 + v5)) - (w64 (1 + v17)))))) :: (102, zB (v21.1.fHave == (w64 ((w64 (1 + v5)) - (w64 (1 + v17)))))) :: (101, zI (w64 ((w64 (1 + v5)) - (w64 (1 + v17))))) :: (100, zI (w64 (1 + v17))) :: (99, zI (w64 (1 + v5))) :: (98, zI v21.1.fHave) :: (97, .ptr 7 0 0) :: (96, zB true) :: (95, zB (v13.1.fHave == (w64 (1 + v5)))) :: (94, zB (v13.1.fHave == (w64 (1 + v5)))) :: (93, zI (w64 (1 + v5))) :: (92, zI v13.1.fHave) :: (91, .ptr 4 0 0) :: (90, zB true) :: (89, zB (!v41.2)) :: (88, zB (!v41.2)) :: (87, zB v41.2) :: (86, zB true) :: (85, zB v37.2) :: (84, zB v37.2) :: (83, zB true) :: (82, zB (!v33.2)) :: (81, zB (!v33.2)) :: (80, zB v33.2) :: (79, zB true) :: (78, zB v29.2) :: (77, zB v29.2) :: (76, zB true) :: (75, zB (!v25.2)) :: (74, zB (!v25.2)) :: (73, zB v25.2) :: (72, zB true) :: (71, zB v21.2) :: (70, zB v21.2) :: (69, zB true) :: (68, zB v13.2) :: T18, B18⟩ ?_
                       refine runs_ret ?_
                       exact fin _ _ h (by kernel_rfl)
                   · replace h := cond_f hb51 h
                     refine rl 104 false hb51 ?_
                     refine ro9 37 23 10 ⟨(2, zB false) :: (126, zB false) :: (125, .tup []) :: (124, .tup []) :: (123, .tup []) :: (122, .tup []) :: (121, zB false) :: (120, zB false) :: (119, .tup []) :: (118, .tup []) :: (117, .tup []) :: (116, zB false) :: (115, zB false) :: (114, .tup []) :: (113, .tup []) :: (112, zB false) :: (111, zB false) :: (110, .tup []) :: (109, .tup []) :: (108, zB false) :: (107, zB false) :: (106, .tup []) :: (105, .tup []) :: (104, zB false) :: (103, zB (v21.1.fHave == (w64 ((w64 (1 + v5)) - (w64 (1 + v17)))))) :: (102, zB (v21.1.fHave == (w64 ((w64 (1 + v5)) - (w64 (1 + v17)))))) :: (101, zI (w64 ((w64 (1 + v5)) - (w64 (1 + v17))))) :: (100, zI (w64 (1 + v17))) :: (99, zI (w64 (1 + v5))) :: (98, zI v21.1.fHave) :: (97, .ptr 7 0 0) :: (96, zB true) :: (95, zB (v13.1.fHave == (w64 (1 + v5)))) :: (94, zB (v13.1.fHave == (w64 (1 + v5)))) :: (93, zI (w64 (1 + v5))) :: (92, zI v13.1.fHave) :: (91, .ptr 4 0 0) :: (90, zB true) :: (89, zB (!v41.2)) :: (88, zB (!v41.2)) :: (87, zB v41.2) :: (86, zB true) :: (85, zB v37.2) :: (84, zB v37.2) :: (83, zB true) :: (82, zB (!v33.2)) :: (81, zB (!v33.2)) :: (80, zB v33.2) :: (79, zB true) :: (78, zB v29.2) :: (77, zB v29.2) :: (76, zB true) :: (75, zB (!v25.2)) :: (74, zB (!v25.2)) :: (73, zB v25.2) :: (72, zB true) :: (71, zB v21.2) :: (70, zB v21.2) :: (69, zB true) :: (68, zB v13.2) :: T18, B18⟩ ?_
                     refine runs_ret ?_
                     exact fin _ _ h (by kernel_rfl)
                 · replace h := cond_f hb50 h
                   refine rl 96 false hb50 ?_
                   refine ro9 29 31 12 ⟨(2, zB false) :: (126, zB false) :: (125, .tup []) :: (124, .tup []) :: (123, .tup []) :: (122, .tup []) :: (121, zB false) :: (120, zB false) :: (119, .tup []) :: (118, .tup []) :: (117, .tup []) :: (116, zB false) :: (115, zB false) :: (114, .tup []) :: (113, .tup []) :: (112, zB false) :: (111, zB false) :: (110, .tup []) :: (109, .tup []) :: (108, zB false) :: (107, zB false) :: (106, .tup []) :: (105, .tup []) :: (104, zB false) :: (103, zB false) :: (102, .tup []) :: (101, .tup []) :: (100, .tup []) :: (99, .tup []) :: (98, .tup []) :: (97, .tup []) :: (96, zB false) :: (95, zB (v13.1.fHave == (w64 (1 + v5)))) :: (94, zB (v13.1.fHave == (w64 (1 + v5)))) :: (93, zI (w64 (1 + v5))) :: (92, zI v13.1.fHave) :: (91, .ptr 4 0 0) :: (90, zB true) :: (89, zB (!v41.2)) :: (88, zB (!v41.2)) :: (87, zB v41.2) :: (86, zB true) :: (85, zB v37.2) :: (84, zB v37.2) :: (83, zB true) :: (82, zB (!v33.2)) :: (81, zB (!v33.2)) :: (80, zB v33.2) :: (79, zB true) :: (78, zB v29.2) :: (77, zB v29.2) :: (76, zB true) :: (75, zB (!v25.2)) :: (74, zB (!v25.2)) :: (73, zB v25.2) :: (72, zB true) :: (71, zB v21.2) :: (70, zB v21.2) :: (69, zB true) :: (68, zB v13.2) :: T18, B18⟩ ?_
                   refine runs_ret ?_
                   exact fin _ _ h (by kernel_rfl)
               · replace h := cond_f hb49 h
                 refine rl 90 false hb49 ?_
                 refine ro9 23 37 14 ⟨(2, zB false) :: (126, zB false) :: (125, .tup []) :: (124, .tup []) :: (123, .tup []) :: (122, .tup []) :: (121, zB false) :: (120, zB false) :: (119, .tup []) :: (118, .tup []) :: (117, .tup []) :: (116, zB false) :: (115, zB false) :: (114, .tup []) :: (113, .tup []) :: (112, zB false) :: (111, zB false) :: (110, .tup []) :: (109, .tup []) :: (108, zB false) :: (107, zB false) :: (106, .tup []) :: (105, .tup []) :: (104, zB false) :: (103, zB false) :: (102, .tup []) :: (101, .tup []) :: (100, .tup []) :: (99, .tup []) :: (98, .tup []) :: (97, .tup []) :: (96, zB false) :: (95, zB false) :: (94, .tup []) :: (93, .tup []) :: (92, .tup []) :: (91, .tup []) :: (90, zB false) :: (89, zB (!v41.2)) :: (88, zB (!v41.2)) :: (87, zB v41.2) :: (86, zB true) :: (85, zB v37.2) :: (84, zB v37.2) :: (83, zB true) :: (82, zB (!v33.2)) :: (81, zB (!v33.2)) :: (80, zB v33.2) :: (79, zB true) :: (78, zB v29.2) :: (77, zB v29.2) :: (76, zB true) :: (75, zB (!v25.2)) :: (74, zB (!v25.2)) :: (73, zB v25.2) :: (72, zB true) :: (71, zB v21.2) :: (70, zB v21.2) :: (69, zB true) :: (68, zB v13.2) :: T18, B18⟩ ?_
                 refine runs_ret ?_
                 exact fin _ _ h (by kernel_rfl)
             · replace h := cond_f hb48 h
               refine rl 86 false hb48 ?_
               refine ro9 19 41 16 ⟨(2, zB false) :: (126, zB false) :: (125, .tup []) :: (124, .tup []) :: (123, .tup []) :: (122, .tup []) :: (121, zB false) :: (120, zB false) :: (119, .tup []) :: (118, .tup []) :: (117, .tup []) :: (116, zB false) :: (115, zB false) :: (114, .tup []) :: (113, .tup []) :: (112, zB false) :: (111, zB false) :: (110, .tup []) :: (109, .tup []) :: (108, zB false) :: (107, zB false) :: (106, .tup []) :: (105, .tup []) :: (104, zB false) :: (103, zB false) :: (102, .tup []) :: (101, .tup []) :: (100, .tup []) :: (99, .tup []) :: (98, .tup []) :: (97, .tup []) :: (96, zB false) :: (95, zB false) :: (94, .tup []) :: (93, .tup []) :: (92, .tup []) :: (91, .tup []) :: (90, zB false) :: (89, zB false) :: (88, .tup []) :: (87, .tup []) :: (86, zB false) :: (85, zB v37.2) :: (84, zB v37.2) :: (83, zB true) :: (82, zB (!v33.2)) :: (81, zB (!v33.2)) :: (80, zB v33.2) :: (79, zB true) :: (78, zB v29.2) :: (77, zB v29.2) :: (76, zB true) :: (75, zB (!v25.2)) :: (74, zB (!v25.2)) :: (73, zB v25.2) :: (72, zB true) :: (71, zB v21.2) :: (70, zB v21.2) :: (69, zB true) :: (68, zB v13.2) :: T18, B18⟩ ?_
               refine runs_ret ?_
               exact fin _ _ h (by kernel_rfl)
           · replace h := cond_f hb47 h
             refine rl 83 false hb47 ?_
             refine ro9 16 44 18 ⟨(2, zB false) :: (126, zB false) :: (125, .tup []) :: (124, .tup []) :: (123, .tup []) :: (122, .tup []) :: (121, zB false) :: (120, zB false) :: (119, .tup []) :: (118, .tup []) :: (117, .tup []) :: (116, zB false) :: (115, zB false) :: (114, .tup []) :: (113, .tup []) :: (112, zB false) :: (111, zB false) :: (110, .tup []) :: (109, .tup []) :: (108, zB false) :: (107, zB false) :: (106, .tup []) :: (105, .tup []) :: (104, zB false) :: (103, zB false) :: (102, .tup []) :: (101, .tup []) :: (100, .tup []) :: (99, .tup []) :: (98, .tup []) :: (97, .tup []) :: (96, zB false) :: (95, zB false) :: (94, .tup []) :: (93, .tup []) :: (92, .tup []) :: (91, .tup []) :: (90, zB false) :: (89, zB false) :: (88, .tup []) :: (87, .tup []) :: (86, zB false) :: (85, zB false) :: (84, .tup []) :: (83, zB false) :: (82, zB (!v33.2)) :: (81, zB (!v33.2)) :: (80, zB v33.2) :: (79, zB true) :: (78, zB v29.2) :: (77, zB v29.2) :: (76, zB true) :: (75, zB (!v25.2)) :: (74, zB (!v25.2)) :: (73, zB v25.2) :: (72, zB true) :: (71, zB v21.2) :: (70, zB v21.2) :: (69, zB true) :: (68, zB v13.2) :: T18, B18⟩ ?_
             refine runs_ret ?_
             exact fin _ _ h (by kernel_rfl)
         · replace h := cond_f hb46 h
           refine rl 79 false hb46 ?_
           refine ro9 12 48 20 ⟨(2, zB false) :: (126, zB false) :: (125, .tup []) :: (124, .tup []) :: (123, .tup []) :: (122, .tup []) :: (121, zB false) :: (120, zB false) :: (119, .tup []) :: (118, .tup []) :: (117, .tup []) :: (116, zB false) :: (115, zB false) :: (114, .tup []) :: (113, .tup []) :: (112, zB false) :: (111, zB false) :: (110, .tup []) :: (109, .tup []) :: (108, zB false) :: (107, zB false) :: (106, .tup []) :: (105, .tup []) :: (104, zB false) :: (103, zB false) :: (102, .tup []) :: (101, .tup []) :: (100, .tup []) :: (99, .tup []) :: (98, .tup []) :: (97, .tup []) :: (96, zB false) :: (95, zB false) :: (94, .tup []) :: (93, .tup []) :: (92, .tup []) :: (91, .tup []) :: (90, zB false) :: (89, zB false) :: (88, .tup []) :: (87, .tup []) :: (86, zB false) :: (85, zB false) :: (84, .tup []) :: (83, zB false) :: (82, zB false) :: (81, .tup []) :: (80, .tup []) :: (79, zB false) :: (78, zB v29.2) :: (77, zB v29.2) :: (76, zB true) :: (75, zB (!v25.2)) :: (74, zB (!v25.2)) :: (73, zB v25.2) :: (72, zB true) :: (71, zB v21.2) :: (70, zB v21.2) :: (69, zB true) :: (68, zB v13.2) :: T18, B18⟩ ?_
           refine runs_ret ?_
           exact fin _ _ h (by kernel_rfl)
       · replace h := cond_f hb45 h
         refine rl 76 false hb45 ?_
         refine ro9 9 51 22 ⟨(2, zB false) :: (126, zB false) :: (125, .tup []) :: (124, .tup []) :: (123, .tup []) :: (122, .tup []) :: (121, zB false) :: (120, zB false) :: (119, .tup []) :: (118, .tup []) :: (117, .tup []) :: (116, zB false) :: (115, zB false) :: (114, .tup []) :: (113, .tup []) :: (112, zB false) :: (111, zB false) :: (110, .tup []) :: (109, .tup []) :: (108, zB false) :: (107, zB false) :: (106, .tup []) :: (105, .tup []) :: (104, zB false) :: (103, zB false) :: (102, .tup []) :: (101, .tup []) :: (100, .tup []) :: (99, .tup []) :: (98, .tup []) :: (97, .tup []) :: (96, zB false) :: (95, zB false) :: (94, .tup []) :: (93, .tup []) :: (92, .tup []) :: (91, .tup []) :: (90, zB false) :: (89, zB false) :: (88, .tup []) :: (87, .tup []) :: (86, zB false) :: (85, zB false) :: (84, .tup []) :: (83, zB false) :: (82, zB false) :: (81, .tup []) :: (80, .tup []) :: (79, zB false) :: (78, zB false) :: (77, .tup []) :: (76, zB false) :: (75, zB (!v25.2)) :: (74, zB (!v25.2)) :: (73, zB v25.2) :: (72, zB true) :: (71, zB v21.2) :: (70, zB v21.2) :: (69, zB true) :: (68, zB v13.2) :: T18, B18⟩ ?_
         refine runs_ret ?_
         exact fin _ _ h (by kernel_rfl)
     · replace h := cond_f hb44 h
       refine rl 72 false hb44 ?_
       refine ro9 5 55 24 ⟨(2, zB false) :: (126, zB false) :: (125, .tup []) :: (124, .tup []) :: (123, .tup []) :: (122, .tup []) :: (121, zB false) :: (120, zB false) :: (119, .tup []) :: (118, .tup []) :: (117, .tup []) :: (116, zB false) :: (115, zB false) :: (114, .tup []) :: (113, .tup []) :: (112, zB false) :: (111, zB false) :: (110, .tup []) :: (109, .tup []) :: (108, zB false) :: (107, zB false) :: (106, .tup []) :: (105, .tup []) :: (104, zB false) :: (103, zB false) :: (102, .tup []) :: (101, .tup []) :: (100, .tup []) :: (99, .tup []) :: (98, .tup []) :: (97, .tup []) :: (96, zB false) :: (95, zB false) :: (94, .tup []) :: (93, .tup []) :: (92, .tup []) :: (91, .tup []) :: (90, zB false) :: (89, zB false) :: (88, .tup []) :: (87, .tup []) :: (86, zB false) :: (85, zB false) :: (84, .tup []) :: (83, zB false) :: (82, zB false) :: (81, .tup []) :: (80, .tup []) :: (79, zB false) :: (78, zB false) :: (77, .tup []) :: (76, zB false) :: (75, zB false) :: (74, .tup []) :: (73, .tup []) :: (72, zB false) :: (71, zB v21.2) :: (70, zB v21.2) :: (69, zB true) :: (68, zB v13.2) :: T18, B18⟩ ?_
       refine runs_ret ?_
       exact fin _ _ h (by kernel_rfl)
   · replace h := cond_f hb43 h
     refine rl 69 false hb43 ?_
     refine ro9 2 58 26 ⟨(2, zB false) :: (126, zB false) :: (125, .tup []) :: (124, .tup []) :: (123, .tup []) :: (122, .tup []) :: (121, zB false) :: (120, zB false) :: (119, .tup []) :: (118, .tup []) :: (117, .tup []) :: (116, zB false) :: (115, zB false) :: (114, .tup []) :: (113, .tup []) :: (112, zB false) :: (111, zB false) :: (110, .tup []) :: (109, .tup []) :: (108, zB false) :: (107, zB false) :: (106, .tup []) :: (105, .tup []) :: (104, zB false) :: (103, zB false) :: (102, .tup []) :: (101, .tup []) :: (100, .tup []) :: (99, .tup []) :: (98, .tup []) :: (97, .tup []) :: (96, zB false) :: (95, zB false) :: (94, .tup []) :: (93, .tup []) :: (92, .tup []) :: (91, .tup []) :: (90, zB false) :: (89, zB false) :: (88, .tup []) :: (87, .tup []) :: (86, zB false) :: (85, zB false) :: (84, .tup []) :: (83, zB false) :: (82, zB false) :: (81, .tup []) :: (80, .tup []) :: (79, zB false) :: (78, zB false) :: (77, .tup []) :: (76, zB false) :: (75, zB false) :: (74, .tup []) :: (73, .tup []) :: (72, zB false) :: (71, zB false) :: (70, .tup []) :: (69, zB false) :: (68, zB v13.2) :: T18, B18⟩ ?_
     refine runs_ret ?_
     exact fin _ _ h (by kernel_rfl)

end Go.Proofs.Yteolobihfindjaa
