/- The walks: each Go function answers what its plain function says. -/
import Derived.Test.YteolobihfindjaaUFnBallot
import Derived.Test.YteolobihfindjaaProg
set_option linter.unusedVariables false
namespace Go.Proofs.Yteolobihfindjaa
open Go Ax
abbrev cv : Nat → Option Nat := fun g => bif g == 77 then some 0 else bif g == 60 then some 0 else bif g == 34 then some 0 else bif g == 98 then some 0 else bif g == 63 then some 0 else none
theorem mixed : Try.prog.follows .mixedOrders = true := by decide +kernel

set_option maxRecDepth 100000 in
set_option maxHeartbeats 2000000 in
theorem spec_l01New_spec (a0 : (List Int)) (v0 : SCur) (h : spec_l01New a0 = some v0) : Ax.Spec Try.prog 62 none [.sl 0 (List.map encU8 a0)] (.box (encCur0 v0) : X) (.junk : X) := by
 refine walk0 (fn := Try.f62) (fun q0 : SCur => (.box (encCur0 q0) : X)) (fun q0 : SCur => (.junk : X)) v0 ⟨[(0, .sl 0 (List.map encU8 a0))], []⟩ Try.func62 rfl (by decide +kernel) fun Γ hn fin => ?_
 rw [spec_l01New] at h
 refine sqr cv hn ?_
 refine ro9 0 1 1 ⟨[(2, .sc (Go.Value.pointer none)), (0, .sl 0 (List.map encU8 a0))], []⟩ ?_
 refine sqr cv hn ?_
 refine ro9 0 4 4 ⟨[(3, zI (w64 (1626 + (a0.length : Int)))), (7, zI (w64 (1626 + (a0.length : Int)))), (6, zI (a0.length : Int)), (5, .sl 0 (List.map encU8 a0)), (2, .sc (Go.Value.pointer none)), (0, .sl 0 (List.map encU8 a0))], []⟩ ?_ (he := by rw [show (a0.length : Int) = ((List.map encU8 a0).length : Int) from by rw [List.length_map]]; kernel_rfl)
 refine runs_seqJ (σ := Int) (fun s => ⟨[(0, .sl 0 (List.map encU8 a0)), (3, zI s)], []⟩) (fun s => spec_l01New_j1 a0 s = some v0) ?_ ?_
 · rintro y24 h
   rw [spec_l01New_j1] at h
   let T3 : List (Nat × X) := [(0, .sl 0 (List.map encU8 a0)), (3, zI y24)]
   refine seq0 ⟨T3, []⟩ ?_
   refine sqr cv hn ?_
   refine ro9 0 5 5 ⟨(2, .ptr 31 1 0) :: (31, .ptr 31 1 0) :: (30, .agg [.sl 0 (List.map encU8 a0), zI 0, zI y24]) :: (29, zI y24) :: (28, .sl 0 (List.map encU8 a0)) :: T3, [(31, ⟨1, 1, true, some (.agg [.sl 0 (List.map encU8 a0), zI 0, zI y24])⟩)]⟩ ?_
   refine runs_ret ?_
   exact fin _ _ h (by kernel_rfl)
 · skip
   refine sqr cv hn ?_
   refine ro9 0 1 1 ⟨[(4, zI 0), (3, zI (w64 (1626 + (a0.length : Int)))), (7, zI (w64 (1626 + (a0.length : Int)))), (6, zI (a0.length : Int)), (5, .sl 0 (List.map encU8 a0)), (2, .sc (Go.Value.pointer none)), (0, .sl 0 (List.map encU8 a0))], []⟩ ?_
   refine runs_block ?_
   refine runs_loopM (σ := Nat × Int × Int) (fun s => ⟨[(4, zI s.2.1), (3, zI s.2.2), (0, .sl 0 (List.map encU8 a0))], []⟩) (fun s => spec_l01New_l2 a0 s.1 s.2.1 s.2.2 = some v0) (fun s => s.1) (fuel, 0, w64 (1626 + (a0.length : Int))) h (wre [4, 3, 0] []) ?_
   rintro ⟨n2, y31, y32⟩ h
   let T4 : List (Nat × X) := [(4, zI y31), (3, zI y32), (0, .sl 0 (List.map encU8 a0))]
   refine seq0 ⟨T4, []⟩ ?_
   cases n2 with
   | zero => rw [spec_l01New_l2] at h; cases h
   | succ n2 =>
     rw [spec_l01New_l2] at h
     refine runs_seq ?_
     refine sqr cv hn ?_
     refine ro 0 5 5 ⟨(12, zB (decide (y31 < (a0.length : Int)))) :: (11, zB (decide (y31 < (a0.length : Int)))) :: (10, zI (a0.length : Int)) :: (9, .sl 0 (List.map encU8 a0)) :: (8, zI y31) :: T4, []⟩ ?_ (he := by rw [show (a0.length : Int) = ((List.map encU8 a0).length : Int) from by rw [List.length_map]]; kernel_rfl)
     rcases dich (decide (y31 < (a0.length : Int))) with hb44 | hb44
     · replace h := cond_t hb44 h
       refine rl 12 true hb44 ?_
       refine ro9 5 3 3 ⟨(15, zB (decide (y31 < 4000))) :: (14, zB (decide (y31 < 4000))) :: (13, zI y31) :: (12, zB true) :: (11, zB (decide (y31 < (a0.length : Int)))) :: (10, zI (a0.length : Int)) :: (9, .sl 0 (List.map encU8 a0)) :: (8, zI y31) :: T4, []⟩ ?_
       rcases dich (decide (y31 < 4000)) with hb45 | hb45
       · replace h := cond_t hb45 h
         refine ct hb45 ?_
         refine runs_skip ?_
         refine runs_seq ?_
         refine runs_block ?_
         refine rg cv hn ?_
         refine ro 0 4 4 ⟨(21, zI y31) :: (20, .sl 0 (List.map encU8 a0)) :: (19, zI (w64 (y32 * 47))) :: (18, zI y32) :: (15, zB (decide (y31 < 4000))) :: (14, zB (decide (y31 < 4000))) :: (13, zI y31) :: (12, zB true) :: (11, zB (decide (y31 < (a0.length : Int)))) :: (10, zI (a0.length : Int)) :: (9, .sl 0 (List.map encU8 a0)) :: (8, zI y31) :: T4, []⟩ ?_
         obtain ⟨x46, hx47, h⟩ := bindO h
         refine rix 4 encU8 5 hx47 (ix_nn hx47) ⟨(22, .rp (.sc (.int .u8 x46)) 0) :: (21, zI y31) :: (20, .sl 0 (List.map encU8 a0)) :: (19, zI (w64 (y32 * 47))) :: (18, zI y32) :: (15, zB (decide (y31 < 4000))) :: (14, zB (decide (y31 < 4000))) :: (13, zI y31) :: (12, zB true) :: (11, zB (decide (y31 < (a0.length : Int)))) :: (10, zI (a0.length : Int)) :: (9, .sl 0 (List.map encU8 a0)) :: (8, zI y31) :: T4, []⟩ ?_
         refine ro9 5 6 6 ⟨(3, zI (bits .and .i64 (w64 ((w64 ((w64 (y32 * 47)) + (w64 x46))) + 7)) 1073741823)) :: (27, zI (bits .and .i64 (w64 ((w64 ((w64 (y32 * 47)) + (w64 x46))) + 7)) 1073741823)) :: (26, zI (w64 ((w64 ((w64 (y32 * 47)) + (w64 x46))) + 7))) :: (25, zI (w64 ((w64 (y32 * 47)) + (w64 x46)))) :: (24, zI (w64 x46)) :: (23, .sc (.int .u8 x46)) :: (22, .rp (.sc (.int .u8 x46)) 0) :: (21, zI y31) :: (20, .sl 0 (List.map encU8 a0)) :: (19, zI (w64 (y32 * 47))) :: (18, zI y32) :: (15, zB (decide (y31 < 4000))) :: (14, zB (decide (y31 < 4000))) :: (13, zI y31) :: (12, zB true) :: (11, zB (decide (y31 < (a0.length : Int)))) :: (10, zI (a0.length : Int)) :: (9, .sl 0 (List.map encU8 a0)) :: (8, zI y31) :: T4, []⟩ ?_
         refine rg cv hn ?_
         refine ro9 0 3 3 ⟨(4, zI (w64 (y31 + 1))) :: (17, zI (w64 (y31 + 1))) :: (16, zI y31) :: (3, zI (bits .and .i64 (w64 ((w64 ((w64 (y32 * 47)) + (w64 x46))) + 7)) 1073741823)) :: (27, zI (bits .and .i64 (w64 ((w64 ((w64 (y32 * 47)) + (w64 x46))) + 7)) 1073741823)) :: (26, zI (w64 ((w64 ((w64 (y32 * 47)) + (w64 x46))) + 7))) :: (25, zI (w64 ((w64 (y32 * 47)) + (w64 x46)))) :: (24, zI (w64 x46)) :: (23, .sc (.int .u8 x46)) :: (22, .rp (.sc (.int .u8 x46)) 0) :: (21, zI y31) :: (20, .sl 0 (List.map encU8 a0)) :: (19, zI (w64 (y32 * 47))) :: (18, zI y32) :: (15, zB (decide (y31 < 4000))) :: (14, zB (decide (y31 < 4000))) :: (13, zI y31) :: (12, zB true) :: (11, zB (decide (y31 < (a0.length : Int)))) :: (10, zI (a0.length : Int)) :: (9, .sl 0 (List.map encU8 a0)) :: (8, zI y31) :: T4, []⟩ ?_
         exact ⟨(n2, w64 (y31 + 1), bits .and .i64 (w64 ((w64 ((w64 (y32 * 47)) + (w64 x46))) + 7)) 1073741823), Nat.lt_succ_self _, h, wre [4, 3, 0] []⟩
       · replace h := cond_f hb45 h
         refine cf hb45 ?_
         refine runs_exit ?_
         repeat refine thenX_exit ?_
         refine block_here ?_
         exact ⟨(y32), h, wre [0, 3] []⟩
     · replace h := cond_f hb44 h
       refine rl 12 false hb44 ?_
       refine ro9 5 3 1 ⟨(15, zB false) :: (14, .tup []) :: (13, .tup []) :: (12, zB false) :: (11, zB (decide (y31 < (a0.length : Int)))) :: (10, zI (a0.length : Int)) :: (9, .sl 0 (List.map encU8 a0)) :: (8, zI y31) :: T4, []⟩ ?_
       refine cF ?_
       refine runs_exit ?_
       repeat refine thenX_exit ?_
       refine block_here ?_
       exact ⟨(y32), h, wre [0, 3] []⟩

set_option maxRecDepth 100000 in
set_option maxHeartbeats 2000000 in
theorem spec_l01Byte_spec (a0 : SCur) (v0 : (Int) × SCur) (h : spec_l01Byte a0 = some v0) : Ax.Spec Try.prog 98 (some 0) [.box (encCur0 a0)] (zI v0.1 : X) (.box (encCur0 v0.2) : X) := by
 let B1 : List (Nat × Bx) := [(9000, ⟨1, 1, true, some (encCur0 a0)⟩)]
 refine walk0 (fn := Try.f98) (fun q0 : (Int) × SCur => (zI q0.1 : X)) (fun q0 : (Int) × SCur => (.box (encCur0 q0.2) : X)) v0 ⟨[(0, .ptr 9000 1 0)], B1⟩ Try.func98 rfl (by decide +kernel) fun Γ hn fin => ?_
 rw [spec_l01Byte] at h
 refine sqr cv hn ?_
 refine ro9 0 1 1 ⟨[(2, zI 0), (0, .ptr 9000 1 0)], B1⟩ ?_
 refine sqr cv hn ?_
 refine ro9 0 10 10 ⟨[(12, .ptr 9000 1 2), (11, .ptr 9000 1 0), (10, zI (w64 ((w64 (a0.fH * 6364136223846793005)) + 1442695040888963407))), (9, zI (w64 (a0.fH * 6364136223846793005))), (8, zI a0.fH), (7, .ptr 9000 1 2), (6, .ptr 9000 1 0), (5, .ptr 9000 1 0), (4, .ptr 9000 1 0), (2, zI 0), (0, .ptr 9000 1 0)], (9000, ⟨1, 1, true, some (.agg [.sl 0 (List.map encU8 a0.fB), zI a0.fI, zI (w64 ((w64 (a0.fH * 6364136223846793005)) + 1442695040888963407))])⟩) :: B1⟩ ?_
 refine runs_seq ?_
 let B3 : List (Nat × Bx) := [(9000, ⟨0, 0, true, some (.agg [.sl 0 (List.map encU8 a0.fB), zI a0.fI, zI (w64 ((w64 (a0.fH * 6364136223846793005)) + 1442695040888963407))])⟩)]
 refine wkr [0] [(9000, 9000, false)] ⟨[(0, .ptr 9000 0 0)], B3⟩ ?_
 refine rgT cv mixed hn ?_
 refine roT9 0 13 13 ⟨[(3, zI (bits .and .i64 (bits .xor .i64 (Int.fdiv (w64 ((w64 (a0.fH * 6364136223846793005)) + 1442695040888963407)) (2 ^ 33)) (Int.fdiv (w64 ((w64 (a0.fH * 6364136223846793005)) + 1442695040888963407)) (2 ^ 45))) 255)), (24, zI (bits .and .i64 (bits .xor .i64 (Int.fdiv (w64 ((w64 (a0.fH * 6364136223846793005)) + 1442695040888963407)) (2 ^ 33)) (Int.fdiv (w64 ((w64 (a0.fH * 6364136223846793005)) + 1442695040888963407)) (2 ^ 45))) 255)), (23, zI (bits .xor .i64 (Int.fdiv (w64 ((w64 (a0.fH * 6364136223846793005)) + 1442695040888963407)) (2 ^ 33)) (Int.fdiv (w64 ((w64 (a0.fH * 6364136223846793005)) + 1442695040888963407)) (2 ^ 45)))), (22, zI (Int.fdiv (w64 ((w64 (a0.fH * 6364136223846793005)) + 1442695040888963407)) (2 ^ 45))), (21, zI (w64 ((w64 (a0.fH * 6364136223846793005)) + 1442695040888963407))), (20, .ptr 9000 0 2), (19, .ptr 9000 0 0), (18, .ptr 9000 0 0), (17, zI (Int.fdiv (w64 ((w64 (a0.fH * 6364136223846793005)) + 1442695040888963407)) (2 ^ 33))), (16, zI (w64 ((w64 (a0.fH * 6364136223846793005)) + 1442695040888963407))), (15, .ptr 9000 0 2), (14, .ptr 9000 0 0), (13, .ptr 9000 0 0), (0, .ptr 9000 0 0)], B3⟩ ?_
 refine runs_seq ?_
 refine runs_seq ?_
 let T5 : List (Nat × X) := [(3, zI (bits .and .i64 (bits .xor .i64 (Int.fdiv (w64 ((w64 (a0.fH * 6364136223846793005)) + 1442695040888963407)) (2 ^ 33)) (Int.fdiv (w64 ((w64 (a0.fH * 6364136223846793005)) + 1442695040888963407)) (2 ^ 45))) 255)), (0, .ptr 9000 0 0)]
 let B5 : List (Nat × Bx) := [(9000, ⟨0, 0, true, some (.agg [.sl 0 (List.map encU8 a0.fB), zI a0.fI, zI (w64 ((w64 (a0.fH * 6364136223846793005)) + 1442695040888963407))])⟩)]
 refine wkr [3, 0] [(9000, 9000, false)] ⟨T5, B5⟩ ?_
 refine rgT cv mixed hn ?_
 refine roT9 0 10 10 ⟨(34, zB (decide (a0.fI < (a0.fB.length : Int)))) :: (33, zI (a0.fB.length : Int)) :: (32, .sl 0 (List.map encU8 a0.fB)) :: (31, .ptr 9000 0 0) :: (30, .ptr 9000 0 0) :: (29, .ptr 9000 0 0) :: (28, zI a0.fI) :: (27, .ptr 9000 0 1) :: (26, .ptr 9000 0 0) :: (25, .ptr 9000 0 0) :: T5, B5⟩ ?_ (he := by rw [show (a0.fB.length : Int) = ((List.map encU8 a0.fB).length : Int) from by rw [List.length_map]]; kernel_rfl)
 rcases dich (decide (a0.fI < (a0.fB.length : Int))) with hb1 | hb1
 · replace h := cond_t hb1 h
   refine ct hb1 ?_
   refine runs_seq ?_
   let T7 : List (Nat × X) := [(3, zI (bits .and .i64 (bits .xor .i64 (Int.fdiv (w64 ((w64 (a0.fH * 6364136223846793005)) + 1442695040888963407)) (2 ^ 33)) (Int.fdiv (w64 ((w64 (a0.fH * 6364136223846793005)) + 1442695040888963407)) (2 ^ 45))) 255)), (0, .ptr 9000 0 0)]
   let B7 : List (Nat × Bx) := [(9000, ⟨0, 0, true, some (.agg [.sl 0 (List.map encU8 a0.fB), zI a0.fI, zI (w64 ((w64 (a0.fH * 6364136223846793005)) + 1442695040888963407))])⟩)]
   refine wkr [3, 0] [(9000, 9000, false)] ⟨T7, B7⟩ ?_
   refine rgT cv mixed hn ?_
   refine roT 0 9 9 ⟨(43, zI a0.fI) :: (42, .ptr 9000 0 1) :: (41, .ptr 9000 0 0) :: (40, .ptr 9000 0 0) :: (39, .sl 0 (List.map encU8 a0.fB)) :: (38, .ptr 9000 0 0) :: (37, .ptr 9000 0 0) :: (36, .ptr 9000 0 0) :: (35, zI (bits .and .i64 (bits .xor .i64 (Int.fdiv (w64 ((w64 (a0.fH * 6364136223846793005)) + 1442695040888963407)) (2 ^ 33)) (Int.fdiv (w64 ((w64 (a0.fH * 6364136223846793005)) + 1442695040888963407)) (2 ^ 45))) 255)) :: T7, B7⟩ ?_
   obtain ⟨x4, hx5, h⟩ := bindO h
   refine rixT 9 encU8 5 hx5 (ix_nn hx5) ⟨(44, .rp (.sc (.int .u8 x4)) 0) :: (43, zI a0.fI) :: (42, .ptr 9000 0 1) :: (41, .ptr 9000 0 0) :: (40, .ptr 9000 0 0) :: (39, .sl 0 (List.map encU8 a0.fB)) :: (38, .ptr 9000 0 0) :: (37, .ptr 9000 0 0) :: (36, .ptr 9000 0 0) :: (35, zI (bits .and .i64 (bits .xor .i64 (Int.fdiv (w64 ((w64 (a0.fH * 6364136223846793005)) + 1442695040888963407)) (2 ^ 33)) (Int.fdiv (w64 ((w64 (a0.fH * 6364136223846793005)) + 1442695040888963407)) (2 ^ 45))) 255)) :: T7, B7⟩ ?_
   refine roT9 10 5 5 ⟨(3, zI (bits .and .i64 (w64 ((bits .and .i64 (bits .xor .i64 (Int.fdiv (w64 ((w64 (a0.fH * 6364136223846793005)) + 1442695040888963407)) (2 ^ 33)) (Int.fdiv (w64 ((w64 (a0.fH * 6364136223846793005)) + 1442695040888963407)) (2 ^ 45))) 255) + (w64 x4))) 255)) :: (48, zI (bits .and .i64 (w64 ((bits .and .i64 (bits .xor .i64 (Int.fdiv (w64 ((w64 (a0.fH * 6364136223846793005)) + 1442695040888963407)) (2 ^ 33)) (Int.fdiv (w64 ((w64 (a0.fH * 6364136223846793005)) + 1442695040888963407)) (2 ^ 45))) 255) + (w64 x4))) 255)) :: (47, zI (w64 ((bits .and .i64 (bits .xor .i64 (Int.fdiv (w64 ((w64 (a0.fH * 6364136223846793005)) + 1442695040888963407)) (2 ^ 33)) (Int.fdiv (w64 ((w64 (a0.fH * 6364136223846793005)) + 1442695040888963407)) (2 ^ 45))) 255) + (w64 x4)))) :: (46, zI (w64 x4)) :: (45, .sc (.int .u8 x4)) :: (44, .rp (.sc (.int .u8 x4)) 0) :: (43, zI a0.fI) :: (42, .ptr 9000 0 1) :: (41, .ptr 9000 0 0) :: (40, .ptr 9000 0 0) :: (39, .sl 0 (List.map encU8 a0.fB)) :: (38, .ptr 9000 0 0) :: (37, .ptr 9000 0 0) :: (36, .ptr 9000 0 0) :: (35, zI (bits .and .i64 (bits .xor .i64 (Int.fdiv (w64 ((w64 (a0.fH * 6364136223846793005)) + 1442695040888963407)) (2 ^ 33)) (Int.fdiv (w64 ((w64 (a0.fH * 6364136223846793005)) + 1442695040888963407)) (2 ^ 45))) 255)) :: T7, B7⟩ ?_
   let T8 : List (Nat × X) := [(3, zI (bits .and .i64 (w64 ((bits .and .i64 (bits .xor .i64 (Int.fdiv (w64 ((w64 (a0.fH * 6364136223846793005)) + 1442695040888963407)) (2 ^ 33)) (Int.fdiv (w64 ((w64 (a0.fH * 6364136223846793005)) + 1442695040888963407)) (2 ^ 45))) 255) + (w64 x4))) 255)), (0, .ptr 9000 0 0)]
   let B8 : List (Nat × Bx) := [(9000, ⟨0, 0, true, some (.agg [.sl 0 (List.map encU8 a0.fB), zI a0.fI, zI (w64 ((w64 (a0.fH * 6364136223846793005)) + 1442695040888963407))])⟩)]
   refine wkr [3, 0] [(9000, 9000, false)] ⟨T8, B8⟩ ?_
   refine rg cv hn ?_
   refine ro9 0 9 9 ⟨(56, .ptr 9000 0 1) :: (55, .ptr 9000 0 0) :: (54, zI (w64 (a0.fI + 1))) :: (53, zI a0.fI) :: (52, .ptr 9000 0 1) :: (51, .ptr 9000 0 0) :: (50, .ptr 9000 0 0) :: (49, .ptr 9000 0 0) :: T8, (9000, ⟨0, 0, true, some (.agg [.sl 0 (List.map encU8 a0.fB), zI (w64 (a0.fI + 1)), zI (w64 ((w64 (a0.fH * 6364136223846793005)) + 1442695040888963407))])⟩) :: B8⟩ ?_
   let T9 : List (Nat × X) := [(3, zI (bits .and .i64 (w64 ((bits .and .i64 (bits .xor .i64 (Int.fdiv (w64 ((w64 (a0.fH * 6364136223846793005)) + 1442695040888963407)) (2 ^ 33)) (Int.fdiv (w64 ((w64 (a0.fH * 6364136223846793005)) + 1442695040888963407)) (2 ^ 45))) 255) + (w64 x4))) 255))]
   let B9 : List (Nat × Bx) := [(9000, ⟨0, 0, true, some (.agg [.sl 0 (List.map encU8 a0.fB), zI (w64 (a0.fI + 1)), zI (w64 ((w64 (a0.fH * 6364136223846793005)) + 1442695040888963407))])⟩)]
   refine wkr [3] [(9000, 9000, false)] ⟨T9, B9⟩ ?_
   refine sqr cv hn ?_
   refine ro9 0 2 2 ⟨(2, zI (bits .and .i64 (w64 ((bits .and .i64 (bits .xor .i64 (Int.fdiv (w64 ((w64 (a0.fH * 6364136223846793005)) + 1442695040888963407)) (2 ^ 33)) (Int.fdiv (w64 ((w64 (a0.fH * 6364136223846793005)) + 1442695040888963407)) (2 ^ 45))) 255) + (w64 x4))) 255)) :: (57, zI (bits .and .i64 (w64 ((bits .and .i64 (bits .xor .i64 (Int.fdiv (w64 ((w64 (a0.fH * 6364136223846793005)) + 1442695040888963407)) (2 ^ 33)) (Int.fdiv (w64 ((w64 (a0.fH * 6364136223846793005)) + 1442695040888963407)) (2 ^ 45))) 255) + (w64 x4))) 255)) :: T9, B9⟩ ?_
   refine runs_ret ?_
   exact fin _ _ h (by kernel_rfl)
 · replace h := cond_f hb1 h
   refine cf hb1 ?_
   refine runs_skip ?_
   let T10 : List (Nat × X) := [(3, zI (bits .and .i64 (bits .xor .i64 (Int.fdiv (w64 ((w64 (a0.fH * 6364136223846793005)) + 1442695040888963407)) (2 ^ 33)) (Int.fdiv (w64 ((w64 (a0.fH * 6364136223846793005)) + 1442695040888963407)) (2 ^ 45))) 255))]
   let B10 : List (Nat × Bx) := [(9000, ⟨0, 0, true, some (.agg [.sl 0 (List.map encU8 a0.fB), zI a0.fI, zI (w64 ((w64 (a0.fH * 6364136223846793005)) + 1442695040888963407))])⟩)]
   refine wkr [3] [(9000, 9000, false)] ⟨T10, B10⟩ ?_
   refine sqr cv hn ?_
   refine ro9 0 2 2 ⟨(2, zI (bits .and .i64 (bits .xor .i64 (Int.fdiv (w64 ((w64 (a0.fH * 6364136223846793005)) + 1442695040888963407)) (2 ^ 33)) (Int.fdiv (w64 ((w64 (a0.fH * 6364136223846793005)) + 1442695040888963407)) (2 ^ 45))) 255)) :: (57, zI (bits .and .i64 (bits .xor .i64 (Int.fdiv (w64 ((w64 (a0.fH * 6364136223846793005)) + 1442695040888963407)) (2 ^ 33)) (Int.fdiv (w64 ((w64 (a0.fH * 6364136223846793005)) + 1442695040888963407)) (2 ^ 45))) 255)) :: T10, B10⟩ ?_
   refine runs_ret ?_
   exact fin _ _ h (by kernel_rfl)

set_option maxRecDepth 100000 in
set_option maxHeartbeats 2000000 in
theorem spec_l01Below_spec (a0 : SCur) (a1 : Int) (v0 : (Int) × SCur) (h : spec_l01Below a0 a1 = some v0) : Ax.Spec Try.prog 63 (some 0) [.box (encCur0 a0), zI a1] (zI v0.1 : X) (.box (encCur0 v0.2) : X) := by
 let B1 : List (Nat × Bx) := [(9000, ⟨1, 1, true, some (encCur0 a0)⟩)]
 refine walk0 (fn := Try.f63) (fun q0 : (Int) × SCur => (zI q0.1 : X)) (fun q0 : (Int) × SCur => (.box (encCur0 q0.2) : X)) v0 ⟨[(0, .ptr 9000 1 0), (1, zI a1)], B1⟩ Try.func63 rfl (by decide +kernel) fun Γ hn fin => ?_
 rw [spec_l01Below] at h
 refine sqr cv hn ?_
 refine ro9 0 1 1 ⟨[(4, zI 0), (0, .ptr 9000 1 0), (1, zI a1)], B1⟩ ?_
 refine runs_seq ?_
 refine sqr cv hn ?_
 refine ro9 0 2 2 ⟨[(10, zB (decide (a1 ≤ 0))), (9, zI a1), (4, zI 0), (0, .ptr 9000 1 0), (1, zI a1)], B1⟩ ?_
 rcases dich (decide (a1 ≤ 0)) with hb2 | hb2
 · replace h := cond_t hb2 h
   refine ct hb2 ?_
   refine sqr cv hn ?_
   refine ro9 0 1 1 ⟨[(4, zI 0), (10, zB (decide (a1 ≤ 0))), (9, zI a1), (4, zI 0), (0, .ptr 9000 1 0), (1, zI a1)], B1⟩ ?_
   refine runs_ret ?_
   exact fin _ _ h (by kernel_rfl)
 · replace h := cond_f hb2 h
   refine cf hb2 ?_
   refine runs_skip ?_
   refine runs_seq ?_
   refine sqr cv hn ?_
   refine ro9 0 2 2 ⟨[(12, zB (decide (a1 ≤ 256))), (11, zI a1), (10, zB (decide (a1 ≤ 0))), (9, zI a1), (4, zI 0), (0, .ptr 9000 1 0), (1, zI a1)], B1⟩ ?_
   rcases dich (decide (a1 ≤ 256)) with hb8 | hb8
   · replace h := cond_t hb8 h
     refine ct hb8 ?_
     let B3 : List (Nat × Bx) := [(9000, ⟨0, 0, true, some (encCur0 a0)⟩)]
     refine wkr [0, 1] [(9000, 9000, false)] ⟨[(0, .ptr 9000 0 0), (1, zI a1)], B3⟩ ?_
     refine sqr cv hn ?_
     refine ro 0 1 1 ⟨[(13, .ptr 9000 0 0), (0, .ptr 9000 0 0), (1, zI a1)], B3⟩ ?_
     obtain ⟨v9, hv10, h⟩ := bindO h
     refine rc 1 ⟨[(14, zI v9.1), (13, .ptr 9000 0 0), (0, .ptr 9000 0 0), (1, zI a1)], (9000, ⟨0, 1, true, some (encCur0 v9.2)⟩) :: B3⟩ (spec_l01Byte_spec a0 v9 hv10) ?_
     refine ro 2 1 1 ⟨[(15, zI a1), (14, zI v9.1), (13, .ptr 9000 0 0), (0, .ptr 9000 0 0), (1, zI a1)], (9000, ⟨0, 1, true, some (encCur0 v9.2)⟩) :: B3⟩ ?_
     obtain ⟨v11, hv12, h⟩ := bindO h
     refine ra 3 (zI v11 : X) (.junk : X) ⟨[(16, zI v11), (15, zI a1), (14, zI v9.1), (13, .ptr 9000 0 0), (0, .ptr 9000 0 0), (1, zI a1)], (9000, ⟨0, 1, true, some (encCur0 v9.2)⟩) :: B3⟩ [binV .rem (.int .i64 v9.1) (.int .i64 a1) = some (.int .i64 v11)] ⟨remO_bin (by decide) hv12, trivial⟩ ?_
     refine ro9 4 1 1 ⟨[(4, zI v11), (16, zI v11), (15, zI a1), (14, zI v9.1), (13, .ptr 9000 0 0), (0, .ptr 9000 0 0), (1, zI a1)], (9000, ⟨0, 1, true, some (encCur0 v9.2)⟩) :: B3⟩ ?_
     refine runs_ret ?_
     exact fin _ _ h (by kernel_rfl)
   · replace h := cond_f hb8 h
     refine cf hb8 ?_
     refine runs_skip ?_
     let B5 : List (Nat × Bx) := [(9000, ⟨0, 0, true, some (encCur0 a0)⟩)]
     refine wkr [0, 1] [(9000, 9000, false)] ⟨[(0, .ptr 9000 0 0), (1, zI a1)], B5⟩ ?_
     refine sqr cv hn ?_
     refine ro 0 1 1 ⟨[(17, .ptr 9000 0 0), (0, .ptr 9000 0 0), (1, zI a1)], B5⟩ ?_
     obtain ⟨v15, hv16, h⟩ := bindO h
     refine rc 1 ⟨[(18, zI v15.1), (17, .ptr 9000 0 0), (0, .ptr 9000 0 0), (1, zI a1)], (9000, ⟨0, 1, true, some (encCur0 v15.2)⟩) :: B5⟩ (spec_l01Byte_spec a0 v15 hv16) ?_
     refine ro9 2 1 1 ⟨[(5, zI v15.1), (18, zI v15.1), (17, .ptr 9000 0 0), (0, .ptr 9000 0 0), (1, zI a1)], (9000, ⟨0, 1, true, some (encCur0 v15.2)⟩) :: B5⟩ ?_
     refine sqr cv hn ?_
     refine ro 0 1 1 ⟨[(19, .ptr 9000 0 0), (5, zI v15.1), (18, zI v15.1), (17, .ptr 9000 0 0), (0, .ptr 9000 0 0), (1, zI a1)], (9000, ⟨0, 1, true, some (encCur0 v15.2)⟩) :: B5⟩ ?_
     obtain ⟨v19, hv20, h⟩ := bindO h
     refine rc 1 ⟨[(20, zI v19.1), (19, .ptr 9000 0 0), (5, zI v15.1), (18, zI v15.1), (17, .ptr 9000 0 0), (0, .ptr 9000 0 0), (1, zI a1)], (9000, ⟨0, 2, true, some (encCur0 v19.2)⟩) :: (9000, ⟨0, 1, true, some (encCur0 v15.2)⟩) :: B5⟩ (spec_l01Byte_spec v15.2 v19 hv20) ?_
     refine ro9 2 1 1 ⟨[(6, zI v19.1), (20, zI v19.1), (19, .ptr 9000 0 0), (5, zI v15.1), (18, zI v15.1), (17, .ptr 9000 0 0), (0, .ptr 9000 0 0), (1, zI a1)], (9000, ⟨0, 2, true, some (encCur0 v19.2)⟩) :: (9000, ⟨0, 1, true, some (encCur0 v15.2)⟩) :: B5⟩ ?_
     refine sqr cv hn ?_
     refine ro 0 1 1 ⟨[(21, .ptr 9000 0 0), (6, zI v19.1), (20, zI v19.1), (19, .ptr 9000 0 0), (5, zI v15.1), (18, zI v15.1), (17, .ptr 9000 0 0), (0, .ptr 9000 0 0), (1, zI a1)], (9000, ⟨0, 2, true, some (encCur0 v19.2)⟩) :: (9000, ⟨0, 1, true, some (encCur0 v15.2)⟩) :: B5⟩ ?_
     obtain ⟨v23, hv24, h⟩ := bindO h
     refine rc 1 ⟨[(22, zI v23.1), (21, .ptr 9000 0 0), (6, zI v19.1), (20, zI v19.1), (19, .ptr 9000 0 0), (5, zI v15.1), (18, zI v15.1), (17, .ptr 9000 0 0), (0, .ptr 9000 0 0), (1, zI a1)], (9000, ⟨0, 3, true, some (encCur0 v23.2)⟩) :: (9000, ⟨0, 2, true, some (encCur0 v19.2)⟩) :: (9000, ⟨0, 1, true, some (encCur0 v15.2)⟩) :: B5⟩ (spec_l01Byte_spec v19.2 v23 hv24) ?_
     refine ro9 2 1 1 ⟨[(7, zI v23.1), (22, zI v23.1), (21, .ptr 9000 0 0), (6, zI v19.1), (20, zI v19.1), (19, .ptr 9000 0 0), (5, zI v15.1), (18, zI v15.1), (17, .ptr 9000 0 0), (0, .ptr 9000 0 0), (1, zI a1)], (9000, ⟨0, 3, true, some (encCur0 v23.2)⟩) :: (9000, ⟨0, 2, true, some (encCur0 v19.2)⟩) :: (9000, ⟨0, 1, true, some (encCur0 v15.2)⟩) :: B5⟩ ?_
     let T7 : List (Nat × X) := [(7, zI v23.1), (6, zI v19.1), (5, zI v15.1), (0, .ptr 9000 0 0), (1, zI a1)]
     let B7 : List (Nat × Bx) := [(9000, ⟨0, 0, true, some (encCur0 v23.2)⟩)]
     refine wkr [7, 6, 5, 0, 1] [(9000, 9000, false)] ⟨T7, B7⟩ ?_
     refine sqr cv hn ?_
     refine ro 0 1 1 ⟨(23, .ptr 9000 0 0) :: T7, B7⟩ ?_
     obtain ⟨v27, hv28, h⟩ := bindO h
     refine rc 1 ⟨(24, zI v27.1) :: (23, .ptr 9000 0 0) :: T7, (9000, ⟨0, 1, true, some (encCur0 v27.2)⟩) :: B7⟩ (spec_l01Byte_spec v23.2 v27 hv28) ?_
     refine ro9 2 1 1 ⟨(8, zI v27.1) :: (24, zI v27.1) :: (23, .ptr 9000 0 0) :: T7, (9000, ⟨0, 1, true, some (encCur0 v27.2)⟩) :: B7⟩ ?_
     refine sqr cv hn ?_
     refine ro 0 11 11 ⟨(35, zI a1) :: (34, zI (w64 ((w64 ((w64 ((w64 (v15.1 * 16777216)) + (w64 (v19.1 * 65536)))) + (w64 (v23.1 * 256)))) + v27.1))) :: (33, zI v27.1) :: (32, zI (w64 ((w64 ((w64 (v15.1 * 16777216)) + (w64 (v19.1 * 65536)))) + (w64 (v23.1 * 256))))) :: (31, zI (w64 (v23.1 * 256))) :: (30, zI v23.1) :: (29, zI (w64 ((w64 (v15.1 * 16777216)) + (w64 (v19.1 * 65536))))) :: (28, zI (w64 (v19.1 * 65536))) :: (27, zI v19.1) :: (26, zI (w64 (v15.1 * 16777216))) :: (25, zI v15.1) :: (8, zI v27.1) :: (24, zI v27.1) :: (23, .ptr 9000 0 0) :: T7, (9000, ⟨0, 1, true, some (encCur0 v27.2)⟩) :: B7⟩ ?_
     obtain ⟨v29, hv30, h⟩ := bindO h
     refine ra 11 (zI v29 : X) (.junk : X) ⟨(36, zI v29) :: (35, zI a1) :: (34, zI (w64 ((w64 ((w64 ((w64 (v15.1 * 16777216)) + (w64 (v19.1 * 65536)))) + (w64 (v23.1 * 256)))) + v27.1))) :: (33, zI v27.1) :: (32, zI (w64 ((w64 ((w64 (v15.1 * 16777216)) + (w64 (v19.1 * 65536)))) + (w64 (v23.1 * 256))))) :: (31, zI (w64 (v23.1 * 256))) :: (30, zI v23.1) :: (29, zI (w64 ((w64 (v15.1 * 16777216)) + (w64 (v19.1 * 65536))))) :: (28, zI (w64 (v19.1 * 65536))) :: (27, zI v19.1) :: (26, zI (w64 (v15.1 * 16777216))) :: (25, zI v15.1) :: (8, zI v27.1) :: (24, zI v27.1) :: (23, .ptr 9000 0 0) :: T7, (9000, ⟨0, 1, true, some (encCur0 v27.2)⟩) :: B7⟩ [binV .rem (.int .i64 (w64 ((w64 ((w64 ((w64 (v15.1 * 16777216)) + (w64 (v19.1 * 65536)))) + (w64 (v23.1 * 256)))) + v27.1))) (.int .i64 a1) = some (.int .i64 v29)] ⟨remO_bin (by decide) hv30, trivial⟩ ?_
     refine ro9 12 1 1 ⟨(4, zI v29) :: (36, zI v29) :: (35, zI a1) :: (34, zI (w64 ((w64 ((w64 ((w64 (v15.1 * 16777216)) + (w64 (v19.1 * 65536)))) + (w64 (v23.1 * 256)))) + v27.1))) :: (33, zI v27.1) :: (32, zI (w64 ((w64 ((w64 (v15.1 * 16777216)) + (w64 (v19.1 * 65536)))) + (w64 (v23.1 * 256))))) :: (31, zI (w64 (v23.1 * 256))) :: (30, zI v23.1) :: (29, zI (w64 ((w64 (v15.1 * 16777216)) + (w64 (v19.1 * 65536))))) :: (28, zI (w64 (v19.1 * 65536))) :: (27, zI v19.1) :: (26, zI (w64 (v15.1 * 16777216))) :: (25, zI v15.1) :: (8, zI v27.1) :: (24, zI v27.1) :: (23, .ptr 9000 0 0) :: T7, (9000, ⟨0, 1, true, some (encCur0 v27.2)⟩) :: B7⟩ ?_
     refine runs_ret ?_
     exact fin _ _ h (by kernel_rfl)

set_option maxRecDepth 100000 in
set_option maxHeartbeats 2000000 in
theorem spec_MakeNum_spec (a0 : (List Int)) (a1 : Int) (v0 : Int) (h : spec_MakeNum a0 a1 = some v0) : Ax.Spec Try.prog 15 none [.sl 0 (List.map encU8 a0), zI a1] (zI v0 : X) (.junk : X) := by
 let T1 : List (Nat × X) := [(0, .sl 0 (List.map encU8 a0)), (1, zI a1)]
 refine walk0 (fn := Try.f15) (fun q0 : Int => (zI q0 : X)) (fun q0 : Int => (.junk : X)) v0 ⟨T1, []⟩ Try.func15 rfl (by decide +kernel) fun Γ hn fin => ?_
 rw [spec_MakeNum] at h
 refine sqr cv hn ?_
 refine ro9 0 1 1 ⟨(4, zI 0) :: T1, []⟩ ?_
 refine sqr cv hn ?_
 refine ro 0 1 1 ⟨(6, .sl 0 (List.map encU8 a0)) :: (4, zI 0) :: T1, []⟩ ?_
 obtain ⟨v3, hv4, h⟩ := bindO h
 refine rc 1 ⟨(7, .ptr 7 1 0) :: (6, .sl 0 (List.map encU8 a0)) :: (4, zI 0) :: T1, [(7, ⟨1, 1, true, some (encCur0 v3)⟩)]⟩ (spec_l01New_spec a0 v3 hv4) ?_
 refine ro9 2 1 1 ⟨(5, .ptr 7 1 0) :: (7, .ptr 7 1 0) :: (6, .sl 0 (List.map encU8 a0)) :: (4, zI 0) :: T1, [(7, ⟨1, 1, true, some (encCur0 v3)⟩)]⟩ ?_
 refine sqr cv hn ?_
 refine ro9 0 9 9 ⟨(15, .ptr 7 1 2) :: (14, .ptr 7 1 0) :: (13, zI (w64 (v3.fH + 777))) :: (12, zI v3.fH) :: (11, .ptr 7 1 2) :: (10, .ptr 7 1 0) :: (9, .ptr 7 1 0) :: (8, .ptr 7 1 0) :: (5, .ptr 7 1 0) :: (7, .ptr 7 1 0) :: (6, .sl 0 (List.map encU8 a0)) :: (4, zI 0) :: T1, [(7, ⟨1, 1, true, some (.agg [.sl 0 (List.map encU8 v3.fB), zI v3.fI, zI (w64 (v3.fH + 777))])⟩), (7, ⟨1, 1, true, some (encCur0 v3)⟩)]⟩ ?_
 let B2 : List (Nat × Bx) := [(7, ⟨0, 0, true, some (.agg [.sl 0 (List.map encU8 v3.fB), zI v3.fI, zI (w64 (v3.fH + 777))])⟩)]
 refine wkr [5, 1] [(7, 7, false)] ⟨[(5, .ptr 7 0 0), (1, zI a1)], B2⟩ ?_
 refine sqr cv hn ?_
 refine ro 0 2 2 ⟨[(17, zI a1), (16, .ptr 7 0 0), (5, .ptr 7 0 0), (1, zI a1)], B2⟩ ?_
 obtain ⟨v5, hv6, h⟩ := bindO h
 refine rc 2 ⟨[(18, zI v5.1), (17, zI a1), (16, .ptr 7 0 0), (5, .ptr 7 0 0), (1, zI a1)], (7, ⟨0, 1, true, some (encCur0 v5.2)⟩) :: B2⟩ (spec_l01Below_spec { v3 with fH := w64 (v3.fH + 777) } a1 v5 hv6) ?_
 refine ro9 3 1 1 ⟨[(4, zI v5.1), (18, zI v5.1), (17, zI a1), (16, .ptr 7 0 0), (5, .ptr 7 0 0), (1, zI a1)], (7, ⟨0, 1, true, some (encCur0 v5.2)⟩) :: B2⟩ ?_
 refine runs_ret ?_
 exact fin _ _ h (by kernel_rfl)

set_option maxRecDepth 100000 in
set_option maxHeartbeats 2000000 in
theorem impl_in_spec (a0 : Int) (a1 : Int) (a2 : Int) (v0 : Bool) (h : impl_in a0 a1 a2 = some v0) : Ax.Spec Try.prog 64 none [zI a0, zI a1, zI a2] (zB v0 : X) (.junk : X) := by
 let T1 : List (Nat × X) := [(0, zI a0), (1, zI a1), (2, zI a2)]
 refine walk0 (fn := Try.f64) (fun q0 : Bool => (zB q0 : X)) (fun q0 : Bool => (.junk : X)) v0 ⟨T1, []⟩ Try.func64 rfl (by decide +kernel) fun Γ hn fin => ?_
 rw [impl_in] at h
 refine sqr cv hn ?_
 refine ro9 0 1 1 ⟨(6, zB false) :: T1, []⟩ ?_
 refine sqr cv hn ?_
 refine ro 0 4 4 ⟨(10, zB (decide (a0 ≥ a1))) :: (9, zB (decide (a0 ≥ a1))) :: (8, zI a1) :: (7, zI a0) :: (6, zB false) :: T1, []⟩ ?_
 rcases dich (decide (a0 ≥ a1)) with hb1 | hb1
 · replace h := cond_t hb1 h
   refine rl 10 true hb1 ?_
   refine ro9 4 5 5 ⟨(6, zB (decide (a0 ≤ a2))) :: (14, zB (decide (a0 ≤ a2))) :: (13, zB (decide (a0 ≤ a2))) :: (12, zI a2) :: (11, zI a0) :: (10, zB true) :: (9, zB (decide (a0 ≥ a1))) :: (8, zI a1) :: (7, zI a0) :: (6, zB false) :: T1, []⟩ ?_
   refine runs_ret ?_
   exact fin _ _ h (by kernel_rfl)
 · replace h := cond_f hb1 h
   refine rl 10 false hb1 ?_
   refine ro9 4 5 2 ⟨(6, zB false) :: (14, zB false) :: (13, .tup []) :: (12, .tup []) :: (11, .tup []) :: (10, zB false) :: (9, zB (decide (a0 ≥ a1))) :: (8, zI a1) :: (7, zI a0) :: (6, zB false) :: T1, []⟩ ?_
   refine runs_ret ?_
   exact fin _ _ h (by kernel_rfl)

set_option maxRecDepth 100000 in
set_option maxHeartbeats 2000000 in
theorem impl_isNode_spec (a0 : Int) (v0 : Bool) (h : impl_isNode a0 = some v0) : Ax.Spec Try.prog 65 none [zI a0] (zB v0 : X) (.junk : X) := by
 refine walk0 (fn := Try.f65) (fun q0 : Bool => (zB q0 : X)) (fun q0 : Bool => (.junk : X)) v0 ⟨[(0, zI a0)], []⟩ Try.func65 rfl (by decide +kernel) fun Γ hn fin => ?_
 rw [impl_isNode] at h
 refine sqr cv hn ?_
 refine ro9 0 1 1 ⟨[(2, zB false), (0, zI a0)], []⟩ ?_
 refine sqr cv hn ?_
 refine ro 0 1 1 ⟨[(3, zI a0), (2, zB false), (0, zI a0)], []⟩ ?_
 obtain ⟨v1, hv2, h⟩ := bindO h
 refine rc 1 ⟨[(4, zB v1), (3, zI a0), (2, zB false), (0, zI a0)], []⟩ (impl_in_spec a0 0 3 v1 hv2) ?_
 refine ro9 2 1 1 ⟨[(2, zB v1), (4, zB v1), (3, zI a0), (2, zB false), (0, zI a0)], []⟩ ?_
 refine runs_ret ?_
 exact fin _ _ h (by kernel_rfl)

set_option maxRecDepth 100000 in
set_option maxHeartbeats 2000000 in
theorem impl_BallotAbove_spec (a0 : Int) (a1 : Int) (v0 : Int) (h : impl_BallotAbove a0 a1 = some v0) : Ax.Spec Try.prog 16 none [zI a0, zI a1] (zI v0 : X) (.junk : X) := by
 refine walk0 (fn := Try.f16) (fun q0 : Int => (zI q0 : X)) (fun q0 : Int => (.junk : X)) v0 ⟨[(0, zI a0), (1, zI a1)], []⟩ Try.func16 rfl (by decide +kernel) fun Γ hn fin => ?_
 rw [impl_BallotAbove] at h
 refine sqr cv hn ?_
 refine ro9 0 1 1 ⟨[(4, zI 0), (0, zI a0), (1, zI a1)], []⟩ ?_
 refine runs_seq ?_
 refine sqr cv hn ?_
 refine ro 0 1 1 ⟨[(5, zI a0), (4, zI 0), (0, zI a0), (1, zI a1)], []⟩ ?_
 obtain ⟨v7, hv8, h⟩ := bindO h
 refine rc 1 ⟨[(6, zB v7), (5, zI a0), (4, zI 0), (0, zI a0), (1, zI a1)], []⟩ (impl_in_spec a0 0 1000000000 v7 hv8) ?_
 refine ro 2 2 2 ⟨[(8, zB (!v7)), (7, zB (!v7)), (6, zB v7), (5, zI a0), (4, zI 0), (0, zI a0), (1, zI a1)], []⟩ ?_
 rcases dich (!v7) with hb9 | hb9
 · replace h := cond_t hb9 h
   refine rl 8 true hb9 ?_
   refine ro9 4 4 1 ⟨[(12, zB true), (11, .tup []), (10, .tup []), (9, .tup []), (8, zB true), (7, zB (!v7)), (6, zB v7), (5, zI a0), (4, zI 0), (0, zI a0), (1, zI a1)], []⟩ ?_
   refine cT ?_
   refine wkr [0, 1] [] ⟨[(0, zI a0), (1, zI a1)], []⟩ ?_
   refine sqr cv hn ?_
   refine ro9 0 1 1 ⟨[(4, zI 0), (0, zI a0), (1, zI a1)], []⟩ ?_
   refine runs_ret ?_
   exact fin _ _ h (by kernel_rfl)
 · replace h := cond_f hb9 h
   refine rl 8 false hb9 ?_
   refine ro 4 1 1 ⟨[(9, zI a1), (8, zB false), (7, zB (!v7)), (6, zB v7), (5, zI a0), (4, zI 0), (0, zI a0), (1, zI a1)], []⟩ ?_
   obtain ⟨v10, hv11, h⟩ := bindO h
   refine rc 5 ⟨[(10, zB v10), (9, zI a1), (8, zB false), (7, zB (!v7)), (6, zB v7), (5, zI a0), (4, zI 0), (0, zI a0), (1, zI a1)], []⟩ (impl_isNode_spec a1 v10 hv11) ?_
   refine ro9 6 2 2 ⟨[(12, zB (!v10)), (11, zB (!v10)), (10, zB v10), (9, zI a1), (8, zB false), (7, zB (!v7)), (6, zB v7), (5, zI a0), (4, zI 0), (0, zI a0), (1, zI a1)], []⟩ ?_
   rcases dich (!v10) with hb12 | hb12
   · replace h := cond_t hb12 h
     refine ct hb12 ?_
     refine wkr [0, 1] [] ⟨[(0, zI a0), (1, zI a1)], []⟩ ?_
     refine sqr cv hn ?_
     refine ro9 0 1 1 ⟨[(4, zI 0), (0, zI a0), (1, zI a1)], []⟩ ?_
     refine runs_ret ?_
     exact fin _ _ h (by kernel_rfl)
   · replace h := cond_f hb12 h
     refine cf hb12 ?_
     refine runs_skip ?_
     refine runs_seq ?_
     refine wkr [0, 1] [] ⟨[(0, zI a0), (1, zI a1)], []⟩ ?_
     refine sqr cv hn ?_
     refine ro9 0 4 4 ⟨[(16, zB (decide (a0 < (w64 (a1 + 1))))), (15, zI (w64 (a1 + 1))), (14, zI a1), (13, zI a0), (0, zI a0), (1, zI a1)], []⟩ ?_
     rcases dich (decide (a0 < (w64 (a1 + 1)))) with hb14 | hb14
     · replace h := cond_t hb14 h
       refine ct hb14 ?_
       refine sqr cv hn ?_
       refine ro9 0 3 3 ⟨[(4, zI (w64 (a1 + 1))), (18, zI (w64 (a1 + 1))), (17, zI a1), (16, zB (decide (a0 < (w64 (a1 + 1))))), (15, zI (w64 (a1 + 1))), (14, zI a1), (13, zI a0), (0, zI a0), (1, zI a1)], []⟩ ?_
       refine runs_ret ?_
       exact fin _ _ h (by kernel_rfl)
     · replace h := cond_f hb14 h
       refine cf hb14 ?_
       refine runs_skip ?_
       refine sqr cv hn ?_
       refine ro9 0 11 11 ⟨[(4, zI (w64 ((w64 ((w64 ((w64 ((w64 (Int.tdiv (w64 ((w64 (a0 - a1)) - 1)) 4)) + 1)) * 4)) + a1)) + 1))), (28, zI (w64 ((w64 ((w64 ((w64 ((w64 (Int.tdiv (w64 ((w64 (a0 - a1)) - 1)) 4)) + 1)) * 4)) + a1)) + 1))), (27, zI (w64 ((w64 ((w64 ((w64 (Int.tdiv (w64 ((w64 (a0 - a1)) - 1)) 4)) + 1)) * 4)) + a1))), (26, zI a1), (25, zI (w64 ((w64 ((w64 (Int.tdiv (w64 ((w64 (a0 - a1)) - 1)) 4)) + 1)) * 4))), (24, zI (w64 ((w64 (Int.tdiv (w64 ((w64 (a0 - a1)) - 1)) 4)) + 1))), (23, zI (w64 (Int.tdiv (w64 ((w64 (a0 - a1)) - 1)) 4))), (22, zI (w64 ((w64 (a0 - a1)) - 1))), (21, zI (w64 (a0 - a1))), (20, zI a1), (19, zI a0), (16, zB (decide (a0 < (w64 (a1 + 1))))), (15, zI (w64 (a1 + 1))), (14, zI a1), (13, zI a0), (0, zI a0), (1, zI a1)], []⟩ ?_
       refine runs_ret ?_
       exact fin _ _ h (by kernel_rfl)

set_option maxRecDepth 100000 in
set_option maxHeartbeats 2000000 in
theorem impl_BallotOf_spec (a0 : Int) (a1 : Int) (v0 : Int) (h : impl_BallotOf a0 a1 = some v0) : Ax.Spec Try.prog 17 none [zI a0, zI a1] (zI v0 : X) (.junk : X) := by
 refine walk0 (fn := Try.f17) (fun q0 : Int => (zI q0 : X)) (fun q0 : Int => (.junk : X)) v0 ⟨[(0, zI a0), (1, zI a1)], []⟩ Try.func17 rfl (by decide +kernel) fun Γ hn fin => ?_
 rw [impl_BallotOf] at h
 refine sqr cv hn ?_
 refine ro9 0 1 1 ⟨[(4, zI 0), (0, zI a0), (1, zI a1)], []⟩ ?_
 refine runs_seq ?_
 refine sqr cv hn ?_
 refine ro 0 1 1 ⟨[(5, zI a0), (4, zI 0), (0, zI a0), (1, zI a1)], []⟩ ?_
 obtain ⟨v7, hv8, h⟩ := bindO h
 refine rc 1 ⟨[(6, zB v7), (5, zI a0), (4, zI 0), (0, zI a0), (1, zI a1)], []⟩ (impl_in_spec a0 0 1000000000 v7 hv8) ?_
 refine ro 2 2 2 ⟨[(8, zB (!v7)), (7, zB (!v7)), (6, zB v7), (5, zI a0), (4, zI 0), (0, zI a0), (1, zI a1)], []⟩ ?_
 rcases dich (!v7) with hb9 | hb9
 · replace h := cond_t hb9 h
   refine rl 8 true hb9 ?_
   refine ro9 4 4 1 ⟨[(12, zB true), (11, .tup []), (10, .tup []), (9, .tup []), (8, zB true), (7, zB (!v7)), (6, zB v7), (5, zI a0), (4, zI 0), (0, zI a0), (1, zI a1)], []⟩ ?_
   refine cT ?_
   refine wkr [0, 1] [] ⟨[(0, zI a0), (1, zI a1)], []⟩ ?_
   refine sqr cv hn ?_
   refine ro9 0 1 1 ⟨[(4, zI 0), (0, zI a0), (1, zI a1)], []⟩ ?_
   refine runs_ret ?_
   exact fin _ _ h (by kernel_rfl)
 · replace h := cond_f hb9 h
   refine rl 8 false hb9 ?_
   refine ro 4 1 1 ⟨[(9, zI a1), (8, zB false), (7, zB (!v7)), (6, zB v7), (5, zI a0), (4, zI 0), (0, zI a0), (1, zI a1)], []⟩ ?_
   obtain ⟨v10, hv11, h⟩ := bindO h
   refine rc 5 ⟨[(10, zB v10), (9, zI a1), (8, zB false), (7, zB (!v7)), (6, zB v7), (5, zI a0), (4, zI 0), (0, zI a0), (1, zI a1)], []⟩ (impl_isNode_spec a1 v10 hv11) ?_
   refine ro9 6 2 2 ⟨[(12, zB (!v10)), (11, zB (!v10)), (10, zB v10), (9, zI a1), (8, zB false), (7, zB (!v7)), (6, zB v7), (5, zI a0), (4, zI 0), (0, zI a0), (1, zI a1)], []⟩ ?_
   rcases dich (!v10) with hb12 | hb12
   · replace h := cond_t hb12 h
     refine ct hb12 ?_
     refine wkr [0, 1] [] ⟨[(0, zI a0), (1, zI a1)], []⟩ ?_
     refine sqr cv hn ?_
     refine ro9 0 1 1 ⟨[(4, zI 0), (0, zI a0), (1, zI a1)], []⟩ ?_
     refine runs_ret ?_
     exact fin _ _ h (by kernel_rfl)
   · replace h := cond_f hb12 h
     refine cf hb12 ?_
     refine runs_skip ?_
     refine wkr [0, 1] [] ⟨[(0, zI a0), (1, zI a1)], []⟩ ?_
     refine sqr cv hn ?_
     refine ro9 0 6 6 ⟨[(4, zI (w64 ((w64 ((w64 (a0 * 4)) + a1)) + 1))), (17, zI (w64 ((w64 ((w64 (a0 * 4)) + a1)) + 1))), (16, zI (w64 ((w64 (a0 * 4)) + a1))), (15, zI a1), (14, zI (w64 (a0 * 4))), (13, zI a0), (0, zI a0), (1, zI a1)], []⟩ ?_
     refine runs_ret ?_
     exact fin _ _ h (by kernel_rfl)

set_option maxRecDepth 100000 in
set_option maxHeartbeats 2000000 in
theorem impl_IsMost_spec (a0 : Int) (a1 : Int) (v0 : Bool) (h : impl_IsMost a0 a1 = some v0) : Ax.Spec Try.prog 18 none [zI a0, zI a1] (zB v0 : X) (.junk : X) := by
 refine walk0 (fn := Try.f18) (fun q0 : Bool => (zB q0 : X)) (fun q0 : Bool => (.junk : X)) v0 ⟨[(0, zI a0), (1, zI a1)], []⟩ Try.func18 rfl (by decide +kernel) fun Γ hn fin => ?_
 rw [impl_IsMost] at h
 refine sqr cv hn ?_
 refine ro9 0 1 1 ⟨[(4, zB false), (0, zI a0), (1, zI a1)], []⟩ ?_
 refine sqr cv hn ?_
 refine ro9 0 5 5 ⟨[(4, zB (decide (a0 > (Int.fdiv a1 (2 ^ 1))))), (8, zB (decide (a0 > (Int.fdiv a1 (2 ^ 1))))), (7, zI (Int.fdiv a1 (2 ^ 1))), (6, zI a1), (5, zI a0), (4, zB false), (0, zI a0), (1, zI a1)], []⟩ ?_
 refine runs_ret ?_
 exact fin _ _ h (by kernel_rfl)

set_option maxRecDepth 100000 in
set_option maxHeartbeats 2000000 in
theorem laws_FnBallot_spec (a0 : (List Int)) (v0 : Bool) (h : laws_FnBallot a0 = some v0) : Ax.Spec Try.prog 3 none [.sl 0 (List.map encU8 a0)] (zB v0 : X) (.junk : X) := by
 refine walk0 (fn := Try.f3) (fun q0 : Bool => (zB q0 : X)) (fun q0 : Bool => (.junk : X)) v0 ⟨[(0, .sl 0 (List.map encU8 a0))], []⟩ Try.func3 rfl (by decide +kernel) fun Γ hn fin => ?_
 rw [laws_FnBallot] at h
 refine sqr cv hn ?_
 refine ro9 0 1 1 ⟨[(2, zB false), (0, .sl 0 (List.map encU8 a0))], []⟩ ?_
 refine runs_seq ?_
 refine sqr cv hn ?_
 refine ro9 0 3 3 ⟨[(9, zB (decide ((a0.length : Int) > 1048576))), (8, zI (a0.length : Int)), (7, .sl 0 (List.map encU8 a0)), (2, zB false), (0, .sl 0 (List.map encU8 a0))], []⟩ ?_ (he := by rw [show (a0.length : Int) = ((List.map encU8 a0).length : Int) from by rw [List.length_map]]; kernel_rfl)
 rcases dich (decide ((a0.length : Int) > 1048576)) with hb2 | hb2
 · replace h := cond_t hb2 h
   refine ct hb2 ?_
   refine sqr cv hn ?_
   refine ro9 0 1 1 ⟨[(2, zB true), (9, zB (decide ((a0.length : Int) > 1048576))), (8, zI (a0.length : Int)), (7, .sl 0 (List.map encU8 a0)), (2, zB false), (0, .sl 0 (List.map encU8 a0))], []⟩ ?_
   refine runs_ret ?_
   exact fin _ _ h (by kernel_rfl)
 · replace h := cond_f hb2 h
   refine cf hb2 ?_
   refine runs_skip ?_
   refine sqr cv hn ?_
   refine ro 0 1 1 ⟨[(10, .sl 0 (List.map encU8 a0)), (9, zB (decide ((a0.length : Int) > 1048576))), (8, zI (a0.length : Int)), (7, .sl 0 (List.map encU8 a0)), (2, zB false), (0, .sl 0 (List.map encU8 a0))], []⟩ ?_
   obtain ⟨v5, hv6, h⟩ := bindO h
   refine rc 1 ⟨[(11, zI v5), (10, .sl 0 (List.map encU8 a0)), (9, zB (decide ((a0.length : Int) > 1048576))), (8, zI (a0.length : Int)), (7, .sl 0 (List.map encU8 a0)), (2, zB false), (0, .sl 0 (List.map encU8 a0))], []⟩ (spec_MakeNum_spec a0 1000 v5 hv6) ?_
   refine ro9 2 1 1 ⟨[(3, zI v5), (11, zI v5), (10, .sl 0 (List.map encU8 a0)), (9, zB (decide ((a0.length : Int) > 1048576))), (8, zI (a0.length : Int)), (7, .sl 0 (List.map encU8 a0)), (2, zB false), (0, .sl 0 (List.map encU8 a0))], []⟩ ?_
   let T3 : List (Nat × X) := [(3, zI v5), (0, .sl 0 (List.map encU8 a0))]
   refine wkr [3, 0] [] ⟨T3, []⟩ ?_
   refine sqr cv hn ?_
   refine ro 0 1 1 ⟨(12, .sl 0 (List.map encU8 a0)) :: T3, []⟩ ?_
   obtain ⟨v9, hv10, h⟩ := bindO h
   refine rc 1 ⟨(13, zI v9) :: (12, .sl 0 (List.map encU8 a0)) :: T3, []⟩ (spec_MakeNum_spec a0 4 v9 hv10) ?_
   refine ro9 2 1 1 ⟨(4, zI v9) :: (13, zI v9) :: (12, .sl 0 (List.map encU8 a0)) :: T3, []⟩ ?_
   refine sqr cv hn ?_
   refine ro 0 2 2 ⟨(15, zI v9) :: (14, zI v5) :: (4, zI v9) :: (13, zI v9) :: (12, .sl 0 (List.map encU8 a0)) :: T3, []⟩ ?_
   obtain ⟨v13, hv14, h⟩ := bindO h
   refine rc 2 ⟨(16, zI v13) :: (15, zI v9) :: (14, zI v5) :: (4, zI v9) :: (13, zI v9) :: (12, .sl 0 (List.map encU8 a0)) :: T3, []⟩ (impl_BallotAbove_spec v5 v9 v13 hv14) ?_
   refine ro9 3 1 1 ⟨(5, zI v13) :: (16, zI v13) :: (15, zI v9) :: (14, zI v5) :: (4, zI v9) :: (13, zI v9) :: (12, .sl 0 (List.map encU8 a0)) :: T3, []⟩ ?_
   let T5 : List (Nat × X) := [(5, zI v13), (4, zI v9), (3, zI v5)]
   refine wkr [5, 4, 3] [] ⟨T5, []⟩ ?_
   refine sqr cv hn ?_
   refine ro 0 4 4 ⟨(20, zI v9) :: (19, zI (w64 (Int.tdiv (w64 (v13 - 1)) 4))) :: (18, zI (w64 (v13 - 1))) :: (17, zI v13) :: T5, []⟩ ?_
   obtain ⟨v17, hv18, h⟩ := bindO h
   refine rc 4 ⟨(21, zI v17) :: (20, zI v9) :: (19, zI (w64 (Int.tdiv (w64 (v13 - 1)) 4))) :: (18, zI (w64 (v13 - 1))) :: (17, zI v13) :: T5, []⟩ (impl_BallotOf_spec (w64 (Int.tdiv (w64 (v13 - 1)) 4)) v9 v17 hv18) ?_
   refine ro9 5 1 1 ⟨(6, zI v17) :: (21, zI v17) :: (20, zI v9) :: (19, zI (w64 (Int.tdiv (w64 (v13 - 1)) 4))) :: (18, zI (w64 (v13 - 1))) :: (17, zI v13) :: T5, []⟩ ?_
   let T6 : List (Nat × X) := [(6, zI v17), (5, zI v13), (3, zI v5)]
   refine wkr [6, 5, 3] [] ⟨T6, []⟩ ?_
   refine sqr cv hn ?_
   refine ro 0 4 4 ⟨(25, zB (decide (v13 > v5))) :: (24, zB (decide (v13 > v5))) :: (23, zI v5) :: (22, zI v13) :: T6, []⟩ ?_
   rcases dich (decide (v13 > v5)) with hb19 | hb19
   · replace h := cond_t hb19 h
     refine rl 25 true hb19 ?_
     refine ro 4 6 6 ⟨(31, zB (decide ((w64 (v13 - v5)) ≤ 4))) :: (30, zB (decide ((w64 (v13 - v5)) ≤ 4))) :: (29, zB (decide ((w64 (v13 - v5)) ≤ 4))) :: (28, zI (w64 (v13 - v5))) :: (27, zI v5) :: (26, zI v13) :: (25, zB true) :: (24, zB (decide (v13 > v5))) :: (23, zI v5) :: (22, zI v13) :: T6, []⟩ ?_
     rcases dich (decide ((w64 (v13 - v5)) ≤ 4)) with hb20 | hb20
     · replace h := cond_t hb20 h
       refine rl 31 true hb20 ?_
       refine ro 10 5 5 ⟨(36, zB (v17 == v13)) :: (35, zB (v17 == v13)) :: (34, zB (v17 == v13)) :: (33, zI v13) :: (32, zI v17) :: (31, zB true) :: (30, zB (decide ((w64 (v13 - v5)) ≤ 4))) :: (29, zB (decide ((w64 (v13 - v5)) ≤ 4))) :: (28, zI (w64 (v13 - v5))) :: (27, zI v5) :: (26, zI v13) :: (25, zB true) :: (24, zB (decide (v13 > v5))) :: (23, zI v5) :: (22, zI v13) :: T6, []⟩ ?_
       rcases dich (v17 == v13) with hb21 | hb21
       · replace h := cond_t hb21 h
         refine rl 36 true hb21 ?_
         obtain ⟨v22, hv23, h⟩ := bindO h
         refine rc 15 ⟨(37, zB v22) :: (36, zB true) :: (35, zB (v17 == v13)) :: (34, zB (v17 == v13)) :: (33, zI v13) :: (32, zI v17) :: (31, zB true) :: (30, zB (decide ((w64 (v13 - v5)) ≤ 4))) :: (29, zB (decide ((w64 (v13 - v5)) ≤ 4))) :: (28, zI (w64 (v13 - v5))) :: (27, zI v5) :: (26, zI v13) :: (25, zB true) :: (24, zB (decide (v13 > v5))) :: (23, zI v5) :: (22, zI v13) :: T6, []⟩ (impl_IsMost_spec 3 5 v22 hv23) ?_
         refine ro 16 2 2 ⟨(39, zB v22) :: (38, zB v22) :: (37, zB v22) :: (36, zB true) :: (35, zB (v17 == v13)) :: (34, zB (v17 == v13)) :: (33, zI v13) :: (32, zI v17) :: (31, zB true) :: (30, zB (decide ((w64 (v13 - v5)) ≤ 4))) :: (29, zB (decide ((w64 (v13 - v5)) ≤ 4))) :: (28, zI (w64 (v13 - v5))) :: (27, zI v5) :: (26, zI v13) :: (25, zB true) :: (24, zB (decide (v13 > v5))) :: (23, zI v5) :: (22, zI v13) :: T6, []⟩ ?_
         rcases dich v22 with hb24 | hb24
         · replace h := cond_t hb24 h
           refine rl 39 true hb24 ?_
           obtain ⟨v25, hv26, h⟩ := bindO h
           refine rc 18 ⟨(40, zB v25) :: (39, zB true) :: (38, zB v22) :: (37, zB v22) :: (36, zB true) :: (35, zB (v17 == v13)) :: (34, zB (v17 == v13)) :: (33, zI v13) :: (32, zI v17) :: (31, zB true) :: (30, zB (decide ((w64 (v13 - v5)) ≤ 4))) :: (29, zB (decide ((w64 (v13 - v5)) ≤ 4))) :: (28, zI (w64 (v13 - v5))) :: (27, zI v5) :: (26, zI v13) :: (25, zB true) :: (24, zB (decide (v13 > v5))) :: (23, zI v5) :: (22, zI v13) :: T6, []⟩ (impl_IsMost_spec 2 4 v25 hv26) ?_
           refine ro 19 3 3 ⟨(43, zB (!v25)) :: (42, zB (!v25)) :: (41, zB (!v25)) :: (40, zB v25) :: (39, zB true) :: (38, zB v22) :: (37, zB v22) :: (36, zB true) :: (35, zB (v17 == v13)) :: (34, zB (v17 == v13)) :: (33, zI v13) :: (32, zI v17) :: (31, zB true) :: (30, zB (decide ((w64 (v13 - v5)) ≤ 4))) :: (29, zB (decide ((w64 (v13 - v5)) ≤ 4))) :: (28, zI (w64 (v13 - v5))) :: (27, zI v5) :: (26, zI v13) :: (25, zB true) :: (24, zB (decide (v13 > v5))) :: (23, zI v5) :: (22, zI v13) :: T6, []⟩ ?_
           rcases dich (!v25) with hb27 | hb27
           · replace h := cond_t hb27 h
             refine rl 43 true hb27 ?_
             obtain ⟨v28, hv29, h⟩ := bindO h
             refine rc 22 ⟨(44, zB v28) :: (43, zB true) :: (42, zB (!v25)) :: (41, zB (!v25)) :: (40, zB v25) :: (39, zB true) :: (38, zB v22) :: (37, zB v22) :: (36, zB true) :: (35, zB (v17 == v13)) :: (34, zB (v17 == v13)) :: (33, zI v13) :: (32, zI v17) :: (31, zB true) :: (30, zB (decide ((w64 (v13 - v5)) ≤ 4))) :: (29, zB (decide ((w64 (v13 - v5)) ≤ 4))) :: (28, zI (w64 (v13 - v5))) :: (27, zI v5) :: (26, zI v13) :: (25, zB true) :: (24, zB (decide (v13 > v5))) :: (23, zI v5) :: (22, zI v13) :: T6, []⟩ (impl_IsMost_spec 1 1 v28 hv29) ?_
             refine ro9 23 2 2 ⟨(2, zB v28) :: (45, zB v28) :: (44, zB v28) :: (43, zB true) :: (42, zB (!v25)) :: (41, zB (!v25)) :: (40, zB v25) :: (39, zB true) :: (38, zB v22) :: (37, zB v22) :: (36, zB true) :: (35, zB (v17 == v13)) :: (34, zB (v17 == v13)) :: (33, zI v13) :: (32, zI v17) :: (31, zB true) :: (30, zB (decide ((w64 (v13 - v5)) ≤ 4))) :: (29, zB (decide ((w64 (v13 - v5)) ≤ 4))) :: (28, zI (w64 (v13 - v5))) :: (27, zI v5) :: (26, zI v13) :: (25, zB true) :: (24, zB (decide (v13 > v5))) :: (23, zI v5) :: (22, zI v13) :: T6, []⟩ ?_
             refine runs_ret ?_
             exact fin _ _ h (by kernel_rfl)
           · replace h := cond_f hb27 h
             refine rl 43 false hb27 ?_
             refine ro9 22 3 2 ⟨(2, zB false) :: (45, zB false) :: (44, .tup []) :: (43, zB false) :: (42, zB (!v25)) :: (41, zB (!v25)) :: (40, zB v25) :: (39, zB true) :: (38, zB v22) :: (37, zB v22) :: (36, zB true) :: (35, zB (v17 == v13)) :: (34, zB (v17 == v13)) :: (33, zI v13) :: (32, zI v17) :: (31, zB true) :: (30, zB (decide ((w64 (v13 - v5)) ≤ 4))) :: (29, zB (decide ((w64 (v13 - v5)) ≤ 4))) :: (28, zI (w64 (v13 - v5))) :: (27, zI v5) :: (26, zI v13) :: (25, zB true) :: (24, zB (decide (v13 > v5))) :: (23, zI v5) :: (22, zI v13) :: T6, []⟩ ?_
             refine runs_ret ?_
             exact fin _ _ h (by kernel_rfl)
         · replace h := cond_f hb24 h
           refine rl 39 false hb24 ?_
           refine ro9 18 7 4 ⟨(2, zB false) :: (45, zB false) :: (44, .tup []) :: (43, zB false) :: (42, zB false) :: (41, .tup []) :: (40, .tup []) :: (39, zB false) :: (38, zB v22) :: (37, zB v22) :: (36, zB true) :: (35, zB (v17 == v13)) :: (34, zB (v17 == v13)) :: (33, zI v13) :: (32, zI v17) :: (31, zB true) :: (30, zB (decide ((w64 (v13 - v5)) ≤ 4))) :: (29, zB (decide ((w64 (v13 - v5)) ≤ 4))) :: (28, zI (w64 (v13 - v5))) :: (27, zI v5) :: (26, zI v13) :: (25, zB true) :: (24, zB (decide (v13 > v5))) :: (23, zI v5) :: (22, zI v13) :: T6, []⟩ ?_
           refine runs_ret ?_
           exact fin _ _ h (by kernel_rfl)
       · replace h := cond_f hb21 h
         refine rl 36 false hb21 ?_
         refine ro9 15 10 6 ⟨(2, zB false) :: (45, zB false) :: (44, .tup []) :: (43, zB false) :: (42, zB false) :: (41, .tup []) :: (40, .tup []) :: (39, zB false) :: (38, zB false) :: (37, .tup []) :: (36, zB false) :: (35, zB (v17 == v13)) :: (34, zB (v17 == v13)) :: (33, zI v13) :: (32, zI v17) :: (31, zB true) :: (30, zB (decide ((w64 (v13 - v5)) ≤ 4))) :: (29, zB (decide ((w64 (v13 - v5)) ≤ 4))) :: (28, zI (w64 (v13 - v5))) :: (27, zI v5) :: (26, zI v13) :: (25, zB true) :: (24, zB (decide (v13 > v5))) :: (23, zI v5) :: (22, zI v13) :: T6, []⟩ ?_
         refine runs_ret ?_
         exact fin _ _ h (by kernel_rfl)
     · replace h := cond_f hb20 h
       refine rl 31 false hb20 ?_
       refine ro9 10 15 8 ⟨(2, zB false) :: (45, zB false) :: (44, .tup []) :: (43, zB false) :: (42, zB false) :: (41, .tup []) :: (40, .tup []) :: (39, zB false) :: (38, zB false) :: (37, .tup []) :: (36, zB false) :: (35, zB false) :: (34, .tup []) :: (33, .tup []) :: (32, .tup []) :: (31, zB false) :: (30, zB (decide ((w64 (v13 - v5)) ≤ 4))) :: (29, zB (decide ((w64 (v13 - v5)) ≤ 4))) :: (28, zI (w64 (v13 - v5))) :: (27, zI v5) :: (26, zI v13) :: (25, zB true) :: (24, zB (decide (v13 > v5))) :: (23, zI v5) :: (22, zI v13) :: T6, []⟩ ?_
       refine runs_ret ?_
       exact fin _ _ h (by kernel_rfl)
   · replace h := cond_f hb19 h
     refine rl 25 false hb19 ?_
     refine ro9 4 21 10 ⟨(2, zB false) :: (45, zB false) :: (44, .tup []) :: (43, zB false) :: (42, zB false) :: (41, .tup []) :: (40, .tup []) :: (39, zB false) :: (38, zB false) :: (37, .tup []) :: (36, zB false) :: (35, zB false) :: (34, .tup []) :: (33, .tup []) :: (32, .tup []) :: (31, zB false) :: (30, zB false) :: (29, .tup []) :: (28, .tup []) :: (27, .tup []) :: (26, .tup []) :: (25, zB false) :: (24, zB (decide (v13 > v5))) :: (23, zI v5) :: (22, zI v13) :: T6, []⟩ ?_
     refine runs_ret ?_
     exact fin _ _ h (by kernel_rfl)

end Go.Proofs.Yteolobihfindjaa
