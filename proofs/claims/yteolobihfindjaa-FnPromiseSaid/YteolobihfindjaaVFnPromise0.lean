/- The walks: each Go function answers what its plain function says. -/
import Derived.Test.YteolobihfindjaaUFnPromise
import Derived.Test.YteolobihfindjaaProg
set_option linter.unusedVariables false
namespace Go.Proofs.Yteolobihfindjaa
open Go Ax
abbrev cv : Nat → Option Nat := fun g => bif g == 77 then some 0 else bif g == 60 then some 0 else bif g == 34 then some 0 else bif g == 98 then some 0 else bif g == 63 then some 0 else none
theorem mixed : Try.prog.follows .mixedOrders = true := by decide +kernel

set_option maxRecDepth 100000 in
set_option maxHeartbeats 2000000 in
theorem spec_l01New_spec (a0 : (List Int)) (v0 : SCur) (h : spec_l01New a0 = some v0) : Ax.Spec Try.prog 62 none [.sl 0 (List.map encU8 a0)] (.box (encCur0 v0) : X) (.junk : X) := by
 refine walk0 (fn := Try.f62) (fun q0 : SCur => (.box (encCur0 q0) : X)) (fun q0 : SCur => (.junk : X)) v0 ⟨[(0, .sl 0 (List.map encU8 a0))], []⟩ Try.func62 rfl (by decide +kernel) fun Γ hn fin => ?_
 rw [spec_l01New] at h
 refine sqr cv hn ?_
 refine ro9 0 1 1 ⟨[(2, .sc (Go.Value.pointer none)), (0, .sl 0 (List.map encU8 a0))], []⟩ ?_
 refine sqr cv hn ?_
 refine ro9 0 4 4 ⟨[(3, zI (w64 (1626 + (a0.length : Int)))), (7, zI (w64 (1626 + (a0.length : Int)))), (6, zI (a0.length : Int)), (5, .sl 0 (List.map encU8 a0)), (2, .sc (Go.Value.pointer none)), (0, .sl 0 (List.map encU8 a0))], []⟩ ?_ (he := by rw [show (a0.length : Int) = ((List.map encU8 a0).length : Int) from by rw [List.length_map]]; kernel_rfl)
 refine runs_seqJ (σ := Int) (fun s => ⟨[(0, .sl 0 (List.map encU8 a0)), (3, zI s)], []⟩) (fun s => spec_l01New_j1 a0 s = some v0) ?_ ?_
 · rintro y24 h
   rw [spec_l01New_j1] at h
   let T3 : List (Nat × X) := [(0, .sl 0 (List.map encU8 a0)), (3, zI y24)]
   refine seq0 ⟨T3, []⟩ ?_
   refine sqr cv hn ?_
   refine ro9 0 5 5 ⟨(2, .ptr 31 1 0) :: (31, .ptr 31 1 0) :: (30, .agg [.sl 0 (List.map encU8 a0), zI 0, zI y24]) :: (29, zI y24) :: (28, .sl 0 (List.map encU8 a0)) :: T3, [(31, ⟨1, 1, true, some (.agg [.sl 0 (List.map encU8 a0), zI 0, zI y24])⟩)]⟩ ?_
   refine runs_ret ?_
   exact fin _ _ h (by kernel_rfl)
 · skip
   refine sqr cv hn ?_
   refine ro9 0 1 1 ⟨[(4, zI 0), (3, zI (w64 (1626 + (a0.length : Int)))), (7, zI (w64 (1626 + (a0.length : Int)))), (6, zI (a0.length : Int)), (5, .sl 0 (List.map encU8 a0)), (2, .sc (Go.Value.pointer none)), (0, .sl 0 (List.map encU8 a0))], []⟩ ?_
   refine runs_block ?_
   refine runs_loopM (σ := Nat × Int × Int) (fun s => ⟨[(4, zI s.2.1), (3, zI s.2.2), (0, .sl 0 (List.map encU8 a0))], []⟩) (fun s => spec_l01New_l2 a0 s.1 s.2.1 s.2.2 = some v0) (fun s => s.1) (fuel, 0, w64 (1626 + (a0.length : Int))) h (wre [4, 3, 0] []) ?_
   rintro ⟨n2, y31, y32⟩ h
   let T4 : List (Nat × X) := [(4, zI y31), (3, zI y32), (0, .sl 0 (List.map encU8 a0))]
   refine seq0 ⟨T4, []⟩ ?_
   cases n2 with
   | zero => rw [spec_l01New_l2] at h; cases h
   | succ n2 =>
     rw [spec_l01New_l2] at h
     refine runs_seq ?_
     refine sqr cv hn ?_
     refine ro 0 5 5 ⟨(12, zB (decide (y31 < (a0.length : Int)))) :: (11, zB (decide (y31 < (a0.length : Int)))) :: (10, zI (a0.length : Int)) :: (9, .sl 0 (List.map encU8 a0)) :: (8, zI y31) :: T4, []⟩ ?_ (he := by rw [show (a0.length : Int) = ((List.map encU8 a0).length : Int) from by rw [List.length_map]]; kernel_rfl)
     rcases dich (decide (y31 < (a0.length : Int))) with hb44 | hb44
     · replace h := cond_t hb44 h
       refine rl 12 true hb44 ?_
       refine ro9 5 3 3 ⟨(15, zB (decide (y31 < 4000))) :: (14, zB (decide (y31 < 4000))) :: (13, zI y31) :: (12, zB true) :: (11, zB (decide (y31 < (a0.length : Int)))) :: (10, zI (a0.length : Int)) :: (9, .sl 0 (List.map encU8 a0)) :: (8, zI y31) :: T4, []⟩ ?_
       rcases dich (decide (y31 < 4000)) with hb45 | hb45
       · replace h := cond_t hb45 h
         refine ct hb45 ?_
         refine runs_skip ?_
         refine runs_seq ?_
         refine runs_block ?_
         refine rg cv hn ?_
         refine ro 0 4 4 ⟨(21, zI y31) :: (20, .sl 0 (List.map encU8 a0)) :: (19, zI (w64 (y32 * 47))) :: (18, zI y32) :: (15, zB (decide (y31 < 4000))) :: (14, zB (decide (y31 < 4000))) :: (13, zI y31) :: (12, zB true) :: (11, zB (decide (y31 < (a0.length : Int)))) :: (10, zI (a0.length : Int)) :: (9, .sl 0 (List.map encU8 a0)) :: (8, zI y31) :: T4, []⟩ ?_
         obtain ⟨x46, hx47, h⟩ := bindO h
         refine rix 4 encU8 5 hx47 (ix_nn hx47) ⟨(22, .rp (.sc (.int .u8 x46)) 0) :: (21, zI y31) :: (20, .sl 0 (List.map encU8 a0)) :: (19, zI (w64 (y32 * 47))) :: (18, zI y32) :: (15, zB (decide (y31 < 4000))) :: (14, zB (decide (y31 < 4000))) :: (13, zI y31) :: (12, zB true) :: (11, zB (decide (y31 < (a0.length : Int)))) :: (10, zI (a0.length : Int)) :: (9, .sl 0 (List.map encU8 a0)) :: (8, zI y31) :: T4, []⟩ ?_
         refine ro9 5 6 6 ⟨(3, zI (bits .and .i64 (w64 ((w64 ((w64 (y32 * 47)) + (w64 x46))) + 7)) 1073741823)) :: (27, zI (bits .and .i64 (w64 ((w64 ((w64 (y32 * 47)) + (w64 x46))) + 7)) 1073741823)) :: (26, zI (w64 ((w64 ((w64 (y32 * 47)) + (w64 x46))) + 7))) :: (25, zI (w64 ((w64 (y32 * 47)) + (w64 x46)))) :: (24, zI (w64 x46)) :: (23, .sc (.int .u8 x46)) :: (22, .rp (.sc (.int .u8 x46)) 0) :: (21, zI y31) :: (20, .sl 0 (List.map encU8 a0)) :: (19, zI (w64 (y32 * 47))) :: (18, zI y32) :: (15, zB (decide (y31 < 4000))) :: (14, zB (decide (y31 < 4000))) :: (13, zI y31) :: (12, zB true) :: (11, zB (decide (y31 < (a0.length : Int)))) :: (10, zI (a0.length : Int)) :: (9, .sl 0 (List.map encU8 a0)) :: (8, zI y31) :: T4, []⟩ ?_
         refine rg cv hn ?_
         refine ro9 0 3 3 ⟨(4, zI (w64 (y31 + 1))) :: (17, zI (w64 (y31 + 1))) :: (16, zI y31) :: (3, zI (bits .and .i64 (w64 ((w64 ((w64 (y32 * 47)) + (w64 x46))) + 7)) 1073741823)) :: (27, zI (bits .and .i64 (w64 ((w64 ((w64 (y32 * 47)) + (w64 x46))) + 7)) 1073741823)) :: (26, zI (w64 ((w64 ((w64 (y32 * 47)) + (w64 x46))) + 7))) :: (25, zI (w64 ((w64 (y32 * 47)) + (w64 x46)))) :: (24, zI (w64 x46)) :: (23, .sc (.int .u8 x46)) :: (22, .rp (.sc (.int .u8 x46)) 0) :: (21, zI y31) :: (20, .sl 0 (List.map encU8 a0)) :: (19, zI (w64 (y32 * 47))) :: (18, zI y32) :: (15, zB (decide (y31 < 4000))) :: (14, zB (decide (y31 < 4000))) :: (13, zI y31) :: (12, zB true) :: (11, zB (decide (y31 < (a0.length : Int)))) :: (10, zI (a0.length : Int)) :: (9, .sl 0 (List.map encU8 a0)) :: (8, zI y31) :: T4, []⟩ ?_
         exact ⟨(n2, w64 (y31 + 1), bits .and .i64 (w64 ((w64 ((w64 (y32 * 47)) + (w64 x46))) + 7)) 1073741823), Nat.lt_succ_self _, h, wre [4, 3, 0] []⟩
       · replace h := cond_f hb45 h
         refine cf hb45 ?_
         refine runs_exit ?_
         repeat refine thenX_exit ?_
         refine block_here ?_
         exact ⟨(y32), h, wre [0, 3] []⟩
     · replace h := cond_f hb44 h
       refine rl 12 false hb44 ?_
       refine ro9 5 3 1 ⟨(15, zB false) :: (14, .tup []) :: (13, .tup []) :: (12, zB false) :: (11, zB (decide (y31 < (a0.length : Int)))) :: (10, zI (a0.length : Int)) :: (9, .sl 0 (List.map encU8 a0)) :: (8, zI y31) :: T4, []⟩ ?_
       refine cF ?_
       refine runs_exit ?_
       repeat refine thenX_exit ?_
       refine block_here ?_
       exact ⟨(y32), h, wre [0, 3] []⟩

set_option maxRecDepth 100000 in
set_option maxHeartbeats 2000000 in
theorem spec_l01Byte_spec (a0 : SCur) (v0 : (Int) × SCur) (h : spec_l01Byte a0 = some v0) : Ax.Spec Try.prog 98 (some 0) [.box (encCur0 a0)] (zI v0.1 : X) (.box (encCur0 v0.2) : X) := by
 let B1 : List (Nat × Bx) := [(9000, ⟨1, 1, true, some (encCur0 a0)⟩)]
 refine walk0 (fn := Try.f98) (fun q0 : (Int) × SCur => (zI q0.1 : X)) (fun q0 : (Int) × SCur => (.box (encCur0 q0.2) : X)) v0 ⟨[(0, .ptr 9000 1 0)], B1⟩ Try.func98 rfl (by decide +kernel) fun Γ hn fin => ?_
 rw [spec_l01Byte] at h
 refine sqr cv hn ?_
 refine ro9 0 1 1 ⟨[(2, zI 0), (0, .ptr 9000 1 0)], B1⟩ ?_
 refine sqr cv hn ?_
 refine ro9 0 10 10 ⟨[(12, .ptr 9000 1 2), (11, .ptr 9000 1 0), (10, zI (w64 ((w64 (a0.fH * 6364136223846793005)) + 1442695040888963407))), (9, zI (w64 (a0.fH * 6364136223846793005))), (8, zI a0.fH), (7, .ptr 9000 1 2), (6, .ptr 9000 1 0), (5, .ptr 9000 1 0), (4, .ptr 9000 1 0), (2, zI 0), (0, .ptr 9000 1 0)], (9000, ⟨1, 1, true, some (.agg [.sl 0 (List.map encU8 a0.fB), zI a0.fI, zI (w64 ((w64 (a0.fH * 6364136223846793005)) + 1442695040888963407))])⟩) :: B1⟩ ?_
 refine runs_seq ?_
 let B3 : List (Nat × Bx) := [(9000, ⟨0, 0, true, some (.agg [.sl 0 (List.map encU8 a0.fB), zI a0.fI, zI (w64 ((w64 (a0.fH * 6364136223846793005)) + 1442695040888963407))])⟩)]
 refine wkr [0] [(9000, 9000, false)] ⟨[(0, .ptr 9000 0 0)], B3⟩ ?_
 refine rgT cv mixed hn ?_
 refine roT9 0 13 13 ⟨[(3, zI (bits .and .i64 (bits .xor .i64 (Int.fdiv (w64 ((w64 (a0.fH * 6364136223846793005)) + 1442695040888963407)) (2 ^ 33)) (Int.fdiv (w64 ((w64 (a0.fH * 6364136223846793005)) + 1442695040888963407)) (2 ^ 45))) 255)), (24, zI (bits .and .i64 (bits .xor .i64 (Int.fdiv (w64 ((w64 (a0.fH * 6364136223846793005)) + 1442695040888963407)) (2 ^ 33)) (Int.fdiv (w64 ((w64 (a0.fH * 6364136223846793005)) + 1442695040888963407)) (2 ^ 45))) 255)), (23, zI (bits .xor .i64 (Int.fdiv (w64 ((w64 (a0.fH * 6364136223846793005)) + 1442695040888963407)) (2 ^ 33)) (Int.fdiv (w64 ((w64 (a0.fH * 6364136223846793005)) + 1442695040888963407)) (2 ^ 45)))), (22, zI (Int.fdiv (w64 ((w64 (a0.fH * 6364136223846793005)) + 1442695040888963407)) (2 ^ 45))), (21, zI (w64 ((w64 (a0.fH * 6364136223846793005)) + 1442695040888963407))), (20, .ptr 9000 0 2), (19, .ptr 9000 0 0), (18, .ptr 9000 0 0), (17, zI (Int.fdiv (w64 ((w64 (a0.fH * 6364136223846793005)) + 1442695040888963407)) (2 ^ 33))), (16, zI (w64 ((w64 (a0.fH * 6364136223846793005)) + 1442695040888963407))), (15, .ptr 9000 0 2), (14, .ptr 9000 0 0), (13, .ptr 9000 0 0), (0, .ptr 9000 0 0)], B3⟩ ?_
 refine runs_seq ?_
 refine runs_seq ?_
 let T5 : List (Nat × X) := [(3, zI (bits .and .i64 (bits .xor .i64 (Int.fdiv (w64 ((w64 (a0.fH * 6364136223846793005)) + 1442695040888963407)) (2 ^ 33)) (Int.fdiv (w64 ((w64 (a0.fH * 6364136223846793005)) + 1442695040888963407)) (2 ^ 45))) 255)), (0, .ptr 9000 0 0)]
 let B5 : List (Nat × Bx) := [(9000, ⟨0, 0, true, some (.agg [.sl 0 (List.map encU8 a0.fB), zI a0.fI, zI (w64 ((w64 (a0.fH * 6364136223846793005)) + 1442695040888963407))])⟩)]
 refine wkr [3, 0] [(9000, 9000, false)] ⟨T5, B5⟩ ?_
 refine rgT cv mixed hn ?_
 refine roT9 0 10 10 ⟨(34, zB (decide (a0.fI < (a0.fB.length : Int)))) :: (33, zI (a0.fB.length : Int)) :: (32, .sl 0 (List.map encU8 a0.fB)) :: (31, .ptr 9000 0 0) :: (30, .ptr 9000 0 0) :: (29, .ptr 9000 0 0) :: (28, zI a0.fI) :: (27, .ptr 9000 0 1) :: (26, .ptr 9000 0 0) :: (25, .ptr 9000 0 0) :: T5, B5⟩ ?_ (he := by rw [show (a0.fB.length : Int) = ((List.map encU8 a0.fB).length : Int) from by rw [List.length_map]]; kernel_rfl)
 rcases dich (decide (a0.fI < (a0.fB.length : Int))) with hb1 | hb1
 · replace h := cond_t hb1 h
   refine ct hb1 ?_
   refine runs_seq ?_
   let T7 : List (Nat × X) := [(3, zI (bits .and .i64 (bits .xor .i64 (Int.fdiv (w64 ((w64 (a0.fH * 6364136223846793005)) + 1442695040888963407)) (2 ^ 33)) (Int.fdiv (w64 ((w64 (a0.fH * 6364136223846793005)) + 1442695040888963407)) (2 ^ 45))) 255)), (0, .ptr 9000 0 0)]
   let B7 : List (Nat × Bx) := [(9000, ⟨0, 0, true, some (.agg [.sl 0 (List.map encU8 a0.fB), zI a0.fI, zI (w64 ((w64 (a0.fH * 6364136223846793005)) + 1442695040888963407))])⟩)]
   refine wkr [3, 0] [(9000, 9000, false)] ⟨T7, B7⟩ ?_
   refine rgT cv mixed hn ?_
   refine roT 0 9 9 ⟨(43, zI a0.fI) :: (42, .ptr 9000 0 1) :: (41, .ptr 9000 0 0) :: (40, .ptr 9000 0 0) :: (39, .sl 0 (List.map encU8 a0.fB)) :: (38, .ptr 9000 0 0) :: (37, .ptr 9000 0 0) :: (36, .ptr 9000 0 0) :: (35, zI (bits .and .i64 (bits .xor .i64 (Int.fdiv (w64 ((w64 (a0.fH * 6364136223846793005)) + 1442695040888963407)) (2 ^ 33)) (Int.fdiv (w64 ((w64 (a0.fH * 6364136223846793005)) + 1442695040888963407)) (2 ^ 45))) 255)) :: T7, B7⟩ ?_
   obtain ⟨x4, hx5, h⟩ := bindO h
   refine rixT 9 encU8 5 hx5 (ix_nn hx5) ⟨(44, .rp (.sc (.int .u8 x4)) 0) :: (43, zI a0.fI) :: (42, .ptr 9000 0 1) :: (41, .ptr 9000 0 0) :: (40, .ptr 9000 0 0) :: (39, .sl 0 (List.map encU8 a0.fB)) :: (38, .ptr 9000 0 0) :: (37, .ptr 9000 0 0) :: (36, .ptr 9000 0 0) :: (35, zI (bits .and .i64 (bits .xor .i64 (Int.fdiv (w64 ((w64 (a0.fH * 6364136223846793005)) + 1442695040888963407)) (2 ^ 33)) (Int.fdiv (w64 ((w64 (a0.fH * 6364136223846793005)) + 1442695040888963407)) (2 ^ 45))) 255)) :: T7, B7⟩ ?_
   refine roT9 10 5 5 ⟨(3, zI (bits .and .i64 (w64 ((bits .and .i64 (bits .xor .i64 (Int.fdiv (w64 ((w64 (a0.fH * 6364136223846793005)) + 1442695040888963407)) (2 ^ 33)) (Int.fdiv (w64 ((w64 (a0.fH * 6364136223846793005)) + 1442695040888963407)) (2 ^ 45))) 255) + (w64 x4))) 255)) :: (48, zI (bits .and .i64 (w64 ((bits .and .i64 (bits .xor .i64 (Int.fdiv (w64 ((w64 (a0.fH * 6364136223846793005)) + 1442695040888963407)) (2 ^ 33)) (Int.fdiv (w64 ((w64 (a0.fH * 6364136223846793005)) + 1442695040888963407)) (2 ^ 45))) 255) + (w64 x4))) 255)) :: (47, zI (w64 ((bits .and .i64 (bits .xor .i64 (Int.fdiv (w64 ((w64 (a0.fH * 6364136223846793005)) + 1442695040888963407)) (2 ^ 33)) (Int.fdiv (w64 ((w64 (a0.fH * 6364136223846793005)) + 1442695040888963407)) (2 ^ 45))) 255) + (w64 x4)))) :: (46, zI (w64 x4)) :: (45, .sc (.int .u8 x4)) :: (44, .rp (.sc (.int .u8 x4)) 0) :: (43, zI a0.fI) :: (42, .ptr 9000 0 1) :: (41, .ptr 9000 0 0) :: (40, .ptr 9000 0 0) :: (39, .sl 0 (List.map encU8 a0.fB)) :: (38, .ptr 9000 0 0) :: (37, .ptr 9000 0 0) :: (36, .ptr 9000 0 0) :: (35, zI (bits .and .i64 (bits .xor .i64 (Int.fdiv (w64 ((w64 (a0.fH * 6364136223846793005)) + 1442695040888963407)) (2 ^ 33)) (Int.fdiv (w64 ((w64 (a0.fH * 6364136223846793005)) + 1442695040888963407)) (2 ^ 45))) 255)) :: T7, B7⟩ ?_
   let T8 : List (Nat × X) := [(3, zI (bits .and .i64 (w64 ((bits .and .i64 (bits .xor .i64 (Int.fdiv (w64 ((w64 (a0.fH * 6364136223846793005)) + 1442695040888963407)) (2 ^ 33)) (Int.fdiv (w64 ((w64 (a0.fH * 6364136223846793005)) + 1442695040888963407)) (2 ^ 45))) 255) + (w64 x4))) 255)), (0, .ptr 9000 0 0)]
   let B8 : List (Nat × Bx) := [(9000, ⟨0, 0, true, some (.agg [.sl 0 (List.map encU8 a0.fB), zI a0.fI, zI (w64 ((w64 (a0.fH * 6364136223846793005)) + 1442695040888963407))])⟩)]
   refine wkr [3, 0] [(9000, 9000, false)] ⟨T8, B8⟩ ?_
   refine rg cv hn ?_
   refine ro9 0 9 9 ⟨(56, .ptr 9000 0 1) :: (55, .ptr 9000 0 0) :: (54, zI (w64 (a0.fI + 1))) :: (53, zI a0.fI) :: (52, .ptr 9000 0 1) :: (51, .ptr 9000 0 0) :: (50, .ptr 9000 0 0) :: (49, .ptr 9000 0 0) :: T8, (9000, ⟨0, 0, true, some (.agg [.sl 0 (List.map encU8 a0.fB), zI (w64 (a0.fI + 1)), zI (w64 ((w64 (a0.fH * 6364136223846793005)) + 1442695040888963407))])⟩) :: B8⟩ ?_
   let T9 : List (Nat × X) := [(3, zI (bits .and .i64 (w64 ((bits .and .i64 (bits .xor .i64 (Int.fdiv (w64 ((w64 (a0.fH * 6364136223846793005)) + 1442695040888963407)) (2 ^ 33)) (Int.fdiv (w64 ((w64 (a0.fH * 6364136223846793005)) + 1442695040888963407)) (2 ^ 45))) 255) + (w64 x4))) 255))]
   let B9 : List (Nat × Bx) := [(9000, ⟨0, 0, true, some (.agg [.sl 0 (List.map encU8 a0.fB), zI (w64 (a0.fI + 1)), zI (w64 ((w64 (a0.fH * 6364136223846793005)) + 1442695040888963407))])⟩)]
   refine wkr [3] [(9000, 9000, false)] ⟨T9, B9⟩ ?_
   refine sqr cv hn ?_
   refine ro9 0 2 2 ⟨(2, zI (bits .and .i64 (w64 ((bits .and .i64 (bits .xor .i64 (Int.fdiv (w64 ((w64 (a0.fH * 6364136223846793005)) + 1442695040888963407)) (2 ^ 33)) (Int.fdiv (w64 ((w64 (a0.fH * 6364136223846793005)) + 1442695040888963407)) (2 ^ 45))) 255) + (w64 x4))) 255)) :: (57, zI (bits .and .i64 (w64 ((bits .and .i64 (bits .xor .i64 (Int.fdiv (w64 ((w64 (a0.fH * 6364136223846793005)) + 1442695040888963407)) (2 ^ 33)) (Int.fdiv (w64 ((w64 (a0.fH * 6364136223846793005)) + 1442695040888963407)) (2 ^ 45))) 255) + (w64 x4))) 255)) :: T9, B9⟩ ?_
   refine runs_ret ?_
   exact fin _ _ h (by kernel_rfl)
 · replace h := cond_f hb1 h
   refine cf hb1 ?_
   refine runs_skip ?_
   let T10 : List (Nat × X) := [(3, zI (bits .and .i64 (bits .xor .i64 (Int.fdiv (w64 ((w64 (a0.fH * 6364136223846793005)) + 1442695040888963407)) (2 ^ 33)) (Int.fdiv (w64 ((w64 (a0.fH * 6364136223846793005)) + 1442695040888963407)) (2 ^ 45))) 255))]
   let B10 : List (Nat × Bx) := [(9000, ⟨0, 0, true, some (.agg [.sl 0 (List.map encU8 a0.fB), zI a0.fI, zI (w64 ((w64 (a0.fH * 6364136223846793005)) + 1442695040888963407))])⟩)]
   refine wkr [3] [(9000, 9000, false)] ⟨T10, B10⟩ ?_
   refine sqr cv hn ?_
   refine ro9 0 2 2 ⟨(2, zI (bits .and .i64 (bits .xor .i64 (Int.fdiv (w64 ((w64 (a0.fH * 6364136223846793005)) + 1442695040888963407)) (2 ^ 33)) (Int.fdiv (w64 ((w64 (a0.fH * 6364136223846793005)) + 1442695040888963407)) (2 ^ 45))) 255)) :: (57, zI (bits .and .i64 (bits .xor .i64 (Int.fdiv (w64 ((w64 (a0.fH * 6364136223846793005)) + 1442695040888963407)) (2 ^ 33)) (Int.fdiv (w64 ((w64 (a0.fH * 6364136223846793005)) + 1442695040888963407)) (2 ^ 45))) 255)) :: T10, B10⟩ ?_
   refine runs_ret ?_
   exact fin _ _ h (by kernel_rfl)

set_option maxRecDepth 100000 in
set_option maxHeartbeats 2000000 in
theorem spec_l01Below_spec (a0 : SCur) (a1 : Int) (v0 : (Int) × SCur) (h : spec_l01Below a0 a1 = some v0) : Ax.Spec Try.prog 63 (some 0) [.box (encCur0 a0), zI a1] (zI v0.1 : X) (.box (encCur0 v0.2) : X) := by
 let B1 : List (Nat × Bx) := [(9000, ⟨1, 1, true, some (encCur0 a0)⟩)]
 refine walk0 (fn := Try.f63) (fun q0 : (Int) × SCur => (zI q0.1 : X)) (fun q0 : (Int) × SCur => (.box (encCur0 q0.2) : X)) v0 ⟨[(0, .ptr 9000 1 0), (1, zI a1)], B1⟩ Try.func63 rfl (by decide +kernel) fun Γ hn fin => ?_
 rw [spec_l01Below] at h
 refine sqr cv hn ?_
 refine ro9 0 1 1 ⟨[(4, zI 0), (0, .ptr 9000 1 0), (1, zI a1)], B1⟩ ?_
 refine runs_seq ?_
 refine sqr cv hn ?_
 refine ro9 0 2 2 ⟨[(10, zB (decide (a1 ≤ 0))), (9, zI a1), (4, zI 0), (0, .ptr 9000 1 0), (1, zI a1)], B1⟩ ?_
 rcases dich (decide (a1 ≤ 0)) with hb2 | hb2
 · replace h := cond_t hb2 h
   refine ct hb2 ?_
   refine sqr cv hn ?_
   refine ro9 0 1 1 ⟨[(4, zI 0), (10, zB (decide (a1 ≤ 0))), (9, zI a1), (4, zI 0), (0, .ptr 9000 1 0), (1, zI a1)], B1⟩ ?_
   refine runs_ret ?_
   exact fin _ _ h (by kernel_rfl)
 · replace h := cond_f hb2 h
   refine cf hb2 ?_
   refine runs_skip ?_
   refine runs_seq ?_
   refine sqr cv hn ?_
   refine ro9 0 2 2 ⟨[(12, zB (decide (a1 ≤ 256))), (11, zI a1), (10, zB (decide (a1 ≤ 0))), (9, zI a1), (4, zI 0), (0, .ptr 9000 1 0), (1, zI a1)], B1⟩ ?_
   rcases dich (decide (a1 ≤ 256)) with hb8 | hb8
   · replace h := cond_t hb8 h
     refine ct hb8 ?_
     let B3 : List (Nat × Bx) := [(9000, ⟨0, 0, true, some (encCur0 a0)⟩)]
     refine wkr [0, 1] [(9000, 9000, false)] ⟨[(0, .ptr 9000 0 0), (1, zI a1)], B3⟩ ?_
     refine sqr cv hn ?_
     refine ro 0 1 1 ⟨[(13, .ptr 9000 0 0), (0, .ptr 9000 0 0), (1, zI a1)], B3⟩ ?_
     obtain ⟨v9, hv10, h⟩ := bindO h
     refine rc 1 ⟨[(14, zI v9.1), (13, .ptr 9000 0 0), (0, .ptr 9000 0 0), (1, zI a1)], (9000, ⟨0, 1, true, some (encCur0 v9.2)⟩) :: B3⟩ (spec_l01Byte_spec a0 v9 hv10) ?_
     refine ro 2 1 1 ⟨[(15, zI a1), (14, zI v9.1), (13, .ptr 9000 0 0), (0, .ptr 9000 0 0), (1, zI a1)], (9000, ⟨0, 1, true, some (encCur0 v9.2)⟩) :: B3⟩ ?_
     obtain ⟨v11, hv12, h⟩ := bindO h
     refine ra 3 (zI v11 : X) (.junk : X) ⟨[(16, zI v11), (15, zI a1), (14, zI v9.1), (13, .ptr 9000 0 0), (0, .ptr 9000 0 0), (1, zI a1)], (9000, ⟨0, 1, true, some (encCur0 v9.2)⟩) :: B3⟩ [binV .rem (.int .i64 v9.1) (.int .i64 a1) = some (.int .i64 v11)] ⟨remO_bin (by decide) hv12, trivial⟩ ?_
     refine ro9 4 1 1 ⟨[(4, zI v11), (16, zI v11), (15, zI a1), (14, zI v9.1), (13, .ptr 9000 0 0), (0, .ptr 9000 0 0), (1, zI a1)], (9000, ⟨0, 1, true, some (encCur0 v9.2)⟩) :: B3⟩ ?_
     refine runs_ret ?_
     exact fin _ _ h (by kernel_rfl)
   · replace h := cond_f hb8 h
     refine cf hb8 ?_
     refine runs_skip ?_
     let B5 : List (Nat × Bx) := [(9000, ⟨0, 0, true, some (encCur0 a0)⟩)]
     refine wkr [0, 1] [(9000, 9000, false)] ⟨[(0, .ptr 9000 0 0), (1, zI a1)], B5⟩ ?_
     refine sqr cv hn ?_
     refine ro 0 1 1 ⟨[(17, .ptr 9000 0 0), (0, .ptr 9000 0 0), (1, zI a1)], B5⟩ ?_
     obtain ⟨v15, hv16, h⟩ := bindO h
     refine rc 1 ⟨[(18, zI v15.1), (17, .ptr 9000 0 0), (0, .ptr 9000 0 0), (1, zI a1)], (9000, ⟨0, 1, true, some (encCur0 v15.2)⟩) :: B5⟩ (spec_l01Byte_spec a0 v15 hv16) ?_
     refine ro9 2 1 1 ⟨[(5, zI v15.1), (18, zI v15.1), (17, .ptr 9000 0 0), (0, .ptr 9000 0 0), (1, zI a1)], (9000, ⟨0, 1, true, some (encCur0 v15.2)⟩) :: B5⟩ ?_
     refine sqr cv hn ?_
     refine ro 0 1 1 ⟨[(19, .ptr 9000 0 0), (5, zI v15.1), (18, zI v15.1), (17, .ptr 9000 0 0), (0, .ptr 9000 0 0), (1, zI a1)], (9000, ⟨0, 1, true, some (encCur0 v15.2)⟩) :: B5⟩ ?_
     obtain ⟨v19, hv20, h⟩ := bindO h
     refine rc 1 ⟨[(20, zI v19.1), (19, .ptr 9000 0 0), (5, zI v15.1), (18, zI v15.1), (17, .ptr 9000 0 0), (0, .ptr 9000 0 0), (1, zI a1)], (9000, ⟨0, 2, true, some (encCur0 v19.2)⟩) :: (9000, ⟨0, 1, true, some (encCur0 v15.2)⟩) :: B5⟩ (spec_l01Byte_spec v15.2 v19 hv20) ?_
     refine ro9 2 1 1 ⟨[(6, zI v19.1), (20, zI v19.1), (19, .ptr 9000 0 0), (5, zI v15.1), (18, zI v15.1), (17, .ptr 9000 0 0), (0, .ptr 9000 0 0), (1, zI a1)], (9000, ⟨0, 2, true, some (encCur0 v19.2)⟩) :: (9000, ⟨0, 1, true, some (encCur0 v15.2)⟩) :: B5⟩ ?_
     refine sqr cv hn ?_
     refine ro 0 1 1 ⟨[(21, .ptr 9000 0 0), (6, zI v19.1), (20, zI v19.1), (19, .ptr 9000 0 0), (5, zI v15.1), (18, zI v15.1), (17, .ptr 9000 0 0), (0, .ptr 9000 0 0), (1, zI a1)], (9000, ⟨0, 2, true, some (encCur0 v19.2)⟩) :: (9000, ⟨0, 1, true, some (encCur0 v15.2)⟩) :: B5⟩ ?_
     obtain ⟨v23, hv24, h⟩ := bindO h
     refine rc 1 ⟨[(22, zI v23.1), (21, .ptr 9000 0 0), (6, zI v19.1), (20, zI v19.1), (19, .ptr 9000 0 0), (5, zI v15.1), (18, zI v15.1), (17, .ptr 9000 0 0), (0, .ptr 9000 0 0), (1, zI a1)], (9000, ⟨0, 3, true, some (encCur0 v23.2)⟩) :: (9000, ⟨0, 2, true, some (encCur0 v19.2)⟩) :: (9000, ⟨0, 1, true, some (encCur0 v15.2)⟩) :: B5⟩ (spec_l01Byte_spec v19.2 v23 hv24) ?_
     refine ro9 2 1 1 ⟨[(7, zI v23.1), (22, zI v23.1), (21, .ptr 9000 0 0), (6, zI v19.1), (20, zI v19.1), (19, .ptr 9000 0 0), (5, zI v15.1), (18, zI v15.1), (17, .ptr 9000 0 0), (0, .ptr 9000 0 0), (1, zI a1)], (9000, ⟨0, 3, true, some (encCur0 v23.2)⟩) :: (9000, ⟨0, 2, true, some (encCur0 v19.2)⟩) :: (9000, ⟨0, 1, true, some (encCur0 v15.2)⟩) :: B5⟩ ?_
     let T7 : List (Nat × X) := [(7, zI v23.1), (6, zI v19.1), (5, zI v15.1), (0, .ptr 9000 0 0), (1, zI a1)]
     let B7 : List (Nat × Bx) := [(9000, ⟨0, 0, true, some (encCur0 v23.2)⟩)]
     refine wkr [7, 6, 5, 0, 1] [(9000, 9000, false)] ⟨T7, B7⟩ ?_
     refine sqr cv hn ?_
     refine ro 0 1 1 ⟨(23, .ptr 9000 0 0) :: T7, B7⟩ ?_
     obtain ⟨v27, hv28, h⟩ := bindO h
     refine rc 1 ⟨(24, zI v27.1) :: (23, .ptr 9000 0 0) :: T7, (9000, ⟨0, 1, true, some (encCur0 v27.2)⟩) :: B7⟩ (spec_l01Byte_spec v23.2 v27 hv28) ?_
     refine ro9 2 1 1 ⟨(8, zI v27.1) :: (24, zI v27.1) :: (23, .ptr 9000 0 0) :: T7, (9000, ⟨0, 1, true, some (encCur0 v27.2)⟩) :: B7⟩ ?_
     refine sqr cv hn ?_
     refine ro 0 11 11 ⟨(35, zI a1) :: (34, zI (w64 ((w64 ((w64 ((w64 (v15.1 * 16777216)) + (w64 (v19.1 * 65536)))) + (w64 (v23.1 * 256)))) + v27.1))) :: (33, zI v27.1) :: (32, zI (w64 ((w64 ((w64 (v15.1 * 16777216)) + (w64 (v19.1 * 65536)))) + (w64 (v23.1 * 256))))) :: (31, zI (w64 (v23.1 * 256))) :: (30, zI v23.1) :: (29, zI (w64 ((w64 (v15.1 * 16777216)) + (w64 (v19.1 * 65536))))) :: (28, zI (w64 (v19.1 * 65536))) :: (27, zI v19.1) :: (26, zI (w64 (v15.1 * 16777216))) :: (25, zI v15.1) :: (8, zI v27.1) :: (24, zI v27.1) :: (23, .ptr 9000 0 0) :: T7, (9000, ⟨0, 1, true, some (encCur0 v27.2)⟩) :: B7⟩ ?_
     obtain ⟨v29, hv30, h⟩ := bindO h
     refine ra 11 (zI v29 : X) (.junk : X) ⟨(36, zI v29) :: (35, zI a1) :: (34, zI (w64 ((w64 ((w64 ((w64 (v15.1 * 16777216)) + (w64 (v19.1 * 65536)))) + (w64 (v23.1 * 256)))) + v27.1))) :: (33, zI v27.1) :: (32, zI (w64 ((w64 ((w64 (v15.1 * 16777216)) + (w64 (v19.1 * 65536)))) + (w64 (v23.1 * 256))))) :: (31, zI (w64 (v23.1 * 256))) :: (30, zI v23.1) :: (29, zI (w64 ((w64 (v15.1 * 16777216)) + (w64 (v19.1 * 65536))))) :: (28, zI (w64 (v19.1 * 65536))) :: (27, zI v19.1) :: (26, zI (w64 (v15.1 * 16777216))) :: (25, zI v15.1) :: (8, zI v27.1) :: (24, zI v27.1) :: (23, .ptr 9000 0 0) :: T7, (9000, ⟨0, 1, true, some (encCur0 v27.2)⟩) :: B7⟩ [binV .rem (.int .i64 (w64 ((w64 ((w64 ((w64 (v15.1 * 16777216)) + (w64 (v19.1 * 65536)))) + (w64 (v23.1 * 256)))) + v27.1))) (.int .i64 a1) = some (.int .i64 v29)] ⟨remO_bin (by decide) hv30, trivial⟩ ?_
     refine ro9 12 1 1 ⟨(4, zI v29) :: (36, zI v29) :: (35, zI a1) :: (34, zI (w64 ((w64 ((w64 ((w64 (v15.1 * 16777216)) + (w64 (v19.1 * 65536)))) + (w64 (v23.1 * 256)))) + v27.1))) :: (33, zI v27.1) :: (32, zI (w64 ((w64 ((w64 (v15.1 * 16777216)) + (w64 (v19.1 * 65536)))) + (w64 (v23.1 * 256))))) :: (31, zI (w64 (v23.1 * 256))) :: (30, zI v23.1) :: (29, zI (w64 ((w64 (v15.1 * 16777216)) + (w64 (v19.1 * 65536))))) :: (28, zI (w64 (v19.1 * 65536))) :: (27, zI v19.1) :: (26, zI (w64 (v15.1 * 16777216))) :: (25, zI v15.1) :: (8, zI v27.1) :: (24, zI v27.1) :: (23, .ptr 9000 0 0) :: T7, (9000, ⟨0, 1, true, some (encCur0 v27.2)⟩) :: B7⟩ ?_
     refine runs_ret ?_
     exact fin _ _ h (by kernel_rfl)

set_option maxRecDepth 100000 in
set_option maxHeartbeats 2000000 in
theorem spec_MakeNums_spec (a0 : (List Int)) (a1 : Int) (v0 : (List Int)) (h : spec_MakeNums a0 a1 = some v0) : Ax.Spec Try.prog 19 none [.sl 0 (List.map encU8 a0), zI a1] (.sl 1 (List.map encInt v0) : X) (.junk : X) := by
 let T1 : List (Nat × X) := [(0, .sl 0 (List.map encU8 a0)), (1, zI a1)]
 refine walk0 (fn := Try.f19) (fun q0 : (List Int) => (.sl 1 (List.map encInt q0) : X)) (fun q0 : (List Int) => (.junk : X)) v0 ⟨T1, []⟩ Try.func19 rfl (by decide +kernel) fun Γ hn fin => ?_
 rw [spec_MakeNums] at h
 refine sqr cv hn ?_
 refine ro9 0 1 1 ⟨(4, .sc (.slice none 0 0)) :: T1, []⟩ ?_
 refine sqr cv hn ?_
 refine ro 0 1 1 ⟨(8, .sl 0 (List.map encU8 a0)) :: (4, .sc (.slice none 0 0)) :: T1, []⟩ ?_
 obtain ⟨v3, hv4, h⟩ := bindO h
 refine rc 1 ⟨(9, .ptr 9 1 0) :: (8, .sl 0 (List.map encU8 a0)) :: (4, .sc (.slice none 0 0)) :: T1, [(9, ⟨1, 1, true, some (encCur0 v3)⟩)]⟩ (spec_l01New_spec a0 v3 hv4) ?_
 refine ro9 2 1 1 ⟨(5, .ptr 9 1 0) :: (9, .ptr 9 1 0) :: (8, .sl 0 (List.map encU8 a0)) :: (4, .sc (.slice none 0 0)) :: T1, [(9, ⟨1, 1, true, some (encCur0 v3)⟩)]⟩ ?_
 refine sqr cv hn ?_
 refine ro9 0 10 10 ⟨(18, .ptr 9 1 2) :: (17, .ptr 9 1 0) :: (16, zI (w64 (v3.fH + a1))) :: (15, zI a1) :: (14, zI v3.fH) :: (13, .ptr 9 1 2) :: (12, .ptr 9 1 0) :: (11, .ptr 9 1 0) :: (10, .ptr 9 1 0) :: (5, .ptr 9 1 0) :: (9, .ptr 9 1 0) :: (8, .sl 0 (List.map encU8 a0)) :: (4, .sc (.slice none 0 0)) :: T1, [(9, ⟨1, 1, true, some (.agg [.sl 0 (List.map encU8 v3.fB), zI v3.fI, zI (w64 (v3.fH + a1))])⟩), (9, ⟨1, 1, true, some (encCur0 v3)⟩)]⟩ ?_
 let B3 : List (Nat × Bx) := [(9, ⟨0, 0, true, some (.agg [.sl 0 (List.map encU8 v3.fB), zI v3.fI, zI (w64 (v3.fH + a1))])⟩)]
 refine wkr [5, 1] [(9, 9, false)] ⟨[(5, .ptr 9 0 0), (1, zI a1)], B3⟩ ?_
 refine sqr cv hn ?_
 refine rs 0 ⟨[(19, .view 19 1 [] 0), (5, .ptr 9 0 0), (1, zI a1)], (19, ⟨1, 1, false, some (.sl 1 (List.map encInt []))⟩) :: B3⟩ [∀ y ∈ (List.map encInt [] : List X), (X.cells y).length = tSize Try.prog 3] ⟨fmap fun _ => by kernel_rfl, trivial⟩ ?_
 refine ro9 1 1 1 ⟨[(6, .view 19 1 [] 0), (19, .view 19 1 [] 0), (5, .ptr 9 0 0), (1, zI a1)], (19, ⟨1, 1, false, some (.sl 1 (List.map encInt []))⟩) :: B3⟩ ?_
 refine runs_seq ?_
 refine sqr cv hn ?_
 refine ro 0 1 1 ⟨[(20, .ptr 9 0 0), (6, .view 19 1 [] 0), (19, .view 19 1 [] 0), (5, .ptr 9 0 0), (1, zI a1)], (19, ⟨1, 1, false, some (.sl 1 (List.map encInt []))⟩) :: B3⟩ ?_
 obtain ⟨v7, hv8, h⟩ := bindO h
 refine rc 1 ⟨[(21, zI v7.1), (20, .ptr 9 0 0), (6, .view 19 1 [] 0), (19, .view 19 1 [] 0), (5, .ptr 9 0 0), (1, zI a1)], (9, ⟨0, 1, true, some (encCur0 v7.2)⟩) :: (19, ⟨1, 1, false, some (.sl 1 (List.map encInt []))⟩) :: B3⟩ (spec_l01Below_spec { v3 with fH := w64 (v3.fH + a1) } 12 v7 hv8) ?_
 refine ro9 2 1 1 ⟨[(7, zI v7.1), (21, zI v7.1), (20, .ptr 9 0 0), (6, .view 19 1 [] 0), (19, .view 19 1 [] 0), (5, .ptr 9 0 0), (1, zI a1)], (9, ⟨0, 1, true, some (encCur0 v7.2)⟩) :: (19, ⟨1, 1, false, some (.sl 1 (List.map encInt []))⟩) :: B3⟩ ?_
 refine runs_block ?_
 refine runs_loopM (σ := Nat × Int × (List Int) × (List Int) × Int × Int) (fun s => ⟨[(7, zI s.2.1), (6, .view 5000006 0 [] 0), (5, .ptr 9 0 0), (1, zI a1)], [(5000006, ⟨0, 0, false, some (.sl 1 (List.map encInt s.2.2.1))⟩), (9, ⟨0, 0, true, some (.agg [.sl 0 (List.map encU8 s.2.2.2.1), zI s.2.2.2.2.1, zI s.2.2.2.2.2])⟩)]⟩) (fun s => spec_MakeNums_l1 a1 s.1 s.2.1 s.2.2.1 s.2.2.2.1 s.2.2.2.2.1 s.2.2.2.2.2 = some v0) (fun s => s.1) (fuel, v7.1, [], v7.2.fB, v7.2.fI, v7.2.fH) h (wre [7, 6, 5, 1] [(5000006, 19, false), (9, 9, false)]) ?_
 rintro ⟨n1, y19, y20, y21, y22, y23⟩ h
 let T6 : List (Nat × X) := [(7, zI y19), (6, .view 5000006 0 [] 0), (5, .ptr 9 0 0), (1, zI a1)]
 let B6 : List (Nat × Bx) := [(5000006, ⟨0, 0, false, some (.sl 1 (List.map encInt y20))⟩), (9, ⟨0, 0, true, some (.agg [.sl 0 (List.map encU8 y21), zI y22, zI y23])⟩)]
 refine seq0 ⟨T6, B6⟩ ?_
 cases n1 with
 | zero => rw [spec_MakeNums_l1] at h; cases h
 | succ n1 =>
   rw [spec_MakeNums_l1] at h
   refine runs_seq ?_
   refine sqr cv hn ?_
   refine ro9 0 2 2 ⟨(23, zB (decide (y19 > 0))) :: (22, zI y19) :: T6, B6⟩ ?_
   rcases dich (decide (y19 > 0)) with hb35 | hb35
   · replace h := cond_t hb35 h
     refine ct hb35 ?_
     refine runs_skip ?_
     refine runs_seq ?_
     refine runs_block ?_
     refine rg cv hn ?_
     refine ro 0 3 3 ⟨(28, zI a1) :: (27, .ptr 9 0 0) :: (26, .view 5000006 0 [] 0) :: (23, zB (decide (y19 > 0))) :: (22, zI y19) :: T6, B6⟩ ?_
     obtain ⟨v36, hv37, h⟩ := bindO h
     refine rc 3 ⟨(29, zI v36.1) :: (28, zI a1) :: (27, .ptr 9 0 0) :: (26, .view 5000006 0 [] 0) :: (23, zB (decide (y19 > 0))) :: (22, zI y19) :: T6, (9, ⟨0, 1, true, some (encCur0 v36.2)⟩) :: B6⟩ (spec_l01Below_spec (SCur.mk y21 y22 y23) a1 v36 hv37) ?_
     refine rs 4 ⟨(30, .view 30 1 [] 0) :: (29, zI v36.1) :: (28, zI a1) :: (27, .ptr 9 0 0) :: (26, .view 5000006 0 [] 0) :: (23, zB (decide (y19 > 0))) :: (22, zI y19) :: T6, (30, ⟨1, 1, false, some (.sl 1 (List.map encInt [v36.1]))⟩) :: (9, ⟨0, 1, true, some (encCur0 v36.2)⟩) :: B6⟩ [∀ y ∈ (List.map encInt [v36.1] : List X), (X.cells y).length = tSize Try.prog 3] ⟨fmap fun _ => by kernel_rfl, trivial⟩ ?_
     obtain ⟨hg38, h⟩ := gO_some h
     refine rs 5 ⟨(31, .view 31 1 [] 0) :: (30, .view 30 1 [] 0) :: (29, zI v36.1) :: (28, zI a1) :: (27, .ptr 9 0 0) :: (26, .view 5000006 0 [] 0) :: (23, zB (decide (y19 > 0))) :: (22, zI y19) :: T6, (31, ⟨1, 1, false, some (.sl 1 (List.map encInt (y20 ++ [v36.1])))⟩) :: (5000006, ⟨0, 1, false, some (.junk)⟩) :: (30, ⟨1, 1, false, some (.sl 1 (List.map encInt [v36.1]))⟩) :: (9, ⟨0, 1, true, some (encCur0 v36.2)⟩) :: B6⟩ [((List.map encInt y20 : List X).length + (List.map encInt [v36.1] : List X).length) * tBytes Try.prog 3 ≤ 140737488355328 ∧ (List.map encInt y20 : List X).length + (List.map encInt [v36.1] : List X).length ≤ 140737488355328 ∧ (∀ y ∈ (List.map encInt y20 : List X), (X.cells y).length = tSize Try.prog 3) ∧ ∀ y ∈ (List.map encInt [v36.1] : List X), (X.cells y).length = tSize Try.prog 3] ⟨⟨(app_side (b := 8) (b2 := tBytes Try.prog 3) (f := encInt) (A := y20) (B := [v36.1]) (by kernel_rfl) hg38).1, (app_side (b := 8) (b2 := 8) (f := encInt) (A := y20) (B := [v36.1]) rfl hg38).2, fmap fun _ => by kernel_rfl, fmap fun _ => by kernel_rfl⟩, trivial⟩ ?_ (he := by rw [show List.map encInt (y20 ++ [v36.1]) = List.map encInt y20 ++ List.map encInt [v36.1] from List.map_append]; kernel_rfl)
     refine ro9 6 1 1 ⟨(6, .view 31 1 [] 0) :: (31, .view 31 1 [] 0) :: (30, .view 30 1 [] 0) :: (29, zI v36.1) :: (28, zI a1) :: (27, .ptr 9 0 0) :: (26, .view 5000006 0 [] 0) :: (23, zB (decide (y19 > 0))) :: (22, zI y19) :: T6, (31, ⟨1, 1, false, some (.sl 1 (List.map encInt (y20 ++ [v36.1])))⟩) :: (5000006, ⟨0, 1, false, some (.junk)⟩) :: (30, ⟨1, 1, false, some (.sl 1 (List.map encInt [v36.1]))⟩) :: (9, ⟨0, 1, true, some (encCur0 v36.2)⟩) :: B6⟩ ?_
     let T7 : List (Nat × X) := [(6, .view 5000006 0 [] 0), (31, .view 5000006 0 [] 0), (30, .view 5000030 0 [] 0), (29, zI v36.1), (28, zI a1), (27, .ptr 9 0 0), (23, zB (decide (y19 > 0))), (22, zI y19), (7, zI y19), (5, .ptr 9 0 0), (1, zI a1)]
     let B7 : List (Nat × Bx) := [(5000006, ⟨0, 0, false, some (.sl 1 (List.map encInt (y20 ++ [v36.1])))⟩), (5000030, ⟨0, 0, false, some (.sl 1 (List.map encInt [v36.1]))⟩), (9, ⟨0, 0, true, some (encCur0 v36.2)⟩)]
     refine wkr [6, 31, 30, 29, 28, 27, 23, 22, 7, 5, 1] [(5000006, 31, false), (5000030, 30, false), (9, 9, false)] ⟨T7, B7⟩ ?_
     refine rg cv hn ?_
     refine ro9 0 3 3 ⟨(7, zI (w64 (y19 - 1))) :: (25, zI (w64 (y19 - 1))) :: (24, zI y19) :: T7, B7⟩ ?_
     exact ⟨(n1, w64 (y19 - 1), y20 ++ [v36.1], v36.2.fB, v36.2.fI, v36.2.fH), Nat.lt_succ_self _, h, wre [7, 6, 5, 1] [(5000006, 5000006, false), (9, 9, false)]⟩
   · replace h := cond_f hb35 h
     refine cf hb35 ?_
     refine runs_exit ?_
     repeat refine thenX_exit ?_
     refine block_here ?_
     let B8 : List (Nat × Bx) := [(5000006, ⟨0, 0, false, some (.sl 1 (List.map encInt y20))⟩)]
     refine wkr [6] [(5000006, 5000006, false)] ⟨[(6, .view 5000006 0 [] 0)], B8⟩ ?_
     refine sqr cv hn ?_
     refine ro9 0 2 2 ⟨[(4, .view 5000006 0 [] 0), (32, .view 5000006 0 [] 0), (6, .view 5000006 0 [] 0)], B8⟩ ?_
     refine runs_ret ?_
     exact fin _ _ h (by kernel_rfl)

set_option maxRecDepth 100000 in
set_option maxHeartbeats 2000000 in
theorem impl_in_spec (a0 : Int) (a1 : Int) (a2 : Int) (v0 : Bool) (h : impl_in a0 a1 a2 = some v0) : Ax.Spec Try.prog 64 none [zI a0, zI a1, zI a2] (zB v0 : X) (.junk : X) := by
 let T1 : List (Nat × X) := [(0, zI a0), (1, zI a1), (2, zI a2)]
 refine walk0 (fn := Try.f64) (fun q0 : Bool => (zB q0 : X)) (fun q0 : Bool => (.junk : X)) v0 ⟨T1, []⟩ Try.func64 rfl (by decide +kernel) fun Γ hn fin => ?_
 rw [impl_in] at h
 refine sqr cv hn ?_
 refine ro9 0 1 1 ⟨(6, zB false) :: T1, []⟩ ?_
 refine sqr cv hn ?_
 refine ro 0 4 4 ⟨(10, zB (decide (a0 ≥ a1))) :: (9, zB (decide (a0 ≥ a1))) :: (8, zI a1) :: (7, zI a0) :: (6, zB false) :: T1, []⟩ ?_
 rcases dich (decide (a0 ≥ a1)) with hb1 | hb1
 · replace h := cond_t hb1 h
   refine rl 10 true hb1 ?_
   refine ro9 4 5 5 ⟨(6, zB (decide (a0 ≤ a2))) :: (14, zB (decide (a0 ≤ a2))) :: (13, zB (decide (a0 ≤ a2))) :: (12, zI a2) :: (11, zI a0) :: (10, zB true) :: (9, zB (decide (a0 ≥ a1))) :: (8, zI a1) :: (7, zI a0) :: (6, zB false) :: T1, []⟩ ?_
   refine runs_ret ?_
   exact fin _ _ h (by kernel_rfl)
 · replace h := cond_f hb1 h
   refine rl 10 false hb1 ?_
   refine ro9 4 5 2 ⟨(6, zB false) :: (14, zB false) :: (13, .tup []) :: (12, .tup []) :: (11, .tup []) :: (10, zB false) :: (9, zB (decide (a0 ≥ a1))) :: (8, zI a1) :: (7, zI a0) :: (6, zB false) :: T1, []⟩ ?_
   refine runs_ret ?_
   exact fin _ _ h (by kernel_rfl)

set_option maxRecDepth 100000 in
set_option maxHeartbeats 2000000 in
theorem impl_isNum_spec (a0 : Int) (v0 : Bool) (h : impl_isNum a0 = some v0) : Ax.Spec Try.prog 66 none [zI a0] (zB v0 : X) (.junk : X) := by
 refine walk0 (fn := Try.f66) (fun q0 : Bool => (zB q0 : X)) (fun q0 : Bool => (.junk : X)) v0 ⟨[(0, zI a0)], []⟩ Try.func66 rfl (by decide +kernel) fun Γ hn fin => ?_
 rw [impl_isNum] at h
 refine sqr cv hn ?_
 refine ro9 0 1 1 ⟨[(2, zB false), (0, zI a0)], []⟩ ?_
 refine sqr cv hn ?_
 refine ro 0 1 1 ⟨[(3, zI a0), (2, zB false), (0, zI a0)], []⟩ ?_
 obtain ⟨v1, hv2, h⟩ := bindO h
 refine rc 1 ⟨[(4, zB v1), (3, zI a0), (2, zB false), (0, zI a0)], []⟩ (impl_in_spec a0 0 1125899906842624 v1 hv2) ?_
 refine ro9 2 1 1 ⟨[(2, zB v1), (4, zB v1), (3, zI a0), (2, zB false), (0, zI a0)], []⟩ ?_
 refine runs_ret ?_
 exact fin _ _ h (by kernel_rfl)

set_option maxRecDepth 100000 in
set_option maxHeartbeats 2000000 in
theorem impl_isChoice_spec (a0 : Int) (v0 : Bool) (h : impl_isChoice a0 = some v0) : Ax.Spec Try.prog 67 none [zI a0] (zB v0 : X) (.junk : X) := by
 refine walk0 (fn := Try.f67) (fun q0 : Bool => (zB q0 : X)) (fun q0 : Bool => (.junk : X)) v0 ⟨[(0, zI a0)], []⟩ Try.func67 rfl (by decide +kernel) fun Γ hn fin => ?_
 rw [impl_isChoice] at h
 refine sqr cv hn ?_
 refine ro9 0 1 1 ⟨[(2, zB false), (0, zI a0)], []⟩ ?_
 refine sqr cv hn ?_
 refine ro 0 1 1 ⟨[(3, zI a0), (2, zB false), (0, zI a0)], []⟩ ?_
 obtain ⟨v1, hv2, h⟩ := bindO h
 refine rc 1 ⟨[(4, zB v1), (3, zI a0), (2, zB false), (0, zI a0)], []⟩ (impl_in_spec a0 1 4 v1 hv2) ?_
 refine ro9 2 1 1 ⟨[(2, zB v1), (4, zB v1), (3, zI a0), (2, zB false), (0, zI a0)], []⟩ ?_
 refine runs_ret ?_
 exact fin _ _ h (by kernel_rfl)

set_option maxRecDepth 100000 in
set_option maxHeartbeats 2000000 in
theorem impl_AccOk_spec (a0 : SAcc) (v0 : Bool) (h : impl_AccOk a0 = some v0) : Ax.Spec Try.prog 22 none [encAcc a0] (zB v0 : X) (.junk : X) := by
 refine walk0 (fn := Try.f22) (fun q0 : Bool => (zB q0 : X)) (fun q0 : Bool => (.junk : X)) v0 ⟨[(0, encAcc a0)], []⟩ Try.func22 rfl (by decide +kernel) fun Γ hn fin => ?_
 rw [impl_AccOk] at h
 refine sqr cv hn ?_
 refine ro9 0 2 2 ⟨[(2, zB false), (1, .ptr 1 1 0), (0, encAcc a0)], [(1, ⟨1, 1, true, some (encAcc a0)⟩)]⟩ ?_
 refine sqr cv hn ?_
 refine ro 0 2 2 ⟨[(4, zI a0.fProm), (3, .ptr 1 1 0), (2, zB false), (1, .ptr 1 1 0), (0, encAcc a0)], [(1, ⟨1, 1, true, some (encAcc a0)⟩)]⟩ ?_
 obtain ⟨v1, hv2, h⟩ := bindO h
 refine rc 2 ⟨[(5, zB v1), (4, zI a0.fProm), (3, .ptr 1 1 0), (2, zB false), (1, .ptr 1 1 0), (0, encAcc a0)], [(1, ⟨1, 1, true, some (encAcc a0)⟩)]⟩ (impl_isNum_spec a0.fProm v1 hv2) ?_
 refine ro 3 1 1 ⟨[(6, zB v1), (5, zB v1), (4, zI a0.fProm), (3, .ptr 1 1 0), (2, zB false), (1, .ptr 1 1 0), (0, encAcc a0)], [(1, ⟨1, 1, true, some (encAcc a0)⟩)]⟩ ?_
 rcases dich v1 with hb3 | hb3
 · replace h := cond_t hb3 h
   refine rl 6 true hb3 ?_
   refine ro 4 4 4 ⟨[(10, zI a0.fProm), (9, .ptr 1 1 0), (8, zI a0.fBal), (7, .ptr 1 1 1), (6, zB true), (5, zB v1), (4, zI a0.fProm), (3, .ptr 1 1 0), (2, zB false), (1, .ptr 1 1 0), (0, encAcc a0)], [(1, ⟨1, 1, true, some (encAcc a0)⟩)]⟩ ?_
   obtain ⟨v4, hv5, h⟩ := bindO h
   refine rc 8 ⟨[(11, zB v4), (10, zI a0.fProm), (9, .ptr 1 1 0), (8, zI a0.fBal), (7, .ptr 1 1 1), (6, zB true), (5, zB v1), (4, zI a0.fProm), (3, .ptr 1 1 0), (2, zB false), (1, .ptr 1 1 0), (0, encAcc a0)], [(1, ⟨1, 1, true, some (encAcc a0)⟩)]⟩ (impl_in_spec a0.fBal 1 a0.fProm v4 hv5) ?_
   refine ro 9 1 1 ⟨[(12, zB v4), (11, zB v4), (10, zI a0.fProm), (9, .ptr 1 1 0), (8, zI a0.fBal), (7, .ptr 1 1 1), (6, zB true), (5, zB v1), (4, zI a0.fProm), (3, .ptr 1 1 0), (2, zB false), (1, .ptr 1 1 0), (0, encAcc a0)], [(1, ⟨1, 1, true, some (encAcc a0)⟩)]⟩ ?_
   rcases dich v4 with hb6 | hb6
   · replace h := cond_t hb6 h
     refine rl 12 true hb6 ?_
     refine ro 10 2 2 ⟨[(14, zI a0.fVal), (13, .ptr 1 1 2), (12, zB true), (11, zB v4), (10, zI a0.fProm), (9, .ptr 1 1 0), (8, zI a0.fBal), (7, .ptr 1 1 1), (6, zB true), (5, zB v1), (4, zI a0.fProm), (3, .ptr 1 1 0), (2, zB false), (1, .ptr 1 1 0), (0, encAcc a0)], [(1, ⟨1, 1, true, some (encAcc a0)⟩)]⟩ ?_
     obtain ⟨v7, hv8, h⟩ := bindO h
     refine rc 12 ⟨[(15, zB v7), (14, zI a0.fVal), (13, .ptr 1 1 2), (12, zB true), (11, zB v4), (10, zI a0.fProm), (9, .ptr 1 1 0), (8, zI a0.fBal), (7, .ptr 1 1 1), (6, zB true), (5, zB v1), (4, zI a0.fProm), (3, .ptr 1 1 0), (2, zB false), (1, .ptr 1 1 0), (0, encAcc a0)], [(1, ⟨1, 1, true, some (encAcc a0)⟩)]⟩ (impl_isChoice_spec a0.fVal v7 hv8) ?_
     refine ro 13 2 2 ⟨[(17, zB v7), (16, zB v7), (15, zB v7), (14, zI a0.fVal), (13, .ptr 1 1 2), (12, zB true), (11, zB v4), (10, zI a0.fProm), (9, .ptr 1 1 0), (8, zI a0.fBal), (7, .ptr 1 1 1), (6, zB true), (5, zB v1), (4, zI a0.fProm), (3, .ptr 1 1 0), (2, zB false), (1, .ptr 1 1 0), (0, encAcc a0)], [(1, ⟨1, 1, true, some (encAcc a0)⟩)]⟩ ?_
     rcases dich v7 with hb9 | hb9
     · replace h := cond_t hb9 h
       refine rl 17 true hb9 ?_
       refine ro9 15 11 3 ⟨[(2, zB true), (27, zB true), (26, zB true), (25, .tup []), (24, .tup []), (23, .tup []), (22, .tup []), (21, .tup []), (20, .tup []), (19, .tup []), (18, .tup []), (17, zB true), (16, zB v7), (15, zB v7), (14, zI a0.fVal), (13, .ptr 1 1 2), (12, zB true), (11, zB v4), (10, zI a0.fProm), (9, .ptr 1 1 0), (8, zI a0.fBal), (7, .ptr 1 1 1), (6, zB true), (5, zB v1), (4, zI a0.fProm), (3, .ptr 1 1 0), (2, zB false), (1, .ptr 1 1 0), (0, encAcc a0)], [(1, ⟨1, 1, true, some (encAcc a0)⟩)]⟩ ?_
       refine runs_ret ?_
       exact fin _ _ h (by kernel_rfl)
     · replace h := cond_f hb9 h
       refine rl 17 false hb9 ?_
       refine ro 15 4 4 ⟨[(21, zB (a0.fBal == 0)), (20, zB (a0.fBal == 0)), (19, zI a0.fBal), (18, .ptr 1 1 1), (17, zB false), (16, zB v7), (15, zB v7), (14, zI a0.fVal), (13, .ptr 1 1 2), (12, zB true), (11, zB v4), (10, zI a0.fProm), (9, .ptr 1 1 0), (8, zI a0.fBal), (7, .ptr 1 1 1), (6, zB true), (5, zB v1), (4, zI a0.fProm), (3, .ptr 1 1 0), (2, zB false), (1, .ptr 1 1 0), (0, encAcc a0)], [(1, ⟨1, 1, true, some (encAcc a0)⟩)]⟩ ?_
       rcases dich (a0.fBal == 0) with hb10 | hb10
       · replace h := cond_t hb10 h
         refine rl 21 true hb10 ?_
         refine ro9 19 7 7 ⟨[(2, zB (a0.fVal == 0)), (27, zB (a0.fVal == 0)), (26, zB (a0.fVal == 0)), (25, zB (a0.fVal == 0)), (24, zB (a0.fVal == 0)), (23, zI a0.fVal), (22, .ptr 1 1 2), (21, zB true), (20, zB (a0.fBal == 0)), (19, zI a0.fBal), (18, .ptr 1 1 1), (17, zB false), (16, zB v7), (15, zB v7), (14, zI a0.fVal), (13, .ptr 1 1 2), (12, zB true), (11, zB v4), (10, zI a0.fProm), (9, .ptr 1 1 0), (8, zI a0.fBal), (7, .ptr 1 1 1), (6, zB true), (5, zB v1), (4, zI a0.fProm), (3, .ptr 1 1 0), (2, zB false), (1, .ptr 1 1 0), (0, encAcc a0)], [(1, ⟨1, 1, true, some (encAcc a0)⟩)]⟩ ?_
         refine runs_ret ?_
         exact fin _ _ h (by kernel_rfl)
       · replace h := cond_f hb10 h
         refine rl 21 false hb10 ?_
         refine ro9 19 7 4 ⟨[(2, zB false), (27, zB false), (26, zB false), (25, zB false), (24, .tup []), (23, .tup []), (22, .tup []), (21, zB false), (20, zB (a0.fBal == 0)), (19, zI a0.fBal), (18, .ptr 1 1 1), (17, zB false), (16, zB v7), (15, zB v7), (14, zI a0.fVal), (13, .ptr 1 1 2), (12, zB true), (11, zB v4), (10, zI a0.fProm), (9, .ptr 1 1 0), (8, zI a0.fBal), (7, .ptr 1 1 1), (6, zB true), (5, zB v1), (4, zI a0.fProm), (3, .ptr 1 1 0), (2, zB false), (1, .ptr 1 1 0), (0, encAcc a0)], [(1, ⟨1, 1, true, some (encAcc a0)⟩)]⟩ ?_
         refine runs_ret ?_
         exact fin _ _ h (by kernel_rfl)
   · replace h := cond_f hb6 h
     refine rl 12 false hb6 ?_
     refine ro 10 9 6 ⟨[(21, zB (a0.fBal == 0)), (20, zB (a0.fBal == 0)), (19, zI a0.fBal), (18, .ptr 1 1 1), (17, zB false), (16, zB false), (15, .tup []), (14, .tup []), (13, .tup []), (12, zB false), (11, zB v4), (10, zI a0.fProm), (9, .ptr 1 1 0), (8, zI a0.fBal), (7, .ptr 1 1 1), (6, zB true), (5, zB v1), (4, zI a0.fProm), (3, .ptr 1 1 0), (2, zB false), (1, .ptr 1 1 0), (0, encAcc a0)], [(1, ⟨1, 1, true, some (encAcc a0)⟩)]⟩ ?_
     rcases dich (a0.fBal == 0) with hb11 | hb11
     · replace h := cond_t hb11 h
       refine rl 21 true hb11 ?_
       refine ro9 19 7 7 ⟨[(2, zB (a0.fVal == 0)), (27, zB (a0.fVal == 0)), (26, zB (a0.fVal == 0)), (25, zB (a0.fVal == 0)), (24, zB (a0.fVal == 0)), (23, zI a0.fVal), (22, .ptr 1 1 2), (21, zB true), (20, zB (a0.fBal == 0)), (19, zI a0.fBal), (18, .ptr 1 1 1), (17, zB false), (16, zB false), (15, .tup []), (14, .tup []), (13, .tup []), (12, zB false), (11, zB v4), (10, zI a0.fProm), (9, .ptr 1 1 0), (8, zI a0.fBal), (7, .ptr 1 1 1), (6, zB true), (5, zB v1), (4, zI a0.fProm), (3, .ptr 1 1 0), (2, zB false), (1, .ptr 1 1 0), (0, encAcc a0)], [(1, ⟨1, 1, true, some (encAcc a0)⟩)]⟩ ?_
       refine runs_ret ?_
       exact fin _ _ h (by kernel_rfl)
     · replace h := cond_f hb11 h
       refine rl 21 false hb11 ?_
       refine ro9 19 7 4 ⟨[(2, zB false), (27, zB false), (26, zB false), (25, zB false), (24, .tup []), (23, .tup []), (22, .tup []), (21, zB false), (20, zB (a0.fBal == 0)), (19, zI a0.fBal), (18, .ptr 1 1 1), (17, zB false), (16, zB false), (15, .tup []), (14, .tup []), (13, .tup []), (12, zB false), (11, zB v4), (10, zI a0.fProm), (9, .ptr 1 1 0), (8, zI a0.fBal), (7, .ptr 1 1 1), (6, zB true), (5, zB v1), (4, zI a0.fProm), (3, .ptr 1 1 0), (2, zB false), (1, .ptr 1 1 0), (0, encAcc a0)], [(1, ⟨1, 1, true, some (encAcc a0)⟩)]⟩ ?_
       refine runs_ret ?_
       exact fin _ _ h (by kernel_rfl)
 · replace h := cond_f hb3 h
   refine rl 6 false hb3 ?_
   refine ro9 4 22 2 ⟨[(2, zB false), (27, zB false), (26, .tup []), (25, .tup []), (24, .tup []), (23, .tup []), (22, .tup []), (21, .tup []), (20, .tup []), (19, .tup []), (18, .tup []), (17, .tup []), (16, .tup []), (15, .tup []), (14, .tup []), (13, .tup []), (12, .tup []), (11, .tup []), (10, .tup []), (9, .tup []), (8, .tup []), (7, .tup []), (6, zB false), (5, zB v1), (4, zI a0.fProm), (3, .ptr 1 1 0), (2, zB false), (1, .ptr 1 1 0), (0, encAcc a0)], [(1, ⟨1, 1, true, some (encAcc a0)⟩)]⟩ ?_
   refine runs_ret ?_
   exact fin _ _ h (by kernel_rfl)

set_option maxRecDepth 100000 in
set_option maxHeartbeats 2000000 in
theorem impl_AccPrep_spec (a0 : SAcc) (a1 : Int) (v0 : SAcc × Bool) (h : impl_AccPrep a0 a1 = some v0) : Ax.Spec Try.prog 20 none [encAcc a0, zI a1] (.tup [encAcc v0.1, zB v0.2] : X) (.junk : X) := by
 refine walk0 (fn := Try.f20) (fun q0 : SAcc × Bool => (.tup [encAcc q0.1, zB q0.2] : X)) (fun q0 : SAcc × Bool => (.junk : X)) v0 ⟨[(0, encAcc a0), (1, zI a1)], []⟩ Try.func20 rfl (by decide +kernel) fun Γ hn fin => ?_
 rw [impl_AccPrep] at h
 refine sqr cv hn ?_
 refine ro9 0 3 3 ⟨[(5, zB false), (4, .ptr 4 1 0), (2, .ptr 2 1 0), (0, encAcc a0), (1, zI a1)], [(4, ⟨1, 1, true, some (.agg [zI 0, zI 0, zI 0])⟩), (2, ⟨1, 1, true, some (encAcc a0)⟩)]⟩ ?_
 refine runs_seq ?_
 refine runs_seqJ (σ := Bool) (fun s => ⟨[(1, zI a1), (2, .ptr 2 0 0), (4, .ptr 4 0 0), (19, zB s)], [(2, ⟨0, 0, true, some (encAcc a0)⟩), (4, ⟨0, 0, true, some (.agg [zI 0, zI 0, zI 0])⟩)]⟩) (fun s => impl_AccPrep_j1 a0 a1 s = some v0) ?_ ?_
 · rintro y21 h
   rw [impl_AccPrep_j1] at h
   let T3 : List (Nat × X) := [(1, zI a1), (2, .ptr 2 0 0), (4, .ptr 4 0 0), (19, zB y21)]
   let B3 : List (Nat × Bx) := [(2, ⟨0, 0, true, some (encAcc a0)⟩), (4, ⟨0, 0, true, some (.agg [zI 0, zI 0, zI 0])⟩)]
   refine seq0 ⟨T3, B3⟩ ?_
   rcases dich y21 with hb22 | hb22
   · replace h := cond_t hb22 h
     refine ct hb22 ?_
     refine sqr cv hn ?_
     refine ro9 0 3 3 ⟨(5, zB false) :: (20, .agg [zI 0, zI 0, zI 0]) :: T3, (4, ⟨0, 0, true, some (.agg [zI 0, zI 0, zI 0])⟩) :: B3⟩ ?_
     refine runs_ret ?_
     exact fin _ _ h (by kernel_rfl)
   · replace h := cond_f hb22 h
     refine cf hb22 ?_
     refine runs_skip ?_
     refine sqr cv hn ?_
     refine ro9 0 3 3 ⟨(22, .ptr 2 0 0) :: (21, zI a1) :: T3, (2, ⟨0, 0, true, some (.agg [zI a1, zI a0.fBal, zI a0.fVal])⟩) :: B3⟩ ?_
     refine sqr cv hn ?_
     refine ro9 0 3 3 ⟨(5, zB true) :: (23, .agg [zI a1, zI a0.fBal, zI a0.fVal]) :: (22, .ptr 2 0 0) :: (21, zI a1) :: T3, (4, ⟨0, 0, true, some (.agg [zI a1, zI a0.fBal, zI a0.fVal])⟩) :: (2, ⟨0, 0, true, some (.agg [zI a1, zI a0.fBal, zI a0.fVal])⟩) :: B3⟩ ?_
     refine runs_ret ?_
     exact fin _ _ h (by kernel_rfl)
 · skip
   refine rg cv hn ?_
   refine ro 0 1 1 ⟨[(6, encAcc a0), (5, zB false), (4, .ptr 4 1 0), (2, .ptr 2 1 0), (0, encAcc a0), (1, zI a1)], [(4, ⟨1, 1, true, some (.agg [zI 0, zI 0, zI 0])⟩), (2, ⟨1, 1, true, some (encAcc a0)⟩)]⟩ ?_
   obtain ⟨v23, hv24, h⟩ := bindO h
   refine rc 1 ⟨[(7, zB v23), (6, encAcc a0), (5, zB false), (4, .ptr 4 1 0), (2, .ptr 2 1 0), (0, encAcc a0), (1, zI a1)], [(4, ⟨1, 1, true, some (.agg [zI 0, zI 0, zI 0])⟩), (2, ⟨1, 1, true, some (encAcc a0)⟩)]⟩ (impl_AccOk_spec a0 v23 hv24) ?_
   refine ro 2 2 2 ⟨[(9, zB (!v23)), (8, zB (!v23)), (7, zB v23), (6, encAcc a0), (5, zB false), (4, .ptr 4 1 0), (2, .ptr 2 1 0), (0, encAcc a0), (1, zI a1)], [(4, ⟨1, 1, true, some (.agg [zI 0, zI 0, zI 0])⟩), (2, ⟨1, 1, true, some (encAcc a0)⟩)]⟩ ?_
   rcases dich (!v23) with hb25 | hb25
   · replace h := cond_t hb25 h
     refine rl 9 true hb25 ?_
     refine ro9 4 10 3 ⟨[(19, zB true), (18, .tup []), (17, .tup []), (16, .tup []), (15, .tup []), (14, zB true), (13, zB true), (12, .tup []), (11, .tup []), (10, .tup []), (9, zB true), (8, zB (!v23)), (7, zB v23), (6, encAcc a0), (5, zB false), (4, .ptr 4 1 0), (2, .ptr 2 1 0), (0, encAcc a0), (1, zI a1)], [(4, ⟨1, 1, true, some (.agg [zI 0, zI 0, zI 0])⟩), (2, ⟨1, 1, true, some (encAcc a0)⟩)]⟩ ?_
     exact ⟨(true), h, wre [1, 2, 4, 19] [(2, 2, false), (4, 4, false)]⟩
   · replace h := cond_f hb25 h
     refine rl 9 false hb25 ?_
     refine ro 4 1 1 ⟨[(10, zI a1), (9, zB false), (8, zB (!v23)), (7, zB v23), (6, encAcc a0), (5, zB false), (4, .ptr 4 1 0), (2, .ptr 2 1 0), (0, encAcc a0), (1, zI a1)], [(4, ⟨1, 1, true, some (.agg [zI 0, zI 0, zI 0])⟩), (2, ⟨1, 1, true, some (encAcc a0)⟩)]⟩ ?_
     obtain ⟨v26, hv27, h⟩ := bindO h
     refine rc 5 ⟨[(11, zB v26), (10, zI a1), (9, zB false), (8, zB (!v23)), (7, zB v23), (6, encAcc a0), (5, zB false), (4, .ptr 4 1 0), (2, .ptr 2 1 0), (0, encAcc a0), (1, zI a1)], [(4, ⟨1, 1, true, some (.agg [zI 0, zI 0, zI 0])⟩), (2, ⟨1, 1, true, some (encAcc a0)⟩)]⟩ (impl_isNum_spec a1 v26 hv27) ?_
     refine ro 6 3 3 ⟨[(14, zB (!v26)), (13, zB (!v26)), (12, zB (!v26)), (11, zB v26), (10, zI a1), (9, zB false), (8, zB (!v23)), (7, zB v23), (6, encAcc a0), (5, zB false), (4, .ptr 4 1 0), (2, .ptr 2 1 0), (0, encAcc a0), (1, zI a1)], [(4, ⟨1, 1, true, some (.agg [zI 0, zI 0, zI 0])⟩), (2, ⟨1, 1, true, some (encAcc a0)⟩)]⟩ ?_
     rcases dich (!v26) with hb28 | hb28
     · replace h := cond_t hb28 h
       refine rl 14 true hb28 ?_
       refine ro9 9 5 1 ⟨[(19, zB true), (18, .tup []), (17, .tup []), (16, .tup []), (15, .tup []), (14, zB true), (13, zB (!v26)), (12, zB (!v26)), (11, zB v26), (10, zI a1), (9, zB false), (8, zB (!v23)), (7, zB v23), (6, encAcc a0), (5, zB false), (4, .ptr 4 1 0), (2, .ptr 2 1 0), (0, encAcc a0), (1, zI a1)], [(4, ⟨1, 1, true, some (.agg [zI 0, zI 0, zI 0])⟩), (2, ⟨1, 1, true, some (encAcc a0)⟩)]⟩ ?_
       exact ⟨(true), h, wre [1, 2, 4, 19] [(2, 2, false), (4, 4, false)]⟩
     · replace h := cond_f hb28 h
       refine rl 14 false hb28 ?_
       refine ro9 9 5 5 ⟨[(19, zB (decide (a1 ≤ a0.fProm))), (18, zB (decide (a1 ≤ a0.fProm))), (17, zI a0.fProm), (16, .ptr 2 1 0), (15, zI a1), (14, zB false), (13, zB (!v26)), (12, zB (!v26)), (11, zB v26), (10, zI a1), (9, zB false), (8, zB (!v23)), (7, zB v23), (6, encAcc a0), (5, zB false), (4, .ptr 4 1 0), (2, .ptr 2 1 0), (0, encAcc a0), (1, zI a1)], [(4, ⟨1, 1, true, some (.agg [zI 0, zI 0, zI 0])⟩), (2, ⟨1, 1, true, some (encAcc a0)⟩)]⟩ ?_
       exact ⟨(decide (a1 ≤ a0.fProm)), h, wre [1, 2, 4, 19] [(2, 2, false), (4, 4, false)]⟩

set_option maxRecDepth 100000 in
set_option maxHeartbeats 2000000 in
theorem impl_isBallot_spec (a0 : Int) (v0 : Bool) (h : impl_isBallot a0 = some v0) : Ax.Spec Try.prog 68 none [zI a0] (zB v0 : X) (.junk : X) := by
 refine walk0 (fn := Try.f68) (fun q0 : Bool => (zB q0 : X)) (fun q0 : Bool => (.junk : X)) v0 ⟨[(0, zI a0)], []⟩ Try.func68 rfl (by decide +kernel) fun Γ hn fin => ?_
 rw [impl_isBallot] at h
 refine sqr cv hn ?_
 refine ro9 0 1 1 ⟨[(2, zB false), (0, zI a0)], []⟩ ?_
 refine sqr cv hn ?_
 refine ro 0 1 1 ⟨[(3, zI a0), (2, zB false), (0, zI a0)], []⟩ ?_
 obtain ⟨v1, hv2, h⟩ := bindO h
 refine rc 1 ⟨[(4, zB v1), (3, zI a0), (2, zB false), (0, zI a0)], []⟩ (impl_in_spec a0 1 1125899906842624 v1 hv2) ?_
 refine ro9 2 1 1 ⟨[(2, zB v1), (4, zB v1), (3, zI a0), (2, zB false), (0, zI a0)], []⟩ ?_
 refine runs_ret ?_
 exact fin _ _ h (by kernel_rfl)

set_option maxRecDepth 100000 in
set_option maxHeartbeats 2000000 in
theorem impl_AccTake_spec (a0 : SAcc) (a1 : Int) (a2 : Int) (v0 : SAcc × Bool) (h : impl_AccTake a0 a1 a2 = some v0) : Ax.Spec Try.prog 21 none [encAcc a0, zI a1, zI a2] (.tup [encAcc v0.1, zB v0.2] : X) (.junk : X) := by
 let T1 : List (Nat × X) := [(0, encAcc a0), (1, zI a1), (2, zI a2)]
 refine walk0 (fn := Try.f21) (fun q0 : SAcc × Bool => (.tup [encAcc q0.1, zB q0.2] : X)) (fun q0 : SAcc × Bool => (.junk : X)) v0 ⟨T1, []⟩ Try.func21 rfl (by decide +kernel) fun Γ hn fin => ?_
 rw [impl_AccTake] at h
 refine sqr cv hn ?_
 refine ro9 0 3 3 ⟨(7, zB false) :: (6, .ptr 6 1 0) :: (3, .ptr 3 1 0) :: T1, [(6, ⟨1, 1, true, some (.agg [zI 0, zI 0, zI 0])⟩), (3, ⟨1, 1, true, some (encAcc a0)⟩)]⟩ ?_
 refine runs_seq ?_
 refine runs_seqJ (σ := Bool) (fun s => ⟨[(1, zI a1), (2, zI a2), (6, .ptr 6 0 0), (26, zB s)], [(6, ⟨0, 0, true, some (.agg [zI 0, zI 0, zI 0])⟩)]⟩) (fun s => impl_AccTake_j1 a1 a2 s = some v0) ?_ ?_
 · rintro y30 h
   rw [impl_AccTake_j1] at h
   let T3 : List (Nat × X) := [(1, zI a1), (2, zI a2), (6, .ptr 6 0 0), (26, zB y30)]
   let B3 : List (Nat × Bx) := [(6, ⟨0, 0, true, some (.agg [zI 0, zI 0, zI 0])⟩)]
   refine seq0 ⟨T3, B3⟩ ?_
   rcases dich y30 with hb31 | hb31
   · replace h := cond_t hb31 h
     refine ct hb31 ?_
     refine sqr cv hn ?_
     refine ro9 0 3 3 ⟨(7, zB false) :: (27, .agg [zI 0, zI 0, zI 0]) :: T3, (6, ⟨0, 0, true, some (.agg [zI 0, zI 0, zI 0])⟩) :: B3⟩ ?_
     refine runs_ret ?_
     exact fin _ _ h (by kernel_rfl)
   · replace h := cond_f hb31 h
     refine cf hb31 ?_
     refine runs_skip ?_
     refine sqr cv hn ?_
     refine ro9 0 6 6 ⟨(7, zB true) :: (31, .agg [zI a1, zI a1, zI a2]) :: (30, zI a2) :: (29, zI a1) :: (28, zI a1) :: T3, (6, ⟨0, 0, true, some (.agg [zI a1, zI a1, zI a2])⟩) :: B3⟩ ?_
     refine runs_ret ?_
     exact fin _ _ h (by kernel_rfl)
 · skip
   refine rg cv hn ?_
   refine ro 0 1 1 ⟨(8, encAcc a0) :: (7, zB false) :: (6, .ptr 6 1 0) :: (3, .ptr 3 1 0) :: T1, [(6, ⟨1, 1, true, some (.agg [zI 0, zI 0, zI 0])⟩), (3, ⟨1, 1, true, some (encAcc a0)⟩)]⟩ ?_
   obtain ⟨v32, hv33, h⟩ := bindO h
   refine rc 1 ⟨(9, zB v32) :: (8, encAcc a0) :: (7, zB false) :: (6, .ptr 6 1 0) :: (3, .ptr 3 1 0) :: T1, [(6, ⟨1, 1, true, some (.agg [zI 0, zI 0, zI 0])⟩), (3, ⟨1, 1, true, some (encAcc a0)⟩)]⟩ (impl_AccOk_spec a0 v32 hv33) ?_
   refine ro 2 2 2 ⟨(11, zB (!v32)) :: (10, zB (!v32)) :: (9, zB v32) :: (8, encAcc a0) :: (7, zB false) :: (6, .ptr 6 1 0) :: (3, .ptr 3 1 0) :: T1, [(6, ⟨1, 1, true, some (.agg [zI 0, zI 0, zI 0])⟩), (3, ⟨1, 1, true, some (encAcc a0)⟩)]⟩ ?_
   rcases dich (!v32) with hb34 | hb34
   · replace h := cond_t hb34 h
     refine rl 11 true hb34 ?_
     refine ro9 4 15 5 ⟨(26, zB true) :: (25, .tup []) :: (24, .tup []) :: (23, .tup []) :: (22, .tup []) :: (21, zB true) :: (20, zB true) :: (19, .tup []) :: (18, .tup []) :: (17, .tup []) :: (16, zB true) :: (15, zB true) :: (14, .tup []) :: (13, .tup []) :: (12, .tup []) :: (11, zB true) :: (10, zB (!v32)) :: (9, zB v32) :: (8, encAcc a0) :: (7, zB false) :: (6, .ptr 6 1 0) :: (3, .ptr 3 1 0) :: T1, [(6, ⟨1, 1, true, some (.agg [zI 0, zI 0, zI 0])⟩), (3, ⟨1, 1, true, some (encAcc a0)⟩)]⟩ ?_
     exact ⟨(true), h, wre [1, 2, 6, 26] [(6, 6, false)]⟩
   · replace h := cond_f hb34 h
     refine rl 11 false hb34 ?_
     refine ro 4 1 1 ⟨(12, zI a2) :: (11, zB false) :: (10, zB (!v32)) :: (9, zB v32) :: (8, encAcc a0) :: (7, zB false) :: (6, .ptr 6 1 0) :: (3, .ptr 3 1 0) :: T1, [(6, ⟨1, 1, true, some (.agg [zI 0, zI 0, zI 0])⟩), (3, ⟨1, 1, true, some (encAcc a0)⟩)]⟩ ?_
     obtain ⟨v35, hv36, h⟩ := bindO h
     refine rc 5 ⟨(13, zB v35) :: (12, zI a2) :: (11, zB false) :: (10, zB (!v32)) :: (9, zB v32) :: (8, encAcc a0) :: (7, zB false) :: (6, .ptr 6 1 0) :: (3, .ptr 3 1 0) :: T1, [(6, ⟨1, 1, true, some (.agg [zI 0, zI 0, zI 0])⟩), (3, ⟨1, 1, true, some (encAcc a0)⟩)]⟩ (impl_isChoice_spec a2 v35 hv36) ?_
     refine ro 6 3 3 ⟨(16, zB (!v35)) :: (15, zB (!v35)) :: (14, zB (!v35)) :: (13, zB v35) :: (12, zI a2) :: (11, zB false) :: (10, zB (!v32)) :: (9, zB v32) :: (8, encAcc a0) :: (7, zB false) :: (6, .ptr 6 1 0) :: (3, .ptr 3 1 0) :: T1, [(6, ⟨1, 1, true, some (.agg [zI 0, zI 0, zI 0])⟩), (3, ⟨1, 1, true, some (encAcc a0)⟩)]⟩ ?_
     rcases dich (!v35) with hb37 | hb37
     · replace h := cond_t hb37 h
       refine rl 16 true hb37 ?_
       refine ro9 9 10 3 ⟨(26, zB true) :: (25, .tup []) :: (24, .tup []) :: (23, .tup []) :: (22, .tup []) :: (21, zB true) :: (20, zB true) :: (19, .tup []) :: (18, .tup []) :: (17, .tup []) :: (16, zB true) :: (15, zB (!v35)) :: (14, zB (!v35)) :: (13, zB v35) :: (12, zI a2) :: (11, zB false) :: (10, zB (!v32)) :: (9, zB v32) :: (8, encAcc a0) :: (7, zB false) :: (6, .ptr 6 1 0) :: (3, .ptr 3 1 0) :: T1, [(6, ⟨1, 1, true, some (.agg [zI 0, zI 0, zI 0])⟩), (3, ⟨1, 1, true, some (encAcc a0)⟩)]⟩ ?_
       exact ⟨(true), h, wre [1, 2, 6, 26] [(6, 6, false)]⟩
     · replace h := cond_f hb37 h
       refine rl 16 false hb37 ?_
       refine ro 9 1 1 ⟨(17, zI a1) :: (16, zB false) :: (15, zB (!v35)) :: (14, zB (!v35)) :: (13, zB v35) :: (12, zI a2) :: (11, zB false) :: (10, zB (!v32)) :: (9, zB v32) :: (8, encAcc a0) :: (7, zB false) :: (6, .ptr 6 1 0) :: (3, .ptr 3 1 0) :: T1, [(6, ⟨1, 1, true, some (.agg [zI 0, zI 0, zI 0])⟩), (3, ⟨1, 1, true, some (encAcc a0)⟩)]⟩ ?_
       obtain ⟨v38, hv39, h⟩ := bindO h
       refine rc 10 ⟨(18, zB v38) :: (17, zI a1) :: (16, zB false) :: (15, zB (!v35)) :: (14, zB (!v35)) :: (13, zB v35) :: (12, zI a2) :: (11, zB false) :: (10, zB (!v32)) :: (9, zB v32) :: (8, encAcc a0) :: (7, zB false) :: (6, .ptr 6 1 0) :: (3, .ptr 3 1 0) :: T1, [(6, ⟨1, 1, true, some (.agg [zI 0, zI 0, zI 0])⟩), (3, ⟨1, 1, true, some (encAcc a0)⟩)]⟩ (impl_isBallot_spec a1 v38 hv39) ?_
       refine ro 11 3 3 ⟨(21, zB (!v38)) :: (20, zB (!v38)) :: (19, zB (!v38)) :: (18, zB v38) :: (17, zI a1) :: (16, zB false) :: (15, zB (!v35)) :: (14, zB (!v35)) :: (13, zB v35) :: (12, zI a2) :: (11, zB false) :: (10, zB (!v32)) :: (9, zB v32) :: (8, encAcc a0) :: (7, zB false) :: (6, .ptr 6 1 0) :: (3, .ptr 3 1 0) :: T1, [(6, ⟨1, 1, true, some (.agg [zI 0, zI 0, zI 0])⟩), (3, ⟨1, 1, true, some (encAcc a0)⟩)]⟩ ?_
       rcases dich (!v38) with hb40 | hb40
       · replace h := cond_t hb40 h
         refine rl 21 true hb40 ?_
         refine ro9 14 5 1 ⟨(26, zB true) :: (25, .tup []) :: (24, .tup []) :: (23, .tup []) :: (22, .tup []) :: (21, zB true) :: (20, zB (!v38)) :: (19, zB (!v38)) :: (18, zB v38) :: (17, zI a1) :: (16, zB false) :: (15, zB (!v35)) :: (14, zB (!v35)) :: (13, zB v35) :: (12, zI a2) :: (11, zB false) :: (10, zB (!v32)) :: (9, zB v32) :: (8, encAcc a0) :: (7, zB false) :: (6, .ptr 6 1 0) :: (3, .ptr 3 1 0) :: T1, [(6, ⟨1, 1, true, some (.agg [zI 0, zI 0, zI 0])⟩), (3, ⟨1, 1, true, some (encAcc a0)⟩)]⟩ ?_
         exact ⟨(true), h, wre [1, 2, 6, 26] [(6, 6, false)]⟩
       · replace h := cond_f hb40 h
         refine rl 21 false hb40 ?_
         refine ro9 14 5 5 ⟨(26, zB (decide (a1 < a0.fProm))) :: (25, zB (decide (a1 < a0.fProm))) :: (24, zI a0.fProm) :: (23, .ptr 3 1 0) :: (22, zI a1) :: (21, zB false) :: (20, zB (!v38)) :: (19, zB (!v38)) :: (18, zB v38) :: (17, zI a1) :: (16, zB false) :: (15, zB (!v35)) :: (14, zB (!v35)) :: (13, zB v35) :: (12, zI a2) :: (11, zB false) :: (10, zB (!v32)) :: (9, zB v32) :: (8, encAcc a0) :: (7, zB false) :: (6, .ptr 6 1 0) :: (3, .ptr 3 1 0) :: T1, [(6, ⟨1, 1, true, some (.agg [zI 0, zI 0, zI 0])⟩), (3, ⟨1, 1, true, some (encAcc a0)⟩)]⟩ ?_
         exact ⟨(decide (a1 < a0.fProm)), h, wre [1, 2, 6, 26] [(6, 6, false)]⟩

set_option maxRecDepth 100000 in
set_option maxHeartbeats 2000000 in
theorem laws_FnPromise_spec (a0 : (List Int)) (v0 : Bool) (h : laws_FnPromise a0 = some v0) : Ax.Spec Try.prog 4 none [.sl 0 (List.map encU8 a0)] (zB v0 : X) (.junk : X) := by
 refine walk0 (fn := Try.f4) (fun q0 : Bool => (zB q0 : X)) (fun q0 : Bool => (.junk : X)) v0 ⟨[(0, .sl 0 (List.map encU8 a0))], []⟩ Try.func4 rfl (by decide +kernel) fun Γ hn fin => ?_
 rw [laws_FnPromise] at h
 refine sqr cv hn ?_
 refine ro9 0 1 1 ⟨[(2, zB false), (0, .sl 0 (List.map encU8 a0))], []⟩ ?_
 refine runs_seq ?_
 refine sqr cv hn ?_
 refine ro9 0 3 3 ⟨[(13, zB (decide ((a0.length : Int) > 1048576))), (12, zI (a0.length : Int)), (11, .sl 0 (List.map encU8 a0)), (2, zB false), (0, .sl 0 (List.map encU8 a0))], []⟩ ?_ (he := by rw [show (a0.length : Int) = ((List.map encU8 a0).length : Int) from by rw [List.length_map]]; kernel_rfl)
 rcases dich (decide ((a0.length : Int) > 1048576)) with hb2 | hb2
 · replace h := cond_t hb2 h
   refine ct hb2 ?_
   refine sqr cv hn ?_
   refine ro9 0 1 1 ⟨[(2, zB true), (13, zB (decide ((a0.length : Int) > 1048576))), (12, zI (a0.length : Int)), (11, .sl 0 (List.map encU8 a0)), (2, zB false), (0, .sl 0 (List.map encU8 a0))], []⟩ ?_
   refine runs_ret ?_
   exact fin _ _ h (by kernel_rfl)
 · replace h := cond_f hb2 h
   refine cf hb2 ?_
   refine runs_skip ?_
   refine sqr cv hn ?_
   refine ro 0 1 1 ⟨[(14, .sl 0 (List.map encU8 a0)), (13, zB (decide ((a0.length : Int) > 1048576))), (12, zI (a0.length : Int)), (11, .sl 0 (List.map encU8 a0)), (2, zB false), (0, .sl 0 (List.map encU8 a0))], []⟩ ?_
   obtain ⟨v5, hv6, h⟩ := bindO h
   refine rc 1 ⟨[(15, .view 15 1 [] 0), (14, .sl 0 (List.map encU8 a0)), (13, zB (decide ((a0.length : Int) > 1048576))), (12, zI (a0.length : Int)), (11, .sl 0 (List.map encU8 a0)), (2, zB false), (0, .sl 0 (List.map encU8 a0))], [(15, ⟨1, 1, false, some (.sl 1 (List.map encInt v5))⟩)]⟩ (spec_MakeNums_spec a0 20 v5 hv6) ?_
   refine ro9 2 1 1 ⟨[(3, .view 15 1 [] 0), (15, .view 15 1 [] 0), (14, .sl 0 (List.map encU8 a0)), (13, zB (decide ((a0.length : Int) > 1048576))), (12, zI (a0.length : Int)), (11, .sl 0 (List.map encU8 a0)), (2, zB false), (0, .sl 0 (List.map encU8 a0))], [(15, ⟨1, 1, false, some (.sl 1 (List.map encInt v5))⟩)]⟩ ?_
   let B3 : List (Nat × Bx) := [(5000003, ⟨0, 0, false, some (.sl 1 (List.map encInt v5))⟩)]
   refine wkr [3] [(5000003, 15, false)] ⟨[(3, .view 5000003 0 [] 0)], B3⟩ ?_
   refine sqr cv hn ?_
   refine ro9 0 3 3 ⟨[(4, .ptr 4 1 0), (16, .agg [zI 0, zI 0, zI 0]), (3, .view 5000003 0 [] 0)], (4, ⟨1, 1, true, some (.agg [zI 0, zI 0, zI 0])⟩) :: (4, ⟨1, 1, true, some (.agg [zI 0, zI 0, zI 0])⟩) :: B3⟩ ?_
   refine runs_seq ?_
   refine sqr cv hn ?_
   refine ro9 0 3 3 ⟨[(19, zI 0), (18, zI (v5.length : Int)), (17, .view 5000003 0 [] 0), (4, .ptr 4 1 0), (16, .agg [zI 0, zI 0, zI 0]), (3, .view 5000003 0 [] 0)], (4, ⟨1, 1, true, some (.agg [zI 0, zI 0, zI 0])⟩) :: (4, ⟨1, 1, true, some (.agg [zI 0, zI 0, zI 0])⟩) :: B3⟩ ?_ (he := by rw [show (v5.length : Int) = ((List.map encInt v5).length : Int) from by rw [List.length_map]]; kernel_rfl)
   refine runs_block ?_
   refine runs_loopM (σ := List Int × Nat × Int × Int × Int) (fun s => ⟨[(19, zI (s.2.1 : Int)), (18, zI (v5.length : Int)), (17, .view 5000017 0 [] 0), (4, .ptr 4 0 0)], [(5000017, ⟨0, 0, false, some (.sl 1 (List.map encInt v5))⟩), (4, ⟨0, 0, true, some (.agg [zI s.2.2.1, zI s.2.2.2.1, zI s.2.2.2.2])⟩)]⟩) (fun s => s.1 = List.drop s.2.1 v5 ∧ laws_FnPromise_l1 s.1 s.2.1 s.2.2.1 s.2.2.2.1 s.2.2.2.2 = some v0) (fun s => s.1.length) (v5, 0, 0, 0, 0) ⟨rfl, h⟩ (wre [19, 18, 17, 4] [(5000017, 5000003, false), (4, 4, false)]) ?_
   rintro ⟨t1, i1, y318, y319, y320⟩ ⟨hd1, h⟩
   refine seq0 ⟨[(19, zI (i1 : Int)), (18, zI (v5.length : Int)), (17, .view 5000017 0 [] 0), (4, .ptr 4 0 0)], [(5000017, ⟨0, 0, false, some (.sl 1 (List.map encInt v5))⟩), (4, ⟨0, 0, true, some (.agg [zI y318, zI y319, zI y320])⟩)]⟩ ?_
   refine runs_len 17 (es := List.map encInt v5) (by kernel_rfl) fun hl1 => ?_
   replace hl1 := len_of_map hl1
   cases t1 with
   | nil =>
     rw [laws_FnPromise_l1] at h
     have hLn1 := dnil hd1
     refine sqr cv hn ?_
     refine ro9 0 1 1 ⟨[(20, zB (decide ((i1 : Int) < (v5.length : Int)))), (19, zI (i1 : Int)), (18, zI (v5.length : Int)), (17, .view 5000017 0 [] 0), (4, .ptr 4 0 0)], [(5000017, ⟨0, 0, false, some (.sl 1 (List.map encInt v5))⟩), (4, ⟨0, 0, true, some (.agg [zI y318, zI y319, zI y320])⟩)]⟩ ?_
     refine runs_seq ?_
     refine cf hLn1 ?_
     refine runs_exit ?_
     repeat refine thenX_exit ?_
     refine block_here ?_
     refine wkr [] [] ⟨[], []⟩ ?_
     refine sqr cv hn ?_
     refine ro 0 1 1 ⟨[(114, .agg [zI 0, zI 0, zI 0])], []⟩ ?_
     obtain ⟨v400, hv401, h⟩ := bindO h
     refine rc 1 ⟨[(115, zB v400), (114, .agg [zI 0, zI 0, zI 0])], []⟩ (impl_AccOk_spec (SAcc.mk 0 0 0) v400 hv401) ?_
     refine ro9 2 1 1 ⟨[(2, zB v400), (115, zB v400), (114, .agg [zI 0, zI 0, zI 0])], []⟩ ?_
     refine runs_ret ?_
     exact fin _ _ h (by kernel_rfl)
   | cons x10 t1 =>
     rw [laws_FnPromise_l1] at h
     have hLc1 := dcons hd1
     have hx10 := dget hd1
     have hi1 := dinc hd1 hl1
     refine sqr cv hn ?_
     refine ro9 0 1 1 ⟨[(20, zB (decide ((i1 : Int) < (v5.length : Int)))), (19, zI (i1 : Int)), (18, zI (v5.length : Int)), (17, .view 5000017 0 [] 0), (4, .ptr 4 0 0)], [(5000017, ⟨0, 0, false, some (.sl 1 (List.map encInt v5))⟩), (4, ⟨0, 0, true, some (.agg [zI y318, zI y319, zI y320])⟩)]⟩ ?_
     refine runs_seq ?_
     refine ct hLc1 ?_
     refine runs_skip ?_
     refine runs_seq ?_
     refine runs_block ?_
     refine sqr cv hn ?_
     refine ro 0 1 1 ⟨[(21, zI (i1 : Int)), (20, zB (decide ((i1 : Int) < (v5.length : Int)))), (19, zI (i1 : Int)), (18, zI (v5.length : Int)), (17, .view 5000017 0 [] 0), (4, .ptr 4 0 0)], [(5000017, ⟨0, 0, false, some (.sl 1 (List.map encInt v5))⟩), (4, ⟨0, 0, true, some (.agg [zI y318, zI y319, zI y320])⟩)]⟩ ?_
     refine rix 1 encInt 3 hx10 (ix_nn hx10) ⟨[(22, .ep 5000017 0 [(0, (Int.toNat (i1 : Int)))] 0), (21, zI (i1 : Int)), (20, zB (decide ((i1 : Int) < (v5.length : Int)))), (19, zI (i1 : Int)), (18, zI (v5.length : Int)), (17, .view 5000017 0 [] 0), (4, .ptr 4 0 0)], [(5000017, ⟨0, 0, false, some (.sl 1 (List.map encInt v5))⟩), (4, ⟨0, 0, true, some (.agg [zI y318, zI y319, zI y320])⟩)]⟩ ?_
     refine r1 2 (zI x10 : X) ⟨[(23, zI x10), (22, .ep 5000017 0 [(0, (Int.toNat (i1 : Int)))] 0), (21, zI (i1 : Int)), (20, zB (decide ((i1 : Int) < (v5.length : Int)))), (19, zI (i1 : Int)), (18, zI (v5.length : Int)), (17, .view 5000017 0 [] 0), (4, .ptr 4 0 0)], [(5000017, ⟨0, 0, false, some (.sl 1 (List.map encInt v5))⟩), (4, ⟨0, 0, true, some (.agg [zI y318, zI y319, zI y320])⟩)]⟩ [X.nav (.sl 1 (List.map encInt v5) : X) [(0, (Int.toNat (i1 : Int)))] = some (zI x10 : X)] ⟨nav_one (f := encInt) (t := 0) (by kernel_rfl) hx10, trivial⟩ ?_
     refine ro9 3 2 2 ⟨[(6, zI x10), (5, zI (i1 : Int)), (23, zI x10), (22, .ep 5000017 0 [(0, (Int.toNat (i1 : Int)))] 0), (21, zI (i1 : Int)), (20, zB (decide ((i1 : Int) < (v5.length : Int)))), (19, zI (i1 : Int)), (18, zI (v5.length : Int)), (17, .view 5000017 0 [] 0), (4, .ptr 4 0 0)], [(5000017, ⟨0, 0, false, some (.sl 1 (List.map encInt v5))⟩), (4, ⟨0, 0, true, some (.agg [zI y318, zI y319, zI y320])⟩)]⟩ ?_
     refine sqr cv hn ?_
     refine ro 0 2 2 ⟨[(26, zI x10), (25, .agg [zI y318, zI y319, zI y320]), (6, zI x10), (5, zI (i1 : Int)), (23, zI x10), (22, .ep 5000017 0 [(0, (Int.toNat (i1 : Int)))] 0), (21, zI (i1 : Int)), (20, zB (decide ((i1 : Int) < (v5.length : Int)))), (19, zI (i1 : Int)), (18, zI (v5.length : Int)), (17, .view 5000017 0 [] 0), (4, .ptr 4 0 0)], [(5000017, ⟨0, 0, false, some (.sl 1 (List.map encInt v5))⟩), (4, ⟨0, 0, true, some (.agg [zI y318, zI y319, zI y320])⟩)]⟩ ?_
     obtain ⟨v404, hv405, h⟩ := bindO h
     refine rc 2 ⟨[(27, .tup [encAcc v404.1, zB v404.2]), (26, zI x10), (25, .agg [zI y318, zI y319, zI y320]), (6, zI x10), (5, zI (i1 : Int)), (23, zI x10), (22, .ep 5000017 0 [(0, (Int.toNat (i1 : Int)))] 0), (21, zI (i1 : Int)), (20, zB (decide ((i1 : Int) < (v5.length : Int)))), (19, zI (i1 : Int)), (18, zI (v5.length : Int)), (17, .view 5000017 0 [] 0), (4, .ptr 4 0 0)], [(5000017, ⟨0, 0, false, some (.sl 1 (List.map encInt v5))⟩), (4, ⟨0, 0, true, some (.agg [zI y318, zI y319, zI y320])⟩)]⟩ (impl_AccPrep_spec (SAcc.mk y318 y319 y320) x10 v404 hv405) ?_
     refine ro9 3 6 6 ⟨[(8, zB v404.2), (7, .ptr 7 1 0), (29, zB v404.2), (28, encAcc v404.1), (24, .tup [encAcc v404.1, zB v404.2]), (27, .tup [encAcc v404.1, zB v404.2]), (26, zI x10), (25, .agg [zI y318, zI y319, zI y320]), (6, zI x10), (5, zI (i1 : Int)), (23, zI x10), (22, .ep 5000017 0 [(0, (Int.toNat (i1 : Int)))] 0), (21, zI (i1 : Int)), (20, zB (decide ((i1 : Int) < (v5.length : Int)))), (19, zI (i1 : Int)), (18, zI (v5.length : Int)), (17, .view 5000017 0 [] 0), (4, .ptr 4 0 0)], [(7, ⟨1, 1, true, some (encAcc v404.1)⟩), (7, ⟨1, 1, true, some (.agg [zI 0, zI 0, zI 0])⟩), (5000017, ⟨0, 0, false, some (.sl 1 (List.map encInt v5))⟩), (4, ⟨0, 0, true, some (.agg [zI y318, zI y319, zI y320])⟩)]⟩ ?_
     refine runs_seqJ (σ := Bool × Bool × Bool) (fun s => ⟨[(4, .ptr 4 0 0), (5, zI (i1 : Int)), (6, zI x10), (7, .ptr 7 0 0), (8, zB v404.2), (17, .view 5000017 0 [] 0), (18, zI (v5.length : Int)), (19, zI (i1 : Int)), (20, zB (decide ((i1 : Int) < (v5.length : Int)))), (21, zI (i1 : Int)), (22, .ep 5000017 0 [(0, (Int.toNat (i1 : Int)))] 0), (23, zI x10), (25, .agg [zI y318, zI y319, zI y320]), (26, zI x10), (28, encAcc v404.1), (29, zB v404.2), (30, zB v404.2), (31, zI x10), (32, .ptr 4 0 0), (33, zI y318), (34, zB (decide (x10 > y318))), (35, zB (v404.2 != (decide (x10 > y318)))), (36, zB false), (37, zB v404.2), (38, zB s.1), (57, zB s.2.1), (58, zB s.2.2)], [(4, ⟨0, 0, true, some (.agg [zI y318, zI y319, zI y320])⟩), (7, ⟨0, 0, true, some (encAcc v404.1)⟩), (5000017, ⟨0, 0, false, some (.sl 1 (List.map encInt v5))⟩)]⟩) (fun s => laws_FnPromise_j2 y318 y319 y320 (laws_FnPromise_l1 t1 (i1 + 1)) i1 x10 v404 s.1 s.2.1 s.2.2 = some v0) ?_ ?_
     · rintro ⟨y411, y412, y413⟩ h
       rw [laws_FnPromise_j2] at h
       let T30 : List (Nat × X) := [(4, .ptr 4 0 0), (5, zI (i1 : Int)), (6, zI x10), (7, .ptr 7 0 0), (8, zB v404.2), (17, .view 5000017 0 [] 0), (18, zI (v5.length : Int)), (19, zI (i1 : Int)), (20, zB (decide ((i1 : Int) < (v5.length : Int)))), (21, zI (i1 : Int)), (22, .ep 5000017 0 [(0, (Int.toNat (i1 : Int)))] 0), (23, zI x10), (25, .agg [zI y318, zI y319, zI y320]), (26, zI x10), (28, encAcc v404.1), (29, zB v404.2), (30, zB v404.2), (31, zI x10), (32, .ptr 4 0 0), (33, zI y318), (34, zB (decide (x10 > y318))), (35, zB (v404.2 != (decide (x10 > y318)))), (36, zB false), (37, zB v404.2), (38, zB y411), (57, zB y412), (58, zB y413)]
       let B30 : List (Nat × Bx) := [(4, ⟨0, 0, true, some (.agg [zI y318, zI y319, zI y320])⟩), (7, ⟨0, 0, true, some (encAcc v404.1)⟩), (5000017, ⟨0, 0, false, some (.sl 1 (List.map encInt v5))⟩)]
       refine seq0 ⟨T30, B30⟩ ?_
       refine sqr cv hn ?_
       refine ro 0 5 5 ⟨(64, zI (w64 (1 + (Int.tmod (i1 : Int) 4)))) :: (63, zI (Int.tmod (i1 : Int) 4)) :: (62, zI (i1 : Int)) :: (61, zI x10) :: (60, .agg [zI y318, zI y319, zI y320]) :: T30, B30⟩ ?_
       obtain ⟨v416, hv417, h⟩ := bindO h
       refine rc 5 ⟨(65, .tup [encAcc v416.1, zB v416.2]) :: (64, zI (w64 (1 + (Int.tmod (i1 : Int) 4)))) :: (63, zI (Int.tmod (i1 : Int) 4)) :: (62, zI (i1 : Int)) :: (61, zI x10) :: (60, .agg [zI y318, zI y319, zI y320]) :: T30, B30⟩ (impl_AccTake_spec (SAcc.mk y318 y319 y320) x10 (w64 (1 + (Int.tmod (i1 : Int) 4))) v416 hv417) ?_
       refine ro9 6 6 6 ⟨(10, zB v416.2) :: (9, .ptr 9 1 0) :: (67, zB v416.2) :: (66, encAcc v416.1) :: (59, .tup [encAcc v416.1, zB v416.2]) :: (65, .tup [encAcc v416.1, zB v416.2]) :: (64, zI (w64 (1 + (Int.tmod (i1 : Int) 4)))) :: (63, zI (Int.tmod (i1 : Int) 4)) :: (62, zI (i1 : Int)) :: (61, zI x10) :: (60, .agg [zI y318, zI y319, zI y320]) :: T30, (9, ⟨1, 1, true, some (encAcc v416.1)⟩) :: (9, ⟨1, 1, true, some (.agg [zI 0, zI 0, zI 0])⟩) :: B30⟩ ?_
       refine runs_seqJ (σ := Bool × Bool × Bool × Bool × Bool × Bool) (fun s => ⟨[(4, .ptr 4 0 0), (5, zI (i1 : Int)), (6, zI x10), (7, .ptr 7 0 0), (8, zB v404.2), (9, .ptr 9 0 0), (10, zB v416.2), (17, .view 5000017 0 [] 0), (18, zI (v5.length : Int)), (19, zI (i1 : Int)), (20, zB (decide ((i1 : Int) < (v5.length : Int)))), (21, zI (i1 : Int)), (22, .ep 5000017 0 [(0, (Int.toNat (i1 : Int)))] 0), (23, zI x10), (25, .agg [zI y318, zI y319, zI y320]), (26, zI x10), (28, encAcc v404.1), (29, zB v404.2), (30, zB v404.2), (31, zI x10), (32, .ptr 4 0 0), (33, zI y318), (34, zB (decide (x10 > y318))), (35, zB (v404.2 != (decide (x10 > y318)))), (36, zB false), (37, zB v404.2), (38, zB y411), (57, zB y412), (58, zB y413), (60, .agg [zI y318, zI y319, zI y320]), (61, zI x10), (62, zI (i1 : Int)), (63, zI (Int.tmod (i1 : Int) 4)), (64, zI (w64 (1 + (Int.tmod (i1 : Int) 4)))), (66, encAcc v416.1), (67, zB v416.2), (68, zB v416.2), (69, zI x10), (70, .ptr 4 0 0), (71, zI y318), (72, zB (decide (x10 ≥ y318))), (73, zB s.1), (76, zB s.2.1), (77, zB s.2.2.1), (78, zB false), (79, zB v416.2), (80, zB s.2.2.2.1), (99, zB s.2.2.2.2.1), (100, zB s.2.2.2.2.2)], [(4, ⟨0, 0, true, some (.agg [zI y318, zI y319, zI y320])⟩), (7, ⟨0, 0, true, some (encAcc v404.1)⟩), (9, ⟨0, 0, true, some (encAcc v416.1)⟩), (5000017, ⟨0, 0, false, some (.sl 1 (List.map encInt v5))⟩)]⟩) (fun s => laws_FnPromise_j3 y318 y319 y320 (laws_FnPromise_l1 t1 (i1 + 1)) i1 v404 v416 s.1 s.2.1 s.2.2.1 s.2.2.2.1 s.2.2.2.2.1 s.2.2.2.2.2 = some v0) ?_ ?_
       · rintro ⟨y429, y430, y431, y432, y433, y434⟩ h
         rw [laws_FnPromise_j3] at h
         let T31 : List (Nat × X) := [(4, .ptr 4 0 0), (5, zI (i1 : Int)), (6, zI x10), (7, .ptr 7 0 0), (8, zB v404.2), (9, .ptr 9 0 0), (10, zB v416.2), (17, .view 5000017 0 [] 0), (18, zI (v5.length : Int)), (19, zI (i1 : Int)), (20, zB (decide ((i1 : Int) < (v5.length : Int)))), (21, zI (i1 : Int)), (22, .ep 5000017 0 [(0, (Int.toNat (i1 : Int)))] 0), (23, zI x10), (25, .agg [zI y318, zI y319, zI y320]), (26, zI x10), (28, encAcc v404.1), (29, zB v404.2), (30, zB v404.2), (31, zI x10), (32, .ptr 4 0 0), (33, zI y318), (34, zB (decide (x10 > y318))), (35, zB (v404.2 != (decide (x10 > y318)))), (36, zB false), (37, zB v404.2), (38, zB y411), (57, zB y412), (58, zB y413), (60, .agg [zI y318, zI y319, zI y320]), (61, zI x10), (62, zI (i1 : Int)), (63, zI (Int.tmod (i1 : Int) 4)), (64, zI (w64 (1 + (Int.tmod (i1 : Int) 4)))), (66, encAcc v416.1), (67, zB v416.2), (68, zB v416.2), (69, zI x10), (70, .ptr 4 0 0), (71, zI y318), (72, zB (decide (x10 ≥ y318))), (73, zB y429), (76, zB y430), (77, zB y431), (78, zB false), (79, zB v416.2), (80, zB y432), (99, zB y433), (100, zB y434)]
         let B31 : List (Nat × Bx) := [(4, ⟨0, 0, true, some (.agg [zI y318, zI y319, zI y320])⟩), (7, ⟨0, 0, true, some (encAcc v404.1)⟩), (9, ⟨0, 0, true, some (encAcc v416.1)⟩), (5000017, ⟨0, 0, false, some (.sl 1 (List.map encInt v5))⟩)]
         refine seq0 ⟨T31, B31⟩ ?_
         refine runs_seqJ (σ := Bool × Bool × Int × Int × Int) (fun s => ⟨[(4, .ptr 4 0 0), (5, zI (i1 : Int)), (6, zI x10), (7, .ptr 7 0 0), (8, zB v404.2), (9, .ptr 9 0 0), (10, zB v416.2), (17, .view 5000017 0 [] 0), (18, zI (v5.length : Int)), (19, zI (i1 : Int)), (20, zB (decide ((i1 : Int) < (v5.length : Int)))), (21, zI (i1 : Int)), (22, .ep 5000017 0 [(0, (Int.toNat (i1 : Int)))] 0), (23, zI x10), (25, .agg [zI y318, zI y319, zI y320]), (26, zI x10), (28, encAcc v404.1), (29, zB v404.2), (30, zB v404.2), (31, zI x10), (32, .ptr 4 0 0), (33, zI y318), (34, zB (decide (x10 > y318))), (35, zB (v404.2 != (decide (x10 > y318)))), (36, zB false), (37, zB v404.2), (38, zB y411), (57, zB y412), (58, zB y413), (60, .agg [zI y318, zI y319, zI y320]), (61, zI x10), (62, zI (i1 : Int)), (63, zI (Int.tmod (i1 : Int) 4)), (64, zI (w64 (1 + (Int.tmod (i1 : Int) 4)))), (66, encAcc v416.1), (67, zB v416.2), (68, zB v416.2), (69, zI x10), (70, .ptr 4 0 0), (71, zI y318), (72, zB (decide (x10 ≥ y318))), (73, zB y429), (76, zB y430), (77, zB y431), (78, zB false), (79, zB v416.2), (80, zB y432), (99, zB y433), (100, zB y434), (101, zI (i1 : Int)), (102, zI (Int.tmod (i1 : Int) 2)), (103, zB ((Int.tmod (i1 : Int) 2) == 0)), (104, zB s.1), (106, zB s.2.1)], [(4, ⟨0, 0, true, some (.agg [zI s.2.2.1, zI s.2.2.2.1, zI s.2.2.2.2])⟩), (7, ⟨0, 0, true, some (encAcc v404.1)⟩), (9, ⟨0, 0, true, some (encAcc v416.1)⟩), (5000017, ⟨0, 0, false, some (.sl 1 (List.map encInt v5))⟩)]⟩) (fun s => laws_FnPromise_j4 (laws_FnPromise_l1 t1 (i1 + 1)) s.1 s.2.1 s.2.2.1 s.2.2.2.1 s.2.2.2.2 = some v0) ?_ ?_
         · rintro ⟨y441, y442, y443, y444, y445⟩ h
           rw [laws_FnPromise_j4] at h
           let T33 : List (Nat × X) := [(4, .ptr 4 0 0), (5, zI (i1 : Int)), (6, zI x10), (7, .ptr 7 0 0), (8, zB v404.2), (9, .ptr 9 0 0), (10, zB v416.2), (17, .view 5000017 0 [] 0), (18, zI (v5.length : Int)), (19, zI (i1 : Int)), (20, zB (decide ((i1 : Int) < (v5.length : Int)))), (21, zI (i1 : Int)), (22, .ep 5000017 0 [(0, (Int.toNat (i1 : Int)))] 0), (23, zI x10), (25, .agg [zI y318, zI y319, zI y320]), (26, zI x10), (28, encAcc v404.1), (29, zB v404.2), (30, zB v404.2), (31, zI x10), (32, .ptr 4 0 0), (33, zI y318), (34, zB (decide (x10 > y318))), (35, zB (v404.2 != (decide (x10 > y318)))), (36, zB false), (37, zB v404.2), (38, zB y411), (57, zB y412), (58, zB y413), (60, .agg [zI y318, zI y319, zI y320]), (61, zI x10), (62, zI (i1 : Int)), (63, zI (Int.tmod (i1 : Int) 4)), (64, zI (w64 (1 + (Int.tmod (i1 : Int) 4)))), (66, encAcc v416.1), (67, zB v416.2), (68, zB v416.2), (69, zI x10), (70, .ptr 4 0 0), (71, zI y318), (72, zB (decide (x10 ≥ y318))), (73, zB y429), (76, zB y430), (77, zB y431), (78, zB false), (79, zB v416.2), (80, zB y432), (99, zB y433), (100, zB y434), (101, zI (i1 : Int)), (102, zI (Int.tmod (i1 : Int) 2)), (103, zB ((Int.tmod (i1 : Int) 2) == 0)), (104, zB y441), (106, zB y442)]
           let B33 : List (Nat × Bx) := [(4, ⟨0, 0, true, some (.agg [zI y443, zI y444, zI y445])⟩), (7, ⟨0, 0, true, some (encAcc v404.1)⟩), (9, ⟨0, 0, true, some (encAcc v416.1)⟩), (5000017, ⟨0, 0, false, some (.sl 1 (List.map encInt v5))⟩)]
           refine seq0 ⟨T33, B33⟩ ?_
           refine sqr cv hn ?_
           refine ro 0 1 1 ⟨(110, .agg [zI y443, zI y444, zI y445]) :: T33, B33⟩ ?_
           obtain ⟨v446, hv447, h⟩ := bindO h
           refine rc 1 ⟨(111, zB v446) :: (110, .agg [zI y443, zI y444, zI y445]) :: T33, B33⟩ (impl_AccOk_spec (SAcc.mk y443 y444 y445) v446 hv447) ?_
           refine ro9 2 1 1 ⟨(112, zB (!v446)) :: (111, zB v446) :: (110, .agg [zI y443, zI y444, zI y445]) :: T33, B33⟩ ?_
           rcases dich (!v446) with hb448 | hb448
           · replace h := cond_t hb448 h
             refine ct hb448 ?_
             refine sqr cv hn ?_
             refine ro9 0 1 1 ⟨(2, zB false) :: (112, zB (!v446)) :: (111, zB v446) :: (110, .agg [zI y443, zI y444, zI y445]) :: T33, B33⟩ ?_
             refine runs_ret ?_
             exact fin _ _ h (by kernel_rfl)
           · replace h := cond_f hb448 h
             refine cf hb448 ?_
             refine runs_skip ?_
             refine rg cv hn ?_
             refine ro9 0 2 2 ⟨(19, zI ((i1 + 1 : Nat) : Int)) :: (113, zI ((i1 + 1 : Nat) : Int)) :: (112, zB (!v446)) :: (111, zB v446) :: (110, .agg [zI y443, zI y444, zI y445]) :: T33, B33⟩ ?_ (he := by rw [← hi1]; kernel_rfl)
             exact ⟨(t1, i1 + 1, y443, y444, y445), Nat.lt_succ_self _, ⟨dnext hd1, h⟩, wre [19, 18, 17, 4] [(5000017, 5000017, false), (4, 4, false)]⟩
         · skip
           refine runs_seqJ (σ := Bool × Bool) (fun s => ⟨[(4, .ptr 4 0 0), (5, zI (i1 : Int)), (6, zI x10), (7, .ptr 7 0 0), (8, zB v404.2), (9, .ptr 9 0 0), (10, zB v416.2), (17, .view 5000017 0 [] 0), (18, zI (v5.length : Int)), (19, zI (i1 : Int)), (20, zB (decide ((i1 : Int) < (v5.length : Int)))), (21, zI (i1 : Int)), (22, .ep 5000017 0 [(0, (Int.toNat (i1 : Int)))] 0), (23, zI x10), (25, .agg [zI y318, zI y319, zI y320]), (26, zI x10), (28, encAcc v404.1), (29, zB v404.2), (30, zB v404.2), (31, zI x10), (32, .ptr 4 0 0), (33, zI y318), (34, zB (decide (x10 > y318))), (35, zB (v404.2 != (decide (x10 > y318)))), (36, zB false), (37, zB v404.2), (38, zB y411), (57, zB y412), (58, zB y413), (60, .agg [zI y318, zI y319, zI y320]), (61, zI x10), (62, zI (i1 : Int)), (63, zI (Int.tmod (i1 : Int) 4)), (64, zI (w64 (1 + (Int.tmod (i1 : Int) 4)))), (66, encAcc v416.1), (67, zB v416.2), (68, zB v416.2), (69, zI x10), (70, .ptr 4 0 0), (71, zI y318), (72, zB (decide (x10 ≥ y318))), (73, zB y429), (76, zB y430), (77, zB y431), (78, zB false), (79, zB v416.2), (80, zB y432), (99, zB y433), (100, zB y434), (101, zI (i1 : Int)), (102, zI (Int.tmod (i1 : Int) 2)), (103, zB ((Int.tmod (i1 : Int) 2) == 0)), (104, zB s.1), (106, zB s.2)], [(4, ⟨0, 0, true, some (.agg [zI y318, zI y319, zI y320])⟩), (7, ⟨0, 0, true, some (encAcc v404.1)⟩), (9, ⟨0, 0, true, some (encAcc v416.1)⟩), (5000017, ⟨0, 0, false, some (.sl 1 (List.map encInt v5))⟩)]⟩) (fun s => laws_FnPromise_j5 y318 y319 y320 (laws_FnPromise_l1 t1 (i1 + 1)) v404 v416 s.1 s.2 = some v0) ?_ ?_
           · rintro ⟨y450, y451⟩ h
             rw [laws_FnPromise_j5] at h
             let T34 : List (Nat × X) := [(4, .ptr 4 0 0), (5, zI (i1 : Int)), (6, zI x10), (7, .ptr 7 0 0), (8, zB v404.2), (9, .ptr 9 0 0), (10, zB v416.2), (17, .view 5000017 0 [] 0), (18, zI (v5.length : Int)), (19, zI (i1 : Int)), (20, zB (decide ((i1 : Int) < (v5.length : Int)))), (21, zI (i1 : Int)), (22, .ep 5000017 0 [(0, (Int.toNat (i1 : Int)))] 0), (23, zI x10), (25, .agg [zI y318, zI y319, zI y320]), (26, zI x10), (28, encAcc v404.1), (29, zB v404.2), (30, zB v404.2), (31, zI x10), (32, .ptr 4 0 0), (33, zI y318), (34, zB (decide (x10 > y318))), (35, zB (v404.2 != (decide (x10 > y318)))), (36, zB false), (37, zB v404.2), (38, zB y411), (57, zB y412), (58, zB y413), (60, .agg [zI y318, zI y319, zI y320]), (61, zI x10), (62, zI (i1 : Int)), (63, zI (Int.tmod (i1 : Int) 4)), (64, zI (w64 (1 + (Int.tmod (i1 : Int) 4)))), (66, encAcc v416.1), (67, zB v416.2), (68, zB v416.2), (69, zI x10), (70, .ptr 4 0 0), (71, zI y318), (72, zB (decide (x10 ≥ y318))), (73, zB y429), (76, zB y430), (77, zB y431), (78, zB false), (79, zB v416.2), (80, zB y432), (99, zB y433), (100, zB y434), (101, zI (i1 : Int)), (102, zI (Int.tmod (i1 : Int) 2)), (103, zB ((Int.tmod (i1 : Int) 2) == 0)), (104, zB y450), (106, zB y451)]
             let B34 : List (Nat × Bx) := [(4, ⟨0, 0, true, some (.agg [zI y318, zI y319, zI y320])⟩), (7, ⟨0, 0, true, some (encAcc v404.1)⟩), (9, ⟨0, 0, true, some (encAcc v416.1)⟩), (5000017, ⟨0, 0, false, some (.sl 1 (List.map encInt v5))⟩)]
             refine seq0 ⟨T34, B34⟩ ?_
             rcases dich y451 with hb452 | hb452
             · replace h := cond_t hb452 h
               refine ct hb452 ?_
               refine rg cv hn ?_
               refine ro9 0 2 2 ⟨(107, encAcc v404.1) :: T34, (4, ⟨0, 0, true, some (encAcc v404.1)⟩) :: B34⟩ ?_
               exact ⟨(y450, y451, v404.1.fProm, v404.1.fBal, v404.1.fVal), h, wre [4, 5, 6, 7, 8, 9, 10, 17, 18, 19, 20, 21, 22, 23, 25, 26, 28, 29, 30, 31, 32, 33, 34, 35, 36, 37, 38, 57, 58, 60, 61, 62, 63, 64, 66, 67, 68, 69, 70, 71, 72, 73, 76, 77, 78, 79, 80, 99, 100, 101, 102, 103, 104, 106] [(4, 4, false), (7, 7, false), (9, 9, false), (5000017, 5000017, false)]⟩
             · replace h := cond_f hb452 h
               refine cf hb452 ?_
               refine sqr cv hn ?_
               refine ro9 0 1 1 ⟨(108, zB v416.2) :: T34, B34⟩ ?_
               rcases dich v416.2 with hb453 | hb453
               · replace h := cond_t hb453 h
                 refine ct hb453 ?_
                 refine rg cv hn ?_
                 refine ro9 0 2 2 ⟨(109, encAcc v416.1) :: (108, zB v416.2) :: T34, (4, ⟨0, 0, true, some (encAcc v416.1)⟩) :: B34⟩ ?_
                 exact ⟨(y450, y451, v416.1.fProm, v416.1.fBal, v416.1.fVal), h, wre [4, 5, 6, 7, 8, 9, 10, 17, 18, 19, 20, 21, 22, 23, 25, 26, 28, 29, 30, 31, 32, 33, 34, 35, 36, 37, 38, 57, 58, 60, 61, 62, 63, 64, 66, 67, 68, 69, 70, 71, 72, 73, 76, 77, 78, 79, 80, 99, 100, 101, 102, 103, 104, 106] [(4, 4, false), (7, 7, false), (9, 9, false), (5000017, 5000017, false)]⟩
               · replace h := cond_f hb453 h
                 refine cf hb453 ?_
                 refine runs_skip ?_
                 exact ⟨(y450, y451, y318, y319, y320), h, wre [4, 5, 6, 7, 8, 9, 10, 17, 18, 19, 20, 21, 22, 23, 25, 26, 28, 29, 30, 31, 32, 33, 34, 35, 36, 37, 38, 57, 58, 60, 61, 62, 63, 64, 66, 67, 68, 69, 70, 71, 72, 73, 76, 77, 78, 79, 80, 99, 100, 101, 102, 103, 104, 106] [(4, 4, false), (7, 7, false), (9, 9, false), (5000017, 5000017, false)]⟩
           · skip
             refine rg cv hn ?_
             refine ro 0 4 4 ⟨(104, zB ((Int.tmod (i1 : Int) 2) == 0)) :: (103, zB ((Int.tmod (i1 : Int) 2) == 0)) :: (102, zI (Int.tmod (i1 : Int) 2)) :: (101, zI (i1 : Int)) :: T31, B31⟩ ?_
             rcases dich ((Int.tmod (i1 : Int) 2) == 0) with hb454 | hb454
             · replace h := cond_t hb454 h
               refine rl 104 true hb454 ?_
               refine ro9 4 2 2 ⟨(106, zB v404.2) :: (105, zB v404.2) :: (104, zB true) :: (103, zB ((Int.tmod (i1 : Int) 2) == 0)) :: (102, zI (Int.tmod (i1 : Int) 2)) :: (101, zI (i1 : Int)) :: T31, B31⟩ ?_
               exact ⟨(true, v404.2), h, wre [4, 5, 6, 7, 8, 9, 10, 17, 18, 19, 20, 21, 22, 23, 25, 26, 28, 29, 30, 31, 32, 33, 34, 35, 36, 37, 38, 57, 58, 60, 61, 62, 63, 64, 66, 67, 68, 69, 70, 71, 72, 73, 76, 77, 78, 79, 80, 99, 100, 101, 102, 103, 104, 106] [(4, 4, false), (7, 7, false), (9, 9, false), (5000017, 5000017, false)]⟩
             · replace h := cond_f hb454 h
               refine rl 104 false hb454 ?_
               refine ro9 4 2 1 ⟨(106, zB false) :: (105, .tup []) :: (104, zB false) :: (103, zB ((Int.tmod (i1 : Int) 2) == 0)) :: (102, zI (Int.tmod (i1 : Int) 2)) :: (101, zI (i1 : Int)) :: T31, B31⟩ ?_
               exact ⟨(false, false), h, wre [4, 5, 6, 7, 8, 9, 10, 17, 18, 19, 20, 21, 22, 23, 25, 26, 28, 29, 30, 31, 32, 33, 34, 35, 36, 37, 38, 57, 58, 60, 61, 62, 63, 64, 66, 67, 68, 69, 70, 71, 72, 73, 76, 77, 78, 79, 80, 99, 100, 101, 102, 103, 104, 106] [(4, 4, false), (7, 7, false), (9, 9, false), (5000017, 5000017, false)]⟩
       · skip
         refine sqr cv hn ?_
         refine ro 0 6 6 ⟨(73, zB (decide (x10 ≥ y318))) :: (72, zB (decide (x10 ≥ y318))) :: (71, zI y318) :: (70, .ptr 4 0 0) :: (69, zI x10) :: (68, zB v416.2) :: (10, zB v416.2) :: (9, .ptr 9 1 0) :: (67, zB v416.2) :: (66, encAcc v416.1) :: (59, .tup [encAcc v416.1, zB v416.2]) :: (65, .tup [encAcc v416.1, zB v416.2]) :: (64, zI (w64 (1 + (Int.tmod (i1 : Int) 4)))) :: (63, zI (Int.tmod (i1 : Int) 4)) :: (62, zI (i1 : Int)) :: (61, zI x10) :: (60, .agg [zI y318, zI y319, zI y320]) :: T30, (9, ⟨1, 1, true, some (encAcc v416.1)⟩) :: (9, ⟨1, 1, true, some (.agg [zI 0, zI 0, zI 0])⟩) :: B30⟩ ?_
         rcases dich (decide (x10 ≥ y318)) with hb455 | hb455
         · replace h := cond_t hb455 h
           refine rl 73 true hb455 ?_
           refine ro 6 5 5 ⟨(78, zB (v416.2 != (decide (x10 > 0)))) :: (77, zB (v416.2 != (decide (x10 > 0)))) :: (76, zB (decide (x10 > 0))) :: (75, zB (decide (x10 > 0))) :: (74, zI x10) :: (73, zB true) :: (72, zB (decide (x10 ≥ y318))) :: (71, zI y318) :: (70, .ptr 4 0 0) :: (69, zI x10) :: (68, zB v416.2) :: (10, zB v416.2) :: (9, .ptr 9 1 0) :: (67, zB v416.2) :: (66, encAcc v416.1) :: (59, .tup [encAcc v416.1, zB v416.2]) :: (65, .tup [encAcc v416.1, zB v416.2]) :: (64, zI (w64 (1 + (Int.tmod (i1 : Int) 4)))) :: (63, zI (Int.tmod (i1 : Int) 4)) :: (62, zI (i1 : Int)) :: (61, zI x10) :: (60, .agg [zI y318, zI y319, zI y320]) :: T30, (9, ⟨1, 1, true, some (encAcc v416.1)⟩) :: (9, ⟨1, 1, true, some (.agg [zI 0, zI 0, zI 0])⟩) :: B30⟩ ?_
           rcases dich (v416.2 != (decide (x10 > 0))) with hb456 | hb456
           · replace h := cond_t hb456 h
             refine rl 78 true hb456 ?_
             refine ro9 11 22 1 ⟨(100, zB true) :: (99, .tup []) :: (98, .tup []) :: (97, .tup []) :: (96, .tup []) :: (95, .tup []) :: (94, .tup []) :: (93, .tup []) :: (92, .tup []) :: (91, .tup []) :: (90, .tup []) :: (89, .tup []) :: (88, .tup []) :: (87, .tup []) :: (86, .tup []) :: (85, .tup []) :: (84, .tup []) :: (83, .tup []) :: (82, .tup []) :: (81, .tup []) :: (80, .tup []) :: (79, .tup []) :: (78, zB true) :: (77, zB (v416.2 != (decide (x10 > 0)))) :: (76, zB (decide (x10 > 0))) :: (75, zB (decide (x10 > 0))) :: (74, zI x10) :: (73, zB true) :: (72, zB (decide (x10 ≥ y318))) :: (71, zI y318) :: (70, .ptr 4 0 0) :: (69, zI x10) :: (68, zB v416.2) :: (10, zB v416.2) :: (9, .ptr 9 1 0) :: (67, zB v416.2) :: (66, encAcc v416.1) :: (59, .tup [encAcc v416.1, zB v416.2]) :: (65, .tup [encAcc v416.1, zB v416.2]) :: (64, zI (w64 (1 + (Int.tmod (i1 : Int) 4)))) :: (63, zI (Int.tmod (i1 : Int) 4)) :: (62, zI (i1 : Int)) :: (61, zI x10) :: (60, .agg [zI y318, zI y319, zI y320]) :: T30, (9, ⟨1, 1, true, some (encAcc v416.1)⟩) :: (9, ⟨1, 1, true, some (.agg [zI 0, zI 0, zI 0])⟩) :: B30⟩ ?_
             refine cT ?_
             refine sqr cv hn ?_
             refine ro9 0 1 1 ⟨(2, zB false) :: (100, zB true) :: (99, .tup []) :: (98, .tup []) :: (97, .tup []) :: (96, .tup []) :: (95, .tup []) :: (94, .tup []) :: (93, .tup []) :: (92, .tup []) :: (91, .tup []) :: (90, .tup []) :: (89, .tup []) :: (88, .tup []) :: (87, .tup []) :: (86, .tup []) :: (85, .tup []) :: (84, .tup []) :: (83, .tup []) :: (82, .tup []) :: (81, .tup []) :: (80, .tup []) :: (79, .tup []) :: (78, zB true) :: (77, zB (v416.2 != (decide (x10 > 0)))) :: (76, zB (decide (x10 > 0))) :: (75, zB (decide (x10 > 0))) :: (74, zI x10) :: (73, zB true) :: (72, zB (decide (x10 ≥ y318))) :: (71, zI y318) :: (70, .ptr 4 0 0) :: (69, zI x10) :: (68, zB v416.2) :: (10, zB v416.2) :: (9, .ptr 9 1 0) :: (67, zB v416.2) :: (66, encAcc v416.1) :: (59, .tup [encAcc v416.1, zB v416.2]) :: (65, .tup [encAcc v416.1, zB v416.2]) :: (64, zI (w64 (1 + (Int.tmod (i1 : Int) 4)))) :: (63, zI (Int.tmod (i1 : Int) 4)) :: (62, zI (i1 : Int)) :: (61, zI x10) :: (60, .agg [zI y318, zI y319, zI y320]) :: T30, (9, ⟨1, 1, true, some (encAcc v416.1)⟩) :: (9, ⟨1, 1, true, some (.agg [zI 0, zI 0, zI 0])⟩) :: B30⟩ ?_
             refine runs_ret ?_
             exact fin _ _ h (by kernel_rfl)
           · replace h := cond_f hb456 h
             refine rl 78 false hb456 ?_
             refine ro 11 2 2 ⟨(80, zB v416.2) :: (79, zB v416.2) :: (78, zB false) :: (77, zB (v416.2 != (decide (x10 > 0)))) :: (76, zB (decide (x10 > 0))) :: (75, zB (decide (x10 > 0))) :: (74, zI x10) :: (73, zB true) :: (72, zB (decide (x10 ≥ y318))) :: (71, zI y318) :: (70, .ptr 4 0 0) :: (69, zI x10) :: (68, zB v416.2) :: (10, zB v416.2) :: (9, .ptr 9 1 0) :: (67, zB v416.2) :: (66, encAcc v416.1) :: (59, .tup [encAcc v416.1, zB v416.2]) :: (65, .tup [encAcc v416.1, zB v416.2]) :: (64, zI (w64 (1 + (Int.tmod (i1 : Int) 4)))) :: (63, zI (Int.tmod (i1 : Int) 4)) :: (62, zI (i1 : Int)) :: (61, zI x10) :: (60, .agg [zI y318, zI y319, zI y320]) :: T30, (9, ⟨1, 1, true, some (encAcc v416.1)⟩) :: (9, ⟨1, 1, true, some (.agg [zI 0, zI 0, zI 0])⟩) :: B30⟩ ?_
             rcases dich v416.2 with hb457 | hb457
             · replace h := cond_t hb457 h
               refine rl 80 true hb457 ?_
               refine ro 13 5 5 ⟨(85, zB (v416.1.fProm != x10)) :: (84, zB (v416.1.fProm != x10)) :: (83, zI x10) :: (82, zI v416.1.fProm) :: (81, .ptr 9 1 0) :: (80, zB true) :: (79, zB v416.2) :: (78, zB false) :: (77, zB (v416.2 != (decide (x10 > 0)))) :: (76, zB (decide (x10 > 0))) :: (75, zB (decide (x10 > 0))) :: (74, zI x10) :: (73, zB true) :: (72, zB (decide (x10 ≥ y318))) :: (71, zI y318) :: (70, .ptr 4 0 0) :: (69, zI x10) :: (68, zB v416.2) :: (10, zB v416.2) :: (9, .ptr 9 1 0) :: (67, zB v416.2) :: (66, encAcc v416.1) :: (59, .tup [encAcc v416.1, zB v416.2]) :: (65, .tup [encAcc v416.1, zB v416.2]) :: (64, zI (w64 (1 + (Int.tmod (i1 : Int) 4)))) :: (63, zI (Int.tmod (i1 : Int) 4)) :: (62, zI (i1 : Int)) :: (61, zI x10) :: (60, .agg [zI y318, zI y319, zI y320]) :: T30, (9, ⟨1, 1, true, some (encAcc v416.1)⟩) :: (9, ⟨1, 1, true, some (.agg [zI 0, zI 0, zI 0])⟩) :: B30⟩ ?_
               rcases dich (v416.1.fProm != x10) with hb458 | hb458
               · replace h := cond_t hb458 h
                 refine rl 85 true hb458 ?_
                 refine ro9 18 15 5 ⟨(100, zB true) :: (99, zB true) :: (98, zB true) :: (97, .tup []) :: (96, .tup []) :: (95, .tup []) :: (94, .tup []) :: (93, .tup []) :: (92, .tup []) :: (91, zB true) :: (90, zB true) :: (89, .tup []) :: (88, .tup []) :: (87, .tup []) :: (86, .tup []) :: (85, zB true) :: (84, zB (v416.1.fProm != x10)) :: (83, zI x10) :: (82, zI v416.1.fProm) :: (81, .ptr 9 1 0) :: (80, zB true) :: (79, zB v416.2) :: (78, zB false) :: (77, zB (v416.2 != (decide (x10 > 0)))) :: (76, zB (decide (x10 > 0))) :: (75, zB (decide (x10 > 0))) :: (74, zI x10) :: (73, zB true) :: (72, zB (decide (x10 ≥ y318))) :: (71, zI y318) :: (70, .ptr 4 0 0) :: (69, zI x10) :: (68, zB v416.2) :: (10, zB v416.2) :: (9, .ptr 9 1 0) :: (67, zB v416.2) :: (66, encAcc v416.1) :: (59, .tup [encAcc v416.1, zB v416.2]) :: (65, .tup [encAcc v416.1, zB v416.2]) :: (64, zI (w64 (1 + (Int.tmod (i1 : Int) 4)))) :: (63, zI (Int.tmod (i1 : Int) 4)) :: (62, zI (i1 : Int)) :: (61, zI x10) :: (60, .agg [zI y318, zI y319, zI y320]) :: T30, (9, ⟨1, 1, true, some (encAcc v416.1)⟩) :: (9, ⟨1, 1, true, some (.agg [zI 0, zI 0, zI 0])⟩) :: B30⟩ ?_
                 refine cT ?_
                 refine sqr cv hn ?_
                 refine ro9 0 1 1 ⟨(2, zB false) :: (100, zB true) :: (99, zB true) :: (98, zB true) :: (97, .tup []) :: (96, .tup []) :: (95, .tup []) :: (94, .tup []) :: (93, .tup []) :: (92, .tup []) :: (91, zB true) :: (90, zB true) :: (89, .tup []) :: (88, .tup []) :: (87, .tup []) :: (86, .tup []) :: (85, zB true) :: (84, zB (v416.1.fProm != x10)) :: (83, zI x10) :: (82, zI v416.1.fProm) :: (81, .ptr 9 1 0) :: (80, zB true) :: (79, zB v416.2) :: (78, zB false) :: (77, zB (v416.2 != (decide (x10 > 0)))) :: (76, zB (decide (x10 > 0))) :: (75, zB (decide (x10 > 0))) :: (74, zI x10) :: (73, zB true) :: (72, zB (decide (x10 ≥ y318))) :: (71, zI y318) :: (70, .ptr 4 0 0) :: (69, zI x10) :: (68, zB v416.2) :: (10, zB v416.2) :: (9, .ptr 9 1 0) :: (67, zB v416.2) :: (66, encAcc v416.1) :: (59, .tup [encAcc v416.1, zB v416.2]) :: (65, .tup [encAcc v416.1, zB v416.2]) :: (64, zI (w64 (1 + (Int.tmod (i1 : Int) 4)))) :: (63, zI (Int.tmod (i1 : Int) 4)) :: (62, zI (i1 : Int)) :: (61, zI x10) :: (60, .agg [zI y318, zI y319, zI y320]) :: T30, (9, ⟨1, 1, true, some (encAcc v416.1)⟩) :: (9, ⟨1, 1, true, some (.agg [zI 0, zI 0, zI 0])⟩) :: B30⟩ ?_
                 refine runs_ret ?_
                 exact fin _ _ h (by kernel_rfl)
               · replace h := cond_f hb458 h
                 refine rl 85 false hb458 ?_
                 refine ro 18 6 6 ⟨(91, zB (v416.1.fBal != x10)) :: (90, zB (v416.1.fBal != x10)) :: (89, zB (v416.1.fBal != x10)) :: (88, zI x10) :: (87, zI v416.1.fBal) :: (86, .ptr 9 1 1) :: (85, zB false) :: (84, zB (v416.1.fProm != x10)) :: (83, zI x10) :: (82, zI v416.1.fProm) :: (81, .ptr 9 1 0) :: (80, zB true) :: (79, zB v416.2) :: (78, zB false) :: (77, zB (v416.2 != (decide (x10 > 0)))) :: (76, zB (decide (x10 > 0))) :: (75, zB (decide (x10 > 0))) :: (74, zI x10) :: (73, zB true) :: (72, zB (decide (x10 ≥ y318))) :: (71, zI y318) :: (70, .ptr 4 0 0) :: (69, zI x10) :: (68, zB v416.2) :: (10, zB v416.2) :: (9, .ptr 9 1 0) :: (67, zB v416.2) :: (66, encAcc v416.1) :: (59, .tup [encAcc v416.1, zB v416.2]) :: (65, .tup [encAcc v416.1, zB v416.2]) :: (64, zI (w64 (1 + (Int.tmod (i1 : Int) 4)))) :: (63, zI (Int.tmod (i1 : Int) 4)) :: (62, zI (i1 : Int)) :: (61, zI x10) :: (60, .agg [zI y318, zI y319, zI y320]) :: T30, (9, ⟨1, 1, true, some (encAcc v416.1)⟩) :: (9, ⟨1, 1, true, some (.agg [zI 0, zI 0, zI 0])⟩) :: B30⟩ ?_
                 rcases dich (v416.1.fBal != x10) with hb459 | hb459
                 · replace h := cond_t hb459 h
                   refine rl 91 true hb459 ?_
                   refine ro9 24 9 3 ⟨(100, zB true) :: (99, zB true) :: (98, zB true) :: (97, .tup []) :: (96, .tup []) :: (95, .tup []) :: (94, .tup []) :: (93, .tup []) :: (92, .tup []) :: (91, zB true) :: (90, zB (v416.1.fBal != x10)) :: (89, zB (v416.1.fBal != x10)) :: (88, zI x10) :: (87, zI v416.1.fBal) :: (86, .ptr 9 1 1) :: (85, zB false) :: (84, zB (v416.1.fProm != x10)) :: (83, zI x10) :: (82, zI v416.1.fProm) :: (81, .ptr 9 1 0) :: (80, zB true) :: (79, zB v416.2) :: (78, zB false) :: (77, zB (v416.2 != (decide (x10 > 0)))) :: (76, zB (decide (x10 > 0))) :: (75, zB (decide (x10 > 0))) :: (74, zI x10) :: (73, zB true) :: (72, zB (decide (x10 ≥ y318))) :: (71, zI y318) :: (70, .ptr 4 0 0) :: (69, zI x10) :: (68, zB v416.2) :: (10, zB v416.2) :: (9, .ptr 9 1 0) :: (67, zB v416.2) :: (66, encAcc v416.1) :: (59, .tup [encAcc v416.1, zB v416.2]) :: (65, .tup [encAcc v416.1, zB v416.2]) :: (64, zI (w64 (1 + (Int.tmod (i1 : Int) 4)))) :: (63, zI (Int.tmod (i1 : Int) 4)) :: (62, zI (i1 : Int)) :: (61, zI x10) :: (60, .agg [zI y318, zI y319, zI y320]) :: T30, (9, ⟨1, 1, true, some (encAcc v416.1)⟩) :: (9, ⟨1, 1, true, some (.agg [zI 0, zI 0, zI 0])⟩) :: B30⟩ ?_
                   refine cT ?_
                   refine sqr cv hn ?_
                   refine ro9 0 1 1 ⟨(2, zB false) :: (100, zB true) :: (99, zB true) :: (98, zB true) :: (97, .tup []) :: (96, .tup []) :: (95, .tup []) :: (94, .tup []) :: (93, .tup []) :: (92, .tup []) :: (91, zB true) :: (90, zB (v416.1.fBal != x10)) :: (89, zB (v416.1.fBal != x10)) :: (88, zI x10) :: (87, zI v416.1.fBal) :: (86, .ptr 9 1 1) :: (85, zB false) :: (84, zB (v416.1.fProm != x10)) :: (83, zI x10) :: (82, zI v416.1.fProm) :: (81, .ptr 9 1 0) :: (80, zB true) :: (79, zB v416.2) :: (78, zB false) :: (77, zB (v416.2 != (decide (x10 > 0)))) :: (76, zB (decide (x10 > 0))) :: (75, zB (decide (x10 > 0))) :: (74, zI x10) :: (73, zB true) :: (72, zB (decide (x10 ≥ y318))) :: (71, zI y318) :: (70, .ptr 4 0 0) :: (69, zI x10) :: (68, zB v416.2) :: (10, zB v416.2) :: (9, .ptr 9 1 0) :: (67, zB v416.2) :: (66, encAcc v416.1) :: (59, .tup [encAcc v416.1, zB v416.2]) :: (65, .tup [encAcc v416.1, zB v416.2]) :: (64, zI (w64 (1 + (Int.tmod (i1 : Int) 4)))) :: (63, zI (Int.tmod (i1 : Int) 4)) :: (62, zI (i1 : Int)) :: (61, zI x10) :: (60, .agg [zI y318, zI y319, zI y320]) :: T30, (9, ⟨1, 1, true, some (encAcc v416.1)⟩) :: (9, ⟨1, 1, true, some (.agg [zI 0, zI 0, zI 0])⟩) :: B30⟩ ?_
                   refine runs_ret ?_
                   exact fin _ _ h (by kernel_rfl)
                 · replace h := cond_f hb459 h
                   refine rl 91 false hb459 ?_
                   refine ro9 24 9 9 ⟨(100, zB (v416.1.fVal != (w64 (1 + (Int.tmod (i1 : Int) 4))))) :: (99, zB (v416.1.fVal != (w64 (1 + (Int.tmod (i1 : Int) 4))))) :: (98, zB (v416.1.fVal != (w64 (1 + (Int.tmod (i1 : Int) 4))))) :: (97, zB (v416.1.fVal != (w64 (1 + (Int.tmod (i1 : Int) 4))))) :: (96, zI (w64 (1 + (Int.tmod (i1 : Int) 4)))) :: (95, zI (Int.tmod (i1 : Int) 4)) :: (94, zI (i1 : Int)) :: (93, zI v416.1.fVal) :: (92, .ptr 9 1 2) :: (91, zB false) :: (90, zB (v416.1.fBal != x10)) :: (89, zB (v416.1.fBal != x10)) :: (88, zI x10) :: (87, zI v416.1.fBal) :: (86, .ptr 9 1 1) :: (85, zB false) :: (84, zB (v416.1.fProm != x10)) :: (83, zI x10) :: (82, zI v416.1.fProm) :: (81, .ptr 9 1 0) :: (80, zB true) :: (79, zB v416.2) :: (78, zB false) :: (77, zB (v416.2 != (decide (x10 > 0)))) :: (76, zB (decide (x10 > 0))) :: (75, zB (decide (x10 > 0))) :: (74, zI x10) :: (73, zB true) :: (72, zB (decide (x10 ≥ y318))) :: (71, zI y318) :: (70, .ptr 4 0 0) :: (69, zI x10) :: (68, zB v416.2) :: (10, zB v416.2) :: (9, .ptr 9 1 0) :: (67, zB v416.2) :: (66, encAcc v416.1) :: (59, .tup [encAcc v416.1, zB v416.2]) :: (65, .tup [encAcc v416.1, zB v416.2]) :: (64, zI (w64 (1 + (Int.tmod (i1 : Int) 4)))) :: (63, zI (Int.tmod (i1 : Int) 4)) :: (62, zI (i1 : Int)) :: (61, zI x10) :: (60, .agg [zI y318, zI y319, zI y320]) :: T30, (9, ⟨1, 1, true, some (encAcc v416.1)⟩) :: (9, ⟨1, 1, true, some (.agg [zI 0, zI 0, zI 0])⟩) :: B30⟩ ?_
                   rcases dich (v416.1.fVal != (w64 (1 + (Int.tmod (i1 : Int) 4)))) with hb460 | hb460
                   · replace h := cond_t hb460 h
                     refine ct hb460 ?_
                     refine sqr cv hn ?_
                     refine ro9 0 1 1 ⟨(2, zB false) :: (100, zB (v416.1.fVal != (w64 (1 + (Int.tmod (i1 : Int) 4))))) :: (99, zB (v416.1.fVal != (w64 (1 + (Int.tmod (i1 : Int) 4))))) :: (98, zB (v416.1.fVal != (w64 (1 + (Int.tmod (i1 : Int) 4))))) :: (97, zB (v416.1.fVal != (w64 (1 + (Int.tmod (i1 : Int) 4))))) :: (96, zI (w64 (1 + (Int.tmod (i1 : Int) 4)))) :: (95, zI (Int.tmod (i1 : Int) 4)) :: (94, zI (i1 : Int)) :: (93, zI v416.1.fVal) :: (92, .ptr 9 1 2) :: (91, zB false) :: (90, zB (v416.1.fBal != x10)) :: (89, zB (v416.1.fBal != x10)) :: (88, zI x10) :: (87, zI v416.1.fBal) :: (86, .ptr 9 1 1) :: (85, zB false) :: (84, zB (v416.1.fProm != x10)) :: (83, zI x10) :: (82, zI v416.1.fProm) :: (81, .ptr 9 1 0) :: (80, zB true) :: (79, zB v416.2) :: (78, zB false) :: (77, zB (v416.2 != (decide (x10 > 0)))) :: (76, zB (decide (x10 > 0))) :: (75, zB (decide (x10 > 0))) :: (74, zI x10) :: (73, zB true) :: (72, zB (decide (x10 ≥ y318))) :: (71, zI y318) :: (70, .ptr 4 0 0) :: (69, zI x10) :: (68, zB v416.2) :: (10, zB v416.2) :: (9, .ptr 9 1 0) :: (67, zB v416.2) :: (66, encAcc v416.1) :: (59, .tup [encAcc v416.1, zB v416.2]) :: (65, .tup [encAcc v416.1, zB v416.2]) :: (64, zI (w64 (1 + (Int.tmod (i1 : Int) 4)))) :: (63, zI (Int.tmod (i1 : Int) 4)) :: (62, zI (i1 : Int)) :: (61, zI x10) :: (60, .agg [zI y318, zI y319, zI y320]) :: T30, (9, ⟨1, 1, true, some (encAcc v416.1)⟩) :: (9, ⟨1, 1, true, some (.agg [zI 0, zI 0, zI 0])⟩) :: B30⟩ ?_
                     refine runs_ret ?_
                     exact fin _ _ h (by kernel_rfl)
                   · replace h := cond_f hb460 h
                     refine cf hb460 ?_
                     refine runs_skip ?_
                     exact ⟨(true, decide (x10 > 0), v416.2 != (decide (x10 > 0)), true, v416.1.fVal != (w64 (1 + (Int.tmod (i1 : Int) 4))), v416.1.fVal != (w64 (1 + (Int.tmod (i1 : Int) 4)))), h, wre [4, 5, 6, 7, 8, 9, 10, 17, 18, 19, 20, 21, 22, 23, 25, 26, 28, 29, 30, 31, 32, 33, 34, 35, 36, 37, 38, 57, 58, 60, 61, 62, 63, 64, 66, 67, 68, 69, 70, 71, 72, 73, 76, 77, 78, 79, 80, 99, 100] [(4, 4, false), (7, 7, false), (9, 9, false), (5000017, 5000017, false)]⟩
             · replace h := cond_f hb457 h
               refine rl 80 false hb457 ?_
               refine ro9 13 20 2 ⟨(100, zB false) :: (99, zB false) :: (98, .tup []) :: (97, .tup []) :: (96, .tup []) :: (95, .tup []) :: (94, .tup []) :: (93, .tup []) :: (92, .tup []) :: (91, .tup []) :: (90, .tup []) :: (89, .tup []) :: (88, .tup []) :: (87, .tup []) :: (86, .tup []) :: (85, .tup []) :: (84, .tup []) :: (83, .tup []) :: (82, .tup []) :: (81, .tup []) :: (80, zB false) :: (79, zB v416.2) :: (78, zB false) :: (77, zB (v416.2 != (decide (x10 > 0)))) :: (76, zB (decide (x10 > 0))) :: (75, zB (decide (x10 > 0))) :: (74, zI x10) :: (73, zB true) :: (72, zB (decide (x10 ≥ y318))) :: (71, zI y318) :: (70, .ptr 4 0 0) :: (69, zI x10) :: (68, zB v416.2) :: (10, zB v416.2) :: (9, .ptr 9 1 0) :: (67, zB v416.2) :: (66, encAcc v416.1) :: (59, .tup [encAcc v416.1, zB v416.2]) :: (65, .tup [encAcc v416.1, zB v416.2]) :: (64, zI (w64 (1 + (Int.tmod (i1 : Int) 4)))) :: (63, zI (Int.tmod (i1 : Int) 4)) :: (62, zI (i1 : Int)) :: (61, zI x10) :: (60, .agg [zI y318, zI y319, zI y320]) :: T30, (9, ⟨1, 1, true, some (encAcc v416.1)⟩) :: (9, ⟨1, 1, true, some (.agg [zI 0, zI 0, zI 0])⟩) :: B30⟩ ?_
               refine cF ?_
               refine runs_skip ?_
               exact ⟨(true, decide (x10 > 0), v416.2 != (decide (x10 > 0)), false, false, false), h, wre [4, 5, 6, 7, 8, 9, 10, 17, 18, 19, 20, 21, 22, 23, 25, 26, 28, 29, 30, 31, 32, 33, 34, 35, 36, 37, 38, 57, 58, 60, 61, 62, 63, 64, 66, 67, 68, 69, 70, 71, 72, 73, 76, 77, 78, 79, 80, 99, 100] [(4, 4, false), (7, 7, false), (9, 9, false), (5000017, 5000017, false)]⟩
         · replace h := cond_f hb455 h
           refine rl 73 false hb455 ?_
           refine ro 6 5 3 ⟨(78, zB (v416.2 != false)) :: (77, zB (v416.2 != false)) :: (76, zB false) :: (75, .tup []) :: (74, .tup []) :: (73, zB false) :: (72, zB (decide (x10 ≥ y318))) :: (71, zI y318) :: (70, .ptr 4 0 0) :: (69, zI x10) :: (68, zB v416.2) :: (10, zB v416.2) :: (9, .ptr 9 1 0) :: (67, zB v416.2) :: (66, encAcc v416.1) :: (59, .tup [encAcc v416.1, zB v416.2]) :: (65, .tup [encAcc v416.1, zB v416.2]) :: (64, zI (w64 (1 + (Int.tmod (i1 : Int) 4)))) :: (63, zI (Int.tmod (i1 : Int) 4)) :: (62, zI (i1 : Int)) :: (61, zI x10) :: (60, .agg [zI y318, zI y319, zI y320]) :: T30, (9, ⟨1, 1, true, some (encAcc v416.1)⟩) :: (9, ⟨1, 1, true, some (.agg [zI 0, zI 0, zI 0])⟩) :: B30⟩ ?_
           rcases dich (v416.2 != false) with hb461 | hb461
           · replace h := cond_t hb461 h
             refine rl 78 true hb461 ?_
             refine ro9 11 22 1 ⟨(100, zB true) :: (99, .tup []) :: (98, .tup []) :: (97, .tup []) :: (96, .tup []) :: (95, .tup []) :: (94, .tup []) :: (93, .tup []) :: (92, .tup []) :: (91, .tup []) :: (90, .tup []) :: (89, .tup []) :: (88, .tup []) :: (87, .tup []) :: (86, .tup []) :: (85, .tup []) :: (84, .tup []) :: (83, .tup []) :: (82, .tup []) :: (81, .tup []) :: (80, .tup []) :: (79, .tup []) :: (78, zB true) :: (77, zB (v416.2 != false)) :: (76, zB false) :: (75, .tup []) :: (74, .tup []) :: (73, zB false) :: (72, zB (decide (x10 ≥ y318))) :: (71, zI y318) :: (70, .ptr 4 0 0) :: (69, zI x10) :: (68, zB v416.2) :: (10, zB v416.2) :: (9, .ptr 9 1 0) :: (67, zB v416.2) :: (66, encAcc v416.1) :: (59, .tup [encAcc v416.1, zB v416.2]) :: (65, .tup [encAcc v416.1, zB v416.2]) :: (64, zI (w64 (1 + (Int.tmod (i1 : Int) 4)))) :: (63, zI (Int.tmod (i1 : Int) 4)) :: (62, zI (i1 : Int)) :: (61, zI x10) :: (60, .agg [zI y318, zI y319, zI y320]) :: T30, (9, ⟨1, 1, true, some (encAcc v416.1)⟩) :: (9, ⟨1, 1, true, some (.agg [zI 0, zI 0, zI 0])⟩) :: B30⟩ ?_
             refine cT ?_
             refine sqr cv hn ?_
             refine ro9 0 1 1 ⟨(2, zB false) :: (100, zB true) :: (99, .tup []) :: (98, .tup []) :: (97, .tup []) :: (96, .tup []) :: (95, .tup []) :: (94, .tup []) :: (93, .tup []) :: (92, .tup []) :: (91, .tup []) :: (90, .tup []) :: (89, .tup []) :: (88, .tup []) :: (87, .tup []) :: (86, .tup []) :: (85, .tup []) :: (84, .tup []) :: (83, .tup []) :: (82, .tup []) :: (81, .tup []) :: (80, .tup []) :: (79, .tup []) :: (78, zB true) :: (77, zB (v416.2 != false)) :: (76, zB false) :: (75, .tup []) :: (74, .tup []) :: (73, zB false) :: (72, zB (decide (x10 ≥ y318))) :: (71, zI y318) :: (70, .ptr 4 0 0) :: (69, zI x10) :: (68, zB v416.2) :: (10, zB v416.2) :: (9, .ptr 9 1 0) :: (67, zB v416.2) :: (66, encAcc v416.1) :: (59, .tup [encAcc v416.1, zB v416.2]) :: (65, .tup [encAcc v416.1, zB v416.2]) :: (64, zI (w64 (1 + (Int.tmod (i1 : Int) 4)))) :: (63, zI (Int.tmod (i1 : Int) 4)) :: (62, zI (i1 : Int)) :: (61, zI x10) :: (60, .agg [zI y318, zI y319, zI y320]) :: T30, (9, ⟨1, 1, true, some (encAcc v416.1)⟩) :: (9, ⟨1, 1, true, some (.agg [zI 0, zI 0, zI 0])⟩) :: B30⟩ ?_
             refine runs_ret ?_
             exact fin _ _ h (by kernel_rfl)
           · replace h := cond_f hb461 h
             refine rl 78 false hb461 ?_
             refine ro 11 2 2 ⟨(80, zB v416.2) :: (79, zB v416.2) :: (78, zB false) :: (77, zB (v416.2 != false)) :: (76, zB false) :: (75, .tup []) :: (74, .tup []) :: (73, zB false) :: (72, zB (decide (x10 ≥ y318))) :: (71, zI y318) :: (70, .ptr 4 0 0) :: (69, zI x10) :: (68, zB v416.2) :: (10, zB v416.2) :: (9, .ptr 9 1 0) :: (67, zB v416.2) :: (66, encAcc v416.1) :: (59, .tup [encAcc v416.1, zB v416.2]) :: (65, .tup [encAcc v416.1, zB v416.2]) :: (64, zI (w64 (1 + (Int.tmod (i1 : Int) 4)))) :: (63, zI (Int.tmod (i1 : Int) 4)) :: (62, zI (i1 : Int)) :: (61, zI x10) :: (60, .agg [zI y318, zI y319, zI y320]) :: T30, (9, ⟨1, 1, true, some (encAcc v416.1)⟩) :: (9, ⟨1, 1, true, some (.agg [zI 0, zI 0, zI 0])⟩) :: B30⟩ ?_
             rcases dich v416.2 with hb462 | hb462
             · replace h := cond_t hb462 h
               refine rl 80 true hb462 ?_
               refine ro 13 5 5 ⟨(85, zB (v416.1.fProm != x10)) :: (84, zB (v416.1.fProm != x10)) :: (83, zI x10) :: (82, zI v416.1.fProm) :: (81, .ptr 9 1 0) :: (80, zB true) :: (79, zB v416.2) :: (78, zB false) :: (77, zB (v416.2 != false)) :: (76, zB false) :: (75, .tup []) :: (74, .tup []) :: (73, zB false) :: (72, zB (decide (x10 ≥ y318))) :: (71, zI y318) :: (70, .ptr 4 0 0) :: (69, zI x10) :: (68, zB v416.2) :: (10, zB v416.2) :: (9, .ptr 9 1 0) :: (67, zB v416.2) :: (66, encAcc v416.1) :: (59, .tup [encAcc v416.1, zB v416.2]) :: (65, .tup [encAcc v416.1, zB v416.2]) :: (64, zI (w64 (1 + (Int.tmod (i1 : Int) 4)))) :: (63, zI (Int.tmod (i1 : Int) 4)) :: (62, zI (i1 : Int)) :: (61, zI x10) :: (60, .agg [zI y318, zI y319, zI y320]) :: T30, (9, ⟨1, 1, true, some (encAcc v416.1)⟩) :: (9, ⟨1, 1, true, some (.agg [zI 0, zI 0, zI 0])⟩) :: B30⟩ ?_
               rcases dich (v416.1.fProm != x10) with hb463 | hb463
               · replace h := cond_t hb463 h
                 refine rl 85 true hb463 ?_
                 refine ro9 18 15 5 ⟨(100, zB true) :: (99, zB true) :: (98, zB true) :: (97, .tup []) :: (96, .tup []) :: (95, .tup []) :: (94, .tup []) :: (93, .tup []) :: (92, .tup []) :: (91, zB true) :: (90, zB true) :: (89, .tup []) :: (88, .tup []) :: (87, .tup []) :: (86, .tup []) :: (85, zB true) :: (84, zB (v416.1.fProm != x10)) :: (83, zI x10) :: (82, zI v416.1.fProm) :: (81, .ptr 9 1 0) :: (80, zB true) :: (79, zB v416.2) :: (78, zB false) :: (77, zB (v416.2 != false)) :: (76, zB false) :: (75, .tup []) :: (74, .tup []) :: (73, zB false) :: (72, zB (decide (x10 ≥ y318))) :: (71, zI y318) :: (70, .ptr 4 0 0) :: (69, zI x10) :: (68, zB v416.2) :: (10, zB v416.2) :: (9, .ptr 9 1 0) :: (67, zB v416.2) :: (66, encAcc v416.1) :: (59, .tup [encAcc v416.1, zB v416.2]) :: (65, .tup [encAcc v416.1, zB v416.2]) :: (64, zI (w64 (1 + (Int.tmod (i1 : Int) 4)))) :: (63, zI (Int.tmod (i1 : Int) 4)) :: (62, zI (i1 : Int)) :: (61, zI x10) :: (60, .agg [zI y318, zI y319, zI y320]) :: T30, (9, ⟨1, 1, true, some (encAcc v416.1)⟩) :: (9, ⟨1, 1, true, some (.agg [zI 0, zI 0, zI 0])⟩) :: B30⟩ ?_
                 refine cT ?_
                 refine sqr cv hn ?_
                 refine ro9 0 1 1 ⟨(2, zB false) :: (100, zB true) :: (99, zB true) :: (98, zB true) :: (97, .tup []) :: (96, .tup []) :: (95, .tup []) :: (94, .tup []) :: (93, .tup []) :: (92, .tup []) :: (91, zB true) :: (90, zB true) :: (89, .tup []) :: (88, .tup []) :: (87, .tup []) :: (86, .tup []) :: (85, zB true) :: (84, zB (v416.1.fProm != x10)) :: (83, zI x10) :: (82, zI v416.1.fProm) :: (81, .ptr 9 1 0) :: (80, zB true) :: (79, zB v416.2) :: (78, zB false) :: (77, zB (v416.2 != false)) :: (76, zB false) :: (75, .tup []) :: (74, .tup []) :: (73, zB false) :: (72, zB (decide (x10 ≥ y318))) :: (71, zI y318) :: (70, .ptr 4 0 0) :: (69, zI x10) :: (68, zB v416.2) :: (10, zB v416.2) :: (9, .ptr 9 1 0) :: (67, zB v416.2) :: (66, encAcc v416.1) :: (59, .tup [encAcc v416.1, zB v416.2]) :: (65, .tup [encAcc v416.1, zB v416.2]) :: (64, zI (w64 (1 + (Int.tmod (i1 : Int) 4)))) :: (63, zI (Int.tmod (i1 : Int) 4)) :: (62, zI (i1 : Int)) :: (61, zI x10) :: (60, .agg [zI y318, zI y319, zI y320]) :: T30, (9, ⟨1, 1, true, some (encAcc v416.1)⟩) :: (9, ⟨1, 1, true, some (.agg [zI 0, zI 0, zI 0])⟩) :: B30⟩ ?_
                 refine runs_ret ?_
                 exact fin _ _ h (by kernel_rfl)
               · replace h := cond_f hb463 h
                 refine rl 85 false hb463 ?_
                 refine ro 18 6 6 ⟨(91, zB (v416.1.fBal != x10)) :: (90, zB (v416.1.fBal != x10)) :: (89, zB (v416.1.fBal != x10)) :: (88, zI x10) :: (87, zI v416.1.fBal) :: (86, .ptr 9 1 1) :: (85, zB false) :: (84, zB (v416.1.fProm != x10)) :: (83, zI x10) :: (82, zI v416.1.fProm) :: (81, .ptr 9 1 0) :: (80, zB true) :: (79, zB v416.2) :: (78, zB false) :: (77, zB (v416.2 != false)) :: (76, zB false) :: (75, .tup []) :: (74, .tup []) :: (73, zB false) :: (72, zB (decide (x10 ≥ y318))) :: (71, zI y318) :: (70, .ptr 4 0 0) :: (69, zI x10) :: (68, zB v416.2) :: (10, zB v416.2) :: (9, .ptr 9 1 0) :: (67, zB v416.2) :: (66, encAcc v416.1) :: (59, .tup [encAcc v416.1, zB v416.2]) :: (65, .tup [encAcc v416.1, zB v416.2]) :: (64, zI (w64 (1 + (Int.tmod (i1 : Int) 4)))) :: (63, zI (Int.tmod (i1 : Int) 4)) :: (62, zI (i1 : Int)) :: (61, zI x10) :: (60, .agg [zI y318, zI y319, zI y320]) :: T30, (9, ⟨1, 1, true, some (encAcc v416.1)⟩) :: (9, ⟨1, 1, true, some (.agg [zI 0, zI 0, zI 0])⟩) :: B30⟩ ?_
                 rcases dich (v416.1.fBal != x10) with hb464 | hb464
                 · replace h := cond_t hb464 h
                   refine rl 91 true hb464 ?_
                   refine ro9 24 9 3 ⟨(100, zB true) :: (99, zB true) :: (98, zB true) :: (97, .tup []) :: (96, .tup []) :: (95, .tup []) :: (94, .tup []) :: (93, .tup []) :: (92, .tup []) :: (91, zB true) :: (90, zB (v416.1.fBal != x10)) :: (89, zB (v416.1.fBal != x10)) :: (88, zI x10) :: (87, zI v416.1.fBal) :: (86, .ptr 9 1 1) :: (85, zB false) :: (84, zB (v416.1.fProm != x10)) :: (83, zI x10) :: (82, zI v416.1.fProm) :: (81, .ptr 9 1 0) :: (80, zB true) :: (79, zB v416.2) :: (78, zB false) :: (77, zB (v416.2 != false)) :: (76, zB false) :: (75, .tup []) :: (74, .tup []) :: (73, zB false) :: (72, zB (decide (x10 ≥ y318))) :: (71, zI y318) :: (70, .ptr 4 0 0) :: (69, zI x10) :: (68, zB v416.2) :: (10, zB v416.2) :: (9, .ptr 9 1 0) :: (67, zB v416.2) :: (66, encAcc v416.1) :: (59, .tup [encAcc v416.1, zB v416.2]) :: (65, .tup [encAcc v416.1, zB v416.2]) :: (64, zI (w64 (1 + (Int.tmod (i1 : Int) 4)))) :: (63, zI (Int.tmod (i1 : Int) 4)) :: (62, zI (i1 : Int)) :: (61, zI x10) :: (60, .agg [zI y318, zI y319, zI y320]) :: T30, (9, ⟨1, 1, true, some (encAcc v416.1)⟩) :: (9, ⟨1, 1, true, some (.agg [zI 0, zI 0, zI 0])⟩) :: B30⟩ ?_
                   refine cT ?_
                   refine sqr cv hn ?_
                   refine ro9 0 1 1 ⟨(2, zB false) :: (100, zB true) :: (99, zB true) :: (98, zB true) :: (97, .tup []) :: (96, .tup []) :: (95, .tup []) :: (94, .tup []) :: (93, .tup []) :: (92, .tup []) :: (91, zB true) :: (90, zB (v416.1.fBal != x10)) :: (89, zB (v416.1.fBal != x10)) :: (88, zI x10) :: (87, zI v416.1.fBal) :: (86, .ptr 9 1 1) :: (85, zB false) :: (84, zB (v416.1.fProm != x10)) :: (83, zI x10) :: (82, zI v416.1.fProm) :: (81, .ptr 9 1 0) :: (80, zB true) :: (79, zB v416.2) :: (78, zB false) :: (77, zB (v416.2 != false)) :: (76, zB false) :: (75, .tup []) :: (74, .tup []) :: (73, zB false) :: (72, zB (decide (x10 ≥ y318))) :: (71, zI y318) :: (70, .ptr 4 0 0) :: (69, zI x10) :: (68, zB v416.2) :: (10, zB v416.2) :: (9, .ptr 9 1 0) :: (67, zB v416.2) :: (66, encAcc v416.1) :: (59, .tup [encAcc v416.1, zB v416.2]) :: (65, .tup [encAcc v416.1, zB v416.2]) :: (64, zI (w64 (1 + (Int.tmod (i1 : Int) 4)))) :: (63, zI (Int.tmod (i1 : Int) 4)) :: (62, zI (i1 : Int)) :: (61, zI x10) :: (60, .agg [zI y318, zI y319, zI y320]) :: T30, (9, ⟨1, 1, true, some (encAcc v416.1)⟩) :: (9, ⟨1, 1, true, some (.agg [zI 0, zI 0, zI 0])⟩) :: B30⟩ ?_
                   refine runs_ret ?_
                   exact fin _ _ h (by kernel_rfl)
                 · replace h := cond_f hb464 h
                   refine rl 91 false hb464 ?_
                   refine ro9 24 9 9 ⟨(100, zB (v416.1.fVal != (w64 (1 + (Int.tmod (i1 : Int) 4))))) :: (99, zB (v416.1.fVal != (w64 (1 + (Int.tmod (i1 : Int) 4))))) :: (98, zB (v416.1.fVal != (w64 (1 + (Int.tmod (i1 : Int) 4))))) :: (97, zB (v416.1.fVal != (w64 (1 + (Int.tmod (i1 : Int) 4))))) :: (96, zI (w64 (1 + (Int.tmod (i1 : Int) 4)))) :: (95, zI (Int.tmod (i1 : Int) 4)) :: (94, zI (i1 : Int)) :: (93, zI v416.1.fVal) :: (92, .ptr 9 1 2) :: (91, zB false) :: (90, zB (v416.1.fBal != x10)) :: (89, zB (v416.1.fBal != x10)) :: (88, zI x10) :: (87, zI v416.1.fBal) :: (86, .ptr 9 1 1) :: (85, zB false) :: (84, zB (v416.1.fProm != x10)) :: (83, zI x10) :: (82, zI v416.1.fProm) :: (81, .ptr 9 1 0) :: (80, zB true) :: (79, zB v416.2) :: (78, zB false) :: (77, zB (v416.2 != false)) :: (76, zB false) :: (75, .tup []) :: (74, .tup []) :: (73, zB false) :: (72, zB (decide (x10 ≥ y318))) :: (71, zI y318) :: (70, .ptr 4 0 0) :: (69, zI x10) :: (68, zB v416.2) :: (10, zB v416.2) :: (9, .ptr 9 1 0) :: (67, zB v416.2) :: (66, encAcc v416.1) :: (59, .tup [encAcc v416.1, zB v416.2]) :: (65, .tup [encAcc v416.1, zB v416.2]) :: (64, zI (w64 (1 + (Int.tmod (i1 : Int) 4)))) :: (63, zI (Int.tmod (i1 : Int) 4)) :: (62, zI (i1 : Int)) :: (61, zI x10) :: (60, .agg [zI y318, zI y319, zI y320]) :: T30, (9, ⟨1, 1, true, some (encAcc v416.1)⟩) :: (9, ⟨1, 1, true, some (.agg [zI 0, zI 0, zI 0])⟩) :: B30⟩ ?_
                   rcases dich (v416.1.fVal != (w64 (1 + (Int.tmod (i1 : Int) 4)))) with hb465 | hb465
                   · replace h := cond_t hb465 h
                     refine ct hb465 ?_
                     refine sqr cv hn ?_
                     refine ro9 0 1 1 ⟨(2, zB false) :: (100, zB (v416.1.fVal != (w64 (1 + (Int.tmod (i1 : Int) 4))))) :: (99, zB (v416.1.fVal != (w64 (1 + (Int.tmod (i1 : Int) 4))))) :: (98, zB (v416.1.fVal != (w64 (1 + (Int.tmod (i1 : Int) 4))))) :: (97, zB (v416.1.fVal != (w64 (1 + (Int.tmod (i1 : Int) 4))))) :: (96, zI (w64 (1 + (Int.tmod (i1 : Int) 4)))) :: (95, zI (Int.tmod (i1 : Int) 4)) :: (94, zI (i1 : Int)) :: (93, zI v416.1.fVal) :: (92, .ptr 9 1 2) :: (91, zB false) :: (90, zB (v416.1.fBal != x10)) :: (89, zB (v416.1.fBal != x10)) :: (88, zI x10) :: (87, zI v416.1.fBal) :: (86, .ptr 9 1 1) :: (85, zB false) :: (84, zB (v416.1.fProm != x10)) :: (83, zI x10) :: (82, zI v416.1.fProm) :: (81, .ptr 9 1 0) :: (80, zB true) :: (79, zB v416.2) :: (78, zB false) :: (77, zB (v416.2 != false)) :: (76, zB false) :: (75, .tup []) :: (74, .tup []) :: (73, zB false) :: (72, zB (decide (x10 ≥ y318))) :: (71, zI y318) :: (70, .ptr 4 0 0) :: (69, zI x10) :: (68, zB v416.2) :: (10, zB v416.2) :: (9, .ptr 9 1 0) :: (67, zB v416.2) :: (66, encAcc v416.1) :: (59, .tup [encAcc v416.1, zB v416.2]) :: (65, .tup [encAcc v416.1, zB v416.2]) :: (64, zI (w64 (1 + (Int.tmod (i1 : Int) 4)))) :: (63, zI (Int.tmod (i1 : Int) 4)) :: (62, zI (i1 : Int)) :: (61, zI x10) :: (60, .agg [zI y318, zI y319, zI y320]) :: T30, (9, ⟨1, 1, true, some (encAcc v416.1)⟩) :: (9, ⟨1, 1, true, some (.agg [zI 0, zI 0, zI 0])⟩) :: B30⟩ ?_
                     refine runs_ret ?_
                     exact fin _ _ h (by kernel_rfl)
                   · replace h := cond_f hb465 h
                     refine cf hb465 ?_
                     refine runs_skip ?_
                     exact ⟨(false, false, v416.2 != false, true, v416.1.fVal != (w64 (1 + (Int.tmod (i1 : Int) 4))), v416.1.fVal != (w64 (1 + (Int.tmod (i1 : Int) 4)))), h, wre [4, 5, 6, 7, 8, 9, 10, 17, 18, 19, 20, 21, 22, 23, 25, 26, 28, 29, 30, 31, 32, 33, 34, 35, 36, 37, 38, 57, 58, 60, 61, 62, 63, 64, 66, 67, 68, 69, 70, 71, 72, 73, 76, 77, 78, 79, 80, 99, 100] [(4, 4, false), (7, 7, false), (9, 9, false), (5000017, 5000017, false)]⟩
             · replace h := cond_f hb462 h
               refine rl 80 false hb462 ?_
               refine ro9 13 20 2 ⟨(100, zB false) :: (99, zB false) :: (98, .tup []) :: (97, .tup []) :: (96, .tup []) :: (95, .tup []) :: (94, .tup []) :: (93, .tup []) :: (92, .tup []) :: (91, .tup []) :: (90, .tup []) :: (89, .tup []) :: (88, .tup []) :: (87, .tup []) :: (86, .tup []) :: (85, .tup []) :: (84, .tup []) :: (83, .tup []) :: (82, .tup []) :: (81, .tup []) :: (80, zB false) :: (79, zB v416.2) :: (78, zB false) :: (77, zB (v416.2 != false)) :: (76, zB false) :: (75, .tup []) :: (74, .tup []) :: (73, zB false) :: (72, zB (decide (x10 ≥ y318))) :: (71, zI y318) :: (70, .ptr 4 0 0) :: (69, zI x10) :: (68, zB v416.2) :: (10, zB v416.2) :: (9, .ptr 9 1 0) :: (67, zB v416.2) :: (66, encAcc v416.1) :: (59, .tup [encAcc v416.1, zB v416.2]) :: (65, .tup [encAcc v416.1, zB v416.2]) :: (64, zI (w64 (1 + (Int.tmod (i1 : Int) 4)))) :: (63, zI (Int.tmod (i1 : Int) 4)) :: (62, zI (i1 : Int)) :: (61, zI x10) :: (60, .agg [zI y318, zI y319, zI y320]) :: T30, (9, ⟨1, 1, true, some (encAcc v416.1)⟩) :: (9, ⟨1, 1, true, some (.agg [zI 0, zI 0, zI 0])⟩) :: B30⟩ ?_
               refine cF ?_
               refine runs_skip ?_
               exact ⟨(false, false, v416.2 != false, false, false, false), h, wre [4, 5, 6, 7, 8, 9, 10, 17, 18, 19, 20, 21, 22, 23, 25, 26, 28, 29, 30, 31, 32, 33, 34, 35, 36, 37, 38, 57, 58, 60, 61, 62, 63, 64, 66, 67, 68, 69, 70, 71, 72, 73, 76, 77, 78, 79, 80, 99, 100] [(4, 4, false), (7, 7, false), (9, 9, false), (5000017, 5000017, false)]⟩
     · skip
       refine sqr cv hn ?_
       refine ro 0 7 7 ⟨[(36, zB (v404.2 != (decide (x10 > y318)))), (35, zB (v404.2 != (decide (x10 > y318)))), (34, zB (decide (x10 > y318))), (33, zI y318), (32, .ptr 4 0 0), (31, zI x10), (30, zB v404.2), (8, zB v404.2), (7, .ptr 7 1 0), (29, zB v404.2), (28, encAcc v404.1), (24, .tup [encAcc v404.1, zB v404.2]), (27, .tup [encAcc v404.1, zB v404.2]), (26, zI x10), (25, .agg [zI y318, zI y319, zI y320]), (6, zI x10), (5, zI (i1 : Int)), (23, zI x10), (22, .ep 5000017 0 [(0, (Int.toNat (i1 : Int)))] 0), (21, zI (i1 : Int)), (20, zB (decide ((i1 : Int) < (v5.length : Int)))), (19, zI (i1 : Int)), (18, zI (v5.length : Int)), (17, .view 5000017 0 [] 0), (4, .ptr 4 0 0)], [(7, ⟨1, 1, true, some (encAcc v404.1)⟩), (7, ⟨1, 1, true, some (.agg [zI 0, zI 0, zI 0])⟩), (5000017, ⟨0, 0, false, some (.sl 1 (List.map encInt v5))⟩), (4, ⟨0, 0, true, some (.agg [zI y318, zI y319, zI y320])⟩)]⟩ ?_
       rcases dich (v404.2 != (decide (x10 > y318))) with hb466 | hb466
       · replace h := cond_t hb466 h
         refine rl 36 true hb466 ?_
         refine ro9 7 22 1 ⟨[(58, zB true), (57, .tup []), (56, .tup []), (55, .tup []), (54, .tup []), (53, .tup []), (52, .tup []), (51, .tup []), (50, .tup []), (49, .tup []), (48, .tup []), (47, .tup []), (46, .tup []), (45, .tup []), (44, .tup []), (43, .tup []), (42, .tup []), (41, .tup []), (40, .tup []), (39, .tup []), (38, .tup []), (37, .tup []), (36, zB true), (35, zB (v404.2 != (decide (x10 > y318)))), (34, zB (decide (x10 > y318))), (33, zI y318), (32, .ptr 4 0 0), (31, zI x10), (30, zB v404.2), (8, zB v404.2), (7, .ptr 7 1 0), (29, zB v404.2), (28, encAcc v404.1), (24, .tup [encAcc v404.1, zB v404.2]), (27, .tup [encAcc v404.1, zB v404.2]), (26, zI x10), (25, .agg [zI y318, zI y319, zI y320]), (6, zI x10), (5, zI (i1 : Int)), (23, zI x10), (22, .ep 5000017 0 [(0, (Int.toNat (i1 : Int)))] 0), (21, zI (i1 : Int)), (20, zB (decide ((i1 : Int) < (v5.length : Int)))), (19, zI (i1 : Int)), (18, zI (v5.length : Int)), (17, .view 5000017 0 [] 0), (4, .ptr 4 0 0)], [(7, ⟨1, 1, true, some (encAcc v404.1)⟩), (7, ⟨1, 1, true, some (.agg [zI 0, zI 0, zI 0])⟩), (5000017, ⟨0, 0, false, some (.sl 1 (List.map encInt v5))⟩), (4, ⟨0, 0, true, some (.agg [zI y318, zI y319, zI y320])⟩)]⟩ ?_
         refine cT ?_
         refine sqr cv hn ?_
         refine ro9 0 1 1 ⟨[(2, zB false), (58, zB true), (57, .tup []), (56, .tup []), (55, .tup []), (54, .tup []), (53, .tup []), (52, .tup []), (51, .tup []), (50, .tup []), (49, .tup []), (48, .tup []), (47, .tup []), (46, .tup []), (45, .tup []), (44, .tup []), (43, .tup []), (42, .tup []), (41, .tup []), (40, .tup []), (39, .tup []), (38, .tup []), (37, .tup []), (36, zB true), (35, zB (v404.2 != (decide (x10 > y318)))), (34, zB (decide (x10 > y318))), (33, zI y318), (32, .ptr 4 0 0), (31, zI x10), (30, zB v404.2), (8, zB v404.2), (7, .ptr 7 1 0), (29, zB v404.2), (28, encAcc v404.1), (24, .tup [encAcc v404.1, zB v404.2]), (27, .tup [encAcc v404.1, zB v404.2]), (26, zI x10), (25, .agg [zI y318, zI y319, zI y320]), (6, zI x10), (5, zI (i1 : Int)), (23, zI x10), (22, .ep 5000017 0 [(0, (Int.toNat (i1 : Int)))] 0), (21, zI (i1 : Int)), (20, zB (decide ((i1 : Int) < (v5.length : Int)))), (19, zI (i1 : Int)), (18, zI (v5.length : Int)), (17, .view 5000017 0 [] 0), (4, .ptr 4 0 0)], [(7, ⟨1, 1, true, some (encAcc v404.1)⟩), (7, ⟨1, 1, true, some (.agg [zI 0, zI 0, zI 0])⟩), (5000017, ⟨0, 0, false, some (.sl 1 (List.map encInt v5))⟩), (4, ⟨0, 0, true, some (.agg [zI y318, zI y319, zI y320])⟩)]⟩ ?_
         refine runs_ret ?_
         exact fin _ _ h (by kernel_rfl)
       · replace h := cond_f hb466 h
         refine rl 36 false hb466 ?_
         refine ro 7 2 2 ⟨[(38, zB v404.2), (37, zB v404.2), (36, zB false), (35, zB (v404.2 != (decide (x10 > y318)))), (34, zB (decide (x10 > y318))), (33, zI y318), (32, .ptr 4 0 0), (31, zI x10), (30, zB v404.2), (8, zB v404.2), (7, .ptr 7 1 0), (29, zB v404.2), (28, encAcc v404.1), (24, .tup [encAcc v404.1, zB v404.2]), (27, .tup [encAcc v404.1, zB v404.2]), (26, zI x10), (25, .agg [zI y318, zI y319, zI y320]), (6, zI x10), (5, zI (i1 : Int)), (23, zI x10), (22, .ep 5000017 0 [(0, (Int.toNat (i1 : Int)))] 0), (21, zI (i1 : Int)), (20, zB (decide ((i1 : Int) < (v5.length : Int)))), (19, zI (i1 : Int)), (18, zI (v5.length : Int)), (17, .view 5000017 0 [] 0), (4, .ptr 4 0 0)], [(7, ⟨1, 1, true, some (encAcc v404.1)⟩), (7, ⟨1, 1, true, some (.agg [zI 0, zI 0, zI 0])⟩), (5000017, ⟨0, 0, false, some (.sl 1 (List.map encInt v5))⟩), (4, ⟨0, 0, true, some (.agg [zI y318, zI y319, zI y320])⟩)]⟩ ?_
         rcases dich v404.2 with hb467 | hb467
         · replace h := cond_t hb467 h
           refine rl 38 true hb467 ?_
           refine ro 9 5 5 ⟨[(43, zB (v404.1.fProm != x10)), (42, zB (v404.1.fProm != x10)), (41, zI x10), (40, zI v404.1.fProm), (39, .ptr 7 1 0), (38, zB true), (37, zB v404.2), (36, zB false), (35, zB (v404.2 != (decide (x10 > y318)))), (34, zB (decide (x10 > y318))), (33, zI y318), (32, .ptr 4 0 0), (31, zI x10), (30, zB v404.2), (8, zB v404.2), (7, .ptr 7 1 0), (29, zB v404.2), (28, encAcc v404.1), (24, .tup [encAcc v404.1, zB v404.2]), (27, .tup [encAcc v404.1, zB v404.2]), (26, zI x10), (25, .agg [zI y318, zI y319, zI y320]), (6, zI x10), (5, zI (i1 : Int)), (23, zI x10), (22, .ep 5000017 0 [(0, (Int.toNat (i1 : Int)))] 0), (21, zI (i1 : Int)), (20, zB (decide ((i1 : Int) < (v5.length : Int)))), (19, zI (i1 : Int)), (18, zI (v5.length : Int)), (17, .view 5000017 0 [] 0), (4, .ptr 4 0 0)], [(7, ⟨1, 1, true, some (encAcc v404.1)⟩), (7, ⟨1, 1, true, some (.agg [zI 0, zI 0, zI 0])⟩), (5000017, ⟨0, 0, false, some (.sl 1 (List.map encInt v5))⟩), (4, ⟨0, 0, true, some (.agg [zI y318, zI y319, zI y320])⟩)]⟩ ?_
           rcases dich (v404.1.fProm != x10) with hb468 | hb468
           · replace h := cond_t hb468 h
             refine rl 43 true hb468 ?_
             refine ro9 14 15 5 ⟨[(58, zB true), (57, zB true), (56, zB true), (55, .tup []), (54, .tup []), (53, .tup []), (52, .tup []), (51, .tup []), (50, zB true), (49, zB true), (48, .tup []), (47, .tup []), (46, .tup []), (45, .tup []), (44, .tup []), (43, zB true), (42, zB (v404.1.fProm != x10)), (41, zI x10), (40, zI v404.1.fProm), (39, .ptr 7 1 0), (38, zB true), (37, zB v404.2), (36, zB false), (35, zB (v404.2 != (decide (x10 > y318)))), (34, zB (decide (x10 > y318))), (33, zI y318), (32, .ptr 4 0 0), (31, zI x10), (30, zB v404.2), (8, zB v404.2), (7, .ptr 7 1 0), (29, zB v404.2), (28, encAcc v404.1), (24, .tup [encAcc v404.1, zB v404.2]), (27, .tup [encAcc v404.1, zB v404.2]), (26, zI x10), (25, .agg [zI y318, zI y319, zI y320]), (6, zI x10), (5, zI (i1 : Int)), (23, zI x10), (22, .ep 5000017 0 [(0, (Int.toNat (i1 : Int)))] 0), (21, zI (i1 : Int)), (20, zB (decide ((i1 : Int) < (v5.length : Int)))), (19, zI (i1 : Int)), (18, zI (v5.length : Int)), (17, .view 5000017 0 [] 0), (4, .ptr 4 0 0)], [(7, ⟨1, 1, true, some (encAcc v404.1)⟩), (7, ⟨1, 1, true, some (.agg [zI 0, zI 0, zI 0])⟩), (5000017, ⟨0, 0, false, some (.sl 1 (List.map encInt v5))⟩), (4, ⟨0, 0, true, some (.agg [zI y318, zI y319, zI y320])⟩)]⟩ ?_
             refine cT ?_
             refine sqr cv hn ?_
             refine ro9 0 1 1 ⟨[(2, zB false), (58, zB true), (57, zB true), (56, zB true), (55, .tup []), (54, .tup []), (53, .tup []), (52, .tup []), (51, .tup []), (50, zB true), (49, zB true), (48, .tup []), (47, .tup []), (46, .tup []), (45, .tup []), (44, .tup []), (43, zB true), (42, zB (v404.1.fProm != x10)), (41, zI x10), (40, zI v404.1.fProm), (39, .ptr 7 1 0), (38, zB true), (37, zB v404.2), (36, zB false), (35, zB (v404.2 != (decide (x10 > y318)))), (34, zB (decide (x10 > y318))), (33, zI y318), (32, .ptr 4 0 0), (31, zI x10), (30, zB v404.2), (8, zB v404.2), (7, .ptr 7 1 0), (29, zB v404.2), (28, encAcc v404.1), (24, .tup [encAcc v404.1, zB v404.2]), (27, .tup [encAcc v404.1, zB v404.2]), (26, zI x10), (25, .agg [zI y318, zI y319, zI y320]), (6, zI x10), (5, zI (i1 : Int)), (23, zI x10), (22, .ep 5000017 0 [(0, (Int.toNat (i1 : Int)))] 0), (21, zI (i1 : Int)), (20, zB (decide ((i1 : Int) < (v5.length : Int)))), (19, zI (i1 : Int)), (18, zI (v5.length : Int)), (17, .view 5000017 0 [] 0), (4, .ptr 4 0 0)], [(7, ⟨1, 1, true, some (encAcc v404.1)⟩), (7, ⟨1, 1, true, some (.agg [zI 0, zI 0, zI 0])⟩), (5000017, ⟨0, 0, false, some (.sl 1 (List.map encInt v5))⟩), (4, ⟨0, 0, true, some (.agg [zI y318, zI y319, zI y320])⟩)]⟩ ?_
             refine runs_ret ?_
             exact fin _ _ h (by kernel_rfl)
           · replace h := cond_f hb468 h
             refine rl 43 false hb468 ?_
             refine ro 14 7 7 ⟨[(50, zB (v404.1.fBal != y319)), (49, zB (v404.1.fBal != y319)), (48, zB (v404.1.fBal != y319)), (47, zI y319), (46, .ptr 4 0 1), (45, zI v404.1.fBal), (44, .ptr 7 1 1), (43, zB false), (42, zB (v404.1.fProm != x10)), (41, zI x10), (40, zI v404.1.fProm), (39, .ptr 7 1 0), (38, zB true), (37, zB v404.2), (36, zB false), (35, zB (v404.2 != (decide (x10 > y318)))), (34, zB (decide (x10 > y318))), (33, zI y318), (32, .ptr 4 0 0), (31, zI x10), (30, zB v404.2), (8, zB v404.2), (7, .ptr 7 1 0), (29, zB v404.2), (28, encAcc v404.1), (24, .tup [encAcc v404.1, zB v404.2]), (27, .tup [encAcc v404.1, zB v404.2]), (26, zI x10), (25, .agg [zI y318, zI y319, zI y320]), (6, zI x10), (5, zI (i1 : Int)), (23, zI x10), (22, .ep 5000017 0 [(0, (Int.toNat (i1 : Int)))] 0), (21, zI (i1 : Int)), (20, zB (decide ((i1 : Int) < (v5.length : Int)))), (19, zI (i1 : Int)), (18, zI (v5.length : Int)), (17, .view 5000017 0 [] 0), (4, .ptr 4 0 0)], [(7, ⟨1, 1, true, some (encAcc v404.1)⟩), (7, ⟨1, 1, true, some (.agg [zI 0, zI 0, zI 0])⟩), (5000017, ⟨0, 0, false, some (.sl 1 (List.map encInt v5))⟩), (4, ⟨0, 0, true, some (.agg [zI y318, zI y319, zI y320])⟩)]⟩ ?_
             rcases dich (v404.1.fBal != y319) with hb469 | hb469
             · replace h := cond_t hb469 h
               refine rl 50 true hb469 ?_
               refine ro9 21 8 3 ⟨[(58, zB true), (57, zB true), (56, zB true), (55, .tup []), (54, .tup []), (53, .tup []), (52, .tup []), (51, .tup []), (50, zB true), (49, zB (v404.1.fBal != y319)), (48, zB (v404.1.fBal != y319)), (47, zI y319), (46, .ptr 4 0 1), (45, zI v404.1.fBal), (44, .ptr 7 1 1), (43, zB false), (42, zB (v404.1.fProm != x10)), (41, zI x10), (40, zI v404.1.fProm), (39, .ptr 7 1 0), (38, zB true), (37, zB v404.2), (36, zB false), (35, zB (v404.2 != (decide (x10 > y318)))), (34, zB (decide (x10 > y318))), (33, zI y318), (32, .ptr 4 0 0), (31, zI x10), (30, zB v404.2), (8, zB v404.2), (7, .ptr 7 1 0), (29, zB v404.2), (28, encAcc v404.1), (24, .tup [encAcc v404.1, zB v404.2]), (27, .tup [encAcc v404.1, zB v404.2]), (26, zI x10), (25, .agg [zI y318, zI y319, zI y320]), (6, zI x10), (5, zI (i1 : Int)), (23, zI x10), (22, .ep 5000017 0 [(0, (Int.toNat (i1 : Int)))] 0), (21, zI (i1 : Int)), (20, zB (decide ((i1 : Int) < (v5.length : Int)))), (19, zI (i1 : Int)), (18, zI (v5.length : Int)), (17, .view 5000017 0 [] 0), (4, .ptr 4 0 0)], [(7, ⟨1, 1, true, some (encAcc v404.1)⟩), (7, ⟨1, 1, true, some (.agg [zI 0, zI 0, zI 0])⟩), (5000017, ⟨0, 0, false, some (.sl 1 (List.map encInt v5))⟩), (4, ⟨0, 0, true, some (.agg [zI y318, zI y319, zI y320])⟩)]⟩ ?_
               refine cT ?_
               refine sqr cv hn ?_
               refine ro9 0 1 1 ⟨[(2, zB false), (58, zB true), (57, zB true), (56, zB true), (55, .tup []), (54, .tup []), (53, .tup []), (52, .tup []), (51, .tup []), (50, zB true), (49, zB (v404.1.fBal != y319)), (48, zB (v404.1.fBal != y319)), (47, zI y319), (46, .ptr 4 0 1), (45, zI v404.1.fBal), (44, .ptr 7 1 1), (43, zB false), (42, zB (v404.1.fProm != x10)), (41, zI x10), (40, zI v404.1.fProm), (39, .ptr 7 1 0), (38, zB true), (37, zB v404.2), (36, zB false), (35, zB (v404.2 != (decide (x10 > y318)))), (34, zB (decide (x10 > y318))), (33, zI y318), (32, .ptr 4 0 0), (31, zI x10), (30, zB v404.2), (8, zB v404.2), (7, .ptr 7 1 0), (29, zB v404.2), (28, encAcc v404.1), (24, .tup [encAcc v404.1, zB v404.2]), (27, .tup [encAcc v404.1, zB v404.2]), (26, zI x10), (25, .agg [zI y318, zI y319, zI y320]), (6, zI x10), (5, zI (i1 : Int)), (23, zI x10), (22, .ep 5000017 0 [(0, (Int.toNat (i1 : Int)))] 0), (21, zI (i1 : Int)), (20, zB (decide ((i1 : Int) < (v5.length : Int)))), (19, zI (i1 : Int)), (18, zI (v5.length : Int)), (17, .view 5000017 0 [] 0), (4, .ptr 4 0 0)], [(7, ⟨1, 1, true, some (encAcc v404.1)⟩), (7, ⟨1, 1, true, some (.agg [zI 0, zI 0, zI 0])⟩), (5000017, ⟨0, 0, false, some (.sl 1 (List.map encInt v5))⟩), (4, ⟨0, 0, true, some (.agg [zI y318, zI y319, zI y320])⟩)]⟩ ?_
               refine runs_ret ?_
               exact fin _ _ h (by kernel_rfl)
             · replace h := cond_f hb469 h
               refine rl 50 false hb469 ?_
               refine ro9 21 8 8 ⟨[(58, zB (v404.1.fVal != y320)), (57, zB (v404.1.fVal != y320)), (56, zB (v404.1.fVal != y320)), (55, zB (v404.1.fVal != y320)), (54, zI y320), (53, .ptr 4 0 2), (52, zI v404.1.fVal), (51, .ptr 7 1 2), (50, zB false), (49, zB (v404.1.fBal != y319)), (48, zB (v404.1.fBal != y319)), (47, zI y319), (46, .ptr 4 0 1), (45, zI v404.1.fBal), (44, .ptr 7 1 1), (43, zB false), (42, zB (v404.1.fProm != x10)), (41, zI x10), (40, zI v404.1.fProm), (39, .ptr 7 1 0), (38, zB true), (37, zB v404.2), (36, zB false), (35, zB (v404.2 != (decide (x10 > y318)))), (34, zB (decide (x10 > y318))), (33, zI y318), (32, .ptr 4 0 0), (31, zI x10), (30, zB v404.2), (8, zB v404.2), (7, .ptr 7 1 0), (29, zB v404.2), (28, encAcc v404.1), (24, .tup [encAcc v404.1, zB v404.2]), (27, .tup [encAcc v404.1, zB v404.2]), (26, zI x10), (25, .agg [zI y318, zI y319, zI y320]), (6, zI x10), (5, zI (i1 : Int)), (23, zI x10), (22, .ep 5000017 0 [(0, (Int.toNat (i1 : Int)))] 0), (21, zI (i1 : Int)), (20, zB (decide ((i1 : Int) < (v5.length : Int)))), (19, zI (i1 : Int)), (18, zI (v5.length : Int)), (17, .view 5000017 0 [] 0), (4, .ptr 4 0 0)], [(7, ⟨1, 1, true, some (encAcc v404.1)⟩), (7, ⟨1, 1, true, some (.agg [zI 0, zI 0, zI 0])⟩), (5000017, ⟨0, 0, false, some (.sl 1 (List.map encInt v5))⟩), (4, ⟨0, 0, true, some (.agg [zI y318, zI y319, zI y320])⟩)]⟩ ?_
               rcases dich (v404.1.fVal != y320) with hb470 | hb470
               · replace h := cond_t hb470 h
                 refine ct hb470 ?_
                 refine sqr cv hn ?_
                 refine ro9 0 1 1 ⟨[(2, zB false), (58, zB (v404.1.fVal != y320)), (57, zB (v404.1.fVal != y320)), (56, zB (v404.1.fVal != y320)), (55, zB (v404.1.fVal != y320)), (54, zI y320), (53, .ptr 4 0 2), (52, zI v404.1.fVal), (51, .ptr 7 1 2), (50, zB false), (49, zB (v404.1.fBal != y319)), (48, zB (v404.1.fBal != y319)), (47, zI y319), (46, .ptr 4 0 1), (45, zI v404.1.fBal), (44, .ptr 7 1 1), (43, zB false), (42, zB (v404.1.fProm != x10)), (41, zI x10), (40, zI v404.1.fProm), (39, .ptr 7 1 0), (38, zB true), (37, zB v404.2), (36, zB false), (35, zB (v404.2 != (decide (x10 > y318)))), (34, zB (decide (x10 > y318))), (33, zI y318), (32, .ptr 4 0 0), (31, zI x10), (30, zB v404.2), (8, zB v404.2), (7, .ptr 7 1 0), (29, zB v404.2), (28, encAcc v404.1), (24, .tup [encAcc v404.1, zB v404.2]), (27, .tup [encAcc v404.1, zB v404.2]), (26, zI x10), (25, .agg [zI y318, zI y319, zI y320]), (6, zI x10), (5, zI (i1 : Int)), (23, zI x10), (22, .ep 5000017 0 [(0, (Int.toNat (i1 : Int)))] 0), (21, zI (i1 : Int)), (20, zB (decide ((i1 : Int) < (v5.length : Int)))), (19, zI (i1 : Int)), (18, zI (v5.length : Int)), (17, .view 5000017 0 [] 0), (4, .ptr 4 0 0)], [(7, ⟨1, 1, true, some (encAcc v404.1)⟩), (7, ⟨1, 1, true, some (.agg [zI 0, zI 0, zI 0])⟩), (5000017, ⟨0, 0, false, some (.sl 1 (List.map encInt v5))⟩), (4, ⟨0, 0, true, some (.agg [zI y318, zI y319, zI y320])⟩)]⟩ ?_
                 refine runs_ret ?_
                 exact fin _ _ h (by kernel_rfl)
               · replace h := cond_f hb470 h
                 refine cf hb470 ?_
                 refine runs_skip ?_
                 exact ⟨(true, v404.1.fVal != y320, v404.1.fVal != y320), h, wre [4, 5, 6, 7, 8, 17, 18, 19, 20, 21, 22, 23, 25, 26, 28, 29, 30, 31, 32, 33, 34, 35, 36, 37, 38, 57, 58] [(4, 4, false), (7, 7, false), (5000017, 5000017, false)]⟩
         · replace h := cond_f hb467 h
           refine rl 38 false hb467 ?_
           refine ro9 9 20 2 ⟨[(58, zB false), (57, zB false), (56, .tup []), (55, .tup []), (54, .tup []), (53, .tup []), (52, .tup []), (51, .tup []), (50, .tup []), (49, .tup []), (48, .tup []), (47, .tup []), (46, .tup []), (45, .tup []), (44, .tup []), (43, .tup []), (42, .tup []), (41, .tup []), (40, .tup []), (39, .tup []), (38, zB false), (37, zB v404.2), (36, zB false), (35, zB (v404.2 != (decide (x10 > y318)))), (34, zB (decide (x10 > y318))), (33, zI y318), (32, .ptr 4 0 0), (31, zI x10), (30, zB v404.2), (8, zB v404.2), (7, .ptr 7 1 0), (29, zB v404.2), (28, encAcc v404.1), (24, .tup [encAcc v404.1, zB v404.2]), (27, .tup [encAcc v404.1, zB v404.2]), (26, zI x10), (25, .agg [zI y318, zI y319, zI y320]), (6, zI x10), (5, zI (i1 : Int)), (23, zI x10), (22, .ep 5000017 0 [(0, (Int.toNat (i1 : Int)))] 0), (21, zI (i1 : Int)), (20, zB (decide ((i1 : Int) < (v5.length : Int)))), (19, zI (i1 : Int)), (18, zI (v5.length : Int)), (17, .view 5000017 0 [] 0), (4, .ptr 4 0 0)], [(7, ⟨1, 1, true, some (encAcc v404.1)⟩), (7, ⟨1, 1, true, some (.agg [zI 0, zI 0, zI 0])⟩), (5000017, ⟨0, 0, false, some (.sl 1 (List.map encInt v5))⟩), (4, ⟨0, 0, true, some (.agg [zI y318, zI y319, zI y320])⟩)]⟩ ?_
           refine cF ?_
           refine runs_skip ?_
           exact ⟨(false, false, false), h, wre [4, 5, 6, 7, 8, 17, 18, 19, 20, 21, 22, 23, 25, 26, 28, 29, 30, 31, 32, 33, 34, 35, 36, 37, 38, 57, 58] [(4, 4, false), (7, 7, false), (5000017, 5000017, false)]⟩

end Go.Proofs.Yteolobihfindjaa
