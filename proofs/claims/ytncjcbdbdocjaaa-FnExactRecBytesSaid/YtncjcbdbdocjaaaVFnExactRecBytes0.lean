/- The walks: each Go function answers what its plain function says. -/
import Derived.Test.YtncjcbdbdocjaaaUFnExactRecBytes
import Derived.Test.YtncjcbdbdocjaaaProg
set_option linter.unusedVariables false
namespace Go.Proofs.Ytncjcbdbdocjaaa
open Go Ax
abbrev cv : Nat → Option Nat := fun g => bif g == 82 then some 0 else bif g == 46 then some 0 else bif g == 83 then some 0 else bif g == 40 then some 0 else bif g == 30 then some 0 else bif g == 97 then some 0 else bif g == 98 then some 0 else bif g == 113 then some 0 else bif g == 63 then some 0 else none
theorem mixed : Try.prog.follows .mixedOrders = true := by decide +kernel
theorem eqok67 : EqOK Try.prog 67 := eqok_of (by kernel_rfl) (by kernel_rfl)
theorem eqok69 : EqOK Try.prog 69 := eqok_of (by kernel_rfl) (by kernel_rfl)

set_option maxRecDepth 100000 in
set_option maxHeartbeats 2000000 in
theorem spec_l01In_spec (a0 : Int) (a1 : Int) (a2 : Int) (v0 : Bool) (h : spec_l01In a0 a1 a2 = some v0) : Ax.Spec Try.prog 87 none [zI a0, zI a1, zI a2] (zB v0 : X) (.junk : X) := by
 let T1 : List (Nat × X) := [(0, zI a0), (1, zI a1), (2, zI a2)]
 refine walk0 (fn := Try.f87) (fun q0 : Bool => (zB q0 : X)) (fun q0 : Bool => (.junk : X)) v0 ⟨T1, []⟩ Try.func87 rfl (by decide +kernel) fun Γ hn fin => ?_
 rw [spec_l01In] at h
 refine sqr cv hn ?_
 refine ro9 0 1 1 ⟨(6, zB false) :: T1, []⟩ ?_
 refine sqr cv hn ?_
 refine ro 0 4 4 ⟨(10, zB (decide (a0 ≥ a1))) :: (9, zB (decide (a0 ≥ a1))) :: (8, zI a1) :: (7, zI a0) :: (6, zB false) :: T1, []⟩ ?_
 rcases dich (decide (a0 ≥ a1)) with hb1 | hb1
 · replace h := cond_t hb1 h
   refine rl 10 true hb1 ?_
   refine ro9 4 5 5 ⟨(6, zB (decide (a0 ≤ a2))) :: (14, zB (decide (a0 ≤ a2))) :: (13, zB (decide (a0 ≤ a2))) :: (12, zI a2) :: (11, zI a0) :: (10, zB true) :: (9, zB (decide (a0 ≥ a1))) :: (8, zI a1) :: (7, zI a0) :: (6, zB false) :: T1, []⟩ ?_
   refine runs_ret ?_
   exact fin _ _ h (by kernel_rfl)
 · replace h := cond_f hb1 h
   refine rl 10 false hb1 ?_
   refine ro9 4 5 2 ⟨(6, zB false) :: (14, zB false) :: (13, .tup []) :: (12, .tup []) :: (11, .tup []) :: (10, zB false) :: (9, zB (decide (a0 ≥ a1))) :: (8, zI a1) :: (7, zI a0) :: (6, zB false) :: T1, []⟩ ?_
   refine runs_ret ?_
   exact fin _ _ h (by kernel_rfl)

set_option maxRecDepth 100000 in
set_option maxHeartbeats 2000000 in
theorem spec_IsAmt_spec (a0 : Int) (v0 : Bool) (h : spec_IsAmt a0 = some v0) : Ax.Spec Try.prog 74 none [zI a0] (zB v0 : X) (.junk : X) := by
 refine walk0 (fn := Try.f74) (fun q0 : Bool => (zB q0 : X)) (fun q0 : Bool => (.junk : X)) v0 ⟨[(0, zI a0)], []⟩ Try.func74 rfl (by decide +kernel) fun Γ hn fin => ?_
 rw [spec_IsAmt] at h
 refine sqr cv hn ?_
 refine ro9 0 1 1 ⟨[(2, zB false), (0, zI a0)], []⟩ ?_
 refine sqr cv hn ?_
 refine ro 0 1 1 ⟨[(3, zI a0), (2, zB false), (0, zI a0)], []⟩ ?_
 obtain ⟨v1, hv2, h⟩ := bindO h
 refine rc 1 ⟨[(4, zB v1), (3, zI a0), (2, zB false), (0, zI a0)], []⟩ (spec_l01In_spec a0 1 1000000000 v1 hv2) ?_
 refine ro9 2 1 1 ⟨[(2, zB v1), (4, zB v1), (3, zI a0), (2, zB false), (0, zI a0)], []⟩ ?_
 refine runs_ret ?_
 exact fin _ _ h (by kernel_rfl)

set_option maxRecDepth 100000 in
set_option maxHeartbeats 2000000 in
theorem spec_l07Node_spec (a0 : Int) (v0 : Bool) (h : spec_l07Node a0 = some v0) : Ax.Spec Try.prog 86 none [zI a0] (zB v0 : X) (.junk : X) := by
 refine walk0 (fn := Try.f86) (fun q0 : Bool => (zB q0 : X)) (fun q0 : Bool => (.junk : X)) v0 ⟨[(0, zI a0)], []⟩ Try.func86 rfl (by decide +kernel) fun Γ hn fin => ?_
 rw [spec_l07Node] at h
 refine sqr cv hn ?_
 refine ro9 0 1 1 ⟨[(2, zB false), (0, zI a0)], []⟩ ?_
 refine sqr cv hn ?_
 refine ro 0 1 1 ⟨[(3, zI a0), (2, zB false), (0, zI a0)], []⟩ ?_
 obtain ⟨v1, hv2, h⟩ := bindO h
 refine rc 1 ⟨[(4, zB v1), (3, zI a0), (2, zB false), (0, zI a0)], []⟩ (spec_l01In_spec a0 0 3 v1 hv2) ?_
 refine ro9 2 1 1 ⟨[(2, zB v1), (4, zB v1), (3, zI a0), (2, zB false), (0, zI a0)], []⟩ ?_
 refine runs_ret ?_
 exact fin _ _ h (by kernel_rfl)

set_option maxRecDepth 100000 in
set_option maxHeartbeats 2000000 in
theorem spec_l01Num_spec (a0 : Int) (v0 : Bool) (h : spec_l01Num a0 = some v0) : Ax.Spec Try.prog 100 none [zI a0] (zB v0 : X) (.junk : X) := by
 refine walk0 (fn := Try.f100) (fun q0 : Bool => (zB q0 : X)) (fun q0 : Bool => (.junk : X)) v0 ⟨[(0, zI a0)], []⟩ Try.func100 rfl (by decide +kernel) fun Γ hn fin => ?_
 rw [spec_l01Num] at h
 refine sqr cv hn ?_
 refine ro9 0 1 1 ⟨[(2, zB false), (0, zI a0)], []⟩ ?_
 refine sqr cv hn ?_
 refine ro 0 1 1 ⟨[(3, zI a0), (2, zB false), (0, zI a0)], []⟩ ?_
 obtain ⟨v1, hv2, h⟩ := bindO h
 refine rc 1 ⟨[(4, zB v1), (3, zI a0), (2, zB false), (0, zI a0)], []⟩ (spec_l01In_spec a0 0 1125899906842624 v1 hv2) ?_
 refine ro9 2 1 1 ⟨[(2, zB v1), (4, zB v1), (3, zI a0), (2, zB false), (0, zI a0)], []⟩ ?_
 refine runs_ret ?_
 exact fin _ _ h (by kernel_rfl)

set_option maxRecDepth 100000 in
set_option maxHeartbeats 2000000 in
theorem spec_l10Has_spec (a0 : Int) (v0 : Bool × Bool × Bool × Bool) (h : spec_l10Has a0 = some v0) : Ax.Spec Try.prog 117 none [zI a0] (.tup [zB v0.1, zB v0.2.1, zB v0.2.2.1, zB v0.2.2.2] : X) (.junk : X) := by
 refine walk0 (fn := Try.f117) (fun q0 : Bool × Bool × Bool × Bool => (.tup [zB q0.1, zB q0.2.1, zB q0.2.2.1, zB q0.2.2.2] : X)) (fun q0 : Bool × Bool × Bool × Bool => (.junk : X)) v0 ⟨[(0, zI a0)], []⟩ Try.func117 rfl (by decide +kernel) fun Γ hn fin => ?_
 rw [spec_l10Has] at h
 refine sqr cv hn ?_
 refine ro9 0 4 4 ⟨[(5, zB false), (4, zB false), (3, zB false), (2, zB false), (0, zI a0)], []⟩ ?_
 refine runs_seqJ (σ := Bool) (fun s => ⟨[(0, zI a0), (6, zB s)], []⟩) (fun s => spec_l10Has_j1 a0 s = some v0) ?_ ?_
 · rintro y2 h
   rw [spec_l10Has_j1] at h
   refine seq0 ⟨[(0, zI a0), (6, zB y2)], []⟩ ?_
   refine runs_seqJ (σ := Bool) (fun s => ⟨[(0, zI a0), (6, zB y2), (7, zB s)], []⟩) (fun s => spec_l10Has_j2 a0 y2 s = some v0) ?_ ?_
   · rintro y8 h
     rw [spec_l10Has_j2] at h
     let T3 : List (Nat × X) := [(0, zI a0), (6, zB y2), (7, zB y8)]
     refine seq0 ⟨T3, []⟩ ?_
     refine sqr cv hn ?_
     refine ro9 0 10 10 ⟨(5, zB (a0 != 9)) :: (4, zB y8) :: (3, zB (a0 == 4)) :: (2, zB y2) :: (41, zB (a0 != 9)) :: (40, zI a0) :: (39, zB y8) :: (38, zB (a0 == 4)) :: (37, zI a0) :: (36, zB y2) :: T3, []⟩ ?_
     refine runs_ret ?_
     exact fin _ _ h (by kernel_rfl)
   · skip
     refine rg cv hn ?_
     refine ro 0 3 3 ⟨[(16, zB (a0 == 3)), (15, zB (a0 == 3)), (14, zI a0), (0, zI a0), (6, zB y2)], []⟩ ?_
     rcases dich (a0 == 3) with hb9 | hb9
     · replace h := cond_t hb9 h
       refine rl 16 true hb9 ?_
       refine ro9 3 20 10 ⟨[(7, zB true), (35, zB true), (34, .tup []), (33, .tup []), (32, zB true), (31, zB true), (30, .tup []), (29, .tup []), (28, zB true), (27, zB true), (26, .tup []), (25, .tup []), (24, zB true), (23, zB true), (22, .tup []), (21, .tup []), (20, zB true), (19, zB true), (18, .tup []), (17, .tup []), (16, zB true), (15, zB (a0 == 3)), (14, zI a0), (0, zI a0), (6, zB y2)], []⟩ ?_
       exact ⟨(true), h, wre [0, 6, 7] []⟩
     · replace h := cond_f hb9 h
       refine rl 16 false hb9 ?_
       refine ro 3 4 4 ⟨[(20, zB (a0 == 4)), (19, zB (a0 == 4)), (18, zB (a0 == 4)), (17, zI a0), (16, zB false), (15, zB (a0 == 3)), (14, zI a0), (0, zI a0), (6, zB y2)], []⟩ ?_
       rcases dich (a0 == 4) with hb10 | hb10
       · replace h := cond_t hb10 h
         refine rl 20 true hb10 ?_
         refine ro9 7 16 8 ⟨[(7, zB true), (35, zB true), (34, .tup []), (33, .tup []), (32, zB true), (31, zB true), (30, .tup []), (29, .tup []), (28, zB true), (27, zB true), (26, .tup []), (25, .tup []), (24, zB true), (23, zB true), (22, .tup []), (21, .tup []), (20, zB true), (19, zB (a0 == 4)), (18, zB (a0 == 4)), (17, zI a0), (16, zB false), (15, zB (a0 == 3)), (14, zI a0), (0, zI a0), (6, zB y2)], []⟩ ?_
         exact ⟨(true), h, wre [0, 6, 7] []⟩
       · replace h := cond_f hb10 h
         refine rl 20 false hb10 ?_
         refine ro 7 4 4 ⟨[(24, zB (a0 == 5)), (23, zB (a0 == 5)), (22, zB (a0 == 5)), (21, zI a0), (20, zB false), (19, zB (a0 == 4)), (18, zB (a0 == 4)), (17, zI a0), (16, zB false), (15, zB (a0 == 3)), (14, zI a0), (0, zI a0), (6, zB y2)], []⟩ ?_
         rcases dich (a0 == 5) with hb11 | hb11
         · replace h := cond_t hb11 h
           refine rl 24 true hb11 ?_
           refine ro9 11 12 6 ⟨[(7, zB true), (35, zB true), (34, .tup []), (33, .tup []), (32, zB true), (31, zB true), (30, .tup []), (29, .tup []), (28, zB true), (27, zB true), (26, .tup []), (25, .tup []), (24, zB true), (23, zB (a0 == 5)), (22, zB (a0 == 5)), (21, zI a0), (20, zB false), (19, zB (a0 == 4)), (18, zB (a0 == 4)), (17, zI a0), (16, zB false), (15, zB (a0 == 3)), (14, zI a0), (0, zI a0), (6, zB y2)], []⟩ ?_
           exact ⟨(true), h, wre [0, 6, 7] []⟩
         · replace h := cond_f hb11 h
           refine rl 24 false hb11 ?_
           refine ro 11 4 4 ⟨[(28, zB (a0 == 6)), (27, zB (a0 == 6)), (26, zB (a0 == 6)), (25, zI a0), (24, zB false), (23, zB (a0 == 5)), (22, zB (a0 == 5)), (21, zI a0), (20, zB false), (19, zB (a0 == 4)), (18, zB (a0 == 4)), (17, zI a0), (16, zB false), (15, zB (a0 == 3)), (14, zI a0), (0, zI a0), (6, zB y2)], []⟩ ?_
           rcases dich (a0 == 6) with hb12 | hb12
           · replace h := cond_t hb12 h
             refine rl 28 true hb12 ?_
             refine ro9 15 8 4 ⟨[(7, zB true), (35, zB true), (34, .tup []), (33, .tup []), (32, zB true), (31, zB true), (30, .tup []), (29, .tup []), (28, zB true), (27, zB (a0 == 6)), (26, zB (a0 == 6)), (25, zI a0), (24, zB false), (23, zB (a0 == 5)), (22, zB (a0 == 5)), (21, zI a0), (20, zB false), (19, zB (a0 == 4)), (18, zB (a0 == 4)), (17, zI a0), (16, zB false), (15, zB (a0 == 3)), (14, zI a0), (0, zI a0), (6, zB y2)], []⟩ ?_
             exact ⟨(true), h, wre [0, 6, 7] []⟩
           · replace h := cond_f hb12 h
             refine rl 28 false hb12 ?_
             refine ro 15 4 4 ⟨[(32, zB (a0 == 8)), (31, zB (a0 == 8)), (30, zB (a0 == 8)), (29, zI a0), (28, zB false), (27, zB (a0 == 6)), (26, zB (a0 == 6)), (25, zI a0), (24, zB false), (23, zB (a0 == 5)), (22, zB (a0 == 5)), (21, zI a0), (20, zB false), (19, zB (a0 == 4)), (18, zB (a0 == 4)), (17, zI a0), (16, zB false), (15, zB (a0 == 3)), (14, zI a0), (0, zI a0), (6, zB y2)], []⟩ ?_
             rcases dich (a0 == 8) with hb13 | hb13
             · replace h := cond_t hb13 h
               refine rl 32 true hb13 ?_
               refine ro9 19 4 2 ⟨[(7, zB true), (35, zB true), (34, .tup []), (33, .tup []), (32, zB true), (31, zB (a0 == 8)), (30, zB (a0 == 8)), (29, zI a0), (28, zB false), (27, zB (a0 == 6)), (26, zB (a0 == 6)), (25, zI a0), (24, zB false), (23, zB (a0 == 5)), (22, zB (a0 == 5)), (21, zI a0), (20, zB false), (19, zB (a0 == 4)), (18, zB (a0 == 4)), (17, zI a0), (16, zB false), (15, zB (a0 == 3)), (14, zI a0), (0, zI a0), (6, zB y2)], []⟩ ?_
               exact ⟨(true), h, wre [0, 6, 7] []⟩
             · replace h := cond_f hb13 h
               refine rl 32 false hb13 ?_
               refine ro9 19 4 4 ⟨[(7, zB (a0 == 9)), (35, zB (a0 == 9)), (34, zB (a0 == 9)), (33, zI a0), (32, zB false), (31, zB (a0 == 8)), (30, zB (a0 == 8)), (29, zI a0), (28, zB false), (27, zB (a0 == 6)), (26, zB (a0 == 6)), (25, zI a0), (24, zB false), (23, zB (a0 == 5)), (22, zB (a0 == 5)), (21, zI a0), (20, zB false), (19, zB (a0 == 4)), (18, zB (a0 == 4)), (17, zI a0), (16, zB false), (15, zB (a0 == 3)), (14, zI a0), (0, zI a0), (6, zB y2)], []⟩ ?_
               exact ⟨(a0 == 9), h, wre [0, 6, 7] []⟩
 · skip
   refine rg cv hn ?_
   refine ro 0 3 3 ⟨[(10, zB (a0 != 5)), (9, zB (a0 != 5)), (8, zI a0), (5, zB false), (4, zB false), (3, zB false), (2, zB false), (0, zI a0)], []⟩ ?_
   rcases dich (a0 != 5) with hb14 | hb14
   · replace h := cond_t hb14 h
     refine rl 10 true hb14 ?_
     refine ro9 3 4 4 ⟨[(6, zB (a0 != 6)), (13, zB (a0 != 6)), (12, zB (a0 != 6)), (11, zI a0), (10, zB true), (9, zB (a0 != 5)), (8, zI a0), (5, zB false), (4, zB false), (3, zB false), (2, zB false), (0, zI a0)], []⟩ ?_
     exact ⟨(a0 != 6), h, wre [0, 6] []⟩
   · replace h := cond_f hb14 h
     refine rl 10 false hb14 ?_
     refine ro9 3 4 2 ⟨[(6, zB false), (13, zB false), (12, .tup []), (11, .tup []), (10, zB false), (9, zB (a0 != 5)), (8, zI a0), (5, zB false), (4, zB false), (3, zB false), (2, zB false), (0, zI a0)], []⟩ ?_
     exact ⟨(false), h, wre [0, 6] []⟩

set_option maxRecDepth 100000 in
set_option maxHeartbeats 2000000 in
theorem spec_MsgOk_spec (a0 : SMsg) (v0 : Bool) (h : spec_MsgOk a0 = some v0) : Ax.Spec Try.prog 118 none [encMsg a0] (zB v0 : X) (.junk : X) := by
 refine walk0 (fn := Try.f118) (fun q0 : Bool => (zB q0 : X)) (fun q0 : Bool => (.junk : X)) v0 ⟨[(0, encMsg a0)], []⟩ Try.func118 rfl (by decide +kernel) fun Γ hn fin => ?_
 rw [spec_MsgOk] at h
 refine sqr cv hn ?_
 refine ro9 0 2 2 ⟨[(2, zB false), (1, .ptr 1 1 0), (0, encMsg a0)], [(1, ⟨1, 1, true, some (encMsg a0)⟩)]⟩ ?_
 refine runs_seqJ (σ := Unit) (fun s => ⟨[(1, .ptr 1 0 0)], [(1, ⟨0, 0, true, some (encMsg a0)⟩)]⟩) (fun s => spec_MsgOk_j1 a0 = some v0) ?_ ?_
 · rintro _ h
   rw [spec_MsgOk_j1] at h
   let B5 : List (Nat × Bx) := [(1, ⟨0, 0, true, some (encMsg a0)⟩)]
   refine seq0 ⟨[(1, .ptr 1 0 0)], B5⟩ ?_
   refine runs_seq ?_
   refine sqr cv hn ?_
   refine ro9 0 2 2 ⟨[(24, zI a0.fKind), (23, .ptr 1 0 0), (1, .ptr 1 0 0)], B5⟩ ?_
   refine runs_block ?_
   refine runs_seqJ (σ := Bool) (fun s => ⟨[(1, .ptr 1 0 0), (24, zI a0.fKind), (25, zB s)], [(1, ⟨0, 0, true, some (encMsg a0)⟩)]⟩) (fun s => spec_MsgOk_j2 a0 s = some v0) ?_ ?_
   · rintro y11 h
     rw [spec_MsgOk_j2] at h
     let T6 : List (Nat × X) := [(1, .ptr 1 0 0), (24, zI a0.fKind), (25, zB y11)]
     let B6 : List (Nat × Bx) := [(1, ⟨0, 0, true, some (encMsg a0)⟩)]
     refine seq0 ⟨T6, B6⟩ ?_
     rcases dich y11 with hb12 | hb12
     · replace h := cond_t hb12 h
       refine ct hb12 ?_
       refine sqr cv hn ?_
       refine ro 0 2 2 ⟨(30, zI a0.fAmt) :: (29, .ptr 1 0 2) :: T6, B6⟩ ?_
       obtain ⟨v13, hv14, h⟩ := bindO h
       refine rc 2 ⟨(31, zB v13) :: (30, zI a0.fAmt) :: (29, .ptr 1 0 2) :: T6, B6⟩ (spec_IsAmt_spec a0.fAmt v13 hv14) ?_
       refine ro9 3 1 1 ⟨(2, zB v13) :: (31, zB v13) :: (30, zI a0.fAmt) :: (29, .ptr 1 0 2) :: T6, B6⟩ ?_
       refine runs_ret ?_
       exact fin _ _ h (by kernel_rfl)
     · replace h := cond_f hb12 h
       refine cf hb12 ?_
       refine sqr cv hn ?_
       refine ro9 0 2 2 ⟨(32, zB (a0.fKind == 4)) :: (33, zB (a0.fKind == 4)) :: T6, B6⟩ ?_
       rcases dich (a0.fKind == 4) with hb15 | hb15
       · replace h := cond_t hb15 h
         refine ct hb15 ?_
         refine sqr cv hn ?_
         refine ro 0 2 2 ⟨(35, zI a0.fAmt) :: (34, .ptr 1 0 2) :: (32, zB (a0.fKind == 4)) :: (33, zB (a0.fKind == 4)) :: T6, B6⟩ ?_
         obtain ⟨v16, hv17, h⟩ := bindO h
         refine rc 2 ⟨(36, zB v16) :: (35, zI a0.fAmt) :: (34, .ptr 1 0 2) :: (32, zB (a0.fKind == 4)) :: (33, zB (a0.fKind == 4)) :: T6, B6⟩ (spec_l01In_spec a0.fAmt 0 3 v16 hv17) ?_
         refine ro9 3 1 1 ⟨(2, zB v16) :: (36, zB v16) :: (35, zI a0.fAmt) :: (34, .ptr 1 0 2) :: (32, zB (a0.fKind == 4)) :: (33, zB (a0.fKind == 4)) :: T6, B6⟩ ?_
         refine runs_ret ?_
         exact fin _ _ h (by kernel_rfl)
       · replace h := cond_f hb15 h
         refine cf hb15 ?_
         refine sqr cv hn ?_
         refine ro9 0 2 2 ⟨(37, zB (a0.fKind == 5)) :: (38, zB (a0.fKind == 5)) :: (32, zB (a0.fKind == 4)) :: (33, zB (a0.fKind == 4)) :: T6, B6⟩ ?_
         rcases dich (a0.fKind == 5) with hb18 | hb18
         · replace h := cond_t hb18 h
           refine ct hb18 ?_
           let B7 : List (Nat × Bx) := [(1, ⟨0, 0, true, some (encMsg a0)⟩)]
           refine wkr [1] [(1, 1, false)] ⟨[(1, .ptr 1 0 0)], B7⟩ ?_
           refine sqr cv hn ?_
           refine ro 0 2 2 ⟨[(40, zI a0.fAmt), (39, .ptr 1 0 2), (1, .ptr 1 0 0)], B7⟩ ?_
           obtain ⟨v19, hv20, h⟩ := bindO h
           refine rc 2 ⟨[(41, zB v19), (40, zI a0.fAmt), (39, .ptr 1 0 2), (1, .ptr 1 0 0)], B7⟩ (spec_l01Num_spec a0.fAmt v19 hv20) ?_
           refine ro9 3 1 1 ⟨[(2, zB v19), (41, zB v19), (40, zI a0.fAmt), (39, .ptr 1 0 2), (1, .ptr 1 0 0)], B7⟩ ?_
           refine runs_ret ?_
           exact fin _ _ h (by kernel_rfl)
         · replace h := cond_f hb18 h
           refine cf hb18 ?_
           refine runs_skip ?_
           refine wkr [] [] ⟨[], []⟩ ?_
           refine sqr cv hn ?_
           refine ro9 0 1 1 ⟨[(2, zB false)], []⟩ ?_
           refine runs_ret ?_
           exact fin _ _ h (by kernel_rfl)
   · skip
     refine sqr cv hn ?_
     refine ro9 0 2 2 ⟨[(25, zB (a0.fKind == 1)), (26, zB (a0.fKind == 1)), (24, zI a0.fKind), (23, .ptr 1 0 0), (1, .ptr 1 0 0)], B5⟩ ?_
     rcases dich (a0.fKind == 1) with hb21 | hb21
     · replace h := cond_t hb21 h
       refine ct hb21 ?_
       refine runs_skip ?_
       exact ⟨(a0.fKind == 1), h, wre [1, 24, 25] [(1, 1, false)]⟩
     · replace h := cond_f hb21 h
       refine cf hb21 ?_
       refine sqr cv hn ?_
       refine ro9 0 2 2 ⟨[(25, zB (a0.fKind == 2)), (27, zB (a0.fKind == 2)), (25, zB (a0.fKind == 1)), (26, zB (a0.fKind == 1)), (24, zI a0.fKind), (23, .ptr 1 0 0), (1, .ptr 1 0 0)], B5⟩ ?_
       rcases dich (a0.fKind == 2) with hb22 | hb22
       · replace h := cond_t hb22 h
         refine ct hb22 ?_
         refine runs_skip ?_
         exact ⟨(a0.fKind == 2), h, wre [1, 24, 25] [(1, 1, false)]⟩
       · replace h := cond_f hb22 h
         refine cf hb22 ?_
         refine rg cv hn ?_
         refine ro9 0 2 2 ⟨[(25, zB (a0.fKind == 3)), (28, zB (a0.fKind == 3)), (25, zB (a0.fKind == 2)), (27, zB (a0.fKind == 2)), (25, zB (a0.fKind == 1)), (26, zB (a0.fKind == 1)), (24, zI a0.fKind), (23, .ptr 1 0 0), (1, .ptr 1 0 0)], B5⟩ ?_
         exact ⟨(a0.fKind == 3), h, wre [1, 24, 25] [(1, 1, false)]⟩
 · skip
   refine sqr cv hn ?_
   refine ro 0 2 2 ⟨[(4, zI a0.fAcct), (3, .ptr 1 1 1), (2, zB false), (1, .ptr 1 1 0), (0, encMsg a0)], [(1, ⟨1, 1, true, some (encMsg a0)⟩)]⟩ ?_
   obtain ⟨v23, hv24, h⟩ := bindO h
   refine rc 2 ⟨[(5, zB v23), (4, zI a0.fAcct), (3, .ptr 1 1 1), (2, zB false), (1, .ptr 1 1 0), (0, encMsg a0)], [(1, ⟨1, 1, true, some (encMsg a0)⟩)]⟩ (spec_l01In_spec a0.fAcct 0 2 v23 hv24) ?_
   refine ro 3 2 2 ⟨[(7, zB (!v23)), (6, zB (!v23)), (5, zB v23), (4, zI a0.fAcct), (3, .ptr 1 1 1), (2, zB false), (1, .ptr 1 1 0), (0, encMsg a0)], [(1, ⟨1, 1, true, some (encMsg a0)⟩)]⟩ ?_
   rcases dich (!v23) with hb25 | hb25
   · replace h := cond_t hb25 h
     refine rl 7 true hb25 ?_
     refine ro9 5 15 3 ⟨[(22, zB true), (21, .tup []), (20, .tup []), (19, .tup []), (18, .tup []), (17, .tup []), (16, .tup []), (15, .tup []), (14, .tup []), (13, zB true), (12, zB true), (11, .tup []), (10, .tup []), (9, .tup []), (8, .tup []), (7, zB true), (6, zB (!v23)), (5, zB v23), (4, zI a0.fAcct), (3, .ptr 1 1 1), (2, zB false), (1, .ptr 1 1 0), (0, encMsg a0)], [(1, ⟨1, 1, true, some (encMsg a0)⟩)]⟩ ?_
     refine cT ?_
     let B9 : List (Nat × Bx) := [(1, ⟨0, 0, true, some (encMsg a0)⟩)]
     refine wkr [1] [(1, 1, false)] ⟨[(1, .ptr 1 0 0)], B9⟩ ?_
     refine sqr cv hn ?_
     refine ro9 0 1 1 ⟨[(2, zB false), (1, .ptr 1 0 0)], B9⟩ ?_
     refine runs_ret ?_
     exact fin _ _ h (by kernel_rfl)
   · replace h := cond_f hb25 h
     refine rl 7 false hb25 ?_
     refine ro 5 2 2 ⟨[(9, zI a0.fSrc), (8, .ptr 1 1 3), (7, zB false), (6, zB (!v23)), (5, zB v23), (4, zI a0.fAcct), (3, .ptr 1 1 1), (2, zB false), (1, .ptr 1 1 0), (0, encMsg a0)], [(1, ⟨1, 1, true, some (encMsg a0)⟩)]⟩ ?_
     obtain ⟨v26, hv27, h⟩ := bindO h
     refine rc 7 ⟨[(10, zB v26), (9, zI a0.fSrc), (8, .ptr 1 1 3), (7, zB false), (6, zB (!v23)), (5, zB v23), (4, zI a0.fAcct), (3, .ptr 1 1 1), (2, zB false), (1, .ptr 1 1 0), (0, encMsg a0)], [(1, ⟨1, 1, true, some (encMsg a0)⟩)]⟩ (spec_l01In_spec a0.fSrc 0 2 v26 hv27) ?_
     refine ro 8 3 3 ⟨[(13, zB (!v26)), (12, zB (!v26)), (11, zB (!v26)), (10, zB v26), (9, zI a0.fSrc), (8, .ptr 1 1 3), (7, zB false), (6, zB (!v23)), (5, zB v23), (4, zI a0.fAcct), (3, .ptr 1 1 1), (2, zB false), (1, .ptr 1 1 0), (0, encMsg a0)], [(1, ⟨1, 1, true, some (encMsg a0)⟩)]⟩ ?_
     rcases dich (!v26) with hb28 | hb28
     · replace h := cond_t hb28 h
       refine rl 13 true hb28 ?_
       refine ro9 11 9 1 ⟨[(22, zB true), (21, .tup []), (20, .tup []), (19, .tup []), (18, .tup []), (17, .tup []), (16, .tup []), (15, .tup []), (14, .tup []), (13, zB true), (12, zB (!v26)), (11, zB (!v26)), (10, zB v26), (9, zI a0.fSrc), (8, .ptr 1 1 3), (7, zB false), (6, zB (!v23)), (5, zB v23), (4, zI a0.fAcct), (3, .ptr 1 1 1), (2, zB false), (1, .ptr 1 1 0), (0, encMsg a0)], [(1, ⟨1, 1, true, some (encMsg a0)⟩)]⟩ ?_
       refine cT ?_
       let B10 : List (Nat × Bx) := [(1, ⟨0, 0, true, some (encMsg a0)⟩)]
       refine wkr [1] [(1, 1, false)] ⟨[(1, .ptr 1 0 0)], B10⟩ ?_
       refine sqr cv hn ?_
       refine ro9 0 1 1 ⟨[(2, zB false), (1, .ptr 1 0 0)], B10⟩ ?_
       refine runs_ret ?_
       exact fin _ _ h (by kernel_rfl)
     · replace h := cond_f hb28 h
       refine rl 13 false hb28 ?_
       refine ro 11 4 4 ⟨[(17, zB (a0.fKind != 2)), (16, zB (a0.fKind != 2)), (15, zI a0.fKind), (14, .ptr 1 1 0), (13, zB false), (12, zB (!v26)), (11, zB (!v26)), (10, zB v26), (9, zI a0.fSrc), (8, .ptr 1 1 3), (7, zB false), (6, zB (!v23)), (5, zB v23), (4, zI a0.fAcct), (3, .ptr 1 1 1), (2, zB false), (1, .ptr 1 1 0), (0, encMsg a0)], [(1, ⟨1, 1, true, some (encMsg a0)⟩)]⟩ ?_
       rcases dich (a0.fKind != 2) with hb29 | hb29
       · replace h := cond_t hb29 h
         refine rl 17 true hb29 ?_
         refine ro9 15 5 5 ⟨[(22, zB (a0.fSrc != 0)), (21, zB (a0.fSrc != 0)), (20, zB (a0.fSrc != 0)), (19, zI a0.fSrc), (18, .ptr 1 1 3), (17, zB true), (16, zB (a0.fKind != 2)), (15, zI a0.fKind), (14, .ptr 1 1 0), (13, zB false), (12, zB (!v26)), (11, zB (!v26)), (10, zB v26), (9, zI a0.fSrc), (8, .ptr 1 1 3), (7, zB false), (6, zB (!v23)), (5, zB v23), (4, zI a0.fAcct), (3, .ptr 1 1 1), (2, zB false), (1, .ptr 1 1 0), (0, encMsg a0)], [(1, ⟨1, 1, true, some (encMsg a0)⟩)]⟩ ?_
         rcases dich (a0.fSrc != 0) with hb30 | hb30
         · replace h := cond_t hb30 h
           refine ct hb30 ?_
           let B11 : List (Nat × Bx) := [(1, ⟨0, 0, true, some (encMsg a0)⟩)]
           refine wkr [1] [(1, 1, false)] ⟨[(1, .ptr 1 0 0)], B11⟩ ?_
           refine sqr cv hn ?_
           refine ro9 0 1 1 ⟨[(2, zB false), (1, .ptr 1 0 0)], B11⟩ ?_
           refine runs_ret ?_
           exact fin _ _ h (by kernel_rfl)
         · replace h := cond_f hb30 h
           refine cf hb30 ?_
           refine runs_skip ?_
           exact ⟨(), h, wre [1] [(1, 1, false)]⟩
       · replace h := cond_f hb29 h
         refine rl 17 false hb29 ?_
         refine ro9 15 5 2 ⟨[(22, zB false), (21, zB false), (20, .tup []), (19, .tup []), (18, .tup []), (17, zB false), (16, zB (a0.fKind != 2)), (15, zI a0.fKind), (14, .ptr 1 1 0), (13, zB false), (12, zB (!v26)), (11, zB (!v26)), (10, zB v26), (9, zI a0.fSrc), (8, .ptr 1 1 3), (7, zB false), (6, zB (!v23)), (5, zB v23), (4, zI a0.fAcct), (3, .ptr 1 1 1), (2, zB false), (1, .ptr 1 1 0), (0, encMsg a0)], [(1, ⟨1, 1, true, some (encMsg a0)⟩)]⟩ ?_
         refine cF ?_
         refine runs_skip ?_
         exact ⟨(), h, wre [1] [(1, 1, false)]⟩

set_option maxRecDepth 100000 in
set_option maxHeartbeats 2000000 in
theorem spec_RecOk_spec (a0 : SRec) (v0 : Bool) (h : spec_RecOk a0 = some v0) : Ax.Spec Try.prog 92 none [encRec a0] (zB v0 : X) (.junk : X) := by
 refine walk0 (fn := Try.f92) (fun q0 : Bool => (zB q0 : X)) (fun q0 : Bool => (.junk : X)) v0 ⟨[(0, encRec a0)], []⟩ Try.func92 rfl (by decide +kernel) fun Γ hn fin => ?_
 rw [spec_RecOk] at h
 refine sqr cv hn ?_
 refine ro9 0 2 2 ⟨[(2, zB false), (1, .ptr 1 1 0), (0, encRec a0)], [(1, ⟨1, 1, true, some (encRec a0)⟩)]⟩ ?_
 refine sqr cv hn ?_
 refine ro 0 2 2 ⟨[(9, zI a0.fKind), (8, .ptr 1 1 0), (2, zB false), (1, .ptr 1 1 0), (0, encRec a0)], [(1, ⟨1, 1, true, some (encRec a0)⟩)]⟩ ?_
 obtain ⟨v3, hv4, h⟩ := bindO h
 refine rc 2 ⟨[(10, .tup [zB v3.1, zB v3.2.1, zB v3.2.2.1, zB v3.2.2.2]), (9, zI a0.fKind), (8, .ptr 1 1 0), (2, zB false), (1, .ptr 1 1 0), (0, encRec a0)], [(1, ⟨1, 1, true, some (encRec a0)⟩)]⟩ (spec_l10Has_spec a0.fKind v3 hv4) ?_
 refine ro9 3 9 9 ⟨[(6, zB v3.2.2.2), (5, zB v3.2.2.1), (4, zB v3.2.1), (3, zB v3.1), (14, zB v3.2.2.2), (13, zB v3.2.2.1), (12, zB v3.2.1), (11, zB v3.1), (7, .tup [zB v3.1, zB v3.2.1, zB v3.2.2.1, zB v3.2.2.2]), (10, .tup [zB v3.1, zB v3.2.1, zB v3.2.2.1, zB v3.2.2.2]), (9, zI a0.fKind), (8, .ptr 1 1 0), (2, zB false), (1, .ptr 1 1 0), (0, encRec a0)], [(1, ⟨1, 1, true, some (encRec a0)⟩)]⟩ ?_
 refine runs_seq ?_
 let T7 : List (Nat × X) := [(6, zB v3.2.2.2), (5, zB v3.2.2.1), (4, zB v3.2.1), (3, zB v3.1), (1, .ptr 1 0 0)]
 let B7 : List (Nat × Bx) := [(1, ⟨0, 0, true, some (encRec a0)⟩)]
 refine wkr [6, 5, 4, 3, 1] [(1, 1, false)] ⟨T7, B7⟩ ?_
 refine sqr cv hn ?_
 refine ro 0 2 2 ⟨(16, zI a0.fKind) :: (15, .ptr 1 0 0) :: T7, B7⟩ ?_
 obtain ⟨v17, hv18, h⟩ := bindO h
 refine rc 2 ⟨(17, zB v17) :: (16, zI a0.fKind) :: (15, .ptr 1 0 0) :: T7, B7⟩ (spec_l01In_spec a0.fKind 1 9 v17 hv18) ?_
 refine ro 3 2 2 ⟨(19, zB (!v17)) :: (18, zB (!v17)) :: (17, zB v17) :: (16, zI a0.fKind) :: (15, .ptr 1 0 0) :: T7, B7⟩ ?_
 rcases dich (!v17) with hb19 | hb19
 · replace h := cond_t hb19 h
   refine rl 19 true hb19 ?_
   refine ro9 5 17 5 ⟨(36, zB true) :: (35, .tup []) :: (34, .tup []) :: (33, .tup []) :: (32, .tup []) :: (31, zB true) :: (30, zB true) :: (29, .tup []) :: (28, .tup []) :: (27, .tup []) :: (26, .tup []) :: (25, zB true) :: (24, zB true) :: (23, .tup []) :: (22, .tup []) :: (21, .tup []) :: (20, .tup []) :: (19, zB true) :: (18, zB (!v17)) :: (17, zB v17) :: (16, zI a0.fKind) :: (15, .ptr 1 0 0) :: T7, B7⟩ ?_
   refine cT ?_
   let T8 : List (Nat × X) := [(6, zB v3.2.2.2), (5, zB v3.2.2.1), (4, zB v3.2.1), (3, zB v3.1), (1, .ptr 1 0 0)]
   let B8 : List (Nat × Bx) := [(1, ⟨0, 0, true, some (encRec a0)⟩)]
   refine wkr [6, 5, 4, 3, 1] [(1, 1, false)] ⟨T8, B8⟩ ?_
   refine sqr cv hn ?_
   refine ro9 0 1 1 ⟨(2, zB false) :: T8, B8⟩ ?_
   refine runs_ret ?_
   exact fin _ _ h (by kernel_rfl)
 · replace h := cond_f hb19 h
   refine rl 19 false hb19 ?_
   refine ro 5 2 2 ⟨(21, zI a0.fAcct) :: (20, .ptr 1 0 1) :: (19, zB false) :: (18, zB (!v17)) :: (17, zB v17) :: (16, zI a0.fKind) :: (15, .ptr 1 0 0) :: T7, B7⟩ ?_
   obtain ⟨v20, hv21, h⟩ := bindO h
   refine rc 7 ⟨(22, zB v20) :: (21, zI a0.fAcct) :: (20, .ptr 1 0 1) :: (19, zB false) :: (18, zB (!v17)) :: (17, zB v17) :: (16, zI a0.fKind) :: (15, .ptr 1 0 0) :: T7, B7⟩ (spec_l01In_spec a0.fAcct 0 2 v20 hv21) ?_
   refine ro 8 3 3 ⟨(25, zB (!v20)) :: (24, zB (!v20)) :: (23, zB (!v20)) :: (22, zB v20) :: (21, zI a0.fAcct) :: (20, .ptr 1 0 1) :: (19, zB false) :: (18, zB (!v17)) :: (17, zB v17) :: (16, zI a0.fKind) :: (15, .ptr 1 0 0) :: T7, B7⟩ ?_
   rcases dich (!v20) with hb22 | hb22
   · replace h := cond_t hb22 h
     refine rl 25 true hb22 ?_
     refine ro9 11 11 3 ⟨(36, zB true) :: (35, .tup []) :: (34, .tup []) :: (33, .tup []) :: (32, .tup []) :: (31, zB true) :: (30, zB true) :: (29, .tup []) :: (28, .tup []) :: (27, .tup []) :: (26, .tup []) :: (25, zB true) :: (24, zB (!v20)) :: (23, zB (!v20)) :: (22, zB v20) :: (21, zI a0.fAcct) :: (20, .ptr 1 0 1) :: (19, zB false) :: (18, zB (!v17)) :: (17, zB v17) :: (16, zI a0.fKind) :: (15, .ptr 1 0 0) :: T7, B7⟩ ?_
     refine cT ?_
     let T9 : List (Nat × X) := [(6, zB v3.2.2.2), (5, zB v3.2.2.1), (4, zB v3.2.1), (3, zB v3.1), (1, .ptr 1 0 0)]
     let B9 : List (Nat × Bx) := [(1, ⟨0, 0, true, some (encRec a0)⟩)]
     refine wkr [6, 5, 4, 3, 1] [(1, 1, false)] ⟨T9, B9⟩ ?_
     refine sqr cv hn ?_
     refine ro9 0 1 1 ⟨(2, zB false) :: T9, B9⟩ ?_
     refine runs_ret ?_
     exact fin _ _ h (by kernel_rfl)
   · replace h := cond_f hb22 h
     refine rl 25 false hb22 ?_
     refine ro 11 2 2 ⟨(27, zI a0.fOther) :: (26, .ptr 1 0 2) :: (25, zB false) :: (24, zB (!v20)) :: (23, zB (!v20)) :: (22, zB v20) :: (21, zI a0.fAcct) :: (20, .ptr 1 0 1) :: (19, zB false) :: (18, zB (!v17)) :: (17, zB v17) :: (16, zI a0.fKind) :: (15, .ptr 1 0 0) :: T7, B7⟩ ?_
     obtain ⟨v23, hv24, h⟩ := bindO h
     refine rc 13 ⟨(28, zB v23) :: (27, zI a0.fOther) :: (26, .ptr 1 0 2) :: (25, zB false) :: (24, zB (!v20)) :: (23, zB (!v20)) :: (22, zB v20) :: (21, zI a0.fAcct) :: (20, .ptr 1 0 1) :: (19, zB false) :: (18, zB (!v17)) :: (17, zB v17) :: (16, zI a0.fKind) :: (15, .ptr 1 0 0) :: T7, B7⟩ (spec_l01In_spec a0.fOther 0 2 v23 hv24) ?_
     refine ro 14 3 3 ⟨(31, zB (!v23)) :: (30, zB (!v23)) :: (29, zB (!v23)) :: (28, zB v23) :: (27, zI a0.fOther) :: (26, .ptr 1 0 2) :: (25, zB false) :: (24, zB (!v20)) :: (23, zB (!v20)) :: (22, zB v20) :: (21, zI a0.fAcct) :: (20, .ptr 1 0 1) :: (19, zB false) :: (18, zB (!v17)) :: (17, zB v17) :: (16, zI a0.fKind) :: (15, .ptr 1 0 0) :: T7, B7⟩ ?_
     rcases dich (!v23) with hb25 | hb25
     · replace h := cond_t hb25 h
       refine rl 31 true hb25 ?_
       refine ro9 17 5 1 ⟨(36, zB true) :: (35, .tup []) :: (34, .tup []) :: (33, .tup []) :: (32, .tup []) :: (31, zB true) :: (30, zB (!v23)) :: (29, zB (!v23)) :: (28, zB v23) :: (27, zI a0.fOther) :: (26, .ptr 1 0 2) :: (25, zB false) :: (24, zB (!v20)) :: (23, zB (!v20)) :: (22, zB v20) :: (21, zI a0.fAcct) :: (20, .ptr 1 0 1) :: (19, zB false) :: (18, zB (!v17)) :: (17, zB v17) :: (16, zI a0.fKind) :: (15, .ptr 1 0 0) :: T7, B7⟩ ?_
       refine cT ?_
       let T10 : List (Nat × X) := [(6, zB v3.2.2.2), (5, zB v3.2.2.1), (4, zB v3.2.1), (3, zB v3.1), (1, .ptr 1 0 0)]
       let B10 : List (Nat × Bx) := [(1, ⟨0, 0, true, some (encRec a0)⟩)]
       refine wkr [6, 5, 4, 3, 1] [(1, 1, false)] ⟨T10, B10⟩ ?_
       refine sqr cv hn ?_
       refine ro9 0 1 1 ⟨(2, zB false) :: T10, B10⟩ ?_
       refine runs_ret ?_
       exact fin _ _ h (by kernel_rfl)
     · replace h := cond_f hb25 h
       refine rl 31 false hb25 ?_
       refine ro 17 2 2 ⟨(33, zI a0.fTo) :: (32, .ptr 1 0 3) :: (31, zB false) :: (30, zB (!v23)) :: (29, zB (!v23)) :: (28, zB v23) :: (27, zI a0.fOther) :: (26, .ptr 1 0 2) :: (25, zB false) :: (24, zB (!v20)) :: (23, zB (!v20)) :: (22, zB v20) :: (21, zI a0.fAcct) :: (20, .ptr 1 0 1) :: (19, zB false) :: (18, zB (!v17)) :: (17, zB v17) :: (16, zI a0.fKind) :: (15, .ptr 1 0 0) :: T7, B7⟩ ?_
       obtain ⟨v26, hv27, h⟩ := bindO h
       refine rc 19 ⟨(34, zB v26) :: (33, zI a0.fTo) :: (32, .ptr 1 0 3) :: (31, zB false) :: (30, zB (!v23)) :: (29, zB (!v23)) :: (28, zB v23) :: (27, zI a0.fOther) :: (26, .ptr 1 0 2) :: (25, zB false) :: (24, zB (!v20)) :: (23, zB (!v20)) :: (22, zB v20) :: (21, zI a0.fAcct) :: (20, .ptr 1 0 1) :: (19, zB false) :: (18, zB (!v17)) :: (17, zB v17) :: (16, zI a0.fKind) :: (15, .ptr 1 0 0) :: T7, B7⟩ (spec_l07Node_spec a0.fTo v26 hv27) ?_
       refine ro9 20 2 2 ⟨(36, zB (!v26)) :: (35, zB (!v26)) :: (34, zB v26) :: (33, zI a0.fTo) :: (32, .ptr 1 0 3) :: (31, zB false) :: (30, zB (!v23)) :: (29, zB (!v23)) :: (28, zB v23) :: (27, zI a0.fOther) :: (26, .ptr 1 0 2) :: (25, zB false) :: (24, zB (!v20)) :: (23, zB (!v20)) :: (22, zB v20) :: (21, zI a0.fAcct) :: (20, .ptr 1 0 1) :: (19, zB false) :: (18, zB (!v17)) :: (17, zB v17) :: (16, zI a0.fKind) :: (15, .ptr 1 0 0) :: T7, B7⟩ ?_
       rcases dich (!v26) with hb28 | hb28
       · replace h := cond_t hb28 h
         refine ct hb28 ?_
         let T11 : List (Nat × X) := [(6, zB v3.2.2.2), (5, zB v3.2.2.1), (4, zB v3.2.1), (3, zB v3.1), (1, .ptr 1 0 0)]
         let B11 : List (Nat × Bx) := [(1, ⟨0, 0, true, some (encRec a0)⟩)]
         refine wkr [6, 5, 4, 3, 1] [(1, 1, false)] ⟨T11, B11⟩ ?_
         refine sqr cv hn ?_
         refine ro9 0 1 1 ⟨(2, zB false) :: T11, B11⟩ ?_
         refine runs_ret ?_
         exact fin _ _ h (by kernel_rfl)
       · replace h := cond_f hb28 h
         refine cf hb28 ?_
         refine runs_skip ?_
         refine runs_seqJ (σ := Unit) (fun s => ⟨[(1, .ptr 1 0 0), (6, zB v3.2.2.2)], [(1, ⟨0, 0, true, some (encRec a0)⟩)]⟩) (fun s => spec_RecOk_j1 a0 v3 = some v0) ?_ ?_
         · rintro _ h
           rw [spec_RecOk_j1] at h
           let T28 : List (Nat × X) := [(1, .ptr 1 0 0), (6, zB v3.2.2.2)]
           let B28 : List (Nat × Bx) := [(1, ⟨0, 0, true, some (encRec a0)⟩)]
           refine seq0 ⟨T28, B28⟩ ?_
           refine runs_seqJ (σ := Unit) (fun s => ⟨[(1, .ptr 1 0 0), (6, zB v3.2.2.2)], [(1, ⟨0, 0, true, some (encRec a0)⟩)]⟩) (fun s => spec_RecOk_j2 a0 v3 = some v0) ?_ ?_
           · rintro _ h
             rw [spec_RecOk_j2] at h
             let T32 : List (Nat × X) := [(1, .ptr 1 0 0), (6, zB v3.2.2.2)]
             let B32 : List (Nat × Bx) := [(1, ⟨0, 0, true, some (encRec a0)⟩)]
             refine seq0 ⟨T32, B32⟩ ?_
             refine runs_seqJ (σ := Unit) (fun s => ⟨[(1, .ptr 1 0 0)], [(1, ⟨0, 0, true, some (encRec a0)⟩)]⟩) (fun s => spec_RecOk_j3 a0 = some v0) ?_ ?_
             · rintro _ h
               rw [spec_RecOk_j3] at h
               let B34 : List (Nat × Bx) := [(1, ⟨0, 0, true, some (encRec a0)⟩)]
               refine seq0 ⟨[(1, .ptr 1 0 0)], B34⟩ ?_
               refine runs_seq ?_
               refine sqr cv hn ?_
               refine ro9 0 3 3 ⟨[(104, zB (a0.fKind == 5)), (103, zI a0.fKind), (102, .ptr 1 0 0), (1, .ptr 1 0 0)], B34⟩ ?_
               rcases dich (a0.fKind == 5) with hb77 | hb77
               · replace h := cond_t hb77 h
                 refine ct hb77 ?_
                 refine sqr cv hn ?_
                 refine ro 0 2 2 ⟨[(106, encMsg a0.fM), (105, .ptr 1 0 5), (104, zB (a0.fKind == 5)), (103, zI a0.fKind), (102, .ptr 1 0 0), (1, .ptr 1 0 0)], B34⟩ ?_
                 obtain ⟨v78, hv79, h⟩ := bindO h
                 refine rc 2 ⟨[(107, zB v78), (106, encMsg a0.fM), (105, .ptr 1 0 5), (104, zB (a0.fKind == 5)), (103, zI a0.fKind), (102, .ptr 1 0 0), (1, .ptr 1 0 0)], B34⟩ (spec_MsgOk_spec a0.fM v78 hv79) ?_
                 refine ro9 3 1 1 ⟨[(2, zB v78), (107, zB v78), (106, encMsg a0.fM), (105, .ptr 1 0 5), (104, zB (a0.fKind == 5)), (103, zI a0.fKind), (102, .ptr 1 0 0), (1, .ptr 1 0 0)], B34⟩ ?_
                 refine runs_ret ?_
                 exact fin _ _ h (by kernel_rfl)
               · replace h := cond_f hb77 h
                 refine cf hb77 ?_
                 refine runs_skip ?_
                 refine sqr cv hn ?_
                 refine ro 0 3 3 ⟨[(110, .agg [zI 0, zI 0, zI 0, zI 0]), (109, encMsg a0.fM), (108, .ptr 1 0 5), (104, zB (a0.fKind == 5)), (103, zI a0.fKind), (102, .ptr 1 0 0), (1, .ptr 1 0 0)], B34⟩ ?_
                 refine rs 3 ⟨[(111, zB ((a0.fM.fKind == 0) && ((a0.fM.fAcct == 0) && ((a0.fM.fAmt == 0) && ((a0.fM.fSrc == 0) && true))))), (110, .agg [zI 0, zI 0, zI 0, zI 0]), (109, encMsg a0.fM), (108, .ptr 1 0 5), (104, zB (a0.fKind == 5)), (103, zI a0.fKind), (102, .ptr 1 0 0), (1, .ptr 1 0 0)], B34⟩ [EqOK Try.prog 67 ∧ (4 : Nat) = tSize Try.prog 67] ⟨⟨eqok67, by kernel_rfl⟩, trivial⟩ ?_
                 refine ro9 4 1 1 ⟨[(2, zB ((a0.fM.fKind == 0) && ((a0.fM.fAcct == 0) && ((a0.fM.fAmt == 0) && ((a0.fM.fSrc == 0) && true))))), (111, zB ((a0.fM.fKind == 0) && ((a0.fM.fAcct == 0) && ((a0.fM.fAmt == 0) && ((a0.fM.fSrc == 0) && true))))), (110, .agg [zI 0, zI 0, zI 0, zI 0]), (109, encMsg a0.fM), (108, .ptr 1 0 5), (104, zB (a0.fKind == 5)), (103, zI a0.fKind), (102, .ptr 1 0 0), (1, .ptr 1 0 0)], B34⟩ ?_
                 refine runs_ret ?_
                 exact fin _ _ h (by kernel_rfl)
             · skip
               refine sqr cv hn ?_
               refine ro 0 2 2 ⟨(92, zB v3.2.2.2) :: (91, zB v3.2.2.2) :: T32, B32⟩ ?_
               rcases dich v3.2.2.2 with hb80 | hb80
               · replace h := cond_t hb80 h
                 refine rl 92 true hb80 ?_
                 refine ro 2 5 5 ⟨(97, zB (a0.fKind != 6)) :: (96, zB (a0.fKind != 6)) :: (95, zB (a0.fKind != 6)) :: (94, zI a0.fKind) :: (93, .ptr 1 0 0) :: (92, zB true) :: (91, zB v3.2.2.2) :: T32, B32⟩ ?_
                 rcases dich (a0.fKind != 6) with hb81 | hb81
                 · replace h := cond_t hb81 h
                   refine rl 97 true hb81 ?_
                   refine ro9 7 4 4 ⟨(101, zB (a0.fAmt == 0)) :: (100, zB (a0.fAmt == 0)) :: (99, zI a0.fAmt) :: (98, .ptr 1 0 4) :: (97, zB true) :: (96, zB (a0.fKind != 6)) :: (95, zB (a0.fKind != 6)) :: (94, zI a0.fKind) :: (93, .ptr 1 0 0) :: (92, zB true) :: (91, zB v3.2.2.2) :: T32, B32⟩ ?_
                   rcases dich (a0.fAmt == 0) with hb82 | hb82
                   · replace h := cond_t hb82 h
                     refine ct hb82 ?_
                     let B35 : List (Nat × Bx) := [(1, ⟨0, 0, true, some (encRec a0)⟩)]
                     refine wkr [1] [(1, 1, false)] ⟨[(1, .ptr 1 0 0)], B35⟩ ?_
                     refine sqr cv hn ?_
                     refine ro9 0 1 1 ⟨[(2, zB false), (1, .ptr 1 0 0)], B35⟩ ?_
                     refine runs_ret ?_
                     exact fin _ _ h (by kernel_rfl)
                   · replace h := cond_f hb82 h
                     refine cf hb82 ?_
                     refine runs_skip ?_
                     exact ⟨(), h, wre [1] [(1, 1, false)]⟩
                 · replace h := cond_f hb81 h
                   refine rl 97 false hb81 ?_
                   refine ro9 7 4 1 ⟨(101, zB false) :: (100, .tup []) :: (99, .tup []) :: (98, .tup []) :: (97, zB false) :: (96, zB (a0.fKind != 6)) :: (95, zB (a0.fKind != 6)) :: (94, zI a0.fKind) :: (93, .ptr 1 0 0) :: (92, zB true) :: (91, zB v3.2.2.2) :: T32, B32⟩ ?_
                   refine cF ?_
                   refine runs_skip ?_
                   exact ⟨(), h, wre [1] [(1, 1, false)]⟩
               · replace h := cond_f hb80 h
                 refine rl 92 false hb80 ?_
                 refine ro9 2 9 3 ⟨(101, zB false) :: (100, .tup []) :: (99, .tup []) :: (98, .tup []) :: (97, zB false) :: (96, zB false) :: (95, .tup []) :: (94, .tup []) :: (93, .tup []) :: (92, zB false) :: (91, zB v3.2.2.2) :: T32, B32⟩ ?_
                 refine cF ?_
                 refine runs_skip ?_
                 exact ⟨(), h, wre [1] [(1, 1, false)]⟩
           · skip
             refine sqr cv hn ?_
             refine ro 0 4 4 ⟨(74, zB (decide (a0.fKind ≤ 4))) :: (73, zB (decide (a0.fKind ≤ 4))) :: (72, zI a0.fKind) :: (71, .ptr 1 0 0) :: T28, B28⟩ ?_
             rcases dich (decide (a0.fKind ≤ 4)) with hb83 | hb83
             · replace h := cond_t hb83 h
               refine rl 74 true hb83 ?_
               refine ro 4 2 2 ⟨(76, zI a0.fAmt) :: (75, .ptr 1 0 4) :: (74, zB true) :: (73, zB (decide (a0.fKind ≤ 4))) :: (72, zI a0.fKind) :: (71, .ptr 1 0 0) :: T28, B28⟩ ?_
               obtain ⟨v84, hv85, h⟩ := bindO h
               refine rc 6 ⟨(77, zB v84) :: (76, zI a0.fAmt) :: (75, .ptr 1 0 4) :: (74, zB true) :: (73, zB (decide (a0.fKind ≤ 4))) :: (72, zI a0.fKind) :: (71, .ptr 1 0 0) :: T28, B28⟩ (spec_IsAmt_spec a0.fAmt v84 hv85) ?_
               refine ro 7 3 3 ⟨(80, zB (!v84)) :: (79, zB (!v84)) :: (78, zB (!v84)) :: (77, zB v84) :: (76, zI a0.fAmt) :: (75, .ptr 1 0 4) :: (74, zB true) :: (73, zB (decide (a0.fKind ≤ 4))) :: (72, zI a0.fKind) :: (71, .ptr 1 0 0) :: T28, B28⟩ ?_
               rcases dich (!v84) with hb86 | hb86
               · replace h := cond_t hb86 h
                 refine rl 80 true hb86 ?_
                 refine ro9 10 10 1 ⟨(90, zB true) :: (89, .tup []) :: (88, .tup []) :: (87, .tup []) :: (86, .tup []) :: (85, .tup []) :: (84, .tup []) :: (83, .tup []) :: (82, .tup []) :: (81, .tup []) :: (80, zB true) :: (79, zB (!v84)) :: (78, zB (!v84)) :: (77, zB v84) :: (76, zI a0.fAmt) :: (75, .ptr 1 0 4) :: (74, zB true) :: (73, zB (decide (a0.fKind ≤ 4))) :: (72, zI a0.fKind) :: (71, .ptr 1 0 0) :: T28, B28⟩ ?_
                 refine cT ?_
                 let T36 : List (Nat × X) := [(1, .ptr 1 0 0), (6, zB v3.2.2.2)]
                 let B36 : List (Nat × Bx) := [(1, ⟨0, 0, true, some (encRec a0)⟩)]
                 refine wkr [1, 6] [(1, 1, false)] ⟨T36, B36⟩ ?_
                 refine sqr cv hn ?_
                 refine ro9 0 1 1 ⟨(2, zB false) :: T36, B36⟩ ?_
                 refine runs_ret ?_
                 exact fin _ _ h (by kernel_rfl)
               · replace h := cond_f hb86 h
                 refine rl 80 false hb86 ?_
                 refine ro 10 4 4 ⟨(84, zB (decide (a0.fKind > 4))) :: (83, zB (decide (a0.fKind > 4))) :: (82, zI a0.fKind) :: (81, .ptr 1 0 0) :: (80, zB false) :: (79, zB (!v84)) :: (78, zB (!v84)) :: (77, zB v84) :: (76, zI a0.fAmt) :: (75, .ptr 1 0 4) :: (74, zB true) :: (73, zB (decide (a0.fKind ≤ 4))) :: (72, zI a0.fKind) :: (71, .ptr 1 0 0) :: T28, B28⟩ ?_
                 rcases dich (decide (a0.fKind > 4)) with hb87 | hb87
                 · replace h := cond_t hb87 h
                   refine rl 84 true hb87 ?_
                   refine ro 14 2 2 ⟨(86, zI a0.fAmt) :: (85, .ptr 1 0 4) :: (84, zB true) :: (83, zB (decide (a0.fKind > 4))) :: (82, zI a0.fKind) :: (81, .ptr 1 0 0) :: (80, zB false) :: (79, zB (!v84)) :: (78, zB (!v84)) :: (77, zB v84) :: (76, zI a0.fAmt) :: (75, .ptr 1 0 4) :: (74, zB true) :: (73, zB (decide (a0.fKind ≤ 4))) :: (72, zI a0.fKind) :: (71, .ptr 1 0 0) :: T28, B28⟩ ?_
                   obtain ⟨v88, hv89, h⟩ := bindO h
                   refine rc 16 ⟨(87, zB v88) :: (86, zI a0.fAmt) :: (85, .ptr 1 0 4) :: (84, zB true) :: (83, zB (decide (a0.fKind > 4))) :: (82, zI a0.fKind) :: (81, .ptr 1 0 0) :: (80, zB false) :: (79, zB (!v84)) :: (78, zB (!v84)) :: (77, zB v84) :: (76, zI a0.fAmt) :: (75, .ptr 1 0 4) :: (74, zB true) :: (73, zB (decide (a0.fKind ≤ 4))) :: (72, zI a0.fKind) :: (71, .ptr 1 0 0) :: T28, B28⟩ (spec_l01Num_spec a0.fAmt v88 hv89) ?_
                   refine ro9 17 3 3 ⟨(90, zB (!v88)) :: (89, zB (!v88)) :: (88, zB (!v88)) :: (87, zB v88) :: (86, zI a0.fAmt) :: (85, .ptr 1 0 4) :: (84, zB true) :: (83, zB (decide (a0.fKind > 4))) :: (82, zI a0.fKind) :: (81, .ptr 1 0 0) :: (80, zB false) :: (79, zB (!v84)) :: (78, zB (!v84)) :: (77, zB v84) :: (76, zI a0.fAmt) :: (75, .ptr 1 0 4) :: (74, zB true) :: (73, zB (decide (a0.fKind ≤ 4))) :: (72, zI a0.fKind) :: (71, .ptr 1 0 0) :: T28, B28⟩ ?_
                   rcases dich (!v88) with hb90 | hb90
                   · replace h := cond_t hb90 h
                     refine ct hb90 ?_
                     let T37 : List (Nat × X) := [(1, .ptr 1 0 0), (6, zB v3.2.2.2)]
                     let B37 : List (Nat × Bx) := [(1, ⟨0, 0, true, some (encRec a0)⟩)]
                     refine wkr [1, 6] [(1, 1, false)] ⟨T37, B37⟩ ?_
                     refine sqr cv hn ?_
                     refine ro9 0 1 1 ⟨(2, zB false) :: T37, B37⟩ ?_
                     refine runs_ret ?_
                     exact fin _ _ h (by kernel_rfl)
                   · replace h := cond_f hb90 h
                     refine cf hb90 ?_
                     refine runs_skip ?_
                     exact ⟨(), h, wre [1, 6] [(1, 1, false)]⟩
                 · replace h := cond_f hb87 h
                   refine rl 84 false hb87 ?_
                   refine ro9 14 6 2 ⟨(90, zB false) :: (89, zB false) :: (88, .tup []) :: (87, .tup []) :: (86, .tup []) :: (85, .tup []) :: (84, zB false) :: (83, zB (decide (a0.fKind > 4))) :: (82, zI a0.fKind) :: (81, .ptr 1 0 0) :: (80, zB false) :: (79, zB (!v84)) :: (78, zB (!v84)) :: (77, zB v84) :: (76, zI a0.fAmt) :: (75, .ptr 1 0 4) :: (74, zB true) :: (73, zB (decide (a0.fKind ≤ 4))) :: (72, zI a0.fKind) :: (71, .ptr 1 0 0) :: T28, B28⟩ ?_
                   refine cF ?_
                   refine runs_skip ?_
                   exact ⟨(), h, wre [1, 6] [(1, 1, false)]⟩
             · replace h := cond_f hb83 h
               refine rl 74 false hb83 ?_
               refine ro 4 10 6 ⟨(84, zB (decide (a0.fKind > 4))) :: (83, zB (decide (a0.fKind > 4))) :: (82, zI a0.fKind) :: (81, .ptr 1 0 0) :: (80, zB false) :: (79, zB false) :: (78, .tup []) :: (77, .tup []) :: (76, .tup []) :: (75, .tup []) :: (74, zB false) :: (73, zB (decide (a0.fKind ≤ 4))) :: (72, zI a0.fKind) :: (71, .ptr 1 0 0) :: T28, B28⟩ ?_
               rcases dich (decide (a0.fKind > 4)) with hb91 | hb91
               · replace h := cond_t hb91 h
                 refine rl 84 true hb91 ?_
                 refine ro 14 2 2 ⟨(86, zI a0.fAmt) :: (85, .ptr 1 0 4) :: (84, zB true) :: (83, zB (decide (a0.fKind > 4))) :: (82, zI a0.fKind) :: (81, .ptr 1 0 0) :: (80, zB false) :: (79, zB false) :: (78, .tup []) :: (77, .tup []) :: (76, .tup []) :: (75, .tup []) :: (74, zB false) :: (73, zB (decide (a0.fKind ≤ 4))) :: (72, zI a0.fKind) :: (71, .ptr 1 0 0) :: T28, B28⟩ ?_
                 obtain ⟨v92, hv93, h⟩ := bindO h
                 refine rc 16 ⟨(87, zB v92) :: (86, zI a0.fAmt) :: (85, .ptr 1 0 4) :: (84, zB true) :: (83, zB (decide (a0.fKind > 4))) :: (82, zI a0.fKind) :: (81, .ptr 1 0 0) :: (80, zB false) :: (79, zB false) :: (78, .tup []) :: (77, .tup []) :: (76, .tup []) :: (75, .tup []) :: (74, zB false) :: (73, zB (decide (a0.fKind ≤ 4))) :: (72, zI a0.fKind) :: (71, .ptr 1 0 0) :: T28, B28⟩ (spec_l01Num_spec a0.fAmt v92 hv93) ?_
                 refine ro9 17 3 3 ⟨(90, zB (!v92)) :: (89, zB (!v92)) :: (88, zB (!v92)) :: (87, zB v92) :: (86, zI a0.fAmt) :: (85, .ptr 1 0 4) :: (84, zB true) :: (83, zB (decide (a0.fKind > 4))) :: (82, zI a0.fKind) :: (81, .ptr 1 0 0) :: (80, zB false) :: (79, zB false) :: (78, .tup []) :: (77, .tup []) :: (76, .tup []) :: (75, .tup []) :: (74, zB false) :: (73, zB (decide (a0.fKind ≤ 4))) :: (72, zI a0.fKind) :: (71, .ptr 1 0 0) :: T28, B28⟩ ?_
                 rcases dich (!v92) with hb94 | hb94
                 · replace h := cond_t hb94 h
                   refine ct hb94 ?_
                   let T38 : List (Nat × X) := [(1, .ptr 1 0 0), (6, zB v3.2.2.2)]
                   let B38 : List (Nat × Bx) := [(1, ⟨0, 0, true, some (encRec a0)⟩)]
                   refine wkr [1, 6] [(1, 1, false)] ⟨T38, B38⟩ ?_
                   refine sqr cv hn ?_
                   refine ro9 0 1 1 ⟨(2, zB false) :: T38, B38⟩ ?_
                   refine runs_ret ?_
                   exact fin _ _ h (by kernel_rfl)
                 · replace h := cond_f hb94 h
                   refine cf hb94 ?_
                   refine runs_skip ?_
                   exact ⟨(), h, wre [1, 6] [(1, 1, false)]⟩
               · replace h := cond_f hb91 h
                 refine rl 84 false hb91 ?_
                 refine ro9 14 6 2 ⟨(90, zB false) :: (89, zB false) :: (88, .tup []) :: (87, .tup []) :: (86, .tup []) :: (85, .tup []) :: (84, zB false) :: (83, zB (decide (a0.fKind > 4))) :: (82, zI a0.fKind) :: (81, .ptr 1 0 0) :: (80, zB false) :: (79, zB false) :: (78, .tup []) :: (77, .tup []) :: (76, .tup []) :: (75, .tup []) :: (74, zB false) :: (73, zB (decide (a0.fKind ≤ 4))) :: (72, zI a0.fKind) :: (71, .ptr 1 0 0) :: T28, B28⟩ ?_
                 refine cF ?_
                 refine runs_skip ?_
                 exact ⟨(), h, wre [1, 6] [(1, 1, false)]⟩
         · skip
           let T39 : List (Nat × X) := [(6, zB v3.2.2.2), (5, zB v3.2.2.1), (4, zB v3.2.1), (3, zB v3.1), (1, .ptr 1 0 0)]
           let B39 : List (Nat × Bx) := [(1, ⟨0, 0, true, some (encRec a0)⟩)]
           refine wkr [6, 5, 4, 3, 1] [(1, 1, false)] ⟨T39, B39⟩ ?_
           refine sqr cv hn ?_
           refine ro 0 3 3 ⟨(39, zB (!v3.1)) :: (38, zB (!v3.1)) :: (37, zB v3.1) :: T39, B39⟩ ?_
           rcases dich (!v3.1) with hb95 | hb95
           · replace h := cond_t hb95 h
             refine rl 39 true hb95 ?_
             refine ro 3 5 5 ⟨(44, zB (a0.fAcct != 0)) :: (43, zB (a0.fAcct != 0)) :: (42, zB (a0.fAcct != 0)) :: (41, zI a0.fAcct) :: (40, .ptr 1 0 1) :: (39, zB true) :: (38, zB (!v3.1)) :: (37, zB v3.1) :: T39, B39⟩ ?_
             rcases dich (a0.fAcct != 0) with hb96 | hb96
             · replace h := cond_t hb96 h
               refine rl 44 true hb96 ?_
               refine ro9 8 26 5 ⟨(70, zB true) :: (69, .tup []) :: (68, .tup []) :: (67, .tup []) :: (66, .tup []) :: (65, .tup []) :: (64, .tup []) :: (63, .tup []) :: (62, zB true) :: (61, zB true) :: (60, .tup []) :: (59, .tup []) :: (58, .tup []) :: (57, .tup []) :: (56, .tup []) :: (55, .tup []) :: (54, .tup []) :: (53, zB true) :: (52, zB true) :: (51, .tup []) :: (50, .tup []) :: (49, .tup []) :: (48, .tup []) :: (47, .tup []) :: (46, .tup []) :: (45, .tup []) :: (44, zB true) :: (43, zB (a0.fAcct != 0)) :: (42, zB (a0.fAcct != 0)) :: (41, zI a0.fAcct) :: (40, .ptr 1 0 1) :: (39, zB true) :: (38, zB (!v3.1)) :: (37, zB v3.1) :: T39, B39⟩ ?_
               refine cT ?_
               let T40 : List (Nat × X) := [(6, zB v3.2.2.2), (1, .ptr 1 0 0)]
               let B40 : List (Nat × Bx) := [(1, ⟨0, 0, true, some (encRec a0)⟩)]
               refine wkr [6, 1] [(1, 1, false)] ⟨T40, B40⟩ ?_
               refine sqr cv hn ?_
               refine ro9 0 1 1 ⟨(2, zB false) :: T40, B40⟩ ?_
               refine runs_ret ?_
               exact fin _ _ h (by kernel_rfl)
             · replace h := cond_f hb96 h
               refine rl 44 false hb96 ?_
               refine ro 8 3 3 ⟨(47, zB (!v3.2.1)) :: (46, zB (!v3.2.1)) :: (45, zB v3.2.1) :: (44, zB false) :: (43, zB (a0.fAcct != 0)) :: (42, zB (a0.fAcct != 0)) :: (41, zI a0.fAcct) :: (40, .ptr 1 0 1) :: (39, zB true) :: (38, zB (!v3.1)) :: (37, zB v3.1) :: T39, B39⟩ ?_
               rcases dich (!v3.2.1) with hb97 | hb97
               · replace h := cond_t hb97 h
                 refine rl 47 true hb97 ?_
                 refine ro 11 6 6 ⟨(53, zB (a0.fOther != 0)) :: (52, zB (a0.fOther != 0)) :: (51, zB (a0.fOther != 0)) :: (50, zB (a0.fOther != 0)) :: (49, zI a0.fOther) :: (48, .ptr 1 0 2) :: (47, zB true) :: (46, zB (!v3.2.1)) :: (45, zB v3.2.1) :: (44, zB false) :: (43, zB (a0.fAcct != 0)) :: (42, zB (a0.fAcct != 0)) :: (41, zI a0.fAcct) :: (40, .ptr 1 0 1) :: (39, zB true) :: (38, zB (!v3.1)) :: (37, zB v3.1) :: T39, B39⟩ ?_
                 rcases dich (a0.fOther != 0) with hb98 | hb98
                 · replace h := cond_t hb98 h
                   refine rl 53 true hb98 ?_
                   refine ro9 17 17 3 ⟨(70, zB true) :: (69, .tup []) :: (68, .tup []) :: (67, .tup []) :: (66, .tup []) :: (65, .tup []) :: (64, .tup []) :: (63, .tup []) :: (62, zB true) :: (61, zB true) :: (60, .tup []) :: (59, .tup []) :: (58, .tup []) :: (57, .tup []) :: (56, .tup []) :: (55, .tup []) :: (54, .tup []) :: (53, zB true) :: (52, zB (a0.fOther != 0)) :: (51, zB (a0.fOther != 0)) :: (50, zB (a0.fOther != 0)) :: (49, zI a0.fOther) :: (48, .ptr 1 0 2) :: (47, zB true) :: (46, zB (!v3.2.1)) :: (45, zB v3.2.1) :: (44, zB false) :: (43, zB (a0.fAcct != 0)) :: (42, zB (a0.fAcct != 0)) :: (41, zI a0.fAcct) :: (40, .ptr 1 0 1) :: (39, zB true) :: (38, zB (!v3.1)) :: (37, zB v3.1) :: T39, B39⟩ ?_
                   refine cT ?_
                   let T41 : List (Nat × X) := [(6, zB v3.2.2.2), (1, .ptr 1 0 0)]
                   let B41 : List (Nat × Bx) := [(1, ⟨0, 0, true, some (encRec a0)⟩)]
                   refine wkr [6, 1] [(1, 1, false)] ⟨T41, B41⟩ ?_
                   refine sqr cv hn ?_
                   refine ro9 0 1 1 ⟨(2, zB false) :: T41, B41⟩ ?_
                   refine runs_ret ?_
                   exact fin _ _ h (by kernel_rfl)
                 · replace h := cond_f hb98 h
                   refine rl 53 false hb98 ?_
                   refine ro 17 3 3 ⟨(56, zB (!v3.2.2.1)) :: (55, zB (!v3.2.2.1)) :: (54, zB v3.2.2.1) :: (53, zB false) :: (52, zB (a0.fOther != 0)) :: (51, zB (a0.fOther != 0)) :: (50, zB (a0.fOther != 0)) :: (49, zI a0.fOther) :: (48, .ptr 1 0 2) :: (47, zB true) :: (46, zB (!v3.2.1)) :: (45, zB v3.2.1) :: (44, zB false) :: (43, zB (a0.fAcct != 0)) :: (42, zB (a0.fAcct != 0)) :: (41, zI a0.fAcct) :: (40, .ptr 1 0 1) :: (39, zB true) :: (38, zB (!v3.1)) :: (37, zB v3.1) :: T39, B39⟩ ?_
                   rcases dich (!v3.2.2.1) with hb99 | hb99
                   · replace h := cond_t hb99 h
                     refine rl 56 true hb99 ?_
                     refine ro 20 6 6 ⟨(62, zB (a0.fTo != 0)) :: (61, zB (a0.fTo != 0)) :: (60, zB (a0.fTo != 0)) :: (59, zB (a0.fTo != 0)) :: (58, zI a0.fTo) :: (57, .ptr 1 0 3) :: (56, zB true) :: (55, zB (!v3.2.2.1)) :: (54, zB v3.2.2.1) :: (53, zB false) :: (52, zB (a0.fOther != 0)) :: (51, zB (a0.fOther != 0)) :: (50, zB (a0.fOther != 0)) :: (49, zI a0.fOther) :: (48, .ptr 1 0 2) :: (47, zB true) :: (46, zB (!v3.2.1)) :: (45, zB v3.2.1) :: (44, zB false) :: (43, zB (a0.fAcct != 0)) :: (42, zB (a0.fAcct != 0)) :: (41, zI a0.fAcct) :: (40, .ptr 1 0 1) :: (39, zB true) :: (38, zB (!v3.1)) :: (37, zB v3.1) :: T39, B39⟩ ?_
                     rcases dich (a0.fTo != 0) with hb100 | hb100
                     · replace h := cond_t hb100 h
                       refine rl 62 true hb100 ?_
                       refine ro9 26 8 1 ⟨(70, zB true) :: (69, .tup []) :: (68, .tup []) :: (67, .tup []) :: (66, .tup []) :: (65, .tup []) :: (64, .tup []) :: (63, .tup []) :: (62, zB true) :: (61, zB (a0.fTo != 0)) :: (60, zB (a0.fTo != 0)) :: (59, zB (a0.fTo != 0)) :: (58, zI a0.fTo) :: (57, .ptr 1 0 3) :: (56, zB true) :: (55, zB (!v3.2.2.1)) :: (54, zB v3.2.2.1) :: (53, zB false) :: (52, zB (a0.fOther != 0)) :: (51, zB (a0.fOther != 0)) :: (50, zB (a0.fOther != 0)) :: (49, zI a0.fOther) :: (48, .ptr 1 0 2) :: (47, zB true) :: (46, zB (!v3.2.1)) :: (45, zB v3.2.1) :: (44, zB false) :: (43, zB (a0.fAcct != 0)) :: (42, zB (a0.fAcct != 0)) :: (41, zI a0.fAcct) :: (40, .ptr 1 0 1) :: (39, zB true) :: (38, zB (!v3.1)) :: (37, zB v3.1) :: T39, B39⟩ ?_
                       refine cT ?_
                       let T42 : List (Nat × X) := [(6, zB v3.2.2.2), (1, .ptr 1 0 0)]
                       let B42 : List (Nat × Bx) := [(1, ⟨0, 0, true, some (encRec a0)⟩)]
                       refine wkr [6, 1] [(1, 1, false)] ⟨T42, B42⟩ ?_
                       refine sqr cv hn ?_
                       refine ro9 0 1 1 ⟨(2, zB false) :: T42, B42⟩ ?_
                       refine runs_ret ?_
                       exact fin _ _ h (by kernel_rfl)
                     · replace h := cond_f hb100 h
                       refine rl 62 false hb100 ?_
                       refine ro 26 3 3 ⟨(65, zB (!v3.2.2.2)) :: (64, zB (!v3.2.2.2)) :: (63, zB v3.2.2.2) :: (62, zB false) :: (61, zB (a0.fTo != 0)) :: (60, zB (a0.fTo != 0)) :: (59, zB (a0.fTo != 0)) :: (58, zI a0.fTo) :: (57, .ptr 1 0 3) :: (56, zB true) :: (55, zB (!v3.2.2.1)) :: (54, zB v3.2.2.1) :: (53, zB false) :: (52, zB (a0.fOther != 0)) :: (51, zB (a0.fOther != 0)) :: (50, zB (a0.fOther != 0)) :: (49, zI a0.fOther) :: (48, .ptr 1 0 2) :: (47, zB true) :: (46, zB (!v3.2.1)) :: (45, zB v3.2.1) :: (44, zB false) :: (43, zB (a0.fAcct != 0)) :: (42, zB (a0.fAcct != 0)) :: (41, zI a0.fAcct) :: (40, .ptr 1 0 1) :: (39, zB true) :: (38, zB (!v3.1)) :: (37, zB v3.1) :: T39, B39⟩ ?_
                       rcases dich (!v3.2.2.2) with hb101 | hb101
                       · replace h := cond_t hb101 h
                         refine rl 65 true hb101 ?_
                         refine ro9 29 5 5 ⟨(70, zB (a0.fAmt != 0)) :: (69, zB (a0.fAmt != 0)) :: (68, zB (a0.fAmt != 0)) :: (67, zI a0.fAmt) :: (66, .ptr 1 0 4) :: (65, zB true) :: (64, zB (!v3.2.2.2)) :: (63, zB v3.2.2.2) :: (62, zB false) :: (61, zB (a0.fTo != 0)) :: (60, zB (a0.fTo != 0)) :: (59, zB (a0.fTo != 0)) :: (58, zI a0.fTo) :: (57, .ptr 1 0 3) :: (56, zB true) :: (55, zB (!v3.2.2.1)) :: (54, zB v3.2.2.1) :: (53, zB false) :: (52, zB (a0.fOther != 0)) :: (51, zB (a0.fOther != 0)) :: (50, zB (a0.fOther != 0)) :: (49, zI a0.fOther) :: (48, .ptr 1 0 2) :: (47, zB true) :: (46, zB (!v3.2.1)) :: (45, zB v3.2.1) :: (44, zB false) :: (43, zB (a0.fAcct != 0)) :: (42, zB (a0.fAcct != 0)) :: (41, zI a0.fAcct) :: (40, .ptr 1 0 1) :: (39, zB true) :: (38, zB (!v3.1)) :: (37, zB v3.1) :: T39, B39⟩ ?_
                         rcases dich (a0.fAmt != 0) with hb102 | hb102
                         · replace h := cond_t hb102 h
                           refine ct hb102 ?_
                           let T43 : List (Nat × X) := [(6, zB v3.2.2.2), (1, .ptr 1 0 0)]
                           let B43 : List (Nat × Bx) := [(1, ⟨0, 0, true, some (encRec a0)⟩)]
                           refine wkr [6, 1] [(1, 1, false)] ⟨T43, B43⟩ ?_
                           refine sqr cv hn ?_
                           refine ro9 0 1 1 ⟨(2, zB false) :: T43, B43⟩ ?_
                           refine runs_ret ?_
                           exact fin _ _ h (by kernel_rfl)
                         · replace h := cond_f hb102 h
                           refine cf hb102 ?_
                           refine runs_skip ?_
                           exact ⟨(), h, wre [1, 6] [(1, 1, false)]⟩
                       · replace h := cond_f hb101 h
                         refine rl 65 false hb101 ?_
                         refine ro9 29 5 2 ⟨(70, zB false) :: (69, zB false) :: (68, .tup []) :: (67, .tup []) :: (66, .tup []) :: (65, zB false) :: (64, zB (!v3.2.2.2)) :: (63, zB v3.2.2.2) :: (62, zB false) :: (61, zB (a0.fTo != 0)) :: (60, zB (a0.fTo != 0)) :: (59, zB (a0.fTo != 0)) :: (58, zI a0.fTo) :: (57, .ptr 1 0 3) :: (56, zB true) :: (55, zB (!v3.2.2.1)) :: (54, zB v3.2.2.1) :: (53, zB false) :: (52, zB (a0.fOther != 0)) :: (51, zB (a0.fOther != 0)) :: (50, zB (a0.fOther != 0)) :: (49, zI a0.fOther) :: (48, .ptr 1 0 2) :: (47, zB true) :: (46, zB (!v3.2.1)) :: (45, zB v3.2.1) :: (44, zB false) :: (43, zB (a0.fAcct != 0)) :: (42, zB (a0.fAcct != 0)) :: (41, zI a0.fAcct) :: (40, .ptr 1 0 1) :: (39, zB true) :: (38, zB (!v3.1)) :: (37, zB v3.1) :: T39, B39⟩ ?_
                         refine cF ?_
                         refine runs_skip ?_
                         exact ⟨(), h, wre [1, 6] [(1, 1, false)]⟩
                   · replace h := cond_f hb99 h
                     refine rl 56 false hb99 ?_
                     refine ro 20 9 6 ⟨(65, zB (!v3.2.2.2)) :: (64, zB (!v3.2.2.2)) :: (63, zB v3.2.2.2) :: (62, zB false) :: (61, zB false) :: (60, zB false) :: (59, .tup []) :: (58, .tup []) :: (57, .tup []) :: (56, zB false) :: (55, zB (!v3.2.2.1)) :: (54, zB v3.2.2.1) :: (53, zB false) :: (52, zB (a0.fOther != 0)) :: (51, zB (a0.fOther != 0)) :: (50, zB (a0.fOther != 0)) :: (49, zI a0.fOther) :: (48, .ptr 1 0 2) :: (47, zB true) :: (46, zB (!v3.2.1)) :: (45, zB v3.2.1) :: (44, zB false) :: (43, zB (a0.fAcct != 0)) :: (42, zB (a0.fAcct != 0)) :: (41, zI a0.fAcct) :: (40, .ptr 1 0 1) :: (39, zB true) :: (38, zB (!v3.1)) :: (37, zB v3.1) :: T39, B39⟩ ?_
                     rcases dich (!v3.2.2.2) with hb103 | hb103
                     · replace h := cond_t hb103 h
                       refine rl 65 true hb103 ?_
                       refine ro9 29 5 5 ⟨(70, zB (a0.fAmt != 0)) :: (69, zB (a0.fAmt != 0)) :: (68, zB (a0.fAmt != 0)) :: (67, zI a0.fAmt) :: (66, .ptr 1 0 4) :: (65, zB true) :: (64, zB (!v3.2.2.2)) :: (63, zB v3.2.2.2) :: (62, zB false) :: (61, zB false) :: (60, zB false) :: (59, .tup []) :: (58, .tup []) :: (57, .tup []) :: (56, zB false) :: (55, zB (!v3.2.2.1)) :: (54, zB v3.2.2.1) :: (53, zB false) :: (52, zB (a0.fOther != 0)) :: (51, zB (a0.fOther != 0)) :: (50, zB (a0.fOther != 0)) :: (49, zI a0.fOther) :: (48, .ptr 1 0 2) :: (47, zB true) :: (46, zB (!v3.2.1)) :: (45, zB v3.2.1) :: (44, zB false) :: (43, zB (a0.fAcct != 0)) :: (42, zB (a0.fAcct != 0)) :: (41, zI a0.fAcct) :: (40, .ptr 1 0 1) :: (39, zB true) :: (38, zB (!v3.1)) :: (37, zB v3.1) :: T39, B39⟩ ?_
                       rcases dich (a0.fAmt != 0) with hb104 | hb104
                       · replace h := cond_t hb104 h
                         refine ct hb104 ?_
                         let T44 : List (Nat × X) := [(6, zB v3.2.2.2), (1, .ptr 1 0 0)]
                         let B44 : List (Nat × Bx) := [(1, ⟨0, 0, true, some (encRec a0)⟩)]
                         refine wkr [6, 1] [(1, 1, false)] ⟨T44, B44⟩ ?_
                         refine sqr cv hn ?_
                         refine ro9 0 1 1 ⟨(2, zB false) :: T44, B44⟩ ?_
                         refine runs_ret ?_
                         exact fin _ _ h (by kernel_rfl)
                       · replace h := cond_f hb104 h
                         refine cf hb104 ?_
                         refine runs_skip ?_
                         exact ⟨(), h, wre [1, 6] [(1, 1, false)]⟩
                     · replace h := cond_f hb103 h
                       refine rl 65 false hb103 ?_
                       refine ro9 29 5 2 ⟨(70, zB false) :: (69, zB false) :: (68, .tup []) :: (67, .tup []) :: (66, .tup []) :: (65, zB false) :: (64, zB (!v3.2.2.2)) :: (63, zB v3.2.2.2) :: (62, zB false) :: (61, zB false) :: (60, zB false) :: (59, .tup []) :: (58, .tup []) :: (57, .tup []) :: (56, zB false) :: (55, zB (!v3.2.2.1)) :: (54, zB v3.2.2.1) :: (53, zB false) :: (52, zB (a0.fOther != 0)) :: (51, zB (a0.fOther != 0)) :: (50, zB (a0.fOther != 0)) :: (49, zI a0.fOther) :: (48, .ptr 1 0 2) :: (47, zB true) :: (46, zB (!v3.2.1)) :: (45, zB v3.2.1) :: (44, zB false) :: (43, zB (a0.fAcct != 0)) :: (42, zB (a0.fAcct != 0)) :: (41, zI a0.fAcct) :: (40, .ptr 1 0 1) :: (39, zB true) :: (38, zB (!v3.1)) :: (37, zB v3.1) :: T39, B39⟩ ?_
                       refine cF ?_
                       refine runs_skip ?_
                       exact ⟨(), h, wre [1, 6] [(1, 1, false)]⟩
               · replace h := cond_f hb97 h
                 refine rl 47 false hb97 ?_
                 refine ro 11 9 6 ⟨(56, zB (!v3.2.2.1)) :: (55, zB (!v3.2.2.1)) :: (54, zB v3.2.2.1) :: (53, zB false) :: (52, zB false) :: (51, zB false) :: (50, .tup []) :: (49, .tup []) :: (48, .tup []) :: (47, zB false) :: (46, zB (!v3.2.1)) :: (45, zB v3.2.1) :: (44, zB false) :: (43, zB (a0.fAcct != 0)) :: (42, zB (a0.fAcct != 0)) :: (41, zI a0.fAcct) :: (40, .ptr 1 0 1) :: (39, zB true) :: (38, zB (!v3.1)) :: (37, zB v3.1) :: T39, B39⟩ ?_
                 rcases dich (!v3.2.2.1) with hb105 | hb105
                 · replace h := cond_t hb105 h
                   refine rl 56 true hb105 ?_
                   refine ro 20 6 6 ⟨(62, zB (a0.fTo != 0)) :: (61, zB (a0.fTo != 0)) :: (60, zB (a0.fTo != 0)) :: (59, zB (a0.fTo != 0)) :: (58, zI a0.fTo) :: (57, .ptr 1 0 3) :: (56, zB true) :: (55, zB (!v3.2.2.1)) :: (54, zB v3.2.2.1) :: (53, zB false) :: (52, zB false) :: (51, zB false) :: (50, .tup []) :: (49, .tup []) :: (48, .tup []) :: (47, zB false) :: (46, zB (!v3.2.1)) :: (45, zB v3.2.1) :: (44, zB false) :: (43, zB (a0.fAcct != 0)) :: (42, zB (a0.fAcct != 0)) :: (41, zI a0.fAcct) :: (40, .ptr 1 0 1) :: (39, zB true) :: (38, zB (!v3.1)) :: (37, zB v3.1) :: T39, B39⟩ ?_
                   rcases dich (a0.fTo != 0) with hb106 | hb106
                   · replace h := cond_t hb106 h
                     refine rl 62 true hb106 ?_
                     refine ro9 26 8 1 ⟨(70, zB true) :: (69, .tup []) :: (68, .tup []) :: (67, .tup []) :: (66, .tup []) :: (65, .tup []) :: (64, .tup []) :: (63, .tup []) :: (62, zB true) :: (61, zB (a0.fTo != 0)) :: (60, zB (a0.fTo != 0)) :: (59, zB (a0.fTo != 0)) :: (58, zI a0.fTo) :: (57, .ptr 1 0 3) :: (56, zB true) :: (55, zB (!v3.2.2.1)) :: (54, zB v3.2.2.1) :: (53, zB false) :: (52, zB false) :: (51, zB false) :: (50, .tup []) :: (49, .tup []) :: (48, .tup []) :: (47, zB false) :: (46, zB (!v3.2.1)) :: (45, zB v3.2.1) :: (44, zB false) :: (43, zB (a0.fAcct != 0)) :: (42, zB (a0.fAcct != 0)) :: (41, zI a0.fAcct) :: (40, .ptr 1 0 1) :: (39, zB true) :: (38, zB (!v3.1)) :: (37, zB v3.1) :: T39, B39⟩ ?_
                     refine cT ?_
                     let T45 : List (Nat × X) := [(6, zB v3.2.2.2), (1, .ptr 1 0 0)]
                     let B45 : List (Nat × Bx) := [(1, ⟨0, 0, true, some (encRec a0)⟩)]
                     refine wkr [6, 1] [(1, 1, false)] ⟨T45, B45⟩ ?_
                     refine sqr cv hn ?_
                     refine ro9 0 1 1 ⟨(2, zB false) :: T45, B45⟩ ?_
                     refine runs_ret ?_
                     exact fin _ _ h (by kernel_rfl)
                   · replace h := cond_f hb106 h
                     refine rl 62 false hb106 ?_
                     refine ro 26 3 3 ⟨(65, zB (!v3.2.2.2)) :: (64, zB (!v3.2.2.2)) :: (63, zB v3.2.2.2) :: (62, zB false) :: (61, zB (a0.fTo != 0)) :: (60, zB (a0.fTo != 0)) :: (59, zB (a0.fTo != 0)) :: (58, zI a0.fTo) :: (57, .ptr 1 0 3) :: (56, zB true) :: (55, zB (!v3.2.2.1)) :: (54, zB v3.2.2.1) :: (53, zB false) :: (52, zB false) :: (51, zB false) :: (50, .tup []) :: (49, .tup []) :: (48, .tup []) :: (47, zB false) :: (46, zB (!v3.2.1)) :: (45, zB v3.2.1) :: (44, zB false) :: (43, zB (a0.fAcct != 0)) :: (42, zB (a0.fAcct != 0)) :: (41, zI a0.fAcct) :: (40, .ptr 1 0 1) :: (39, zB true) :: (38, zB (!v3.1)) :: (37, zB v3.1) :: T39, B39⟩ ?_
                     rcases dich (!v3.2.2.2) with hb107 | hb107
                     · replace h := cond_t hb107 h
                       refine rl 65 true hb107 ?_
                       refine ro9 29 5 5 ⟨(70, zB (a0.fAmt != 0)) :: (69, zB (a0.fAmt != 0)) :: (68, zB (a0.fAmt != 0)) :: (67, zI a0.fAmt) :: (66, .ptr 1 0 4) :: (65, zB true) :: (64, zB (!v3.2.2.2)) :: (63, zB v3.2.2.2) :: (62, zB false) :: (61, zB (a0.fTo != 0)) :: (60, zB (a0.fTo != 0)) :: (59, zB (a0.fTo != 0)) :: (58, zI a0.fTo) :: (57, .ptr 1 0 3) :: (56, zB true) :: (55, zB (!v3.2.2.1)) :: (54, zB v3.2.2.1) :: (53, zB false) :: (52, zB false) :: (51, zB false) :: (50, .tup []) :: (49, .tup []) :: (48, .tup []) :: (47, zB false) :: (46, zB (!v3.2.1)) :: (45, zB v3.2.1) :: (44, zB false) :: (43, zB (a0.fAcct != 0)) :: (42, zB (a0.fAcct != 0)) :: (41, zI a0.fAcct) :: (40, .ptr 1 0 1) :: (39, zB true) :: (38, zB (!v3.1)) :: (37, zB v3.1) :: T39, B39⟩ ?_
                       rcases dich (a0.fAmt != 0) with hb108 | hb108
                       · replace h := cond_t hb108 h
                         refine ct hb108 ?_
                         let T46 : List (Nat × X) := [(6, zB v3.2.2.2), (1, .ptr 1 0 0)]
                         let B46 : List (Nat × Bx) := [(1, ⟨0, 0, true, some (encRec a0)⟩)]
                         refine wkr [6, 1] [(1, 1, false)] ⟨T46, B46⟩ ?_
                         refine sqr cv hn ?_
                         refine ro9 0 1 1 ⟨(2, zB false) :: T46, B46⟩ ?_
                         refine runs_ret ?_
                         exact fin _ _ h (by kernel_rfl)
                       · replace h := cond_f hb108 h
                         refine cf hb108 ?_
                         refine runs_skip ?_
                         exact ⟨(), h, wre [1, 6] [(1, 1, false)]⟩
                     · replace h := cond_f hb107 h
                       refine rl 65 false hb107 ?_
                       refine ro9 29 5 2 ⟨(70, zB false) :: (69, zB false) :: (68, .tup []) :: (67, .tup []) :: (66, .tup []) :: (65, zB false) :: (64, zB (!v3.2.2.2)) :: (63, zB v3.2.2.2) :: (62, zB false) :: (61, zB (a0.fTo != 0)) :: (60, zB (a0.fTo != 0)) :: (59, zB (a0.fTo != 0)) :: (58, zI a0.fTo) :: (57, .ptr 1 0 3) :: (56, zB true) :: (55, zB (!v3.2.2.1)) :: (54, zB v3.2.2.1) :: (53, zB false) :: (52, zB false) :: (51, zB false) :: (50, .tup []) :: (49, .tup []) :: (48, .tup []) :: (47, zB false) :: (46, zB (!v3.2.1)) :: (45, zB v3.2.1) :: (44, zB false) :: (43, zB (a0.fAcct != 0)) :: (42, zB (a0.fAcct != 0)) :: (41, zI a0.fAcct) :: (40, .ptr 1 0 1) :: (39, zB true) :: (38, zB (!v3.1)) :: (37, zB v3.1) :: T39, B39⟩ ?_
                       refine cF ?_
                       refine runs_skip ?_
                       exact ⟨(), h, wre [1, 6] [(1, 1, false)]⟩
                 · replace h := cond_f hb105 h
                   refine rl 56 false hb105 ?_
                   refine ro 20 9 6 ⟨(65, zB (!v3.2.2.2)) :: (64, zB (!v3.2.2.2)) :: (63, zB v3.2.2.2) :: (62, zB false) :: (61, zB false) :: (60, zB false) :: (59, .tup []) :: (58, .tup []) :: (57, .tup []) :: (56, zB false) :: (55, zB (!v3.2.2.1)) :: (54, zB v3.2.2.1) :: (53, zB false) :: (52, zB false) :: (51, zB false) :: (50, .tup []) :: (49, .tup []) :: (48, .tup []) :: (47, zB false) :: (46, zB (!v3.2.1)) :: (45, zB v3.2.1) :: (44, zB false) :: (43, zB (a0.fAcct != 0)) :: (42, zB (a0.fAcct != 0)) :: (41, zI a0.fAcct) :: (40, .ptr 1 0 1) :: (39, zB true) :: (38, zB (!v3.1)) :: (37, zB v3.1) :: T39, B39⟩ ?_
                   rcases dich (!v3.2.2.2) with hb109 | hb109
                   · replace h := cond_t hb109 h
                     refine rl 65 true hb109 ?_
                     refine ro9 29 5 5 ⟨(70, zB (a0.fAmt != 0)) :: (69, zB (a0.fAmt != 0)) :: (68, zB (a0.fAmt != 0)) :: (67, zI a0.fAmt) :: (66, .ptr 1 0 4) :: (65, zB true) :: (64, zB (!v3.2.2.2)) :: (63, zB v3.2.2.2) :: (62, zB false) :: (61, zB false) :: (60, zB false) :: (59, .tup []) :: (58, .tup []) :: (57, .tup []) :: (56, zB false) :: (55, zB (!v3.2.2.1)) :: (54, zB v3.2.2.1) :: (53, zB false) :: (52, zB false) :: (51, zB false) :: (50, .tup []) :: (49, .tup []) :: (48, .tup []) :: (47, zB false) :: (46, zB (!v3.2.1)) :: (45, zB v3.2.1) :: (44, zB false) :: (43, zB (a0.fAcct != 0)) :: (42, zB (a0.fAcct != 0)) :: (41, zI a0.fAcct) :: (40, .ptr 1 0 1) :: (39, zB true) :: (38, zB (!v3.1)) :: (37, zB v3.1) :: T39, B39⟩ ?_
                     rcases dich (a0.fAmt != 0) with hb110 | hb110
                     · replace h := cond_t hb110 h
                       refine ct hb110 ?_
                       let T47 : List (Nat × X) := [(6, zB v3.2.2.2), (1, .ptr 1 0 0)]
                       let B47 : List (Nat × Bx) := [(1, ⟨0, 0, true, some (encRec a0)⟩)]
                       refine wkr [6, 1] [(1, 1, false)] ⟨T47, B47⟩ ?_
                       refine sqr cv hn ?_
                       refine ro9 0 1 1 ⟨(2, zB false) :: T47, B47⟩ ?_
                       refine runs_ret ?_
                       exact fin _ _ h (by kernel_rfl)
                     · replace h := cond_f hb110 h
                       refine cf hb110 ?_
                       refine runs_skip ?_
                       exact ⟨(), h, wre [1, 6] [(1, 1, false)]⟩
                   · replace h := cond_f hb109 h
                     refine rl 65 false hb109 ?_
                     refine ro9 29 5 2 ⟨(70, zB false) :: (69, zB false) :: (68, .tup []) :: (67, .tup []) :: (66, .tup []) :: (65, zB false) :: (64, zB (!v3.2.2.2)) :: (63, zB v3.2.2.2) :: (62, zB false) :: (61, zB false) :: (60, zB false) :: (59, .tup []) :: (58, .tup []) :: (57, .tup []) :: (56, zB false) :: (55, zB (!v3.2.2.1)) :: (54, zB v3.2.2.1) :: (53, zB false) :: (52, zB false) :: (51, zB false) :: (50, .tup []) :: (49, .tup []) :: (48, .tup []) :: (47, zB false) :: (46, zB (!v3.2.1)) :: (45, zB v3.2.1) :: (44, zB false) :: (43, zB (a0.fAcct != 0)) :: (42, zB (a0.fAcct != 0)) :: (41, zI a0.fAcct) :: (40, .ptr 1 0 1) :: (39, zB true) :: (38, zB (!v3.1)) :: (37, zB v3.1) :: T39, B39⟩ ?_
                     refine cF ?_
                     refine runs_skip ?_
                     exact ⟨(), h, wre [1, 6] [(1, 1, false)]⟩
           · replace h := cond_f hb95 h
             refine rl 39 false hb95 ?_
             refine ro 3 8 5 ⟨(47, zB (!v3.2.1)) :: (46, zB (!v3.2.1)) :: (45, zB v3.2.1) :: (44, zB false) :: (43, zB false) :: (42, .tup []) :: (41, .tup []) :: (40, .tup []) :: (39, zB false) :: (38, zB (!v3.1)) :: (37, zB v3.1) :: T39, B39⟩ ?_
             rcases dich (!v3.2.1) with hb111 | hb111
             · replace h := cond_t hb111 h
               refine rl 47 true hb111 ?_
               refine ro 11 6 6 ⟨(53, zB (a0.fOther != 0)) :: (52, zB (a0.fOther != 0)) :: (51, zB (a0.fOther != 0)) :: (50, zB (a0.fOther != 0)) :: (49, zI a0.fOther) :: (48, .ptr 1 0 2) :: (47, zB true) :: (46, zB (!v3.2.1)) :: (45, zB v3.2.1) :: (44, zB false) :: (43, zB false) :: (42, .tup []) :: (41, .tup []) :: (40, .tup []) :: (39, zB false) :: (38, zB (!v3.1)) :: (37, zB v3.1) :: T39, B39⟩ ?_
               rcases dich (a0.fOther != 0) with hb112 | hb112
               · replace h := cond_t hb112 h
                 refine rl 53 true hb112 ?_
                 refine ro9 17 17 3 ⟨(70, zB true) :: (69, .tup []) :: (68, .tup []) :: (67, .tup []) :: (66, .tup []) :: (65, .tup []) :: (64, .tup []) :: (63, .tup []) :: (62, zB true) :: (61, zB true) :: (60, .tup []) :: (59, .tup []) :: (58, .tup []) :: (57, .tup []) :: (56, .tup []) :: (55, .tup []) :: (54, .tup []) :: (53, zB true) :: (52, zB (a0.fOther != 0)) :: (51, zB (a0.fOther != 0)) :: (50, zB (a0.fOther != 0)) :: (49, zI a0.fOther) :: (48, .ptr 1 0 2) :: (47, zB true) :: (46, zB (!v3.2.1)) :: (45, zB v3.2.1) :: (44, zB false) :: (43, zB false) :: (42, .tup []) :: (41, .tup []) :: (40, .tup []) :: (39, zB false) :: (38, zB (!v3.1)) :: (37, zB v3.1) :: T39, B39⟩ ?_
                 refine cT ?_
                 let T48 : List (Nat × X) := [(6, zB v3.2.2.2), (1, .ptr 1 0 0)]
                 let B48 : List (Nat × Bx) := [(1, ⟨0, 0, true, some (encRec a0)⟩)]
                 refine wkr [6, 1] [(1, 1, false)] ⟨T48, B48⟩ ?_
                 refine sqr cv hn ?_
                 refine ro9 0 1 1 ⟨(2, zB false) :: T48, B48⟩ ?_
                 refine runs_ret ?_
                 exact fin _ _ h (by kernel_rfl)
               · replace h := cond_f hb112 h
                 refine rl 53 false hb112 ?_
                 refine ro 17 3 3 ⟨(56, zB (!v3.2.2.1)) :: (55, zB (!v3.2.2.1)) :: (54, zB v3.2.2.1) :: (53, zB false) :: (52, zB (a0.fOther != 0)) :: (51, zB (a0.fOther != 0)) :: (50, zB (a0.fOther != 0)) :: (49, zI a0.fOther) :: (48, .ptr 1 0 2) :: (47, zB true) :: (46, zB (!v3.2.1)) :: (45, zB v3.2.1) :: (44, zB false) :: (43, zB false) :: (42, .tup []) :: (41, .tup []) :: (40, .tup []) :: (39, zB false) :: (38, zB (!v3.1)) :: (37, zB v3.1) :: T39, B39⟩ ?_
                 rcases dich (!v3.2.2.1) with hb113 | hb113
                 · replace h := cond_t hb113 h
                   refine rl 56 true hb113 ?_
                   refine ro 20 6 6 ⟨(62, zB (a0.fTo != 0)) :: (61, zB (a0.fTo != 0)) :: (60, zB (a0.fTo != 0)) :: (59, zB (a0.fTo != 0)) :: (58, zI a0.fTo) :: (57, .ptr 1 0 3) :: (56, zB true) :: (55, zB (!v3.2.2.1)) :: (54, zB v3.2.2.1) :: (53, zB false) :: (52, zB (a0.fOther != 0)) :: (51, zB (a0.fOther != 0)) :: (50, zB (a0.fOther != 0)) :: (49, zI a0.fOther) :: (48, .ptr 1 0 2) :: (47, zB true) :: (46, zB (!v3.2.1)) :: (45, zB v3.2.1) :: (44, zB false) :: (43, zB false) :: (42, .tup []) :: (41, .tup []) :: (40, .tup []) :: (39, zB false) :: (38, zB (!v3.1)) :: (37, zB v3.1) :: T39, B39⟩ ?_
                   rcases dich (a0.fTo != 0) with hb114 | hb114
                   · replace h := cond_t hb114 h
                     refine rl 62 true hb114 ?_
                     refine ro9 26 8 1 ⟨(70, zB true) :: (69, .tup []) :: (68, .tup []) :: (67, .tup []) :: (66, .tup []) :: (65, .tup []) :: (64, .tup []) :: (63, .tup []) :: (62, zB true) :: (61, zB (a0.fTo != 0)) :: (60, zB (a0.fTo != 0)) :: (59, zB (a0.fTo != 0)) :: (58, zI a0.fTo) :: (57, .ptr 1 0 3) :: (56, zB true) :: (55, zB (!v3.2.2.1)) :: (54, zB v3.2.2.1) :: (53, zB false) :: (52, zB (a0.fOther != 0)) :: (51, zB (a0.fOther != 0)) :: (50, zB (a0.fOther != 0)) :: (49, zI a0.fOther) :: (48, .ptr 1 0 2) :: (47, zB true) :: (46, zB (!v3.2.1)) :: (45, zB v3.2.1) :: (44, zB false) :: (43, zB false) :: (42, .tup []) :: (41, .tup []) :: (40, .tup []) :: (39, zB false) :: (38, zB (!v3.1)) :: (37, zB v3.1) :: T39, B39⟩ ?_
                     refine cT ?_
                     let T49 : List (Nat × X) := [(6, zB v3.2.2.2), (1, .ptr 1 0 0)]
                     let B49 : List (Nat × Bx) := [(1, ⟨0, 0, true, some (encRec a0)⟩)]
                     refine wkr [6, 1] [(1, 1, false)] ⟨T49, B49⟩ ?_
                     refine sqr cv hn ?_
                     refine ro9 0 1 1 ⟨(2, zB false) :: T49, B49⟩ ?_
                     refine runs_ret ?_
                     exact fin _ _ h (by kernel_rfl)
                   · replace h := cond_f hb114 h
                     refine rl 62 false hb114 ?_
                     refine ro 26 3 3 ⟨(65, zB (!v3.2.2.2)) :: (64, zB (!v3.2.2.2)) :: (63, zB v3.2.2.2) :: (62, zB false) :: (61, zB (a0.fTo != 0)) :: (60, zB (a0.fTo != 0)) :: (59, zB (a0.fTo != 0)) :: (58, zI a0.fTo) :: (57, .ptr 1 0 3) :: (56, zB true) :: (55, zB (!v3.2.2.1)) :: (54, zB v3.2.2.1) :: (53, zB false) :: (52, zB (a0.fOther != 0)) :: (51, zB (a0.fOther != 0)) :: (50, zB (a0.fOther != 0)) :: (49, zI a0.fOther) :: (48, .ptr 1 0 2) :: (47, zB true) :: (46, zB (!v3.2.1)) :: (45, zB v3.2.1) :: (44, zB false) :: (43, zB false) :: (42, .tup []) :: (41, .tup []) :: (40, .tup []) :: (39, zB false) :: (38, zB (!v3.1)) :: (37, zB v3.1) :: T39, B39⟩ ?_
                     rcases dich (!v3.2.2.2) with hb115 | hb115
                     · replace h := cond_t hb115 h
                       refine rl 65 true hb115 ?_
                       refine ro9 29 5 5 ⟨(70, zB (a0.fAmt != 0)) :: (69, zB (a0.fAmt != 0)) :: (68, zB (a0.fAmt != 0)) :: (67, zI a0.fAmt) :: (66, .ptr 1 0 4) :: (65, zB true) :: (64, zB (!v3.2.2.2)) :: (63, zB v3.2.2.2) :: (62, zB false) :: (61, zB (a0.fTo != 0)) :: (60, zB (a0.fTo != 0)) :: (59, zB (a0.fTo != 0)) :: (58, zI a0.fTo) :: (57, .ptr 1 0 3) :: (56, zB true) :: (55, zB (!v3.2.2.1)) :: (54, zB v3.2.2.1) :: (53, zB false) :: (52, zB (a0.fOther != 0)) :: (51, zB (a0.fOther != 0)) :: (50, zB (a0.fOther != 0)) :: (49, zI a0.fOther) :: (48, .ptr 1 0 2) :: (47, zB true) :: (46, zB (!v3.2.1)) :: (45, zB v3.2.1) :: (44, zB false) :: (43, zB false) :: (42, .tup []) :: (41, .tup []) :: (40, .tup []) :: (39, zB false) :: (38, zB (!v3.1)) :: (37, zB v3.1) :: T39, B39⟩ ?_
                       rcases dich (a0.fAmt != 0) with hb116 | hb116
                       · replace h := cond_t hb116 h
                         refine ct hb116 ?_
                         let T50 : List (Nat × X) := [(6, zB v3.2.2.2), (1, .ptr 1 0 0)]
                         let B50 : List (Nat × Bx) := [(1, ⟨0, 0, true, some (encRec a0)⟩)]
                         refine wkr [6, 1] [(1, 1, false)] ⟨T50, B50⟩ ?_
                         refine sqr cv hn ?_
                         refine ro9 0 1 1 ⟨(2, zB false) :: T50, B50⟩ ?_
                         refine runs_ret ?_
                         exact fin _ _ h (by kernel_rfl)
                       · replace h := cond_f hb116 h
                         refine cf hb116 ?_
                         refine runs_skip ?_
                         exact ⟨(), h, wre [1, 6] [(1, 1, false)]⟩
                     · replace h := cond_f hb115 h
                       refine rl 65 false hb115 ?_
                       refine ro9 29 5 2 ⟨(70, zB false) :: (69, zB false) :: (68, .tup []) :: (67, .tup []) :: (66, .tup []) :: (65, zB false) :: (64, zB (!v3.2.2.2)) :: (63, zB v3.2.2.2) :: (62, zB false) :: (61, zB (a0.fTo != 0)) :: (60, zB (a0.fTo != 0)) :: (59, zB (a0.fTo != 0)) :: (58, zI a0.fTo) :: (57, .ptr 1 0 3) :: (56, zB true) :: (55, zB (!v3.2.2.1)) :: (54, zB v3.2.2.1) :: (53, zB false) :: (52, zB (a0.fOther != 0)) :: (51, zB (a0.fOther != 0)) :: (50, zB (a0.fOther != 0)) :: (49, zI a0.fOther) :: (48, .ptr 1 0 2) :: (47, zB true) :: (46, zB (!v3.2.1)) :: (45, zB v3.2.1) :: (44, zB false) :: (43, zB false) :: (42, .tup []) :: (41, .tup []) :: (40, .tup []) :: (39, zB false) :: (38, zB (!v3.1)) :: (37, zB v3.1) :: T39, B39⟩ ?_
                       refine cF ?_
                       refine runs_skip ?_
                       exact ⟨(), h, wre [1, 6] [(1, 1, false)]⟩
                 · replace h := cond_f hb113 h
                   refine rl 56 false hb113 ?_
                   refine ro 20 9 6 ⟨(65, zB (!v3.2.2.2)) :: (64, zB (!v3.2.2.2)) :: (63, zB v3.2.2.2) :: (62, zB false) :: (61, zB false) :: (60, zB false) :: (59, .tup []) :: (58, .tup []) :: (57, .tup []) :: (56, zB false) :: (55, zB (!v3.2.2.1)) :: (54, zB v3.2.2.1) :: (53, zB false) :: (52, zB (a0.fOther != 0)) :: (51, zB (a0.fOther != 0)) :: (50, zB (a0.fOther != 0)) :: (49, zI a0.fOther) :: (48, .ptr 1 0 2) :: (47, zB true) :: (46, zB (!v3.2.1)) :: (45, zB v3.2.1) :: (44, zB false) :: (43, zB false) :: (42, .tup []) :: (41, .tup []) :: (40, .tup []) :: (39, zB false) :: (38, zB (!v3.1)) :: (37, zB v3.1) :: T39, B39⟩ ?_
                   rcases dich (!v3.2.2.2) with hb117 | hb117
                   · replace h := cond_t hb117 h
                     refine rl 65 true hb117 ?_
                     refine ro9 29 5 5 ⟨(70, zB (a0.fAmt != 0)) :: (69, zB (a0.fAmt != 0)) :: (68, zB (a0.fAmt != 0)) :: (67, zI a0.fAmt) :: (66, .ptr 1 0 4) :: (65, zB true) :: (64, zB (!v3.2.2.2)) :: (63, zB v3.2.2.2) :: (62, zB false) :: (61, zB false) :: (60, zB false) :: (59, .tup []) :: (58, .tup []) :: (57, .tup []) :: (56, zB false) :: (55, zB (!v3.2.2.1)) :: (54, zB v3.2.2.1) :: (53, zB false) :: (52, zB (a0.fOther != 0)) :: (51, zB (a0.fOther != 0)) :: (50, zB (a0.fOther != 0)) :: (49, zI a0.fOther) :: (48, .ptr 1 0 2) :: (47, zB true) :: (46, zB (!v3.2.1)) :: (45, zB v3.2.1) :: (44, zB false) :: (43, zB false) :: (42, .tup []) :: (41, .tup []) :: (40, .tup []) :: (39, zB false) :: (38, zB (!v3.1)) :: (37, zB v3.1) :: T39, B39⟩ ?_
                     rcases dich (a0.fAmt != 0) with hb118 | hb118
                     · replace h := cond_t hb118 h
                       refine ct hb118 ?_
                       let T51 : List (Nat × X) := [(6, zB v3.2.2.2), (1, .ptr 1 0 0)]
                       let B51 : List (Nat × Bx) := [(1, ⟨0, 0, true, some (encRec a0)⟩)]
                       refine wkr [6, 1] [(1, 1, false)] ⟨T51, B51⟩ ?_
                       refine sqr cv hn ?_
                       refine ro9 0 1 1 ⟨(2, zB false) :: T51, B51⟩ ?_
                       refine runs_ret ?_
                       exact fin _ _ h (by kernel_rfl)
                     · replace h := cond_f hb118 h
                       refine cf hb118 ?_
                       refine runs_skip ?_
                       exact ⟨(), h, wre [1, 6] [(1, 1, false)]⟩
                   · replace h := cond_f hb117 h
                     refine rl 65 false hb117 ?_
                     refine ro9 29 5 2 ⟨(70, zB false) :: (69, zB false) :: (68, .tup []) :: (67, .tup []) :: (66, .tup []) :: (65, zB false) :: (64, zB (!v3.2.2.2)) :: (63, zB v3.2.2.2) :: (62, zB false) :: (61, zB false) :: (60, zB false) :: (59, .tup []) :: (58, .tup []) :: (57, .tup []) :: (56, zB false) :: (55, zB (!v3.2.2.1)) :: (54, zB v3.2.2.1) :: (53, zB false) :: (52, zB (a0.fOther != 0)) :: (51, zB (a0.fOther != 0)) :: (50, zB (a0.fOther != 0)) :: (49, zI a0.fOther) :: (48, .ptr 1 0 2) :: (47, zB true) :: (46, zB (!v3.2.1)) :: (45, zB v3.2.1) :: (44, zB false) :: (43, zB false) :: (42, .tup []) :: (41, .tup []) :: (40, .tup []) :: (39, zB false) :: (38, zB (!v3.1)) :: (37, zB v3.1) :: T39, B39⟩ ?_
                     refine cF ?_
                     refine runs_skip ?_
                     exact ⟨(), h, wre [1, 6] [(1, 1, false)]⟩
             · replace h := cond_f hb111 h
               refine rl 47 false hb111 ?_
               refine ro 11 9 6 ⟨(56, zB (!v3.2.2.1)) :: (55, zB (!v3.2.2.1)) :: (54, zB v3.2.2.1) :: (53, zB false) :: (52, zB false) :: (51, zB false) :: (50, .tup []) :: (49, .tup []) :: (48, .tup []) :: (47, zB false) :: (46, zB (!v3.2.1)) :: (45, zB v3.2.1) :: (44, zB false) :: (43, zB false) :: (42, .tup []) :: (41, .tup []) :: (40, .tup []) :: (39, zB false) :: (38, zB (!v3.1)) :: (37, zB v3.1) :: T39, B39⟩ ?_
               rcases dich (!v3.2.2.1) with hb119 | hb119
               · replace h := cond_t hb119 h
                 refine rl 56 true hb119 ?_
                 refine ro 20 6 6 ⟨(62, zB (a0.fTo != 0)) :: (61, zB (a0.fTo != 0)) :: (60, zB (a0.fTo != 0)) :: (59, zB (a0.fTo != 0)) :: (58, zI a0.fTo) :: (57, .ptr 1 0 3) :: (56, zB true) :: (55, zB (!v3.2.2.1)) :: (54, zB v3.2.2.1) :: (53, zB false) :: (52, zB false) :: (51, zB false) :: (50, .tup []) :: (49, .tup []) :: (48, .tup []) :: (47, zB false) :: (46, zB (!v3.2.1)) :: (45, zB v3.2.1) :: (44, zB false) :: (43, zB false) :: (42, .tup []) :: (41, .tup []) :: (40, .tup []) :: (39, zB false) :: (38, zB (!v3.1)) :: (37, zB v3.1) :: T39, B39⟩ ?_
                 rcases dich (a0.fTo != 0) with hb120 | hb120
                 · replace h := cond_t hb120 h
                   refine rl 62 true hb120 ?_
                   refine ro9 26 8 1 ⟨(70, zB true) :: (69, .tup []) :: (68, .tup []) :: (67, .tup []) :: (66, .tup []) :: (65, .tup []) :: (64, .tup []) :: (63, .tup []) :: (62, zB true) :: (61, zB (a0.fTo != 0)) :: (60, zB (a0.fTo != 0)) :: (59, zB (a0.fTo != 0)) :: (58, zI a0.fTo) :: (57, .ptr 1 0 3) :: (56, zB true) :: (55, zB (!v3.2.2.1)) :: (54, zB v3.2.2.1) :: (53, zB false) :: (52, zB false) :: (51, zB false) :: (50, .tup []) :: (49, .tup []) :: (48, .tup []) :: (47, zB false) :: (46, zB (!v3.2.1)) :: (45, zB v3.2.1) :: (44, zB false) :: (43, zB false) :: (42, .tup []) :: (41, .tup []) :: (40, .tup []) :: (39, zB false) :: (38, zB (!v3.1)) :: (37, zB v3.1) :: T39, B39⟩ ?_
                   refine cT ?_
                   let T52 : List (Nat × X) := [(6, zB v3.2.2.2), (1, .ptr 1 0 0)]
                   let B52 : List (Nat × Bx) := [(1, ⟨0, 0, true, some (encRec a0)⟩)]
                   refine wkr [6, 1] [(1, 1, false)] ⟨T52, B52⟩ ?_
                   refine sqr cv hn ?_
                   refine ro9 0 1 1 ⟨(2, zB false) :: T52, B52⟩ ?_
                   refine runs_ret ?_
                   exact fin _ _ h (by kernel_rfl)
                 · replace h := cond_f hb120 h
                   refine rl 62 false hb120 ?_
                   refine ro 26 3 3 ⟨(65, zB (!v3.2.2.2)) :: (64, zB (!v3.2.2.2)) :: (63, zB v3.2.2.2) :: (62, zB false) :: (61, zB (a0.fTo != 0)) :: (60, zB (a0.fTo != 0)) :: (59, zB (a0.fTo != 0)) :: (58, zI a0.fTo) :: (57, .ptr 1 0 3) :: (56, zB true) :: (55, zB (!v3.2.2.1)) :: (54, zB v3.2.2.1) :: (53, zB false) :: (52, zB false) :: (51, zB false) :: (50, .tup []) :: (49, .tup []) :: (48, .tup []) :: (47, zB false) :: (46, zB (!v3.2.1)) :: (45, zB v3.2.1) :: (44, zB false) :: (43, zB false) :: (42, .tup []) :: (41, .tup []) :: (40, .tup []) :: (39, zB false) :: (38, zB (!v3.1)) :: (37, zB v3.1) :: T39, B39⟩ ?_
                   rcases dich (!v3.2.2.2) with hb121 | hb121
                   · replace h := cond_t hb121 h
                     refine rl 65 true hb121 ?_
                     refine ro9 29 5 5 ⟨(70, zB (a0.fAmt != 0)) :: (69, zB (a0.fAmt != 0)) :: (68, zB (a0.fAmt != 0)) :: (67, zI a0.fAmt) :: (66, .ptr 1 0 4) :: (65, zB true) :: (64, zB (!v3.2.2.2)) :: (63, zB v3.2.2.2) :: (62, zB false) :: (61, zB (a0.fTo != 0)) :: (60, zB (a0.fTo != 0)) :: (59, zB (a0.fTo != 0)) :: (58, zI a0.fTo) :: (57, .ptr 1 0 3) :: (56, zB true) :: (55, zB (!v3.2.2.1)) :: (54, zB v3.2.2.1) :: (53, zB false) :: (52, zB false) :: (51, zB false) :: (50, .tup []) :: (49, .tup []) :: (48, .tup []) :: (47, zB false) :: (46, zB (!v3.2.1)) :: (45, zB v3.2.1) :: (44, zB false) :: (43, zB false) :: (42, .tup []) :: (41, .tup []) :: (40, .tup []) :: (39, zB false) :: (38, zB (!v3.1)) :: (37, zB v3.1) :: T39, B39⟩ ?_
                     rcases dich (a0.fAmt != 0) with hb122 | hb122
                     · replace h := cond_t hb122 h
                       refine ct hb122 ?_
                       let T53 : List (Nat × X) := [(6, zB v3.2.2.2), (1, .ptr 1 0 0)]
                       let B53 : List (Nat × Bx) := [(1, ⟨0, 0, true, some (encRec a0)⟩)]
                       refine wkr [6, 1] [(1, 1, false)] ⟨T53, B53⟩ ?_
                       refine sqr cv hn ?_
                       refine ro9 0 1 1 ⟨(2, zB false) :: T53, B53⟩ ?_
                       refine runs_ret ?_
                       exact fin _ _ h (by kernel_rfl)
                     · replace h := cond_f hb122 h
                       refine cf hb122 ?_
                       refine runs_skip ?_
                       exact ⟨(), h, wre [1, 6] [(1, 1, false)]⟩
                   · replace h := cond_f hb121 h
                     refine rl 65 false hb121 ?_
                     refine ro9 29 5 2 ⟨(70, zB false) :: (69, zB false) :: (68, .tup []) :: (67, .tup []) :: (66, .tup []) :: (65, zB false) :: (64, zB (!v3.2.2.2)) :: (63, zB v3.2.2.2) :: (62, zB false) :: (61, zB (a0.fTo != 0)) :: (60, zB (a0.fTo != 0)) :: (59, zB (a0.fTo != 0)) :: (58, zI a0.fTo) :: (57, .ptr 1 0 3) :: (56, zB true) :: (55, zB (!v3.2.2.1)) :: (54, zB v3.2.2.1) :: (53, zB false) :: (52, zB false) :: (51, zB false) :: (50, .tup []) :: (49, .tup []) :: (48, .tup []) :: (47, zB false) :: (46, zB (!v3.2.1)) :: (45, zB v3.2.1) :: (44, zB false) :: (43, zB false) :: (42, .tup []) :: (41, .tup []) :: (40, .tup []) :: (39, zB false) :: (38, zB (!v3.1)) :: (37, zB v3.1) :: T39, B39⟩ ?_
                     refine cF ?_
                     refine runs_skip ?_
                     exact ⟨(), h, wre [1, 6] [(1, 1, false)]⟩
               · replace h := cond_f hb119 h
                 refine rl 56 false hb119 ?_
                 refine ro 20 9 6 ⟨(65, zB (!v3.2.2.2)) :: (64, zB (!v3.2.2.2)) :: (63, zB v3.2.2.2) :: (62, zB false) :: (61, zB false) :: (60, zB false) :: (59, .tup []) :: (58, .tup []) :: (57, .tup []) :: (56, zB false) :: (55, zB (!v3.2.2.1)) :: (54, zB v3.2.2.1) :: (53, zB false) :: (52, zB false) :: (51, zB false) :: (50, .tup []) :: (49, .tup []) :: (48, .tup []) :: (47, zB false) :: (46, zB (!v3.2.1)) :: (45, zB v3.2.1) :: (44, zB false) :: (43, zB false) :: (42, .tup []) :: (41, .tup []) :: (40, .tup []) :: (39, zB false) :: (38, zB (!v3.1)) :: (37, zB v3.1) :: T39, B39⟩ ?_
                 rcases dich (!v3.2.2.2) with hb123 | hb123
                 · replace h := cond_t hb123 h
                   refine rl 65 true hb123 ?_
                   refine ro9 29 5 5 ⟨(70, zB (a0.fAmt != 0)) :: (69, zB (a0.fAmt != 0)) :: (68, zB (a0.fAmt != 0)) :: (67, zI a0.fAmt) :: (66, .ptr 1 0 4) :: (65, zB true) :: (64, zB (!v3.2.2.2)) :: (63, zB v3.2.2.2) :: (62, zB false) :: (61, zB false) :: (60, zB false) :: (59, .tup []) :: (58, .tup []) :: (57, .tup []) :: (56, zB false) :: (55, zB (!v3.2.2.1)) :: (54, zB v3.2.2.1) :: (53, zB false) :: (52, zB false) :: (51, zB false) :: (50, .tup []) :: (49, .tup []) :: (48, .tup []) :: (47, zB false) :: (46, zB (!v3.2.1)) :: (45, zB v3.2.1) :: (44, zB false) :: (43, zB false) :: (42, .tup []) :: (41, .tup []) :: (40, .tup []) :: (39, zB false) :: (38, zB (!v3.1)) :: (37, zB v3.1) :: T39, B39⟩ ?_
                   rcases dich (a0.fAmt != 0) with hb124 | hb124
                   · replace h := cond_t hb124 h
                     refine ct hb124 ?_
                     let T54 : List (Nat × X) := [(6, zB v3.2.2.2), (1, .ptr 1 0 0)]
                     let B54 : List (Nat × Bx) := [(1, ⟨0, 0, true, some (encRec a0)⟩)]
                     refine wkr [6, 1] [(1, 1, false)] ⟨T54, B54⟩ ?_
                     refine sqr cv hn ?_
                     refine ro9 0 1 1 ⟨(2, zB false) :: T54, B54⟩ ?_
                     refine runs_ret ?_
                     exact fin _ _ h (by kernel_rfl)
                   · replace h := cond_f hb124 h
                     refine cf hb124 ?_
                     refine runs_skip ?_
                     exact ⟨(), h, wre [1, 6] [(1, 1, false)]⟩
                 · replace h := cond_f hb123 h
                   refine rl 65 false hb123 ?_
                   refine ro9 29 5 2 ⟨(70, zB false) :: (69, zB false) :: (68, .tup []) :: (67, .tup []) :: (66, .tup []) :: (65, zB false) :: (64, zB (!v3.2.2.2)) :: (63, zB v3.2.2.2) :: (62, zB false) :: (61, zB false) :: (60, zB false) :: (59, .tup []) :: (58, .tup []) :: (57, .tup []) :: (56, zB false) :: (55, zB (!v3.2.2.1)) :: (54, zB v3.2.2.1) :: (53, zB false) :: (52, zB false) :: (51, zB false) :: (50, .tup []) :: (49, .tup []) :: (48, .tup []) :: (47, zB false) :: (46, zB (!v3.2.1)) :: (45, zB v3.2.1) :: (44, zB false) :: (43, zB false) :: (42, .tup []) :: (41, .tup []) :: (40, .tup []) :: (39, zB false) :: (38, zB (!v3.1)) :: (37, zB v3.1) :: T39, B39⟩ ?_
                   refine cF ?_
                   refine runs_skip ?_
                   exact ⟨(), h, wre [1, 6] [(1, 1, false)]⟩

set_option maxRecDepth 100000 in
set_option maxHeartbeats 2000000 in
theorem spec_PutNum_spec (a0 : (List Int)) (a1 : Int) (v0 : (List Int) × Bool) (h : spec_PutNum a0 a1 = some v0) : Ax.Spec Try.prog 119 none [.sl 0 (List.map encU8 a0), zI a1] (.tup [.sl 1 (List.map encU8 v0.1), zB v0.2] : X) (.junk : X) := by
 let T1 : List (Nat × X) := [(0, .sl 0 (List.map encU8 a0)), (1, zI a1)]
 refine walk0 (fn := Try.f119) (fun q0 : (List Int) × Bool => (.tup [.sl 1 (List.map encU8 q0.1), zB q0.2] : X)) (fun q0 : (List Int) × Bool => (.junk : X)) v0 ⟨T1, []⟩ Try.func119 rfl (by decide +kernel) fun Γ hn fin => ?_
 rw [spec_PutNum] at h
 refine sqr cv hn ?_
 refine ro9 0 2 2 ⟨(5, zB false) :: (4, .sc (.slice none 0 0)) :: T1, []⟩ ?_
 refine runs_seq ?_
 refine sqr cv hn ?_
 refine ro 0 1 1 ⟨(7, zI a1) :: (5, zB false) :: (4, .sc (.slice none 0 0)) :: T1, []⟩ ?_
 obtain ⟨v4, hv5, h⟩ := bindO h
 refine rc 1 ⟨(8, zB v4) :: (7, zI a1) :: (5, zB false) :: (4, .sc (.slice none 0 0)) :: T1, []⟩ (spec_l01Num_spec a1 v4 hv5) ?_
 refine ro9 2 1 1 ⟨(9, zB (!v4)) :: (8, zB v4) :: (7, zI a1) :: (5, zB false) :: (4, .sc (.slice none 0 0)) :: T1, []⟩ ?_
 rcases dich (!v4) with hb6 | hb6
 · replace h := cond_t hb6 h
   refine ct hb6 ?_
   let T3 : List (Nat × X) := [(0, .sl 0 (List.map encU8 a0)), (1, zI a1)]
   refine wkr [0, 1] [] ⟨T3, []⟩ ?_
   refine sqr cv hn ?_
   refine ro9 0 2 2 ⟨(5, zB false) :: (4, .sc (.slice none 0 0)) :: T3, []⟩ ?_
   refine runs_ret ?_
   exact fin _ _ h (by kernel_rfl)
 · replace h := cond_f hb6 h
   refine cf hb6 ?_
   refine runs_skip ?_
   let T5 : List (Nat × X) := [(0, .sl 0 (List.map encU8 a0)), (1, zI a1)]
   refine wkr [0, 1] [] ⟨T5, []⟩ ?_
   refine sqr cv hn ?_
   refine rs 0 ⟨(10, .view 10 1 [] 0) :: T5, [(10, ⟨1, 1, false, some (.sl 1 (List.map encU8 []))⟩)]⟩ [∀ y ∈ (List.map encU8 [] : List X), (X.cells y).length = tSize Try.prog 5] ⟨fmap fun _ => by kernel_rfl, trivial⟩ ?_
   refine ro 1 1 1 ⟨(11, .sl 0 (List.map encU8 a0)) :: (10, .view 10 1 [] 0) :: T5, [(10, ⟨1, 1, false, some (.sl 1 (List.map encU8 []))⟩)]⟩ ?_
   obtain ⟨hg8, h⟩ := gO_some h
   refine rs 2 ⟨(12, .view 12 1 [] 0) :: (11, .sl 0 (List.map encU8 a0)) :: (10, .view 10 1 [] 0) :: T5, [(12, ⟨1, 1, false, some (.sl 1 (List.map encU8 a0))⟩), (10, ⟨1, 2, false, some (.junk)⟩), (10, ⟨1, 1, false, some (.sl 1 (List.map encU8 []))⟩)]⟩ [((List.map encU8 [] : List X).length + (List.map encU8 a0 : List X).length) * tBytes Try.prog 5 ≤ 140737488355328 ∧ (List.map encU8 [] : List X).length + (List.map encU8 a0 : List X).length ≤ 140737488355328 ∧ (∀ y ∈ (List.map encU8 [] : List X), (X.cells y).length = tSize Try.prog 5) ∧ ∀ y ∈ (List.map encU8 a0 : List X), (X.cells y).length = tSize Try.prog 5] ⟨⟨(app_side (b := 1) (b2 := tBytes Try.prog 5) (f := encU8) (A := []) (B := a0) (by kernel_rfl) hg8).1, (app_side (b := 1) (b2 := 1) (f := encU8) (A := []) (B := a0) rfl hg8).2, fmap fun _ => by kernel_rfl, fmap fun _ => by kernel_rfl⟩, trivial⟩ ?_
   refine ro9 3 1 1 ⟨(6, .view 12 1 [] 0) :: (12, .view 12 1 [] 0) :: (11, .sl 0 (List.map encU8 a0)) :: (10, .view 10 1 [] 0) :: T5, [(12, ⟨1, 1, false, some (.sl 1 (List.map encU8 a0))⟩), (10, ⟨1, 2, false, some (.junk)⟩), (10, ⟨1, 1, false, some (.sl 1 (List.map encU8 []))⟩)]⟩ ?_
   refine runs_seq ?_
   refine runs_block ?_
   refine runs_loopM (σ := Nat × Int × (List Int)) (fun s => ⟨[(6, .view 5000006 0 [] 0), (1, zI s.2.1)], [(5000006, ⟨0, 0, false, some (.sl 1 (List.map encU8 s.2.2))⟩)]⟩) (fun s => spec_PutNum_l1 s.1 s.2.1 s.2.2 = some v0) (fun s => s.1) (fuel, a1, a0) h (wre [6, 1] [(5000006, 12, false)]) ?_
   rintro ⟨n1, y29, y30⟩ h
   let T7 : List (Nat × X) := [(6, .view 5000006 0 [] 0), (1, zI y29)]
   let B7 : List (Nat × Bx) := [(5000006, ⟨0, 0, false, some (.sl 1 (List.map encU8 y30))⟩)]
   refine seq0 ⟨T7, B7⟩ ?_
   cases n1 with
   | zero => rw [spec_PutNum_l1] at h; cases h
   | succ n1 =>
     rw [spec_PutNum_l1] at h
     refine runs_seq ?_
     refine sqr cv hn ?_
     refine ro9 0 2 2 ⟨(14, zB (decide (y29 > 127))) :: (13, zI y29) :: T7, B7⟩ ?_
     rcases dich (decide (y29 > 127)) with hb37 | hb37
     · replace h := cond_t hb37 h
       refine ct hb37 ?_
       refine runs_skip ?_
       refine runs_block ?_
       refine sqr cv hn ?_
       refine ro 0 5 5 ⟨(19, .sc (.int .u8 (wk .u8 (w64 (128 + (Int.tmod y29 128)))))) :: (18, zI (w64 (128 + (Int.tmod y29 128)))) :: (17, zI (Int.tmod y29 128)) :: (16, zI y29) :: (15, .view 5000006 0 [] 0) :: (14, zB (decide (y29 > 127))) :: (13, zI y29) :: T7, B7⟩ ?_
       refine rs 5 ⟨(20, .view 20 1 [] 0) :: (19, .sc (.int .u8 (wk .u8 (w64 (128 + (Int.tmod y29 128)))))) :: (18, zI (w64 (128 + (Int.tmod y29 128)))) :: (17, zI (Int.tmod y29 128)) :: (16, zI y29) :: (15, .view 5000006 0 [] 0) :: (14, zB (decide (y29 > 127))) :: (13, zI y29) :: T7, (20, ⟨1, 1, false, some (.sl 1 (List.map encU8 [wk .u8 (w64 (128 + (Int.tmod y29 128)))]))⟩) :: B7⟩ [∀ y ∈ (List.map encU8 [wk .u8 (w64 (128 + (Int.tmod y29 128)))] : List X), (X.cells y).length = tSize Try.prog 5] ⟨fmap fun _ => by kernel_rfl, trivial⟩ ?_
       obtain ⟨hg38, h⟩ := gO_some h
       refine rs 6 ⟨(21, .view 21 1 [] 0) :: (20, .view 20 1 [] 0) :: (19, .sc (.int .u8 (wk .u8 (w64 (128 + (Int.tmod y29 128)))))) :: (18, zI (w64 (128 + (Int.tmod y29 128)))) :: (17, zI (Int.tmod y29 128)) :: (16, zI y29) :: (15, .view 5000006 0 [] 0) :: (14, zB (decide (y29 > 127))) :: (13, zI y29) :: T7, (21, ⟨1, 1, false, some (.sl 1 (List.map encU8 (y30 ++ [wk .u8 (w64 (128 + (Int.tmod y29 128)))])))⟩) :: (5000006, ⟨0, 1, false, some (.junk)⟩) :: (20, ⟨1, 1, false, some (.sl 1 (List.map encU8 [wk .u8 (w64 (128 + (Int.tmod y29 128)))]))⟩) :: B7⟩ [((List.map encU8 y30 : List X).length + (List.map encU8 [wk .u8 (w64 (128 + (Int.tmod y29 128)))] : List X).length) * tBytes Try.prog 5 ≤ 140737488355328 ∧ (List.map encU8 y30 : List X).length + (List.map encU8 [wk .u8 (w64 (128 + (Int.tmod y29 128)))] : List X).length ≤ 140737488355328 ∧ (∀ y ∈ (List.map encU8 y30 : List X), (X.cells y).length = tSize Try.prog 5) ∧ ∀ y ∈ (List.map encU8 [wk .u8 (w64 (128 + (Int.tmod y29 128)))] : List X), (X.cells y).length = tSize Try.prog 5] ⟨⟨(app_side (b := 1) (b2 := tBytes Try.prog 5) (f := encU8) (A := y30) (B := [wk .u8 (w64 (128 + (Int.tmod y29 128)))]) (by kernel_rfl) hg38).1, (app_side (b := 1) (b2 := 1) (f := encU8) (A := y30) (B := [wk .u8 (w64 (128 + (Int.tmod y29 128)))]) rfl hg38).2, fmap fun _ => by kernel_rfl, fmap fun _ => by kernel_rfl⟩, trivial⟩ ?_ (he := by rw [show List.map encU8 (y30 ++ [wk .u8 (w64 (128 + (Int.tmod y29 128)))]) = List.map encU8 y30 ++ List.map encU8 [wk .u8 (w64 (128 + (Int.tmod y29 128)))] from List.map_append]; kernel_rfl)
       refine ro9 7 1 1 ⟨(6, .view 21 1 [] 0) :: (21, .view 21 1 [] 0) :: (20, .view 20 1 [] 0) :: (19, .sc (.int .u8 (wk .u8 (w64 (128 + (Int.tmod y29 128)))))) :: (18, zI (w64 (128 + (Int.tmod y29 128)))) :: (17, zI (Int.tmod y29 128)) :: (16, zI y29) :: (15, .view 5000006 0 [] 0) :: (14, zB (decide (y29 > 127))) :: (13, zI y29) :: T7, (21, ⟨1, 1, false, some (.sl 1 (List.map encU8 (y30 ++ [wk .u8 (w64 (128 + (Int.tmod y29 128)))])))⟩) :: (5000006, ⟨0, 1, false, some (.junk)⟩) :: (20, ⟨1, 1, false, some (.sl 1 (List.map encU8 [wk .u8 (w64 (128 + (Int.tmod y29 128)))]))⟩) :: B7⟩ ?_
       refine rg cv hn ?_
       refine ro9 0 3 3 ⟨(1, zI (w64 (Int.tdiv y29 128))) :: (23, zI (w64 (Int.tdiv y29 128))) :: (22, zI y29) :: (6, .view 21 1 [] 0) :: (21, .view 21 1 [] 0) :: (20, .view 20 1 [] 0) :: (19, .sc (.int .u8 (wk .u8 (w64 (128 + (Int.tmod y29 128)))))) :: (18, zI (w64 (128 + (Int.tmod y29 128)))) :: (17, zI (Int.tmod y29 128)) :: (16, zI y29) :: (15, .view 5000006 0 [] 0) :: (14, zB (decide (y29 > 127))) :: (13, zI y29) :: T7, (21, ⟨1, 1, false, some (.sl 1 (List.map encU8 (y30 ++ [wk .u8 (w64 (128 + (Int.tmod y29 128)))])))⟩) :: (5000006, ⟨0, 1, false, some (.junk)⟩) :: (20, ⟨1, 1, false, some (.sl 1 (List.map encU8 [wk .u8 (w64 (128 + (Int.tmod y29 128)))]))⟩) :: B7⟩ ?_
       exact ⟨(n1, w64 (Int.tdiv y29 128), y30 ++ [wk .u8 (w64 (128 + (Int.tmod y29 128)))]), Nat.lt_succ_self _, h, wre [6, 1] [(5000006, 21, false)]⟩
     · replace h := cond_f hb37 h
       refine cf hb37 ?_
       refine runs_exit ?_
       repeat refine thenX_exit ?_
       refine block_here ?_
       refine sqr cv hn ?_
       refine ro 0 3 3 ⟨(26, .sc (.int .u8 (wk .u8 y29))) :: (25, zI y29) :: (24, .view 5000006 0 [] 0) :: (14, zB (decide (y29 > 127))) :: (13, zI y29) :: T7, B7⟩ ?_
       refine rs 3 ⟨(27, .view 27 1 [] 0) :: (26, .sc (.int .u8 (wk .u8 y29))) :: (25, zI y29) :: (24, .view 5000006 0 [] 0) :: (14, zB (decide (y29 > 127))) :: (13, zI y29) :: T7, (27, ⟨1, 1, false, some (.sl 1 (List.map encU8 [wk .u8 y29]))⟩) :: B7⟩ [∀ y ∈ (List.map encU8 [wk .u8 y29] : List X), (X.cells y).length = tSize Try.prog 5] ⟨fmap fun _ => by kernel_rfl, trivial⟩ ?_
       obtain ⟨hg39, h⟩ := gO_some h
       refine rs 4 ⟨(28, .view 28 1 [] 0) :: (27, .view 27 1 [] 0) :: (26, .sc (.int .u8 (wk .u8 y29))) :: (25, zI y29) :: (24, .view 5000006 0 [] 0) :: (14, zB (decide (y29 > 127))) :: (13, zI y29) :: T7, (28, ⟨1, 1, false, some (.sl 1 (List.map encU8 (y30 ++ [wk .u8 y29])))⟩) :: (5000006, ⟨0, 1, false, some (.junk)⟩) :: (27, ⟨1, 1, false, some (.sl 1 (List.map encU8 [wk .u8 y29]))⟩) :: B7⟩ [((List.map encU8 y30 : List X).length + (List.map encU8 [wk .u8 y29] : List X).length) * tBytes Try.prog 5 ≤ 140737488355328 ∧ (List.map encU8 y30 : List X).length + (List.map encU8 [wk .u8 y29] : List X).length ≤ 140737488355328 ∧ (∀ y ∈ (List.map encU8 y30 : List X), (X.cells y).length = tSize Try.prog 5) ∧ ∀ y ∈ (List.map encU8 [wk .u8 y29] : List X), (X.cells y).length = tSize Try.prog 5] ⟨⟨(app_side (b := 1) (b2 := tBytes Try.prog 5) (f := encU8) (A := y30) (B := [wk .u8 y29]) (by kernel_rfl) hg39).1, (app_side (b := 1) (b2 := 1) (f := encU8) (A := y30) (B := [wk .u8 y29]) rfl hg39).2, fmap fun _ => by kernel_rfl, fmap fun _ => by kernel_rfl⟩, trivial⟩ ?_ (he := by rw [show List.map encU8 (y30 ++ [wk .u8 y29]) = List.map encU8 y30 ++ List.map encU8 [wk .u8 y29] from List.map_append]; kernel_rfl)
       refine ro9 5 2 2 ⟨(5, zB true) :: (4, .view 28 1 [] 0) :: (28, .view 28 1 [] 0) :: (27, .view 27 1 [] 0) :: (26, .sc (.int .u8 (wk .u8 y29))) :: (25, zI y29) :: (24, .view 5000006 0 [] 0) :: (14, zB (decide (y29 > 127))) :: (13, zI y29) :: T7, (28, ⟨1, 1, false, some (.sl 1 (List.map encU8 (y30 ++ [wk .u8 y29])))⟩) :: (5000006, ⟨0, 1, false, some (.junk)⟩) :: (27, ⟨1, 1, false, some (.sl 1 (List.map encU8 [wk .u8 y29]))⟩) :: B7⟩ ?_
       refine runs_ret ?_
       exact fin _ _ h (by kernel_rfl)

set_option maxRecDepth 100000 in
set_option maxHeartbeats 2000000 in
theorem spec_l01Put_spec (a0 : (List Int)) (a1 : Int) (v0 : (List Int)) (h : spec_l01Put a0 a1 = some v0) : Ax.Spec Try.prog 93 none [.sl 0 (List.map encU8 a0), zI a1] (.sl 1 (List.map encU8 v0) : X) (.junk : X) := by
 let T1 : List (Nat × X) := [(0, .sl 0 (List.map encU8 a0)), (1, zI a1)]
 refine walk0 (fn := Try.f93) (fun q0 : (List Int) => (.sl 1 (List.map encU8 q0) : X)) (fun q0 : (List Int) => (.junk : X)) v0 ⟨T1, []⟩ Try.func93 rfl (by decide +kernel) fun Γ hn fin => ?_
 rw [spec_l01Put] at h
 refine sqr cv hn ?_
 refine ro9 0 1 1 ⟨(4, .sc (.slice none 0 0)) :: T1, []⟩ ?_
 refine sqr cv hn ?_
 refine ro 0 2 2 ⟨(9, zI a1) :: (8, .sl 0 (List.map encU8 a0)) :: (4, .sc (.slice none 0 0)) :: T1, []⟩ ?_
 obtain ⟨v1, hv2, h⟩ := bindO h
 refine rc 2 ⟨(10, .tup [.view 10 1 [] 0, zB v1.2]) :: (9, zI a1) :: (8, .sl 0 (List.map encU8 a0)) :: (4, .sc (.slice none 0 0)) :: T1, [(10, ⟨1, 1, false, some (.sl 1 (List.map encU8 v1.1))⟩)]⟩ (spec_PutNum_spec a0 a1 v1 hv2) ?_
 refine ro9 3 5 5 ⟨(6, zB v1.2) :: (5, .view 10 1 [] 0) :: (12, zB v1.2) :: (11, .view 10 1 [] 0) :: (7, .tup [.view 10 1 [] 0, zB v1.2]) :: (10, .tup [.view 10 1 [] 0, zB v1.2]) :: (9, zI a1) :: (8, .sl 0 (List.map encU8 a0)) :: (4, .sc (.slice none 0 0)) :: T1, [(10, ⟨1, 1, false, some (.sl 1 (List.map encU8 v1.1))⟩)]⟩ ?_
 let B2 : List (Nat × Bx) := [(5000005, ⟨0, 0, false, some (.sl 1 (List.map encU8 v1.1))⟩)]
 refine wkr [5] [(5000005, 10, false)] ⟨[(5, .view 5000005 0 [] 0)], B2⟩ ?_
 refine sqr cv hn ?_
 refine ro9 0 2 2 ⟨[(4, .view 5000005 0 [] 0), (13, .view 5000005 0 [] 0), (5, .view 5000005 0 [] 0)], B2⟩ ?_
 refine runs_ret ?_
 exact fin _ _ h (by kernel_rfl)

set_option maxRecDepth 100000 in
set_option maxHeartbeats 2000000 in
theorem spec_MsgPut_spec (a0 : (List Int)) (a1 : SMsg) (v0 : (List Int) × Bool) (h : spec_MsgPut a0 a1 = some v0) : Ax.Spec Try.prog 94 none [.sl 0 (List.map encU8 a0), encMsg a1] (.tup [.sl 1 (List.map encU8 v0.1), zB v0.2] : X) (.junk : X) := by
 let T1 : List (Nat × X) := [(0, .sl 0 (List.map encU8 a0)), (1, encMsg a1)]
 refine walk0 (fn := Try.f94) (fun q0 : (List Int) × Bool => (.tup [.sl 1 (List.map encU8 q0.1), zB q0.2] : X)) (fun q0 : (List Int) × Bool => (.junk : X)) v0 ⟨T1, []⟩ Try.func94 rfl (by decide +kernel) fun Γ hn fin => ?_
 rw [spec_MsgPut] at h
 refine sqr cv hn ?_
 refine ro9 0 3 3 ⟨(5, zB false) :: (4, .sc (.slice none 0 0)) :: (3, .ptr 3 1 0) :: T1, [(3, ⟨1, 1, true, some (encMsg a1)⟩)]⟩ ?_
 refine runs_seq ?_
 refine sqr cv hn ?_
 refine ro 0 1 1 ⟨(6, encMsg a1) :: (5, zB false) :: (4, .sc (.slice none 0 0)) :: (3, .ptr 3 1 0) :: T1, [(3, ⟨1, 1, true, some (encMsg a1)⟩)]⟩ ?_
 obtain ⟨v4, hv5, h⟩ := bindO h
 refine rc 1 ⟨(7, zB v4) :: (6, encMsg a1) :: (5, zB false) :: (4, .sc (.slice none 0 0)) :: (3, .ptr 3 1 0) :: T1, [(3, ⟨1, 1, true, some (encMsg a1)⟩)]⟩ (spec_MsgOk_spec a1 v4 hv5) ?_
 refine ro9 2 1 1 ⟨(8, zB (!v4)) :: (7, zB v4) :: (6, encMsg a1) :: (5, zB false) :: (4, .sc (.slice none 0 0)) :: (3, .ptr 3 1 0) :: T1, [(3, ⟨1, 1, true, some (encMsg a1)⟩)]⟩ ?_
 rcases dich (!v4) with hb6 | hb6
 · replace h := cond_t hb6 h
   refine ct hb6 ?_
   let T3 : List (Nat × X) := [(3, .ptr 3 0 0), (0, .sl 0 (List.map encU8 a0))]
   let B3 : List (Nat × Bx) := [(3, ⟨0, 0, true, some (encMsg a1)⟩)]
   refine wkr [3, 0] [(3, 3, false)] ⟨T3, B3⟩ ?_
   refine sqr cv hn ?_
   refine ro9 0 2 2 ⟨(5, zB false) :: (4, .sc (.slice none 0 0)) :: T3, B3⟩ ?_
   refine runs_ret ?_
   exact fin _ _ h (by kernel_rfl)
 · replace h := cond_f hb6 h
   refine cf hb6 ?_
   refine runs_skip ?_
   refine runs_seq ?_
   let T4 : List (Nat × X) := [(3, .ptr 3 0 0), (0, .sl 0 (List.map encU8 a0))]
   let B4 : List (Nat × Bx) := [(3, ⟨0, 0, true, some (encMsg a1)⟩)]
   refine wkr [3, 0] [(3, 3, false)] ⟨T4, B4⟩ ?_
   refine rgT cv mixed hn ?_
   refine roT 0 3 3 ⟨(11, zI a1.fKind) :: (10, .ptr 3 0 0) :: (9, .sl 0 (List.map encU8 a0)) :: T4, B4⟩ ?_
   obtain ⟨v7, hv8, h⟩ := bindO h
   refine rcT 3 ⟨(12, .view 12 1 [] 0) :: (11, zI a1.fKind) :: (10, .ptr 3 0 0) :: (9, .sl 0 (List.map encU8 a0)) :: T4, (12, ⟨1, 1, false, some (.sl 1 (List.map encU8 v7))⟩) :: B4⟩ (spec_l01Put_spec a0 a1.fKind v7 hv8) ?_
   refine roT 4 2 2 ⟨(14, zI a1.fAcct) :: (13, .ptr 3 0 1) :: (12, .view 12 1 [] 0) :: (11, zI a1.fKind) :: (10, .ptr 3 0 0) :: (9, .sl 0 (List.map encU8 a0)) :: T4, (12, ⟨1, 1, false, some (.sl 1 (List.map encU8 v7))⟩) :: B4⟩ ?_
   obtain ⟨v9, hv10, h⟩ := bindO h
   refine rcHT 6 [List.map encU8 v7] ⟨(15, .view 15 1 [] 0) :: (14, zI a1.fAcct) :: (13, .ptr 3 0 1) :: (12, .view 12 1 [] 0) :: (11, zI a1.fKind) :: (10, .ptr 3 0 0) :: (9, .sl 0 (List.map encU8 a0)) :: T4, (15, ⟨1, 1, false, some (.sl 1 (List.map encU8 v9))⟩) :: (12, ⟨1, 1, false, some (.sl 1 (List.map encU8 v7))⟩) :: B4⟩ [X.rds (List.map encU8 v7) = true, X.roifys (List.map encU8 v7) = List.map encU8 v7, rootsBut (cv 93) 0 [.view 12 1 [] 0, zI a1.fAcct] = false ∨ (X.noRo (.sl 1 (List.map encU8 v9) : X) = true ∧ X.noRo (.junk : X) = true)] (spec_l01Put_spec v7 a1.fAcct v9 hv10) ⟨rds_map rde_U8 _, ro_map ro_U8 _, .inr ⟨(nr_sl (nr_map nr_U8 _)), rfl⟩, trivial⟩ ?_
   refine roT 7 2 2 ⟨(17, zI a1.fAmt) :: (16, .ptr 3 0 2) :: (15, .view 15 1 [] 0) :: (14, zI a1.fAcct) :: (13, .ptr 3 0 1) :: (12, .view 12 1 [] 0) :: (11, zI a1.fKind) :: (10, .ptr 3 0 0) :: (9, .sl 0 (List.map encU8 a0)) :: T4, (15, ⟨1, 1, false, some (.sl 1 (List.map encU8 v9))⟩) :: (12, ⟨1, 1, false, some (.sl 1 (List.map encU8 v7))⟩) :: B4⟩ ?_
   obtain ⟨v11, hv12, h⟩ := bindO h
   refine rcHT 9 [List.map encU8 v9] ⟨(18, .view 18 1 [] 0) :: (17, zI a1.fAmt) :: (16, .ptr 3 0 2) :: (15, .view 15 1 [] 0) :: (14, zI a1.fAcct) :: (13, .ptr 3 0 1) :: (12, .view 12 1 [] 0) :: (11, zI a1.fKind) :: (10, .ptr 3 0 0) :: (9, .sl 0 (List.map encU8 a0)) :: T4, (18, ⟨1, 1, false, some (.sl 1 (List.map encU8 v11))⟩) :: (15, ⟨1, 1, false, some (.sl 1 (List.map encU8 v9))⟩) :: (12, ⟨1, 1, false, some (.sl 1 (List.map encU8 v7))⟩) :: B4⟩ [X.rds (List.map encU8 v9) = true, X.roifys (List.map encU8 v9) = List.map encU8 v9, rootsBut (cv 93) 0 [.view 15 1 [] 0, zI a1.fAmt] = false ∨ (X.noRo (.sl 1 (List.map encU8 v11) : X) = true ∧ X.noRo (.junk : X) = true)] (spec_l01Put_spec v9 a1.fAmt v11 hv12) ⟨rds_map rde_U8 _, ro_map ro_U8 _, .inr ⟨(nr_sl (nr_map nr_U8 _)), rfl⟩, trivial⟩ ?_
   refine roT 10 2 2 ⟨(20, zI a1.fSrc) :: (19, .ptr 3 0 3) :: (18, .view 18 1 [] 0) :: (17, zI a1.fAmt) :: (16, .ptr 3 0 2) :: (15, .view 15 1 [] 0) :: (14, zI a1.fAcct) :: (13, .ptr 3 0 1) :: (12, .view 12 1 [] 0) :: (11, zI a1.fKind) :: (10, .ptr 3 0 0) :: (9, .sl 0 (List.map encU8 a0)) :: T4, (18, ⟨1, 1, false, some (.sl 1 (List.map encU8 v11))⟩) :: (15, ⟨1, 1, false, some (.sl 1 (List.map encU8 v9))⟩) :: (12, ⟨1, 1, false, some (.sl 1 (List.map encU8 v7))⟩) :: B4⟩ ?_
   obtain ⟨v13, hv14, h⟩ := bindO h
   refine rcHT 12 [List.map encU8 v11] ⟨(21, .view 21 1 [] 0) :: (20, zI a1.fSrc) :: (19, .ptr 3 0 3) :: (18, .view 18 1 [] 0) :: (17, zI a1.fAmt) :: (16, .ptr 3 0 2) :: (15, .view 15 1 [] 0) :: (14, zI a1.fAcct) :: (13, .ptr 3 0 1) :: (12, .view 12 1 [] 0) :: (11, zI a1.fKind) :: (10, .ptr 3 0 0) :: (9, .sl 0 (List.map encU8 a0)) :: T4, (21, ⟨1, 1, false, some (.sl 1 (List.map encU8 v13))⟩) :: (18, ⟨1, 1, false, some (.sl 1 (List.map encU8 v11))⟩) :: (15, ⟨1, 1, false, some (.sl 1 (List.map encU8 v9))⟩) :: (12, ⟨1, 1, false, some (.sl 1 (List.map encU8 v7))⟩) :: B4⟩ [X.rds (List.map encU8 v11) = true, X.roifys (List.map encU8 v11) = List.map encU8 v11, rootsBut (cv 93) 0 [.view 18 1 [] 0, zI a1.fSrc] = false ∨ (X.noRo (.sl 1 (List.map encU8 v13) : X) = true ∧ X.noRo (.junk : X) = true)] (spec_l01Put_spec v11 a1.fSrc v13 hv14) ⟨rds_map rde_U8 _, ro_map ro_U8 _, .inr ⟨(nr_sl (nr_map nr_U8 _)), rfl⟩, trivial⟩ ?_
   refine roT9 13 2 2 ⟨(5, zB true) :: (4, .view 21 1 [] 0) :: (21, .view 21 1 [] 0) :: (20, zI a1.fSrc) :: (19, .ptr 3 0 3) :: (18, .view 18 1 [] 0) :: (17, zI a1.fAmt) :: (16, .ptr 3 0 2) :: (15, .view 15 1 [] 0) :: (14, zI a1.fAcct) :: (13, .ptr 3 0 1) :: (12, .view 12 1 [] 0) :: (11, zI a1.fKind) :: (10, .ptr 3 0 0) :: (9, .sl 0 (List.map encU8 a0)) :: T4, (21, ⟨1, 1, false, some (.sl 1 (List.map encU8 v13))⟩) :: (18, ⟨1, 1, false, some (.sl 1 (List.map encU8 v11))⟩) :: (15, ⟨1, 1, false, some (.sl 1 (List.map encU8 v9))⟩) :: (12, ⟨1, 1, false, some (.sl 1 (List.map encU8 v7))⟩) :: B4⟩ ?_
   refine runs_ret ?_
   exact fin _ _ h (by kernel_rfl)

set_option maxRecDepth 100000 in
set_option maxHeartbeats 2000000 in
theorem spec_RecBytes_spec (a0 : SRec) (v0 : (List Int) × Bool) (h : spec_RecBytes a0 = some v0) : Ax.Spec Try.prog 42 none [encRec a0] (.tup [.sl 1 (List.map encU8 v0.1), zB v0.2] : X) (.junk : X) := by
 refine walk0 (fn := Try.f42) (fun q0 : (List Int) × Bool => (.tup [.sl 1 (List.map encU8 q0.1), zB q0.2] : X)) (fun q0 : (List Int) × Bool => (.junk : X)) v0 ⟨[(0, encRec a0)], []⟩ Try.func42 rfl (by decide +kernel) fun Γ hn fin => ?_
 rw [spec_RecBytes] at h
 refine sqr cv hn ?_
 refine ro9 0 3 3 ⟨[(3, zB false), (2, .sc (.slice none 0 0)), (1, .ptr 1 1 0), (0, encRec a0)], [(1, ⟨1, 1, true, some (encRec a0)⟩)]⟩ ?_
 refine runs_seq ?_
 refine sqr cv hn ?_
 refine ro 0 1 1 ⟨[(5, encRec a0), (3, zB false), (2, .sc (.slice none 0 0)), (1, .ptr 1 1 0), (0, encRec a0)], [(1, ⟨1, 1, true, some (encRec a0)⟩)]⟩ ?_
 obtain ⟨v4, hv5, h⟩ := bindO h
 refine rc 1 ⟨[(6, zB v4), (5, encRec a0), (3, zB false), (2, .sc (.slice none 0 0)), (1, .ptr 1 1 0), (0, encRec a0)], [(1, ⟨1, 1, true, some (encRec a0)⟩)]⟩ (spec_RecOk_spec a0 v4 hv5) ?_
 refine ro9 2 1 1 ⟨[(7, zB (!v4)), (6, zB v4), (5, encRec a0), (3, zB false), (2, .sc (.slice none 0 0)), (1, .ptr 1 1 0), (0, encRec a0)], [(1, ⟨1, 1, true, some (encRec a0)⟩)]⟩ ?_
 rcases dich (!v4) with hb6 | hb6
 · replace h := cond_t hb6 h
   refine ct hb6 ?_
   let B3 : List (Nat × Bx) := [(1, ⟨0, 0, true, some (encRec a0)⟩)]
   refine wkr [1] [(1, 1, false)] ⟨[(1, .ptr 1 0 0)], B3⟩ ?_
   refine sqr cv hn ?_
   refine ro9 0 2 2 ⟨[(3, zB false), (2, .sc (.slice none 0 0)), (1, .ptr 1 0 0)], B3⟩ ?_
   refine runs_ret ?_
   exact fin _ _ h (by kernel_rfl)
 · replace h := cond_f hb6 h
   refine cf hb6 ?_
   refine runs_skip ?_
   refine runs_seq ?_
   let B5 : List (Nat × Bx) := [(1, ⟨0, 0, true, some (encRec a0)⟩)]
   refine wkr [1] [(1, 1, false)] ⟨[(1, .ptr 1 0 0)], B5⟩ ?_
   refine rgT cv mixed hn ?_
   refine roT 0 2 2 ⟨[(9, zI a0.fKind), (8, .ptr 1 0 0), (1, .ptr 1 0 0)], B5⟩ ?_
   obtain ⟨v17, hv18, h⟩ := bindO h
   refine rcT 2 ⟨[(10, .view 10 1 [] 0), (9, zI a0.fKind), (8, .ptr 1 0 0), (1, .ptr 1 0 0)], (10, ⟨1, 1, false, some (.sl 1 (List.map encU8 v17))⟩) :: B5⟩ (spec_l01Put_spec [] a0.fKind v17 hv18) ?_
   refine roT 3 2 2 ⟨[(12, zI a0.fAcct), (11, .ptr 1 0 1), (10, .view 10 1 [] 0), (9, zI a0.fKind), (8, .ptr 1 0 0), (1, .ptr 1 0 0)], (10, ⟨1, 1, false, some (.sl 1 (List.map encU8 v17))⟩) :: B5⟩ ?_
   obtain ⟨v19, hv20, h⟩ := bindO h
   refine rcHT 5 [List.map encU8 v17] ⟨[(13, .view 13 1 [] 0), (12, zI a0.fAcct), (11, .ptr 1 0 1), (10, .view 10 1 [] 0), (9, zI a0.fKind), (8, .ptr 1 0 0), (1, .ptr 1 0 0)], (13, ⟨1, 1, false, some (.sl 1 (List.map encU8 v19))⟩) :: (10, ⟨1, 1, false, some (.sl 1 (List.map encU8 v17))⟩) :: B5⟩ [X.rds (List.map encU8 v17) = true, X.roifys (List.map encU8 v17) = List.map encU8 v17, rootsBut (cv 93) 0 [.view 10 1 [] 0, zI a0.fAcct] = false ∨ (X.noRo (.sl 1 (List.map encU8 v19) : X) = true ∧ X.noRo (.junk : X) = true)] (spec_l01Put_spec v17 a0.fAcct v19 hv20) ⟨rds_map rde_U8 _, ro_map ro_U8 _, .inr ⟨(nr_sl (nr_map nr_U8 _)), rfl⟩, trivial⟩ ?_
   refine roT 6 2 2 ⟨[(15, zI a0.fOther), (14, .ptr 1 0 2), (13, .view 13 1 [] 0), (12, zI a0.fAcct), (11, .ptr 1 0 1), (10, .view 10 1 [] 0), (9, zI a0.fKind), (8, .ptr 1 0 0), (1, .ptr 1 0 0)], (13, ⟨1, 1, false, some (.sl 1 (List.map encU8 v19))⟩) :: (10, ⟨1, 1, false, some (.sl 1 (List.map encU8 v17))⟩) :: B5⟩ ?_
   obtain ⟨v21, hv22, h⟩ := bindO h
   refine rcHT 8 [List.map encU8 v19] ⟨[(16, .view 16 1 [] 0), (15, zI a0.fOther), (14, .ptr 1 0 2), (13, .view 13 1 [] 0), (12, zI a0.fAcct), (11, .ptr 1 0 1), (10, .view 10 1 [] 0), (9, zI a0.fKind), (8, .ptr 1 0 0), (1, .ptr 1 0 0)], (16, ⟨1, 1, false, some (.sl 1 (List.map encU8 v21))⟩) :: (13, ⟨1, 1, false, some (.sl 1 (List.map encU8 v19))⟩) :: (10, ⟨1, 1, false, some (.sl 1 (List.map encU8 v17))⟩) :: B5⟩ [X.rds (List.map encU8 v19) = true, X.roifys (List.map encU8 v19) = List.map encU8 v19, rootsBut (cv 93) 0 [.view 13 1 [] 0, zI a0.fOther] = false ∨ (X.noRo (.sl 1 (List.map encU8 v21) : X) = true ∧ X.noRo (.junk : X) = true)] (spec_l01Put_spec v19 a0.fOther v21 hv22) ⟨rds_map rde_U8 _, ro_map ro_U8 _, .inr ⟨(nr_sl (nr_map nr_U8 _)), rfl⟩, trivial⟩ ?_
   refine roT 9 2 2 ⟨[(18, zI a0.fTo), (17, .ptr 1 0 3), (16, .view 16 1 [] 0), (15, zI a0.fOther), (14, .ptr 1 0 2), (13, .view 13 1 [] 0), (12, zI a0.fAcct), (11, .ptr 1 0 1), (10, .view 10 1 [] 0), (9, zI a0.fKind), (8, .ptr 1 0 0), (1, .ptr 1 0 0)], (16, ⟨1, 1, false, some (.sl 1 (List.map encU8 v21))⟩) :: (13, ⟨1, 1, false, some (.sl 1 (List.map encU8 v19))⟩) :: (10, ⟨1, 1, false, some (.sl 1 (List.map encU8 v17))⟩) :: B5⟩ ?_
   obtain ⟨v23, hv24, h⟩ := bindO h
   refine rcHT 11 [List.map encU8 v21] ⟨[(19, .view 19 1 [] 0), (18, zI a0.fTo), (17, .ptr 1 0 3), (16, .view 16 1 [] 0), (15, zI a0.fOther), (14, .ptr 1 0 2), (13, .view 13 1 [] 0), (12, zI a0.fAcct), (11, .ptr 1 0 1), (10, .view 10 1 [] 0), (9, zI a0.fKind), (8, .ptr 1 0 0), (1, .ptr 1 0 0)], (19, ⟨1, 1, false, some (.sl 1 (List.map encU8 v23))⟩) :: (16, ⟨1, 1, false, some (.sl 1 (List.map encU8 v21))⟩) :: (13, ⟨1, 1, false, some (.sl 1 (List.map encU8 v19))⟩) :: (10, ⟨1, 1, false, some (.sl 1 (List.map encU8 v17))⟩) :: B5⟩ [X.rds (List.map encU8 v21) = true, X.roifys (List.map encU8 v21) = List.map encU8 v21, rootsBut (cv 93) 0 [.view 16 1 [] 0, zI a0.fTo] = false ∨ (X.noRo (.sl 1 (List.map encU8 v23) : X) = true ∧ X.noRo (.junk : X) = true)] (spec_l01Put_spec v21 a0.fTo v23 hv24) ⟨rds_map rde_U8 _, ro_map ro_U8 _, .inr ⟨(nr_sl (nr_map nr_U8 _)), rfl⟩, trivial⟩ ?_
   refine roT 12 2 2 ⟨[(21, zI a0.fAmt), (20, .ptr 1 0 4), (19, .view 19 1 [] 0), (18, zI a0.fTo), (17, .ptr 1 0 3), (16, .view 16 1 [] 0), (15, zI a0.fOther), (14, .ptr 1 0 2), (13, .view 13 1 [] 0), (12, zI a0.fAcct), (11, .ptr 1 0 1), (10, .view 10 1 [] 0), (9, zI a0.fKind), (8, .ptr 1 0 0), (1, .ptr 1 0 0)], (19, ⟨1, 1, false, some (.sl 1 (List.map encU8 v23))⟩) :: (16, ⟨1, 1, false, some (.sl 1 (List.map encU8 v21))⟩) :: (13, ⟨1, 1, false, some (.sl 1 (List.map encU8 v19))⟩) :: (10, ⟨1, 1, false, some (.sl 1 (List.map encU8 v17))⟩) :: B5⟩ ?_
   obtain ⟨v25, hv26, h⟩ := bindO h
   refine rcHT 14 [List.map encU8 v23] ⟨[(22, .view 22 1 [] 0), (21, zI a0.fAmt), (20, .ptr 1 0 4), (19, .view 19 1 [] 0), (18, zI a0.fTo), (17, .ptr 1 0 3), (16, .view 16 1 [] 0), (15, zI a0.fOther), (14, .ptr 1 0 2), (13, .view 13 1 [] 0), (12, zI a0.fAcct), (11, .ptr 1 0 1), (10, .view 10 1 [] 0), (9, zI a0.fKind), (8, .ptr 1 0 0), (1, .ptr 1 0 0)], (22, ⟨1, 1, false, some (.sl 1 (List.map encU8 v25))⟩) :: (19, ⟨1, 1, false, some (.sl 1 (List.map encU8 v23))⟩) :: (16, ⟨1, 1, false, some (.sl 1 (List.map encU8 v21))⟩) :: (13, ⟨1, 1, false, some (.sl 1 (List.map encU8 v19))⟩) :: (10, ⟨1, 1, false, some (.sl 1 (List.map encU8 v17))⟩) :: B5⟩ [X.rds (List.map encU8 v23) = true, X.roifys (List.map encU8 v23) = List.map encU8 v23, rootsBut (cv 93) 0 [.view 19 1 [] 0, zI a0.fAmt] = false ∨ (X.noRo (.sl 1 (List.map encU8 v25) : X) = true ∧ X.noRo (.junk : X) = true)] (spec_l01Put_spec v23 a0.fAmt v25 hv26) ⟨rds_map rde_U8 _, ro_map ro_U8 _, .inr ⟨(nr_sl (nr_map nr_U8 _)), rfl⟩, trivial⟩ ?_
   refine roT9 15 1 1 ⟨[(4, .view 22 1 [] 0), (22, .view 22 1 [] 0), (21, zI a0.fAmt), (20, .ptr 1 0 4), (19, .view 19 1 [] 0), (18, zI a0.fTo), (17, .ptr 1 0 3), (16, .view 16 1 [] 0), (15, zI a0.fOther), (14, .ptr 1 0 2), (13, .view 13 1 [] 0), (12, zI a0.fAcct), (11, .ptr 1 0 1), (10, .view 10 1 [] 0), (9, zI a0.fKind), (8, .ptr 1 0 0), (1, .ptr 1 0 0)], (22, ⟨1, 1, false, some (.sl 1 (List.map encU8 v25))⟩) :: (19, ⟨1, 1, false, some (.sl 1 (List.map encU8 v23))⟩) :: (16, ⟨1, 1, false, some (.sl 1 (List.map encU8 v21))⟩) :: (13, ⟨1, 1, false, some (.sl 1 (List.map encU8 v19))⟩) :: (10, ⟨1, 1, false, some (.sl 1 (List.map encU8 v17))⟩) :: B5⟩ ?_
   refine runs_seq ?_
   let T7 : List (Nat × X) := [(4, .view 5000004 0 [] 0), (1, .ptr 1 0 0)]
   let B7 : List (Nat × Bx) := [(5000004, ⟨0, 0, false, some (.sl 1 (List.map encU8 v25))⟩), (1, ⟨0, 0, true, some (encRec a0)⟩)]
   refine wkr [4, 1] [(5000004, 22, false), (1, 1, false)] ⟨T7, B7⟩ ?_
   refine sqr cv hn ?_
   refine ro9 0 3 3 ⟨(25, zB (a0.fKind == 5)) :: (24, zI a0.fKind) :: (23, .ptr 1 0 0) :: T7, B7⟩ ?_
   rcases dich (a0.fKind == 5) with hb27 | hb27
   · replace h := cond_t hb27 h
     refine ct hb27 ?_
     refine sqr cv hn ?_
     refine ro 0 3 3 ⟨(28, encMsg a0.fM) :: (27, .ptr 1 0 5) :: (26, .view 5000004 0 [] 0) :: (25, zB (a0.fKind == 5)) :: (24, zI a0.fKind) :: (23, .ptr 1 0 0) :: T7, B7⟩ ?_
     obtain ⟨v28, hv29, h⟩ := bindO h
     refine rcH 3 [List.map encU8 v25] ⟨(29, .tup [.view 29 1 [] 0, zB v28.2]) :: (28, encMsg a0.fM) :: (27, .ptr 1 0 5) :: (26, .view 5000004 0 [] 0) :: (25, zB (a0.fKind == 5)) :: (24, zI a0.fKind) :: (23, .ptr 1 0 0) :: T7, (29, ⟨1, 1, false, some (.sl 1 (List.map encU8 v28.1))⟩) :: B7⟩ [X.rds (List.map encU8 v25) = true, X.roifys (List.map encU8 v25) = List.map encU8 v25, rootsBut (cv 94) 0 [.view 5000004 0 [] 0, encMsg a0.fM] = false ∨ (X.noRo (.tup [.sl 1 (List.map encU8 v28.1), zB v28.2] : X) = true ∧ X.noRo (.junk : X) = true)] (spec_MsgPut_spec v25 a0.fM v28 hv29) ⟨rds_map rde_U8 _, ro_map ro_U8 _, .inr ⟨(nr_tup (nr_cons (nr_sl (nr_map nr_U8 _)) (nr_cons rfl nr_nil))), rfl⟩, trivial⟩ ?_
     refine ro9 4 4 4 ⟨(3, zB v28.2) :: (2, .view 29 1 [] 0) :: (31, zB v28.2) :: (30, .view 29 1 [] 0) :: (29, .tup [.view 29 1 [] 0, zB v28.2]) :: (28, encMsg a0.fM) :: (27, .ptr 1 0 5) :: (26, .view 5000004 0 [] 0) :: (25, zB (a0.fKind == 5)) :: (24, zI a0.fKind) :: (23, .ptr 1 0 0) :: T7, (29, ⟨1, 1, false, some (.sl 1 (List.map encU8 v28.1))⟩) :: B7⟩ ?_
     refine runs_ret ?_
     exact fin _ _ h (by kernel_rfl)
   · replace h := cond_f hb27 h
     refine cf hb27 ?_
     refine runs_skip ?_
     refine sqr cv hn ?_
     refine ro9 0 3 3 ⟨(3, zB true) :: (2, .view 5000004 0 [] 0) :: (32, .view 5000004 0 [] 0) :: (25, zB (a0.fKind == 5)) :: (24, zI a0.fKind) :: (23, .ptr 1 0 0) :: T7, B7⟩ ?_
     refine runs_ret ?_
     exact fin _ _ h (by kernel_rfl)

set_option maxRecDepth 100000 in
set_option maxHeartbeats 2000000 in
theorem laws_toMsg_spec (a0 : SMsg) (v0 : SMsg) (h : laws_toMsg a0 = some v0) : Ax.Spec Try.prog 95 none [encMsg a0] (encMsg v0 : X) (.junk : X) := by
 refine walk0 (fn := Try.f95) (fun q0 : SMsg => (encMsg q0 : X)) (fun q0 : SMsg => (.junk : X)) v0 ⟨[(0, encMsg a0)], []⟩ Try.func95 rfl (by decide +kernel) fun Γ hn fin => ?_
 rw [laws_toMsg] at h
 refine sqr cv hn ?_
 refine ro9 0 2 2 ⟨[(2, .ptr 2 1 0), (1, .ptr 1 1 0), (0, encMsg a0)], [(2, ⟨1, 1, true, some (.agg [zI 0, zI 0, zI 0, zI 0])⟩), (1, ⟨1, 1, true, some (encMsg a0)⟩)]⟩ ?_
 refine sqr cv hn ?_
 refine ro9 0 1 1 ⟨[(3, .ptr 3 1 0), (2, .ptr 2 1 0), (1, .ptr 1 1 0), (0, encMsg a0)], [(3, ⟨1, 1, true, some (.agg [zI 0, zI 0, zI 0, zI 0])⟩), (2, ⟨1, 1, true, some (.agg [zI 0, zI 0, zI 0, zI 0])⟩), (1, ⟨1, 1, true, some (encMsg a0)⟩)]⟩ ?_
 refine sqr cv hn ?_
 refine ro9 0 4 4 ⟨[(6, .ptr 3 1 0), (5, zI a0.fKind), (4, .ptr 1 1 0), (3, .ptr 3 1 0), (2, .ptr 2 1 0), (1, .ptr 1 1 0), (0, encMsg a0)], [(3, ⟨1, 1, true, some (.agg [zI a0.fKind, zI 0, zI 0, zI 0])⟩), (3, ⟨1, 1, true, some (.agg [zI 0, zI 0, zI 0, zI 0])⟩), (2, ⟨1, 1, true, some (.agg [zI 0, zI 0, zI 0, zI 0])⟩), (1, ⟨1, 1, true, some (encMsg a0)⟩)]⟩ ?_
 refine sqr cv hn ?_
 refine ro9 0 4 4 ⟨[(9, .ptr 3 1 1), (8, zI a0.fAcct), (7, .ptr 1 1 1), (6, .ptr 3 1 0), (5, zI a0.fKind), (4, .ptr 1 1 0), (3, .ptr 3 1 0), (2, .ptr 2 1 0), (1, .ptr 1 1 0), (0, encMsg a0)], [(3, ⟨1, 1, true, some (.agg [zI a0.fKind, zI a0.fAcct, zI 0, zI 0])⟩), (3, ⟨1, 1, true, some (.agg [zI a0.fKind, zI 0, zI 0, zI 0])⟩), (3, ⟨1, 1, true, some (.agg [zI 0, zI 0, zI 0, zI 0])⟩), (2, ⟨1, 1, true, some (.agg [zI 0, zI 0, zI 0, zI 0])⟩), (1, ⟨1, 1, true, some (encMsg a0)⟩)]⟩ ?_
 let T3 : List (Nat × X) := [(3, .ptr 3 0 0), (2, .ptr 2 0 0), (1, .ptr 1 0 0)]
 let B3 : List (Nat × Bx) := [(3, ⟨0, 0, true, some (.agg [zI a0.fKind, zI a0.fAcct, zI 0, zI 0])⟩), (2, ⟨0, 0, true, some (.agg [zI 0, zI 0, zI 0, zI 0])⟩), (1, ⟨0, 0, true, some (encMsg a0)⟩)]
 refine wkr [3, 2, 1] [(3, 3, false), (2, 2, false), (1, 1, false)] ⟨T3, B3⟩ ?_
 refine sqr cv hn ?_
 refine ro9 0 4 4 ⟨(12, .ptr 3 0 2) :: (11, zI a0.fAmt) :: (10, .ptr 1 0 2) :: T3, (3, ⟨0, 0, true, some (.agg [zI a0.fKind, zI a0.fAcct, zI a0.fAmt, zI 0])⟩) :: B3⟩ ?_
 refine sqr cv hn ?_
 refine ro9 0 4 4 ⟨(15, .ptr 3 0 3) :: (14, zI a0.fSrc) :: (13, .ptr 1 0 3) :: (12, .ptr 3 0 2) :: (11, zI a0.fAmt) :: (10, .ptr 1 0 2) :: T3, (3, ⟨0, 0, true, some (encMsg a0)⟩) :: (3, ⟨0, 0, true, some (.agg [zI a0.fKind, zI a0.fAcct, zI a0.fAmt, zI 0])⟩) :: B3⟩ ?_
 let T4 : List (Nat × X) := [(3, .ptr 3 0 0), (2, .ptr 2 0 0)]
 let B4 : List (Nat × Bx) := [(3, ⟨0, 0, true, some (encMsg a0)⟩), (2, ⟨0, 0, true, some (.agg [zI 0, zI 0, zI 0, zI 0])⟩)]
 refine wkr [3, 2] [(3, 3, false), (2, 2, false)] ⟨T4, B4⟩ ?_
 refine sqr cv hn ?_
 refine ro9 0 2 2 ⟨(16, encMsg a0) :: T4, (2, ⟨0, 0, true, some (encMsg a0)⟩) :: B4⟩ ?_
 refine runs_ret ?_
 exact fin _ _ h (by kernel_rfl)

set_option maxRecDepth 100000 in
set_option maxHeartbeats 2000000 in
theorem laws_toRec_spec (a0 : SRec) (v0 : SRec) (h : laws_toRec a0 = some v0) : Ax.Spec Try.prog 43 none [encRec a0] (encRec v0 : X) (.junk : X) := by
 refine walk0 (fn := Try.f43) (fun q0 : SRec => (encRec q0 : X)) (fun q0 : SRec => (.junk : X)) v0 ⟨[(0, encRec a0)], []⟩ Try.func43 rfl (by decide +kernel) fun Γ hn fin => ?_
 rw [laws_toRec] at h
 refine sqr cv hn ?_
 refine ro9 0 2 2 ⟨[(2, .ptr 2 1 0), (1, .ptr 1 1 0), (0, encRec a0)], [(2, ⟨1, 1, true, some (.agg [zI 0, zI 0, zI 0, zI 0, zI 0, zI 0, zI 0, zI 0, zI 0])⟩), (1, ⟨1, 1, true, some (encRec a0)⟩)]⟩ ?_
 refine sqr cv hn ?_
 refine ro9 0 1 1 ⟨[(3, .ptr 3 1 0), (2, .ptr 2 1 0), (1, .ptr 1 1 0), (0, encRec a0)], [(3, ⟨1, 1, true, some (.agg [zI 0, zI 0, zI 0, zI 0, zI 0, zI 0, zI 0, zI 0, zI 0])⟩), (2, ⟨1, 1, true, some (.agg [zI 0, zI 0, zI 0, zI 0, zI 0, zI 0, zI 0, zI 0, zI 0])⟩), (1, ⟨1, 1, true, some (encRec a0)⟩)]⟩ ?_
 refine sqr cv hn ?_
 refine ro9 0 4 4 ⟨[(6, .ptr 3 1 0), (5, zI a0.fKind), (4, .ptr 1 1 0), (3, .ptr 3 1 0), (2, .ptr 2 1 0), (1, .ptr 1 1 0), (0, encRec a0)], [(3, ⟨1, 1, true, some (.agg [zI a0.fKind, zI 0, zI 0, zI 0, zI 0, zI 0, zI 0, zI 0, zI 0])⟩), (3, ⟨1, 1, true, some (.agg [zI 0, zI 0, zI 0, zI 0, zI 0, zI 0, zI 0, zI 0, zI 0])⟩), (2, ⟨1, 1, true, some (.agg [zI 0, zI 0, zI 0, zI 0, zI 0, zI 0, zI 0, zI 0, zI 0])⟩), (1, ⟨1, 1, true, some (encRec a0)⟩)]⟩ ?_
 refine sqr cv hn ?_
 refine ro9 0 4 4 ⟨[(9, .ptr 3 1 1), (8, zI a0.fAcct), (7, .ptr 1 1 1), (6, .ptr 3 1 0), (5, zI a0.fKind), (4, .ptr 1 1 0), (3, .ptr 3 1 0), (2, .ptr 2 1 0), (1, .ptr 1 1 0), (0, encRec a0)], [(3, ⟨1, 1, true, some (.agg [zI a0.fKind, zI a0.fAcct, zI 0, zI 0, zI 0, zI 0, zI 0, zI 0, zI 0])⟩), (3, ⟨1, 1, true, some (.agg [zI a0.fKind, zI 0, zI 0, zI 0, zI 0, zI 0, zI 0, zI 0, zI 0])⟩), (3, ⟨1, 1, true, some (.agg [zI 0, zI 0, zI 0, zI 0, zI 0, zI 0, zI 0, zI 0, zI 0])⟩), (2, ⟨1, 1, true, some (.agg [zI 0, zI 0, zI 0, zI 0, zI 0, zI 0, zI 0, zI 0, zI 0])⟩), (1, ⟨1, 1, true, some (encRec a0)⟩)]⟩ ?_
 let T3 : List (Nat × X) := [(3, .ptr 3 0 0), (2, .ptr 2 0 0), (1, .ptr 1 0 0)]
 let B3 : List (Nat × Bx) := [(3, ⟨0, 0, true, some (.agg [zI a0.fKind, zI a0.fAcct, zI 0, zI 0, zI 0, zI 0, zI 0, zI 0, zI 0])⟩), (2, ⟨0, 0, true, some (.agg [zI 0, zI 0, zI 0, zI 0, zI 0, zI 0, zI 0, zI 0, zI 0])⟩), (1, ⟨0, 0, true, some (encRec a0)⟩)]
 refine wkr [3, 2, 1] [(3, 3, false), (2, 2, false), (1, 1, false)] ⟨T3, B3⟩ ?_
 refine sqr cv hn ?_
 refine ro9 0 4 4 ⟨(12, .ptr 3 0 2) :: (11, zI a0.fOther) :: (10, .ptr 1 0 2) :: T3, (3, ⟨0, 0, true, some (.agg [zI a0.fKind, zI a0.fAcct, zI a0.fOther, zI 0, zI 0, zI 0, zI 0, zI 0, zI 0])⟩) :: B3⟩ ?_
 refine sqr cv hn ?_
 refine ro9 0 4 4 ⟨(15, .ptr 3 0 3) :: (14, zI a0.fTo) :: (13, .ptr 1 0 3) :: (12, .ptr 3 0 2) :: (11, zI a0.fOther) :: (10, .ptr 1 0 2) :: T3, (3, ⟨0, 0, true, some (.agg [zI a0.fKind, zI a0.fAcct, zI a0.fOther, zI a0.fTo, zI 0, zI 0, zI 0, zI 0, zI 0])⟩) :: (3, ⟨0, 0, true, some (.agg [zI a0.fKind, zI a0.fAcct, zI a0.fOther, zI 0, zI 0, zI 0, zI 0, zI 0, zI 0])⟩) :: B3⟩ ?_
 let T5 : List (Nat × X) := [(3, .ptr 3 0 0), (2, .ptr 2 0 0), (1, .ptr 1 0 0)]
 let B5 : List (Nat × Bx) := [(3, ⟨0, 0, true, some (.agg [zI a0.fKind, zI a0.fAcct, zI a0.fOther, zI a0.fTo, zI 0, zI 0, zI 0, zI 0, zI 0])⟩), (2, ⟨0, 0, true, some (.agg [zI 0, zI 0, zI 0, zI 0, zI 0, zI 0, zI 0, zI 0, zI 0])⟩), (1, ⟨0, 0, true, some (encRec a0)⟩)]
 refine wkr [3, 2, 1] [(3, 3, false), (2, 2, false), (1, 1, false)] ⟨T5, B5⟩ ?_
 refine sqr cv hn ?_
 refine ro9 0 4 4 ⟨(18, .ptr 3 0 4) :: (17, zI a0.fAmt) :: (16, .ptr 1 0 4) :: T5, (3, ⟨0, 0, true, some (.agg [zI a0.fKind, zI a0.fAcct, zI a0.fOther, zI a0.fTo, zI a0.fAmt, zI 0, zI 0, zI 0, zI 0])⟩) :: B5⟩ ?_
 refine sqr cv hn ?_
 refine ro 0 2 2 ⟨(20, encMsg a0.fM) :: (19, .ptr 1 0 5) :: (18, .ptr 3 0 4) :: (17, zI a0.fAmt) :: (16, .ptr 1 0 4) :: T5, (3, ⟨0, 0, true, some (.agg [zI a0.fKind, zI a0.fAcct, zI a0.fOther, zI a0.fTo, zI a0.fAmt, zI 0, zI 0, zI 0, zI 0])⟩) :: B5⟩ ?_
 obtain ⟨v1, hv2, h⟩ := bindO h
 refine rc 2 ⟨(21, encMsg v1) :: (20, encMsg a0.fM) :: (19, .ptr 1 0 5) :: (18, .ptr 3 0 4) :: (17, zI a0.fAmt) :: (16, .ptr 1 0 4) :: T5, (3, ⟨0, 0, true, some (.agg [zI a0.fKind, zI a0.fAcct, zI a0.fOther, zI a0.fTo, zI a0.fAmt, zI 0, zI 0, zI 0, zI 0])⟩) :: B5⟩ (laws_toMsg_spec a0.fM v1 hv2) ?_
 refine ro9 3 2 2 ⟨(22, .ptr 3 0 5) :: (21, encMsg v1) :: (20, encMsg a0.fM) :: (19, .ptr 1 0 5) :: (18, .ptr 3 0 4) :: (17, zI a0.fAmt) :: (16, .ptr 1 0 4) :: T5, (3, ⟨0, 0, true, some (.agg [zI a0.fKind, zI a0.fAcct, zI a0.fOther, zI a0.fTo, zI a0.fAmt, zI v1.fKind, zI v1.fAcct, zI v1.fAmt, zI v1.fSrc])⟩) :: (3, ⟨0, 0, true, some (.agg [zI a0.fKind, zI a0.fAcct, zI a0.fOther, zI a0.fTo, zI a0.fAmt, zI 0, zI 0, zI 0, zI 0])⟩) :: B5⟩ ?_
 let T6 : List (Nat × X) := [(3, .ptr 3 0 0), (2, .ptr 2 0 0)]
 let B6 : List (Nat × Bx) := [(3, ⟨0, 0, true, some (.agg [zI a0.fKind, zI a0.fAcct, zI a0.fOther, zI a0.fTo, zI a0.fAmt, zI v1.fKind, zI v1.fAcct, zI v1.fAmt, zI v1.fSrc])⟩), (2, ⟨0, 0, true, some (.agg [zI 0, zI 0, zI 0, zI 0, zI 0, zI 0, zI 0, zI 0, zI 0])⟩)]
 refine wkr [3, 2] [(3, 3, false), (2, 2, false)] ⟨T6, B6⟩ ?_
 refine sqr cv hn ?_
 refine ro9 0 2 2 ⟨(23, .agg [zI a0.fKind, zI a0.fAcct, zI a0.fOther, zI a0.fTo, zI a0.fAmt, zI v1.fKind, zI v1.fAcct, zI v1.fAmt, zI v1.fSrc]) :: T6, (2, ⟨0, 0, true, some (.agg [zI a0.fKind, zI a0.fAcct, zI a0.fOther, zI a0.fTo, zI a0.fAmt, zI v1.fKind, zI v1.fAcct, zI v1.fAmt, zI v1.fSrc])⟩) :: B6⟩ ?_
 refine runs_ret ?_
 exact fin _ _ h (by kernel_rfl)

set_option maxRecDepth 100000 in
set_option maxHeartbeats 2000000 in
theorem impl_in_spec (a0 : Int) (a1 : Int) (a2 : Int) (v0 : Bool) (h : impl_in a0 a1 a2 = some v0) : Ax.Spec Try.prog 60 none [zI a0, zI a1, zI a2] (zB v0 : X) (.junk : X) := by
 let T1 : List (Nat × X) := [(0, zI a0), (1, zI a1), (2, zI a2)]
 refine walk0 (fn := Try.f60) (fun q0 : Bool => (zB q0 : X)) (fun q0 : Bool => (.junk : X)) v0 ⟨T1, []⟩ Try.func60 rfl (by decide +kernel) fun Γ hn fin => ?_
 rw [impl_in] at h
 refine sqr cv hn ?_
 refine ro9 0 1 1 ⟨(6, zB false) :: T1, []⟩ ?_
 refine sqr cv hn ?_
 refine ro 0 4 4 ⟨(10, zB (decide (a0 ≥ a1))) :: (9, zB (decide (a0 ≥ a1))) :: (8, zI a1) :: (7, zI a0) :: (6, zB false) :: T1, []⟩ ?_
 rcases dich (decide (a0 ≥ a1)) with hb1 | hb1
 · replace h := cond_t hb1 h
   refine rl 10 true hb1 ?_
   refine ro9 4 5 5 ⟨(6, zB (decide (a0 ≤ a2))) :: (14, zB (decide (a0 ≤ a2))) :: (13, zB (decide (a0 ≤ a2))) :: (12, zI a2) :: (11, zI a0) :: (10, zB true) :: (9, zB (decide (a0 ≥ a1))) :: (8, zI a1) :: (7, zI a0) :: (6, zB false) :: T1, []⟩ ?_
   refine runs_ret ?_
   exact fin _ _ h (by kernel_rfl)
 · replace h := cond_f hb1 h
   refine rl 10 false hb1 ?_
   refine ro9 4 5 2 ⟨(6, zB false) :: (14, zB false) :: (13, .tup []) :: (12, .tup []) :: (11, .tup []) :: (10, zB false) :: (9, zB (decide (a0 ≥ a1))) :: (8, zI a1) :: (7, zI a0) :: (6, zB false) :: T1, []⟩ ?_
   refine runs_ret ?_
   exact fin _ _ h (by kernel_rfl)

set_option maxRecDepth 100000 in
set_option maxHeartbeats 2000000 in
theorem impl_isNode_spec (a0 : Int) (v0 : Bool) (h : impl_isNode a0 = some v0) : Ax.Spec Try.prog 61 none [zI a0] (zB v0 : X) (.junk : X) := by
 refine walk0 (fn := Try.f61) (fun q0 : Bool => (zB q0 : X)) (fun q0 : Bool => (.junk : X)) v0 ⟨[(0, zI a0)], []⟩ Try.func61 rfl (by decide +kernel) fun Γ hn fin => ?_
 rw [impl_isNode] at h
 refine sqr cv hn ?_
 refine ro9 0 1 1 ⟨[(2, zB false), (0, zI a0)], []⟩ ?_
 refine sqr cv hn ?_
 refine ro 0 1 1 ⟨[(3, zI a0), (2, zB false), (0, zI a0)], []⟩ ?_
 obtain ⟨v1, hv2, h⟩ := bindO h
 refine rc 1 ⟨[(4, zB v1), (3, zI a0), (2, zB false), (0, zI a0)], []⟩ (impl_in_spec a0 0 3 v1 hv2) ?_
 refine ro9 2 1 1 ⟨[(2, zB v1), (4, zB v1), (3, zI a0), (2, zB false), (0, zI a0)], []⟩ ?_
 refine runs_ret ?_
 exact fin _ _ h (by kernel_rfl)

set_option maxRecDepth 100000 in
set_option maxHeartbeats 2000000 in
theorem impl_isNum_spec (a0 : Int) (v0 : Bool) (h : impl_isNum a0 = some v0) : Ax.Spec Try.prog 65 none [zI a0] (zB v0 : X) (.junk : X) := by
 refine walk0 (fn := Try.f65) (fun q0 : Bool => (zB q0 : X)) (fun q0 : Bool => (.junk : X)) v0 ⟨[(0, zI a0)], []⟩ Try.func65 rfl (by decide +kernel) fun Γ hn fin => ?_
 rw [impl_isNum] at h
 refine sqr cv hn ?_
 refine ro9 0 1 1 ⟨[(2, zB false), (0, zI a0)], []⟩ ?_
 refine sqr cv hn ?_
 refine ro 0 1 1 ⟨[(3, zI a0), (2, zB false), (0, zI a0)], []⟩ ?_
 obtain ⟨v1, hv2, h⟩ := bindO h
 refine rc 1 ⟨[(4, zB v1), (3, zI a0), (2, zB false), (0, zI a0)], []⟩ (impl_in_spec a0 0 1125899906842624 v1 hv2) ?_
 refine ro9 2 1 1 ⟨[(2, zB v1), (4, zB v1), (3, zI a0), (2, zB false), (0, zI a0)], []⟩ ?_
 refine runs_ret ?_
 exact fin _ _ h (by kernel_rfl)

set_option maxRecDepth 100000 in
set_option maxHeartbeats 2000000 in
theorem impl_isBallot_spec (a0 : Int) (v0 : Bool) (h : impl_isBallot a0 = some v0) : Ax.Spec Try.prog 70 none [zI a0] (zB v0 : X) (.junk : X) := by
 refine walk0 (fn := Try.f70) (fun q0 : Bool => (zB q0 : X)) (fun q0 : Bool => (.junk : X)) v0 ⟨[(0, zI a0)], []⟩ Try.func70 rfl (by decide +kernel) fun Γ hn fin => ?_
 rw [impl_isBallot] at h
 refine sqr cv hn ?_
 refine ro9 0 1 1 ⟨[(2, zB false), (0, zI a0)], []⟩ ?_
 refine sqr cv hn ?_
 refine ro 0 1 1 ⟨[(3, zI a0), (2, zB false), (0, zI a0)], []⟩ ?_
 obtain ⟨v1, hv2, h⟩ := bindO h
 refine rc 1 ⟨[(4, zB v1), (3, zI a0), (2, zB false), (0, zI a0)], []⟩ (impl_in_spec a0 1 1125899906842624 v1 hv2) ?_
 refine ro9 2 1 1 ⟨[(2, zB v1), (4, zB v1), (3, zI a0), (2, zB false), (0, zI a0)], []⟩ ?_
 refine runs_ret ?_
 exact fin _ _ h (by kernel_rfl)

set_option maxRecDepth 100000 in
set_option maxHeartbeats 2000000 in
theorem impl_IsAmt_spec (a0 : Int) (v0 : Bool) (h : impl_IsAmt a0 = some v0) : Ax.Spec Try.prog 78 none [zI a0] (zB v0 : X) (.junk : X) := by
 refine walk0 (fn := Try.f78) (fun q0 : Bool => (zB q0 : X)) (fun q0 : Bool => (.junk : X)) v0 ⟨[(0, zI a0)], []⟩ Try.func78 rfl (by decide +kernel) fun Γ hn fin => ?_
 rw [impl_IsAmt] at h
 refine sqr cv hn ?_
 refine ro9 0 1 1 ⟨[(2, zB false), (0, zI a0)], []⟩ ?_
 refine sqr cv hn ?_
 refine ro 0 1 1 ⟨[(3, zI a0), (2, zB false), (0, zI a0)], []⟩ ?_
 obtain ⟨v1, hv2, h⟩ := bindO h
 refine rc 1 ⟨[(4, zB v1), (3, zI a0), (2, zB false), (0, zI a0)], []⟩ (impl_in_spec a0 1 1000000000 v1 hv2) ?_
 refine ro9 2 1 1 ⟨[(2, zB v1), (4, zB v1), (3, zI a0), (2, zB false), (0, zI a0)], []⟩ ?_
 refine runs_ret ?_
 exact fin _ _ h (by kernel_rfl)

set_option maxRecDepth 100000 in
set_option maxHeartbeats 2000000 in
theorem impl_MsgOk_spec (a0 : SMsg) (v0 : Bool) (h : impl_MsgOk a0 = some v0) : Ax.Spec Try.prog 120 none [encMsg a0] (zB v0 : X) (.junk : X) := by
 refine walk0 (fn := Try.f120) (fun q0 : Bool => (zB q0 : X)) (fun q0 : Bool => (.junk : X)) v0 ⟨[(0, encMsg a0)], []⟩ Try.func120 rfl (by decide +kernel) fun Γ hn fin => ?_
 rw [impl_MsgOk] at h
 refine sqr cv hn ?_
 refine ro9 0 2 2 ⟨[(2, zB false), (1, .ptr 1 1 0), (0, encMsg a0)], [(1, ⟨1, 1, true, some (encMsg a0)⟩)]⟩ ?_
 refine runs_seqJ (σ := Unit) (fun s => ⟨[(1, .ptr 1 0 0)], [(1, ⟨0, 0, true, some (encMsg a0)⟩)]⟩) (fun s => impl_MsgOk_j1 a0 = some v0) ?_ ?_
 · rintro _ h
   rw [impl_MsgOk_j1] at h
   let B5 : List (Nat × Bx) := [(1, ⟨0, 0, true, some (encMsg a0)⟩)]
   refine seq0 ⟨[(1, .ptr 1 0 0)], B5⟩ ?_
   refine runs_seq ?_
   refine sqr cv hn ?_
   refine ro9 0 2 2 ⟨[(24, zI a0.fKind), (23, .ptr 1 0 0), (1, .ptr 1 0 0)], B5⟩ ?_
   refine runs_block ?_
   refine runs_seqJ (σ := Bool) (fun s => ⟨[(1, .ptr 1 0 0), (24, zI a0.fKind), (25, zB s)], [(1, ⟨0, 0, true, some (encMsg a0)⟩)]⟩) (fun s => impl_MsgOk_j2 a0 s = some v0) ?_ ?_
   · rintro y11 h
     rw [impl_MsgOk_j2] at h
     let T6 : List (Nat × X) := [(1, .ptr 1 0 0), (24, zI a0.fKind), (25, zB y11)]
     let B6 : List (Nat × Bx) := [(1, ⟨0, 0, true, some (encMsg a0)⟩)]
     refine seq0 ⟨T6, B6⟩ ?_
     rcases dich y11 with hb12 | hb12
     · replace h := cond_t hb12 h
       refine ct hb12 ?_
       refine sqr cv hn ?_
       refine ro 0 2 2 ⟨(30, zI a0.fAmt) :: (29, .ptr 1 0 2) :: T6, B6⟩ ?_
       obtain ⟨v13, hv14, h⟩ := bindO h
       refine rc 2 ⟨(31, zB v13) :: (30, zI a0.fAmt) :: (29, .ptr 1 0 2) :: T6, B6⟩ (impl_IsAmt_spec a0.fAmt v13 hv14) ?_
       refine ro9 3 1 1 ⟨(2, zB v13) :: (31, zB v13) :: (30, zI a0.fAmt) :: (29, .ptr 1 0 2) :: T6, B6⟩ ?_
       refine runs_ret ?_
       exact fin _ _ h (by kernel_rfl)
     · replace h := cond_f hb12 h
       refine cf hb12 ?_
       refine sqr cv hn ?_
       refine ro9 0 2 2 ⟨(32, zB (a0.fKind == 4)) :: (33, zB (a0.fKind == 4)) :: T6, B6⟩ ?_
       rcases dich (a0.fKind == 4) with hb15 | hb15
       · replace h := cond_t hb15 h
         refine ct hb15 ?_
         refine sqr cv hn ?_
         refine ro 0 2 2 ⟨(35, zI a0.fAmt) :: (34, .ptr 1 0 2) :: (32, zB (a0.fKind == 4)) :: (33, zB (a0.fKind == 4)) :: T6, B6⟩ ?_
         obtain ⟨v16, hv17, h⟩ := bindO h
         refine rc 2 ⟨(36, zB v16) :: (35, zI a0.fAmt) :: (34, .ptr 1 0 2) :: (32, zB (a0.fKind == 4)) :: (33, zB (a0.fKind == 4)) :: T6, B6⟩ (impl_in_spec a0.fAmt 0 3 v16 hv17) ?_
         refine ro9 3 1 1 ⟨(2, zB v16) :: (36, zB v16) :: (35, zI a0.fAmt) :: (34, .ptr 1 0 2) :: (32, zB (a0.fKind == 4)) :: (33, zB (a0.fKind == 4)) :: T6, B6⟩ ?_
         refine runs_ret ?_
         exact fin _ _ h (by kernel_rfl)
       · replace h := cond_f hb15 h
         refine cf hb15 ?_
         refine sqr cv hn ?_
         refine ro9 0 2 2 ⟨(37, zB (a0.fKind == 5)) :: (38, zB (a0.fKind == 5)) :: (32, zB (a0.fKind == 4)) :: (33, zB (a0.fKind == 4)) :: T6, B6⟩ ?_
         rcases dich (a0.fKind == 5) with hb18 | hb18
         · replace h := cond_t hb18 h
           refine ct hb18 ?_
           let B7 : List (Nat × Bx) := [(1, ⟨0, 0, true, some (encMsg a0)⟩)]
           refine wkr [1] [(1, 1, false)] ⟨[(1, .ptr 1 0 0)], B7⟩ ?_
           refine sqr cv hn ?_
           refine ro 0 2 2 ⟨[(40, zI a0.fAmt), (39, .ptr 1 0 2), (1, .ptr 1 0 0)], B7⟩ ?_
           obtain ⟨v19, hv20, h⟩ := bindO h
           refine rc 2 ⟨[(41, zB v19), (40, zI a0.fAmt), (39, .ptr 1 0 2), (1, .ptr 1 0 0)], B7⟩ (impl_isNum_spec a0.fAmt v19 hv20) ?_
           refine ro9 3 1 1 ⟨[(2, zB v19), (41, zB v19), (40, zI a0.fAmt), (39, .ptr 1 0 2), (1, .ptr 1 0 0)], B7⟩ ?_
           refine runs_ret ?_
           exact fin _ _ h (by kernel_rfl)
         · replace h := cond_f hb18 h
           refine cf hb18 ?_
           refine runs_skip ?_
           refine wkr [] [] ⟨[], []⟩ ?_
           refine sqr cv hn ?_
           refine ro9 0 1 1 ⟨[(2, zB false)], []⟩ ?_
           refine runs_ret ?_
           exact fin _ _ h (by kernel_rfl)
   · skip
     refine sqr cv hn ?_
     refine ro9 0 2 2 ⟨[(25, zB (a0.fKind == 1)), (26, zB (a0.fKind == 1)), (24, zI a0.fKind), (23, .ptr 1 0 0), (1, .ptr 1 0 0)], B5⟩ ?_
     rcases dich (a0.fKind == 1) with hb21 | hb21
     · replace h := cond_t hb21 h
       refine ct hb21 ?_
       refine runs_skip ?_
       exact ⟨(a0.fKind == 1), h, wre [1, 24, 25] [(1, 1, false)]⟩
     · replace h := cond_f hb21 h
       refine cf hb21 ?_
       refine sqr cv hn ?_
       refine ro9 0 2 2 ⟨[(25, zB (a0.fKind == 2)), (27, zB (a0.fKind == 2)), (25, zB (a0.fKind == 1)), (26, zB (a0.fKind == 1)), (24, zI a0.fKind), (23, .ptr 1 0 0), (1, .ptr 1 0 0)], B5⟩ ?_
       rcases dich (a0.fKind == 2) with hb22 | hb22
       · replace h := cond_t hb22 h
         refine ct hb22 ?_
         refine runs_skip ?_
         exact ⟨(a0.fKind == 2), h, wre [1, 24, 25] [(1, 1, false)]⟩
       · replace h := cond_f hb22 h
         refine cf hb22 ?_
         refine rg cv hn ?_
         refine ro9 0 2 2 ⟨[(25, zB (a0.fKind == 3)), (28, zB (a0.fKind == 3)), (25, zB (a0.fKind == 2)), (27, zB (a0.fKind == 2)), (25, zB (a0.fKind == 1)), (26, zB (a0.fKind == 1)), (24, zI a0.fKind), (23, .ptr 1 0 0), (1, .ptr 1 0 0)], B5⟩ ?_
         exact ⟨(a0.fKind == 3), h, wre [1, 24, 25] [(1, 1, false)]⟩
 · skip
   refine sqr cv hn ?_
   refine ro 0 2 2 ⟨[(4, zI a0.fAcct), (3, .ptr 1 1 1), (2, zB false), (1, .ptr 1 1 0), (0, encMsg a0)], [(1, ⟨1, 1, true, some (encMsg a0)⟩)]⟩ ?_
   obtain ⟨v23, hv24, h⟩ := bindO h
   refine rc 2 ⟨[(5, zB v23), (4, zI a0.fAcct), (3, .ptr 1 1 1), (2, zB false), (1, .ptr 1 1 0), (0, encMsg a0)], [(1, ⟨1, 1, true, some (encMsg a0)⟩)]⟩ (impl_in_spec a0.fAcct 0 2 v23 hv24) ?_
   refine ro 3 2 2 ⟨[(7, zB (!v23)), (6, zB (!v23)), (5, zB v23), (4, zI a0.fAcct), (3, .ptr 1 1 1), (2, zB false), (1, .ptr 1 1 0), (0, encMsg a0)], [(1, ⟨1, 1, true, some (encMsg a0)⟩)]⟩ ?_
   rcases dich (!v23) with hb25 | hb25
   · replace h := cond_t hb25 h
     refine rl 7 true hb25 ?_
     refine ro9 5 15 3 ⟨[(22, zB true), (21, .tup []), (20, .tup []), (19, .tup []), (18, .tup []), (17, .tup []), (16, .tup []), (15, .tup []), (14, .tup []), (13, zB true), (12, zB true), (11, .tup []), (10, .tup []), (9, .tup []), (8, .tup []), (7, zB true), (6, zB (!v23)), (5, zB v23), (4, zI a0.fAcct), (3, .ptr 1 1 1), (2, zB false), (1, .ptr 1 1 0), (0, encMsg a0)], [(1, ⟨1, 1, true, some (encMsg a0)⟩)]⟩ ?_
     refine cT ?_
     let B9 : List (Nat × Bx) := [(1, ⟨0, 0, true, some (encMsg a0)⟩)]
     refine wkr [1] [(1, 1, false)] ⟨[(1, .ptr 1 0 0)], B9⟩ ?_
     refine sqr cv hn ?_
     refine ro9 0 1 1 ⟨[(2, zB false), (1, .ptr 1 0 0)], B9⟩ ?_
     refine runs_ret ?_
     exact fin _ _ h (by kernel_rfl)
   · replace h := cond_f hb25 h
     refine rl 7 false hb25 ?_
     refine ro 5 2 2 ⟨[(9, zI a0.fSrc), (8, .ptr 1 1 3), (7, zB false), (6, zB (!v23)), (5, zB v23), (4, zI a0.fAcct), (3, .ptr 1 1 1), (2, zB false), (1, .ptr 1 1 0), (0, encMsg a0)], [(1, ⟨1, 1, true, some (encMsg a0)⟩)]⟩ ?_
     obtain ⟨v26, hv27, h⟩ := bindO h
     refine rc 7 ⟨[(10, zB v26), (9, zI a0.fSrc), (8, .ptr 1 1 3), (7, zB false), (6, zB (!v23)), (5, zB v23), (4, zI a0.fAcct), (3, .ptr 1 1 1), (2, zB false), (1, .ptr 1 1 0), (0, encMsg a0)], [(1, ⟨1, 1, true, some (encMsg a0)⟩)]⟩ (impl_in_spec a0.fSrc 0 2 v26 hv27) ?_
     refine ro 8 3 3 ⟨[(13, zB (!v26)), (12, zB (!v26)), (11, zB (!v26)), (10, zB v26), (9, zI a0.fSrc), (8, .ptr 1 1 3), (7, zB false), (6, zB (!v23)), (5, zB v23), (4, zI a0.fAcct), (3, .ptr 1 1 1), (2, zB false), (1, .ptr 1 1 0), (0, encMsg a0)], [(1, ⟨1, 1, true, some (encMsg a0)⟩)]⟩ ?_
     rcases dich (!v26) with hb28 | hb28
     · replace h := cond_t hb28 h
       refine rl 13 true hb28 ?_
       refine ro9 11 9 1 ⟨[(22, zB true), (21, .tup []), (20, .tup []), (19, .tup []), (18, .tup []), (17, .tup []), (16, .tup []), (15, .tup []), (14, .tup []), (13, zB true), (12, zB (!v26)), (11, zB (!v26)), (10, zB v26), (9, zI a0.fSrc), (8, .ptr 1 1 3), (7, zB false), (6, zB (!v23)), (5, zB v23), (4, zI a0.fAcct), (3, .ptr 1 1 1), (2, zB false), (1, .ptr 1 1 0), (0, encMsg a0)], [(1, ⟨1, 1, true, some (encMsg a0)⟩)]⟩ ?_
       refine cT ?_
       let B10 : List (Nat × Bx) := [(1, ⟨0, 0, true, some (encMsg a0)⟩)]
       refine wkr [1] [(1, 1, false)] ⟨[(1, .ptr 1 0 0)], B10⟩ ?_
       refine sqr cv hn ?_
       refine ro9 0 1 1 ⟨[(2, zB false), (1, .ptr 1 0 0)], B10⟩ ?_
       refine runs_ret ?_
       exact fin _ _ h (by kernel_rfl)
     · replace h := cond_f hb28 h
       refine rl 13 false hb28 ?_
       refine ro 11 4 4 ⟨[(17, zB (a0.fSrc != 0)), (16, zB (a0.fSrc != 0)), (15, zI a0.fSrc), (14, .ptr 1 1 3), (13, zB false), (12, zB (!v26)), (11, zB (!v26)), (10, zB v26), (9, zI a0.fSrc), (8, .ptr 1 1 3), (7, zB false), (6, zB (!v23)), (5, zB v23), (4, zI a0.fAcct), (3, .ptr 1 1 1), (2, zB false), (1, .ptr 1 1 0), (0, encMsg a0)], [(1, ⟨1, 1, true, some (encMsg a0)⟩)]⟩ ?_
       rcases dich (a0.fSrc != 0) with hb29 | hb29
       · replace h := cond_t hb29 h
         refine rl 17 true hb29 ?_
         refine ro9 15 5 5 ⟨[(22, zB (a0.fKind != 2)), (21, zB (a0.fKind != 2)), (20, zB (a0.fKind != 2)), (19, zI a0.fKind), (18, .ptr 1 1 0), (17, zB true), (16, zB (a0.fSrc != 0)), (15, zI a0.fSrc), (14, .ptr 1 1 3), (13, zB false), (12, zB (!v26)), (11, zB (!v26)), (10, zB v26), (9, zI a0.fSrc), (8, .ptr 1 1 3), (7, zB false), (6, zB (!v23)), (5, zB v23), (4, zI a0.fAcct), (3, .ptr 1 1 1), (2, zB false), (1, .ptr 1 1 0), (0, encMsg a0)], [(1, ⟨1, 1, true, some (encMsg a0)⟩)]⟩ ?_
         rcases dich (a0.fKind != 2) with hb30 | hb30
         · replace h := cond_t hb30 h
           refine ct hb30 ?_
           let B11 : List (Nat × Bx) := [(1, ⟨0, 0, true, some (encMsg a0)⟩)]
           refine wkr [1] [(1, 1, false)] ⟨[(1, .ptr 1 0 0)], B11⟩ ?_
           refine sqr cv hn ?_
           refine ro9 0 1 1 ⟨[(2, zB false), (1, .ptr 1 0 0)], B11⟩ ?_
           refine runs_ret ?_
           exact fin _ _ h (by kernel_rfl)
         · replace h := cond_f hb30 h
           refine cf hb30 ?_
           refine runs_skip ?_
           exact ⟨(), h, wre [1] [(1, 1, false)]⟩
       · replace h := cond_f hb29 h
         refine rl 17 false hb29 ?_
         refine ro9 15 5 2 ⟨[(22, zB false), (21, zB false), (20, .tup []), (19, .tup []), (18, .tup []), (17, zB false), (16, zB (a0.fSrc != 0)), (15, zI a0.fSrc), (14, .ptr 1 1 3), (13, zB false), (12, zB (!v26)), (11, zB (!v26)), (10, zB v26), (9, zI a0.fSrc), (8, .ptr 1 1 3), (7, zB false), (6, zB (!v23)), (5, zB v23), (4, zI a0.fAcct), (3, .ptr 1 1 1), (2, zB false), (1, .ptr 1 1 0), (0, encMsg a0)], [(1, ⟨1, 1, true, some (encMsg a0)⟩)]⟩ ?_
         refine cF ?_
         refine runs_skip ?_
         exact ⟨(), h, wre [1] [(1, 1, false)]⟩

set_option maxRecDepth 100000 in
set_option maxHeartbeats 2000000 in
theorem impl_RecOk_spec (a0 : SRec) (v0 : Bool) (h : impl_RecOk a0 = some v0) : Ax.Spec Try.prog 96 none [encRec a0] (zB v0 : X) (.junk : X) := by
 refine walk0 (fn := Try.f96) (fun q0 : Bool => (zB q0 : X)) (fun q0 : Bool => (.junk : X)) v0 ⟨[(0, encRec a0)], []⟩ Try.func96 rfl (by decide +kernel) fun Γ hn fin => ?_
 rw [impl_RecOk] at h
 refine sqr cv hn ?_
 refine ro9 0 2 2 ⟨[(2, zB false), (1, .ptr 1 1 0), (0, encRec a0)], [(1, ⟨1, 1, true, some (encRec a0)⟩)]⟩ ?_
 refine sqr cv hn ?_
 refine ro9 0 5 5 ⟨[(3, .ptr 3 1 0), (7, .agg [zI a0.fKind, zI 0, zI 0, zI 0, zI 0, zI 0, zI 0, zI 0, zI 0]), (6, zI a0.fKind), (5, .ptr 1 1 0), (2, zB false), (1, .ptr 1 1 0), (0, encRec a0)], [(3, ⟨1, 1, true, some (.agg [zI a0.fKind, zI 0, zI 0, zI 0, zI 0, zI 0, zI 0, zI 0, zI 0])⟩), (3, ⟨1, 1, true, some (.agg [zI 0, zI 0, zI 0, zI 0, zI 0, zI 0, zI 0, zI 0, zI 0])⟩), (1, ⟨1, 1, true, some (encRec a0)⟩)]⟩ ?_
 let T3 : List (Nat × X) := [(3, .ptr 3 0 0), (1, .ptr 1 0 0)]
 let B3 : List (Nat × Bx) := [(3, ⟨0, 0, true, some (.agg [zI a0.fKind, zI 0, zI 0, zI 0, zI 0, zI 0, zI 0, zI 0, zI 0])⟩), (1, ⟨0, 0, true, some (encRec a0)⟩)]
 refine wkr [3, 1] [(3, 3, false), (1, 1, false)] ⟨T3, B3⟩ ?_
 refine sqr cv hn ?_
 refine ro9 0 1 1 ⟨(4, zB true) :: T3, B3⟩ ?_
 refine runs_seqJ (σ := Bool × Int × Int × Int × Int × Int × Int × Int × Int) (fun s => ⟨[(1, .ptr 1 0 0), (3, .ptr 3 0 0), (4, zB s.1)], [(1, ⟨0, 0, true, some (encRec a0)⟩), (3, ⟨0, 0, true, some (.agg [zI a0.fKind, zI s.2.1, zI s.2.2.1, zI s.2.2.2.1, zI s.2.2.2.2.1, zI s.2.2.2.2.2.1, zI s.2.2.2.2.2.2.1, zI s.2.2.2.2.2.2.2.1, zI s.2.2.2.2.2.2.2.2])⟩)]⟩) (fun s => impl_RecOk_j1 a0 s.1 s.2.1 s.2.2.1 s.2.2.2.1 s.2.2.2.2.1 s.2.2.2.2.2.1 s.2.2.2.2.2.2.1 s.2.2.2.2.2.2.2.1 s.2.2.2.2.2.2.2.2 = some v0) ?_ ?_
 · rintro ⟨y29, y30, y31, y32, y33, y34, y35, y36, y37⟩ h
   rw [impl_RecOk_j1] at h
   let T24 : List (Nat × X) := [(1, .ptr 1 0 0), (3, .ptr 3 0 0), (4, zB y29)]
   let B24 : List (Nat × Bx) := [(1, ⟨0, 0, true, some (encRec a0)⟩), (3, ⟨0, 0, true, some (.agg [zI a0.fKind, zI y30, zI y31, zI y32, zI y33, zI y34, zI y35, zI y36, zI y37])⟩)]
   refine seq0 ⟨T24, B24⟩ ?_
   refine sqr cv hn ?_
   refine ro 0 2 2 ⟨(117, zB y29) :: (116, zB y29) :: T24, B24⟩ ?_
   rcases dich y29 with hb38 | hb38
   · replace h := cond_t hb38 h
     refine rl 117 true hb38 ?_
     refine ro 2 2 2 ⟨(119, .agg [zI a0.fKind, zI y30, zI y31, zI y32, zI y33, zI y34, zI y35, zI y36, zI y37]) :: (118, encRec a0) :: (117, zB true) :: (116, zB y29) :: T24, B24⟩ ?_
     refine rs 4 ⟨(120, zB ((a0.fKind == a0.fKind) && ((a0.fAcct == y30) && ((a0.fOther == y31) && ((a0.fTo == y32) && ((a0.fAmt == y33) && ((a0.fM.fKind == y34) && ((a0.fM.fAcct == y35) && ((a0.fM.fAmt == y36) && ((a0.fM.fSrc == y37) && true)))))))))) :: (119, .agg [zI a0.fKind, zI y30, zI y31, zI y32, zI y33, zI y34, zI y35, zI y36, zI y37]) :: (118, encRec a0) :: (117, zB true) :: (116, zB y29) :: T24, B24⟩ [EqOK Try.prog 69 ∧ (9 : Nat) = tSize Try.prog 69] ⟨⟨eqok69, by kernel_rfl⟩, trivial⟩ ?_
     refine ro 5 2 2 ⟨(122, zB ((a0.fKind == a0.fKind) && ((a0.fAcct == y30) && ((a0.fOther == y31) && ((a0.fTo == y32) && ((a0.fAmt == y33) && ((a0.fM.fKind == y34) && ((a0.fM.fAcct == y35) && ((a0.fM.fAmt == y36) && ((a0.fM.fSrc == y37) && true)))))))))) :: (121, zB ((a0.fKind == a0.fKind) && ((a0.fAcct == y30) && ((a0.fOther == y31) && ((a0.fTo == y32) && ((a0.fAmt == y33) && ((a0.fM.fKind == y34) && ((a0.fM.fAcct == y35) && ((a0.fM.fAmt == y36) && ((a0.fM.fSrc == y37) && true)))))))))) :: (120, zB ((a0.fKind == a0.fKind) && ((a0.fAcct == y30) && ((a0.fOther == y31) && ((a0.fTo == y32) && ((a0.fAmt == y33) && ((a0.fM.fKind == y34) && ((a0.fM.fAcct == y35) && ((a0.fM.fAmt == y36) && ((a0.fM.fSrc == y37) && true)))))))))) :: (119, .agg [zI a0.fKind, zI y30, zI y31, zI y32, zI y33, zI y34, zI y35, zI y36, zI y37]) :: (118, encRec a0) :: (117, zB true) :: (116, zB y29) :: T24, B24⟩ ?_
     rcases dich ((a0.fKind == a0.fKind) && ((a0.fAcct == y30) && ((a0.fOther == y31) && ((a0.fTo == y32) && ((a0.fAmt == y33) && ((a0.fM.fKind == y34) && ((a0.fM.fAcct == y35) && ((a0.fM.fAmt == y36) && ((a0.fM.fSrc == y37) && true))))))))) with hb39 | hb39
     · replace h := cond_t hb39 h
       refine rl 122 true hb39 ?_
       refine ro 7 2 2 ⟨(124, zI a0.fAcct) :: (123, .ptr 1 0 1) :: (122, zB true) :: (121, zB ((a0.fKind == a0.fKind) && ((a0.fAcct == y30) && ((a0.fOther == y31) && ((a0.fTo == y32) && ((a0.fAmt == y33) && ((a0.fM.fKind == y34) && ((a0.fM.fAcct == y35) && ((a0.fM.fAmt == y36) && ((a0.fM.fSrc == y37) && true)))))))))) :: (120, zB ((a0.fKind == a0.fKind) && ((a0.fAcct == y30) && ((a0.fOther == y31) && ((a0.fTo == y32) && ((a0.fAmt == y33) && ((a0.fM.fKind == y34) && ((a0.fM.fAcct == y35) && ((a0.fM.fAmt == y36) && ((a0.fM.fSrc == y37) && true)))))))))) :: (119, .agg [zI a0.fKind, zI y30, zI y31, zI y32, zI y33, zI y34, zI y35, zI y36, zI y37]) :: (118, encRec a0) :: (117, zB true) :: (116, zB y29) :: T24, B24⟩ ?_
       obtain ⟨v40, hv41, h⟩ := bindO h
       refine rc 9 ⟨(125, zB v40) :: (124, zI a0.fAcct) :: (123, .ptr 1 0 1) :: (122, zB true) :: (121, zB ((a0.fKind == a0.fKind) && ((a0.fAcct == y30) && ((a0.fOther == y31) && ((a0.fTo == y32) && ((a0.fAmt == y33) && ((a0.fM.fKind == y34) && ((a0.fM.fAcct == y35) && ((a0.fM.fAmt == y36) && ((a0.fM.fSrc == y37) && true)))))))))) :: (120, zB ((a0.fKind == a0.fKind) && ((a0.fAcct == y30) && ((a0.fOther == y31) && ((a0.fTo == y32) && ((a0.fAmt == y33) && ((a0.fM.fKind == y34) && ((a0.fM.fAcct == y35) && ((a0.fM.fAmt == y36) && ((a0.fM.fSrc == y37) && true)))))))))) :: (119, .agg [zI a0.fKind, zI y30, zI y31, zI y32, zI y33, zI y34, zI y35, zI y36, zI y37]) :: (118, encRec a0) :: (117, zB true) :: (116, zB y29) :: T24, B24⟩ (impl_in_spec a0.fAcct 0 2 v40 hv41) ?_
       refine ro 10 2 2 ⟨(127, zB v40) :: (126, zB v40) :: (125, zB v40) :: (124, zI a0.fAcct) :: (123, .ptr 1 0 1) :: (122, zB true) :: (121, zB ((a0.fKind == a0.fKind) && ((a0.fAcct == y30) && ((a0.fOther == y31) && ((a0.fTo == y32) && ((a0.fAmt == y33) && ((a0.fM.fKind == y34) && ((a0.fM.fAcct == y35) && ((a0.fM.fAmt == y36) && ((a0.fM.fSrc == y37) && true)))))))))) :: (120, zB ((a0.fKind == a0.fKind) && ((a0.fAcct == y30) && ((a0.fOther == y31) && ((a0.fTo == y32) && ((a0.fAmt == y33) && ((a0.fM.fKind == y34) && ((a0.fM.fAcct == y35) && ((a0.fM.fAmt == y36) && ((a0.fM.fSrc == y37) && true)))))))))) :: (119, .agg [zI a0.fKind, zI y30, zI y31, zI y32, zI y33, zI y34, zI y35, zI y36, zI y37]) :: (118, encRec a0) :: (117, zB true) :: (116, zB y29) :: T24, B24⟩ ?_
       rcases dich v40 with hb42 | hb42
       · replace h := cond_t hb42 h
         refine rl 127 true hb42 ?_
         refine ro 12 2 2 ⟨(129, zI a0.fOther) :: (128, .ptr 1 0 2) :: (127, zB true) :: (126, zB v40) :: (125, zB v40) :: (124, zI a0.fAcct) :: (123, .ptr 1 0 1) :: (122, zB true) :: (121, zB ((a0.fKind == a0.fKind) && ((a0.fAcct == y30) && ((a0.fOther == y31) && ((a0.fTo == y32) && ((a0.fAmt == y33) && ((a0.fM.fKind == y34) && ((a0.fM.fAcct == y35) && ((a0.fM.fAmt == y36) && ((a0.fM.fSrc == y37) && true)))))))))) :: (120, zB ((a0.fKind == a0.fKind) && ((a0.fAcct == y30) && ((a0.fOther == y31) && ((a0.fTo == y32) && ((a0.fAmt == y33) && ((a0.fM.fKind == y34) && ((a0.fM.fAcct == y35) && ((a0.fM.fAmt == y36) && ((a0.fM.fSrc == y37) && true)))))))))) :: (119, .agg [zI a0.fKind, zI y30, zI y31, zI y32, zI y33, zI y34, zI y35, zI y36, zI y37]) :: (118, encRec a0) :: (117, zB true) :: (116, zB y29) :: T24, B24⟩ ?_
         obtain ⟨v43, hv44, h⟩ := bindO h
         refine rc 14 ⟨(130, zB v43) :: (129, zI a0.fOther) :: (128, .ptr 1 0 2) :: (127, zB true) :: (126, zB v40) :: (125, zB v40) :: (124, zI a0.fAcct) :: (123, .ptr 1 0 1) :: (122, zB true) :: (121, zB ((a0.fKind == a0.fKind) && ((a0.fAcct == y30) && ((a0.fOther == y31) && ((a0.fTo == y32) && ((a0.fAmt == y33) && ((a0.fM.fKind == y34) && ((a0.fM.fAcct == y35) && ((a0.fM.fAmt == y36) && ((a0.fM.fSrc == y37) && true)))))))))) :: (120, zB ((a0.fKind == a0.fKind) && ((a0.fAcct == y30) && ((a0.fOther == y31) && ((a0.fTo == y32) && ((a0.fAmt == y33) && ((a0.fM.fKind == y34) && ((a0.fM.fAcct == y35) && ((a0.fM.fAmt == y36) && ((a0.fM.fSrc == y37) && true)))))))))) :: (119, .agg [zI a0.fKind, zI y30, zI y31, zI y32, zI y33, zI y34, zI y35, zI y36, zI y37]) :: (118, encRec a0) :: (117, zB true) :: (116, zB y29) :: T24, B24⟩ (impl_in_spec a0.fOther 0 2 v43 hv44) ?_
         refine ro 15 2 2 ⟨(132, zB v43) :: (131, zB v43) :: (130, zB v43) :: (129, zI a0.fOther) :: (128, .ptr 1 0 2) :: (127, zB true) :: (126, zB v40) :: (125, zB v40) :: (124, zI a0.fAcct) :: (123, .ptr 1 0 1) :: (122, zB true) :: (121, zB ((a0.fKind == a0.fKind) && ((a0.fAcct == y30) && ((a0.fOther == y31) && ((a0.fTo == y32) && ((a0.fAmt == y33) && ((a0.fM.fKind == y34) && ((a0.fM.fAcct == y35) && ((a0.fM.fAmt == y36) && ((a0.fM.fSrc == y37) && true)))))))))) :: (120, zB ((a0.fKind == a0.fKind) && ((a0.fAcct == y30) && ((a0.fOther == y31) && ((a0.fTo == y32) && ((a0.fAmt == y33) && ((a0.fM.fKind == y34) && ((a0.fM.fAcct == y35) && ((a0.fM.fAmt == y36) && ((a0.fM.fSrc == y37) && true)))))))))) :: (119, .agg [zI a0.fKind, zI y30, zI y31, zI y32, zI y33, zI y34, zI y35, zI y36, zI y37]) :: (118, encRec a0) :: (117, zB true) :: (116, zB y29) :: T24, B24⟩ ?_
         rcases dich v43 with hb45 | hb45
         · replace h := cond_t hb45 h
           refine rl 132 true hb45 ?_
           refine ro 17 2 2 ⟨(134, zI a0.fTo) :: (133, .ptr 1 0 3) :: (132, zB true) :: (131, zB v43) :: (130, zB v43) :: (129, zI a0.fOther) :: (128, .ptr 1 0 2) :: (127, zB true) :: (126, zB v40) :: (125, zB v40) :: (124, zI a0.fAcct) :: (123, .ptr 1 0 1) :: (122, zB true) :: (121, zB ((a0.fKind == a0.fKind) && ((a0.fAcct == y30) && ((a0.fOther == y31) && ((a0.fTo == y32) && ((a0.fAmt == y33) && ((a0.fM.fKind == y34) && ((a0.fM.fAcct == y35) && ((a0.fM.fAmt == y36) && ((a0.fM.fSrc == y37) && true)))))))))) :: (120, zB ((a0.fKind == a0.fKind) && ((a0.fAcct == y30) && ((a0.fOther == y31) && ((a0.fTo == y32) && ((a0.fAmt == y33) && ((a0.fM.fKind == y34) && ((a0.fM.fAcct == y35) && ((a0.fM.fAmt == y36) && ((a0.fM.fSrc == y37) && true)))))))))) :: (119, .agg [zI a0.fKind, zI y30, zI y31, zI y32, zI y33, zI y34, zI y35, zI y36, zI y37]) :: (118, encRec a0) :: (117, zB true) :: (116, zB y29) :: T24, B24⟩ ?_
           obtain ⟨v46, hv47, h⟩ := bindO h
           refine rc 19 ⟨(135, zB v46) :: (134, zI a0.fTo) :: (133, .ptr 1 0 3) :: (132, zB true) :: (131, zB v43) :: (130, zB v43) :: (129, zI a0.fOther) :: (128, .ptr 1 0 2) :: (127, zB true) :: (126, zB v40) :: (125, zB v40) :: (124, zI a0.fAcct) :: (123, .ptr 1 0 1) :: (122, zB true) :: (121, zB ((a0.fKind == a0.fKind) && ((a0.fAcct == y30) && ((a0.fOther == y31) && ((a0.fTo == y32) && ((a0.fAmt == y33) && ((a0.fM.fKind == y34) && ((a0.fM.fAcct == y35) && ((a0.fM.fAmt == y36) && ((a0.fM.fSrc == y37) && true)))))))))) :: (120, zB ((a0.fKind == a0.fKind) && ((a0.fAcct == y30) && ((a0.fOther == y31) && ((a0.fTo == y32) && ((a0.fAmt == y33) && ((a0.fM.fKind == y34) && ((a0.fM.fAcct == y35) && ((a0.fM.fAmt == y36) && ((a0.fM.fSrc == y37) && true)))))))))) :: (119, .agg [zI a0.fKind, zI y30, zI y31, zI y32, zI y33, zI y34, zI y35, zI y36, zI y37]) :: (118, encRec a0) :: (117, zB true) :: (116, zB y29) :: T24, B24⟩ (impl_isNode_spec a0.fTo v46 hv47) ?_
           refine ro9 20 2 2 ⟨(2, zB v46) :: (136, zB v46) :: (135, zB v46) :: (134, zI a0.fTo) :: (133, .ptr 1 0 3) :: (132, zB true) :: (131, zB v43) :: (130, zB v43) :: (129, zI a0.fOther) :: (128, .ptr 1 0 2) :: (127, zB true) :: (126, zB v40) :: (125, zB v40) :: (124, zI a0.fAcct) :: (123, .ptr 1 0 1) :: (122, zB true) :: (121, zB ((a0.fKind == a0.fKind) && ((a0.fAcct == y30) && ((a0.fOther == y31) && ((a0.fTo == y32) && ((a0.fAmt == y33) && ((a0.fM.fKind == y34) && ((a0.fM.fAcct == y35) && ((a0.fM.fAmt == y36) && ((a0.fM.fSrc == y37) && true)))))))))) :: (120, zB ((a0.fKind == a0.fKind) && ((a0.fAcct == y30) && ((a0.fOther == y31) && ((a0.fTo == y32) && ((a0.fAmt == y33) && ((a0.fM.fKind == y34) && ((a0.fM.fAcct == y35) && ((a0.fM.fAmt == y36) && ((a0.fM.fSrc == y37) && true)))))))))) :: (119, .agg [zI a0.fKind, zI y30, zI y31, zI y32, zI y33, zI y34, zI y35, zI y36, zI y37]) :: (118, encRec a0) :: (117, zB true) :: (116, zB y29) :: T24, B24⟩ ?_
           refine runs_ret ?_
           exact fin _ _ h (by kernel_rfl)
         · replace h := cond_f hb45 h
           refine rl 132 false hb45 ?_
           refine ro9 17 5 2 ⟨(2, zB false) :: (136, zB false) :: (135, .tup []) :: (134, .tup []) :: (133, .tup []) :: (132, zB false) :: (131, zB v43) :: (130, zB v43) :: (129, zI a0.fOther) :: (128, .ptr 1 0 2) :: (127, zB true) :: (126, zB v40) :: (125, zB v40) :: (124, zI a0.fAcct) :: (123, .ptr 1 0 1) :: (122, zB true) :: (121, zB ((a0.fKind == a0.fKind) && ((a0.fAcct == y30) && ((a0.fOther == y31) && ((a0.fTo == y32) && ((a0.fAmt == y33) && ((a0.fM.fKind == y34) && ((a0.fM.fAcct == y35) && ((a0.fM.fAmt == y36) && ((a0.fM.fSrc == y37) && true)))))))))) :: (120, zB ((a0.fKind == a0.fKind) && ((a0.fAcct == y30) && ((a0.fOther == y31) && ((a0.fTo == y32) && ((a0.fAmt == y33) && ((a0.fM.fKind == y34) && ((a0.fM.fAcct == y35) && ((a0.fM.fAmt == y36) && ((a0.fM.fSrc == y37) && true)))))))))) :: (119, .agg [zI a0.fKind, zI y30, zI y31, zI y32, zI y33, zI y34, zI y35, zI y36, zI y37]) :: (118, encRec a0) :: (117, zB true) :: (116, zB y29) :: T24, B24⟩ ?_
           refine runs_ret ?_
           exact fin _ _ h (by kernel_rfl)
       · replace h := cond_f hb42 h
         refine rl 127 false hb42 ?_
         refine ro9 12 10 4 ⟨(2, zB false) :: (136, zB false) :: (135, .tup []) :: (134, .tup []) :: (133, .tup []) :: (132, zB false) :: (131, zB false) :: (130, .tup []) :: (129, .tup []) :: (128, .tup []) :: (127, zB false) :: (126, zB v40) :: (125, zB v40) :: (124, zI a0.fAcct) :: (123, .ptr 1 0 1) :: (122, zB true) :: (121, zB ((a0.fKind == a0.fKind) && ((a0.fAcct == y30) && ((a0.fOther == y31) && ((a0.fTo == y32) && ((a0.fAmt == y33) && ((a0.fM.fKind == y34) && ((a0.fM.fAcct == y35) && ((a0.fM.fAmt == y36) && ((a0.fM.fSrc == y37) && true)))))))))) :: (120, zB ((a0.fKind == a0.fKind) && ((a0.fAcct == y30) && ((a0.fOther == y31) && ((a0.fTo == y32) && ((a0.fAmt == y33) && ((a0.fM.fKind == y34) && ((a0.fM.fAcct == y35) && ((a0.fM.fAmt == y36) && ((a0.fM.fSrc == y37) && true)))))))))) :: (119, .agg [zI a0.fKind, zI y30, zI y31, zI y32, zI y33, zI y34, zI y35, zI y36, zI y37]) :: (118, encRec a0) :: (117, zB true) :: (116, zB y29) :: T24, B24⟩ ?_
         refine runs_ret ?_
         exact fin _ _ h (by kernel_rfl)
     · replace h := cond_f hb39 h
       refine rl 122 false hb39 ?_
       refine ro9 7 15 6 ⟨(2, zB false) :: (136, zB false) :: (135, .tup []) :: (134, .tup []) :: (133, .tup []) :: (132, zB false) :: (131, zB false) :: (130, .tup []) :: (129, .tup []) :: (128, .tup []) :: (127, zB false) :: (126, zB false) :: (125, .tup []) :: (124, .tup []) :: (123, .tup []) :: (122, zB false) :: (121, zB ((a0.fKind == a0.fKind) && ((a0.fAcct == y30) && ((a0.fOther == y31) && ((a0.fTo == y32) && ((a0.fAmt == y33) && ((a0.fM.fKind == y34) && ((a0.fM.fAcct == y35) && ((a0.fM.fAmt == y36) && ((a0.fM.fSrc == y37) && true)))))))))) :: (120, zB ((a0.fKind == a0.fKind) && ((a0.fAcct == y30) && ((a0.fOther == y31) && ((a0.fTo == y32) && ((a0.fAmt == y33) && ((a0.fM.fKind == y34) && ((a0.fM.fAcct == y35) && ((a0.fM.fAmt == y36) && ((a0.fM.fSrc == y37) && true)))))))))) :: (119, .agg [zI a0.fKind, zI y30, zI y31, zI y32, zI y33, zI y34, zI y35, zI y36, zI y37]) :: (118, encRec a0) :: (117, zB true) :: (116, zB y29) :: T24, B24⟩ ?_
       refine runs_ret ?_
       exact fin _ _ h (by kernel_rfl)
   · replace h := cond_f hb38 h
     refine rl 117 false hb38 ?_
     refine ro9 2 20 8 ⟨(2, zB false) :: (136, zB false) :: (135, .tup []) :: (134, .tup []) :: (133, .tup []) :: (132, zB false) :: (131, zB false) :: (130, .tup []) :: (129, .tup []) :: (128, .tup []) :: (127, zB false) :: (126, zB false) :: (125, .tup []) :: (124, .tup []) :: (123, .tup []) :: (122, zB false) :: (121, zB false) :: (120, .tup []) :: (119, .tup []) :: (118, .tup []) :: (117, zB false) :: (116, zB y29) :: T24, B24⟩ ?_
     refine runs_ret ?_
     exact fin _ _ h (by kernel_rfl)
 · skip
   refine sqr cv hn ?_
   refine ro9 0 2 2 ⟨(9, zI a0.fKind) :: (8, .ptr 1 0 0) :: (4, zB true) :: T3, B3⟩ ?_
   refine runs_block ?_
   refine runs_seqJ (σ := Bool) (fun s => ⟨[(1, .ptr 1 0 0), (3, .ptr 3 0 0), (4, zB true), (9, zI a0.fKind), (10, zB s)], [(1, ⟨0, 0, true, some (encRec a0)⟩), (3, ⟨0, 0, true, some (.agg [zI a0.fKind, zI 0, zI 0, zI 0, zI 0, zI 0, zI 0, zI 0, zI 0])⟩)]⟩) (fun s => impl_RecOk_j2 a0 s = some v0) ?_ ?_
   · rintro y49 h
     rw [impl_RecOk_j2] at h
     let T25 : List (Nat × X) := [(1, .ptr 1 0 0), (3, .ptr 3 0 0), (4, zB true), (9, zI a0.fKind), (10, zB y49)]
     let B25 : List (Nat × Bx) := [(1, ⟨0, 0, true, some (encRec a0)⟩), (3, ⟨0, 0, true, some (.agg [zI a0.fKind, zI 0, zI 0, zI 0, zI 0, zI 0, zI 0, zI 0, zI 0])⟩)]
     refine seq0 ⟨T25, B25⟩ ?_
     rcases dich y49 with hb50 | hb50
     · replace h := cond_t hb50 h
       refine ct hb50 ?_
       refine runs_seq ?_
       refine rgT cv mixed hn ?_
       refine roT9 0 8 8 ⟨(18, .ptr 3 0 4) :: (17, .ptr 3 0 1) :: (16, zI a0.fAmt) :: (15, .ptr 1 0 4) :: (14, zI a0.fAcct) :: (13, .ptr 1 0 1) :: T25, (3, ⟨0, 0, true, some (.agg [zI a0.fKind, zI a0.fAcct, zI 0, zI 0, zI a0.fAmt, zI 0, zI 0, zI 0, zI 0])⟩) :: (3, ⟨0, 0, true, some (.agg [zI a0.fKind, zI a0.fAcct, zI 0, zI 0, zI 0, zI 0, zI 0, zI 0, zI 0])⟩) :: B25⟩ ?_
       let T26 : List (Nat × X) := [(1, .ptr 1 0 0), (3, .ptr 3 0 0), (4, zB true)]
       let B26 : List (Nat × Bx) := [(1, ⟨0, 0, true, some (encRec a0)⟩), (3, ⟨0, 0, true, some (.agg [zI a0.fKind, zI a0.fAcct, zI 0, zI 0, zI a0.fAmt, zI 0, zI 0, zI 0, zI 0])⟩)]
       refine wkr [1, 3, 4] [(1, 1, false), (3, 3, false)] ⟨T26, B26⟩ ?_
       refine rg cv hn ?_
       refine ro 0 2 2 ⟨(20, zI a0.fAmt) :: (19, .ptr 1 0 4) :: T26, B26⟩ ?_
       obtain ⟨v51, hv52, h⟩ := bindO h
       refine rc 2 ⟨(21, zB v51) :: (20, zI a0.fAmt) :: (19, .ptr 1 0 4) :: T26, B26⟩ (impl_IsAmt_spec a0.fAmt v51 hv52) ?_
       refine ro9 3 1 1 ⟨(4, zB v51) :: (21, zB v51) :: (20, zI a0.fAmt) :: (19, .ptr 1 0 4) :: T26, B26⟩ ?_
       exact ⟨(v51, a0.fAcct, 0, 0, a0.fAmt, 0, 0, 0, 0), h, wre [1, 3, 4] [(1, 1, false), (3, 3, false)]⟩
     · replace h := cond_f hb50 h
       refine cf hb50 ?_
       refine sqr cv hn ?_
       refine ro9 0 2 2 ⟨(22, zB (a0.fKind == 3)) :: (23, zB (a0.fKind == 3)) :: T25, B25⟩ ?_
       rcases dich (a0.fKind == 3) with hb53 | hb53
       · replace h := cond_t hb53 h
         refine ct hb53 ?_
         refine runs_seq ?_
         refine rgT cv mixed hn ?_
         refine roT9 0 12 12 ⟨(32, .ptr 3 0 4) :: (31, .ptr 3 0 3) :: (30, .ptr 3 0 1) :: (29, zI a0.fAmt) :: (28, .ptr 1 0 4) :: (27, zI a0.fTo) :: (26, .ptr 1 0 3) :: (25, zI a0.fAcct) :: (24, .ptr 1 0 1) :: (22, zB (a0.fKind == 3)) :: (23, zB (a0.fKind == 3)) :: T25, (3, ⟨0, 0, true, some (.agg [zI a0.fKind, zI a0.fAcct, zI 0, zI a0.fTo, zI a0.fAmt, zI 0, zI 0, zI 0, zI 0])⟩) :: (3, ⟨0, 0, true, some (.agg [zI a0.fKind, zI a0.fAcct, zI 0, zI a0.fTo, zI 0, zI 0, zI 0, zI 0, zI 0])⟩) :: (3, ⟨0, 0, true, some (.agg [zI a0.fKind, zI a0.fAcct, zI 0, zI 0, zI 0, zI 0, zI 0, zI 0, zI 0])⟩) :: B25⟩ ?_
         let T27 : List (Nat × X) := [(1, .ptr 1 0 0), (3, .ptr 3 0 0), (4, zB true)]
         let B27 : List (Nat × Bx) := [(1, ⟨0, 0, true, some (encRec a0)⟩), (3, ⟨0, 0, true, some (.agg [zI a0.fKind, zI a0.fAcct, zI 0, zI a0.fTo, zI a0.fAmt, zI 0, zI 0, zI 0, zI 0])⟩)]
         refine wkr [1, 3, 4] [(1, 1, false), (3, 3, false)] ⟨T27, B27⟩ ?_
         refine rg cv hn ?_
         refine ro 0 2 2 ⟨(34, zI a0.fAmt) :: (33, .ptr 1 0 4) :: T27, B27⟩ ?_
         obtain ⟨v54, hv55, h⟩ := bindO h
         refine rc 2 ⟨(35, zB v54) :: (34, zI a0.fAmt) :: (33, .ptr 1 0 4) :: T27, B27⟩ (impl_IsAmt_spec a0.fAmt v54 hv55) ?_
         refine ro9 3 1 1 ⟨(4, zB v54) :: (35, zB v54) :: (34, zI a0.fAmt) :: (33, .ptr 1 0 4) :: T27, B27⟩ ?_
         exact ⟨(v54, a0.fAcct, 0, a0.fTo, a0.fAmt, 0, 0, 0, 0), h, wre [1, 3, 4] [(1, 1, false), (3, 3, false)]⟩
       · replace h := cond_f hb53 h
         refine cf hb53 ?_
         refine sqr cv hn ?_
         refine ro9 0 2 2 ⟨(36, zB (a0.fKind == 4)) :: (37, zB (a0.fKind == 4)) :: (22, zB (a0.fKind == 3)) :: (23, zB (a0.fKind == 3)) :: T25, B25⟩ ?_
         rcases dich (a0.fKind == 4) with hb56 | hb56
         · replace h := cond_t hb56 h
           refine ct hb56 ?_
           refine runs_seq ?_
           let T29 : List (Nat × X) := [(1, .ptr 1 0 0), (3, .ptr 3 0 0), (4, zB true)]
           let B29 : List (Nat × Bx) := [(1, ⟨0, 0, true, some (encRec a0)⟩), (3, ⟨0, 0, true, some (.agg [zI a0.fKind, zI 0, zI 0, zI 0, zI 0, zI 0, zI 0, zI 0, zI 0])⟩)]
           refine wkr [1, 3, 4] [(1, 1, false), (3, 3, false)] ⟨T29, B29⟩ ?_
           refine rgT cv mixed hn ?_
           refine roT9 0 16 16 ⟨(49, .ptr 3 0 4) :: (48, .ptr 3 0 3) :: (47, .ptr 3 0 2) :: (46, .ptr 3 0 1) :: (45, zI a0.fAmt) :: (44, .ptr 1 0 4) :: (43, zI a0.fTo) :: (42, .ptr 1 0 3) :: (41, zI a0.fOther) :: (40, .ptr 1 0 2) :: (39, zI a0.fAcct) :: (38, .ptr 1 0 1) :: T29, (3, ⟨0, 0, true, some (.agg [zI a0.fKind, zI a0.fAcct, zI a0.fOther, zI a0.fTo, zI a0.fAmt, zI 0, zI 0, zI 0, zI 0])⟩) :: (3, ⟨0, 0, true, some (.agg [zI a0.fKind, zI a0.fAcct, zI a0.fOther, zI a0.fTo, zI 0, zI 0, zI 0, zI 0, zI 0])⟩) :: (3, ⟨0, 0, true, some (.agg [zI a0.fKind, zI a0.fAcct, zI a0.fOther, zI 0, zI 0, zI 0, zI 0, zI 0, zI 0])⟩) :: (3, ⟨0, 0, true, some (.agg [zI a0.fKind, zI a0.fAcct, zI 0, zI 0, zI 0, zI 0, zI 0, zI 0, zI 0])⟩) :: B29⟩ ?_
           let T30 : List (Nat × X) := [(1, .ptr 1 0 0), (3, .ptr 3 0 0), (4, zB true)]
           let B30 : List (Nat × Bx) := [(1, ⟨0, 0, true, some (encRec a0)⟩), (3, ⟨0, 0, true, some (.agg [zI a0.fKind, zI a0.fAcct, zI a0.fOther, zI a0.fTo, zI a0.fAmt, zI 0, zI 0, zI 0, zI 0])⟩)]
           refine wkr [1, 3, 4] [(1, 1, false), (3, 3, false)] ⟨T30, B30⟩ ?_
           refine rg cv hn ?_
           refine ro 0 2 2 ⟨(51, zI a0.fAmt) :: (50, .ptr 1 0 4) :: T30, B30⟩ ?_
           obtain ⟨v57, hv58, h⟩ := bindO h
           refine rc 2 ⟨(52, zB v57) :: (51, zI a0.fAmt) :: (50, .ptr 1 0 4) :: T30, B30⟩ (impl_IsAmt_spec a0.fAmt v57 hv58) ?_
           refine ro9 3 1 1 ⟨(4, zB v57) :: (52, zB v57) :: (51, zI a0.fAmt) :: (50, .ptr 1 0 4) :: T30, B30⟩ ?_
           exact ⟨(v57, a0.fAcct, a0.fOther, a0.fTo, a0.fAmt, 0, 0, 0, 0), h, wre [1, 3, 4] [(1, 1, false), (3, 3, false)]⟩
         · replace h := cond_f hb56 h
           refine cf hb56 ?_
           let T32 : List (Nat × X) := [(1, .ptr 1 0 0), (3, .ptr 3 0 0), (4, zB true), (9, zI a0.fKind)]
           let B32 : List (Nat × Bx) := [(1, ⟨0, 0, true, some (encRec a0)⟩), (3, ⟨0, 0, true, some (.agg [zI a0.fKind, zI 0, zI 0, zI 0, zI 0, zI 0, zI 0, zI 0, zI 0])⟩)]
           refine wkr [1, 3, 4, 9] [(1, 1, false), (3, 3, false)] ⟨T32, B32⟩ ?_
           refine sqr cv hn ?_
           refine ro9 0 2 2 ⟨(53, zB (a0.fKind == 5)) :: (54, zB (a0.fKind == 5)) :: T32, B32⟩ ?_
           rcases dich (a0.fKind == 5) with hb59 | hb59
           · replace h := cond_t hb59 h
             refine ct hb59 ?_
             refine runs_seq ?_
             refine rgT cv mixed hn ?_
             refine roT9 0 12 12 ⟨(63, .ptr 3 0 5) :: (62, .ptr 3 0 4) :: (61, .ptr 3 0 3) :: (60, encMsg a0.fM) :: (59, .ptr 1 0 5) :: (58, zI a0.fAmt) :: (57, .ptr 1 0 4) :: (56, zI a0.fTo) :: (55, .ptr 1 0 3) :: (53, zB (a0.fKind == 5)) :: (54, zB (a0.fKind == 5)) :: T32, (3, ⟨0, 0, true, some (.agg [zI a0.fKind, zI 0, zI 0, zI a0.fTo, zI a0.fAmt, zI a0.fM.fKind, zI a0.fM.fAcct, zI a0.fM.fAmt, zI a0.fM.fSrc])⟩) :: (3, ⟨0, 0, true, some (.agg [zI a0.fKind, zI 0, zI 0, zI a0.fTo, zI a0.fAmt, zI 0, zI 0, zI 0, zI 0])⟩) :: (3, ⟨0, 0, true, some (.agg [zI a0.fKind, zI 0, zI 0, zI a0.fTo, zI 0, zI 0, zI 0, zI 0, zI 0])⟩) :: B32⟩ ?_
             let T33 : List (Nat × X) := [(1, .ptr 1 0 0), (3, .ptr 3 0 0), (4, zB true)]
             let B33 : List (Nat × Bx) := [(1, ⟨0, 0, true, some (encRec a0)⟩), (3, ⟨0, 0, true, some (.agg [zI a0.fKind, zI 0, zI 0, zI a0.fTo, zI a0.fAmt, zI a0.fM.fKind, zI a0.fM.fAcct, zI a0.fM.fAmt, zI a0.fM.fSrc])⟩)]
             refine wkr [1, 3, 4] [(1, 1, false), (3, 3, false)] ⟨T33, B33⟩ ?_
             refine rg cv hn ?_
             refine ro 0 2 2 ⟨(65, zI a0.fAmt) :: (64, .ptr 1 0 4) :: T33, B33⟩ ?_
             obtain ⟨v60, hv61, h⟩ := bindO h
             refine rc 2 ⟨(66, zB v60) :: (65, zI a0.fAmt) :: (64, .ptr 1 0 4) :: T33, B33⟩ (impl_isBallot_spec a0.fAmt v60 hv61) ?_
             refine ro 3 1 1 ⟨(67, zB v60) :: (66, zB v60) :: (65, zI a0.fAmt) :: (64, .ptr 1 0 4) :: T33, B33⟩ ?_
             rcases dich v60 with hb62 | hb62
             · replace h := cond_t hb62 h
               refine rl 67 true hb62 ?_
               refine ro 4 2 2 ⟨(69, encMsg a0.fM) :: (68, .ptr 1 0 5) :: (67, zB true) :: (66, zB v60) :: (65, zI a0.fAmt) :: (64, .ptr 1 0 4) :: T33, B33⟩ ?_
               obtain ⟨v63, hv64, h⟩ := bindO h
               refine rc 6 ⟨(70, zB v63) :: (69, encMsg a0.fM) :: (68, .ptr 1 0 5) :: (67, zB true) :: (66, zB v60) :: (65, zI a0.fAmt) :: (64, .ptr 1 0 4) :: T33, B33⟩ (impl_MsgOk_spec a0.fM v63 hv64) ?_
               refine ro9 7 2 2 ⟨(4, zB v63) :: (71, zB v63) :: (70, zB v63) :: (69, encMsg a0.fM) :: (68, .ptr 1 0 5) :: (67, zB true) :: (66, zB v60) :: (65, zI a0.fAmt) :: (64, .ptr 1 0 4) :: T33, B33⟩ ?_
               exact ⟨(v63, 0, 0, a0.fTo, a0.fAmt, a0.fM.fKind, a0.fM.fAcct, a0.fM.fAmt, a0.fM.fSrc), h, wre [1, 3, 4] [(1, 1, false), (3, 3, false)]⟩
             · replace h := cond_f hb62 h
               refine rl 67 false hb62 ?_
               refine ro9 4 5 2 ⟨(4, zB false) :: (71, zB false) :: (70, .tup []) :: (69, .tup []) :: (68, .tup []) :: (67, zB false) :: (66, zB v60) :: (65, zI a0.fAmt) :: (64, .ptr 1 0 4) :: T33, B33⟩ ?_
               exact ⟨(false, 0, 0, a0.fTo, a0.fAmt, a0.fM.fKind, a0.fM.fAcct, a0.fM.fAmt, a0.fM.fSrc), h, wre [1, 3, 4] [(1, 1, false), (3, 3, false)]⟩
           · replace h := cond_f hb59 h
             refine cf hb59 ?_
             refine sqr cv hn ?_
             refine ro9 0 2 2 ⟨(72, zB (a0.fKind == 6)) :: (73, zB (a0.fKind == 6)) :: (53, zB (a0.fKind == 5)) :: (54, zB (a0.fKind == 5)) :: T32, B32⟩ ?_
             rcases dich (a0.fKind == 6) with hb65 | hb65
             · replace h := cond_t hb65 h
               refine ct hb65 ?_
               refine runs_seq ?_
               let T35 : List (Nat × X) := [(1, .ptr 1 0 0), (3, .ptr 3 0 0), (4, zB true)]
               let B35 : List (Nat × Bx) := [(1, ⟨0, 0, true, some (encRec a0)⟩), (3, ⟨0, 0, true, some (.agg [zI a0.fKind, zI 0, zI 0, zI 0, zI 0, zI 0, zI 0, zI 0, zI 0])⟩)]
               refine wkr [1, 3, 4] [(1, 1, false), (3, 3, false)] ⟨T35, B35⟩ ?_
               refine rgT cv mixed hn ?_
               refine roT9 0 8 8 ⟨(79, .ptr 3 0 4) :: (78, .ptr 3 0 3) :: (77, zI a0.fAmt) :: (76, .ptr 1 0 4) :: (75, zI a0.fTo) :: (74, .ptr 1 0 3) :: T35, (3, ⟨0, 0, true, some (.agg [zI a0.fKind, zI 0, zI 0, zI a0.fTo, zI a0.fAmt, zI 0, zI 0, zI 0, zI 0])⟩) :: (3, ⟨0, 0, true, some (.agg [zI a0.fKind, zI 0, zI 0, zI a0.fTo, zI 0, zI 0, zI 0, zI 0, zI 0])⟩) :: B35⟩ ?_
               let T36 : List (Nat × X) := [(1, .ptr 1 0 0), (3, .ptr 3 0 0), (4, zB true)]
               let B36 : List (Nat × Bx) := [(1, ⟨0, 0, true, some (encRec a0)⟩), (3, ⟨0, 0, true, some (.agg [zI a0.fKind, zI 0, zI 0, zI a0.fTo, zI a0.fAmt, zI 0, zI 0, zI 0, zI 0])⟩)]
               refine wkr [1, 3, 4] [(1, 1, false), (3, 3, false)] ⟨T36, B36⟩ ?_
               refine rg cv hn ?_
               refine ro 0 2 2 ⟨(81, zI a0.fAmt) :: (80, .ptr 1 0 4) :: T36, B36⟩ ?_
               obtain ⟨v66, hv67, h⟩ := bindO h
               refine rc 2 ⟨(82, zB v66) :: (81, zI a0.fAmt) :: (80, .ptr 1 0 4) :: T36, B36⟩ (impl_isNum_spec a0.fAmt v66 hv67) ?_
               refine ro9 3 1 1 ⟨(4, zB v66) :: (82, zB v66) :: (81, zI a0.fAmt) :: (80, .ptr 1 0 4) :: T36, B36⟩ ?_
               exact ⟨(v66, 0, 0, a0.fTo, a0.fAmt, 0, 0, 0, 0), h, wre [1, 3, 4] [(1, 1, false), (3, 3, false)]⟩
             · replace h := cond_f hb65 h
               refine cf hb65 ?_
               refine sqr cv hn ?_
               refine ro9 0 2 2 ⟨(83, zB (a0.fKind == 7)) :: (84, zB (a0.fKind == 7)) :: (72, zB (a0.fKind == 6)) :: (73, zB (a0.fKind == 6)) :: (53, zB (a0.fKind == 5)) :: (54, zB (a0.fKind == 5)) :: T32, B32⟩ ?_
               rcases dich (a0.fKind == 7) with hb68 | hb68
               · replace h := cond_t hb68 h
                 refine ct hb68 ?_
                 refine runs_seq ?_
                 let T38 : List (Nat × X) := [(1, .ptr 1 0 0), (3, .ptr 3 0 0), (4, zB true)]
                 let B38 : List (Nat × Bx) := [(1, ⟨0, 0, true, some (encRec a0)⟩), (3, ⟨0, 0, true, some (.agg [zI a0.fKind, zI 0, zI 0, zI 0, zI 0, zI 0, zI 0, zI 0, zI 0])⟩)]
                 refine wkr [1, 3, 4] [(1, 1, false), (3, 3, false)] ⟨T38, B38⟩ ?_
                 refine rgT cv mixed hn ?_
                 refine roT9 0 8 8 ⟨(90, .ptr 3 0 4) :: (89, .ptr 3 0 1) :: (88, zI a0.fAmt) :: (87, .ptr 1 0 4) :: (86, zI a0.fAcct) :: (85, .ptr 1 0 1) :: T38, (3, ⟨0, 0, true, some (.agg [zI a0.fKind, zI a0.fAcct, zI 0, zI 0, zI a0.fAmt, zI 0, zI 0, zI 0, zI 0])⟩) :: (3, ⟨0, 0, true, some (.agg [zI a0.fKind, zI a0.fAcct, zI 0, zI 0, zI 0, zI 0, zI 0, zI 0, zI 0])⟩) :: B38⟩ ?_
                 let T39 : List (Nat × X) := [(1, .ptr 1 0 0), (3, .ptr 3 0 0), (4, zB true)]
                 let B39 : List (Nat × Bx) := [(1, ⟨0, 0, true, some (encRec a0)⟩), (3, ⟨0, 0, true, some (.agg [zI a0.fKind, zI a0.fAcct, zI 0, zI 0, zI a0.fAmt, zI 0, zI 0, zI 0, zI 0])⟩)]
                 refine wkr [1, 3, 4] [(1, 1, false), (3, 3, false)] ⟨T39, B39⟩ ?_
                 refine rg cv hn ?_
                 refine ro 0 2 2 ⟨(92, zI a0.fAmt) :: (91, .ptr 1 0 4) :: T39, B39⟩ ?_
                 obtain ⟨v69, hv70, h⟩ := bindO h
                 refine rc 2 ⟨(93, zB v69) :: (92, zI a0.fAmt) :: (91, .ptr 1 0 4) :: T39, B39⟩ (impl_isBallot_spec a0.fAmt v69 hv70) ?_
                 refine ro9 3 1 1 ⟨(4, zB v69) :: (93, zB v69) :: (92, zI a0.fAmt) :: (91, .ptr 1 0 4) :: T39, B39⟩ ?_
                 exact ⟨(v69, a0.fAcct, 0, 0, a0.fAmt, 0, 0, 0, 0), h, wre [1, 3, 4] [(1, 1, false), (3, 3, false)]⟩
               · replace h := cond_f hb68 h
                 refine cf hb68 ?_
                 let T41 : List (Nat × X) := [(1, .ptr 1 0 0), (3, .ptr 3 0 0), (4, zB true), (9, zI a0.fKind)]
                 let B41 : List (Nat × Bx) := [(1, ⟨0, 0, true, some (encRec a0)⟩), (3, ⟨0, 0, true, some (.agg [zI a0.fKind, zI 0, zI 0, zI 0, zI 0, zI 0, zI 0, zI 0, zI 0])⟩)]
                 refine wkr [1, 3, 4, 9] [(1, 1, false), (3, 3, false)] ⟨T41, B41⟩ ?_
                 refine sqr cv hn ?_
                 refine ro9 0 2 2 ⟨(94, zB (a0.fKind == 8)) :: (95, zB (a0.fKind == 8)) :: T41, B41⟩ ?_
                 rcases dich (a0.fKind == 8) with hb71 | hb71
                 · replace h := cond_t hb71 h
                   refine ct hb71 ?_
                   refine runs_seq ?_
                   refine rgT cv mixed hn ?_
                   refine roT9 0 12 12 ⟨(104, .ptr 3 0 4) :: (103, .ptr 3 0 3) :: (102, .ptr 3 0 1) :: (101, zI a0.fAmt) :: (100, .ptr 1 0 4) :: (99, zI a0.fTo) :: (98, .ptr 1 0 3) :: (97, zI a0.fAcct) :: (96, .ptr 1 0 1) :: (94, zB (a0.fKind == 8)) :: (95, zB (a0.fKind == 8)) :: T41, (3, ⟨0, 0, true, some (.agg [zI a0.fKind, zI a0.fAcct, zI 0, zI a0.fTo, zI a0.fAmt, zI 0, zI 0, zI 0, zI 0])⟩) :: (3, ⟨0, 0, true, some (.agg [zI a0.fKind, zI a0.fAcct, zI 0, zI a0.fTo, zI 0, zI 0, zI 0, zI 0, zI 0])⟩) :: (3, ⟨0, 0, true, some (.agg [zI a0.fKind, zI a0.fAcct, zI 0, zI 0, zI 0, zI 0, zI 0, zI 0, zI 0])⟩) :: B41⟩ ?_
                   let T42 : List (Nat × X) := [(1, .ptr 1 0 0), (3, .ptr 3 0 0), (4, zB true)]
                   let B42 : List (Nat × Bx) := [(1, ⟨0, 0, true, some (encRec a0)⟩), (3, ⟨0, 0, true, some (.agg [zI a0.fKind, zI a0.fAcct, zI 0, zI a0.fTo, zI a0.fAmt, zI 0, zI 0, zI 0, zI 0])⟩)]
                   refine wkr [1, 3, 4] [(1, 1, false), (3, 3, false)] ⟨T42, B42⟩ ?_
                   refine rg cv hn ?_
                   refine ro 0 2 2 ⟨(106, zI a0.fAmt) :: (105, .ptr 1 0 4) :: T42, B42⟩ ?_
                   obtain ⟨v72, hv73, h⟩ := bindO h
                   refine rc 2 ⟨(107, zB v72) :: (106, zI a0.fAmt) :: (105, .ptr 1 0 4) :: T42, B42⟩ (impl_isBallot_spec a0.fAmt v72 hv73) ?_
                   refine ro9 3 1 1 ⟨(4, zB v72) :: (107, zB v72) :: (106, zI a0.fAmt) :: (105, .ptr 1 0 4) :: T42, B42⟩ ?_
                   exact ⟨(v72, a0.fAcct, 0, a0.fTo, a0.fAmt, 0, 0, 0, 0), h, wre [1, 3, 4] [(1, 1, false), (3, 3, false)]⟩
                 · replace h := cond_f hb71 h
                   refine cf hb71 ?_
                   refine sqr cv hn ?_
                   refine ro9 0 2 2 ⟨(108, zB (a0.fKind == 9)) :: (109, zB (a0.fKind == 9)) :: (94, zB (a0.fKind == 8)) :: (95, zB (a0.fKind == 8)) :: T41, B41⟩ ?_
                   rcases dich (a0.fKind == 9) with hb74 | hb74
                   · replace h := cond_t hb74 h
                     refine ct hb74 ?_
                     let T43 : List (Nat × X) := [(1, .ptr 1 0 0), (3, .ptr 3 0 0), (4, zB true)]
                     let B43 : List (Nat × Bx) := [(1, ⟨0, 0, true, some (encRec a0)⟩), (3, ⟨0, 0, true, some (.agg [zI a0.fKind, zI 0, zI 0, zI 0, zI 0, zI 0, zI 0, zI 0, zI 0])⟩)]
                     refine wkr [1, 3, 4] [(1, 1, false), (3, 3, false)] ⟨T43, B43⟩ ?_
                     refine rgT cv mixed hn ?_
                     refine roT9 0 8 8 ⟨(115, .ptr 3 0 3) :: (114, .ptr 3 0 1) :: (113, zI a0.fTo) :: (112, .ptr 1 0 3) :: (111, zI a0.fAcct) :: (110, .ptr 1 0 1) :: T43, (3, ⟨0, 0, true, some (.agg [zI a0.fKind, zI a0.fAcct, zI 0, zI a0.fTo, zI 0, zI 0, zI 0, zI 0, zI 0])⟩) :: (3, ⟨0, 0, true, some (.agg [zI a0.fKind, zI a0.fAcct, zI 0, zI 0, zI 0, zI 0, zI 0, zI 0, zI 0])⟩) :: B43⟩ ?_
                     exact ⟨(true, a0.fAcct, 0, a0.fTo, 0, 0, 0, 0, 0), h, wre [1, 3, 4] [(1, 1, false), (3, 3, false)]⟩
                   · replace h := cond_f hb74 h
                     refine cf hb74 ?_
                     let T44 : List (Nat × X) := [(1, .ptr 1 0 0), (3, .ptr 3 0 0), (4, zB true)]
                     let B44 : List (Nat × Bx) := [(1, ⟨0, 0, true, some (encRec a0)⟩), (3, ⟨0, 0, true, some (.agg [zI a0.fKind, zI 0, zI 0, zI 0, zI 0, zI 0, zI 0, zI 0, zI 0])⟩)]
                     refine wkr [1, 3, 4] [(1, 1, false), (3, 3, false)] ⟨T44, B44⟩ ?_
                     refine sqr cv hn ?_
                     refine ro9 0 1 1 ⟨(2, zB false) :: T44, B44⟩ ?_
                     refine runs_ret ?_
                     exact fin _ _ h (by kernel_rfl)
   · skip
     refine sqr cv hn ?_
     refine ro9 0 2 2 ⟨(10, zB (a0.fKind == 1)) :: (11, zB (a0.fKind == 1)) :: (9, zI a0.fKind) :: (8, .ptr 1 0 0) :: (4, zB true) :: T3, B3⟩ ?_
     rcases dich (a0.fKind == 1) with hb75 | hb75
     · replace h := cond_t hb75 h
       refine ct hb75 ?_
       refine runs_skip ?_
       exact ⟨(a0.fKind == 1), h, wre [1, 3, 4, 9, 10] [(1, 1, false), (3, 3, false)]⟩
     · replace h := cond_f hb75 h
       refine cf hb75 ?_
       refine rg cv hn ?_
       refine ro9 0 2 2 ⟨(10, zB (a0.fKind == 2)) :: (12, zB (a0.fKind == 2)) :: (10, zB (a0.fKind == 1)) :: (11, zB (a0.fKind == 1)) :: (9, zI a0.fKind) :: (8, .ptr 1 0 0) :: (4, zB true) :: T3, B3⟩ ?_
       exact ⟨(a0.fKind == 2), h, wre [1, 3, 4, 9, 10] [(1, 1, false), (3, 3, false)]⟩

set_option maxRecDepth 100000 in
set_option maxHeartbeats 2000000 in
theorem impl_addNum_spec (a0 : (List Int)) (a1 : Int) (v0 : (List Int)) (h : impl_addNum a0 a1 = some v0) : Ax.Spec Try.prog 97 (some 0) [.sl 1 (List.map encU8 a0), zI a1] (.sl 1 (List.map encU8 v0) : X) (.junk : X) := by
 let T1 : List (Nat × X) := [(0, .view 9000 1 [] 0), (1, zI a1)]
 let B1 : List (Nat × Bx) := [(9000, ⟨1, 1, false, some (.sl 2 (List.map encU8 a0))⟩)]
 refine walk0 (fn := Try.f97) (fun q0 : (List Int) => (.sl 1 (List.map encU8 q0) : X)) (fun q0 : (List Int) => (.junk : X)) v0 ⟨T1, B1⟩ Try.func97 rfl (by decide +kernel) fun Γ hn fin => ?_
 rw [impl_addNum] at h
 refine sqr cv hn ?_
 refine ro9 0 1 1 ⟨(4, .sc (.slice none 0 0)) :: T1, B1⟩ ?_
 refine runs_seq ?_
 refine runs_block ?_
 refine runs_loopM (σ := Nat × Int × (List Int)) (fun s => ⟨[(0, .view 5000000 0 [] 0), (1, zI s.2.1)], [(5000000, ⟨0, 0, false, some (.sl 1 (List.map encU8 s.2.2))⟩)]⟩) (fun s => impl_addNum_l1 s.1 s.2.1 s.2.2 = some v0) (fun s => s.1) (fuel, a1, a0) h (wre [0, 1] [(5000000, 9000, true)]) ?_
 rintro ⟨n1, y21, y22⟩ h
 let T3 : List (Nat × X) := [(0, .view 5000000 0 [] 0), (1, zI y21)]
 let B3 : List (Nat × Bx) := [(5000000, ⟨0, 0, false, some (.sl 1 (List.map encU8 y22))⟩)]
 refine seq0 ⟨T3, B3⟩ ?_
 cases n1 with
 | zero => rw [impl_addNum_l1] at h; cases h
 | succ n1 =>
   rw [impl_addNum_l1] at h
   refine runs_seq ?_
   refine sqr cv hn ?_
   refine ro9 0 2 2 ⟨(6, zB (decide (y21 > 127))) :: (5, zI y21) :: T3, B3⟩ ?_
   rcases dich (decide (y21 > 127)) with hb29 | hb29
   · replace h := cond_t hb29 h
     refine ct hb29 ?_
     refine runs_skip ?_
     refine runs_block ?_
     refine sqr cv hn ?_
     refine ro 0 5 5 ⟨(11, .sc (.int .u8 (wk .u8 (w64 ((Int.tmod y21 128) + 128))))) :: (10, zI (w64 ((Int.tmod y21 128) + 128))) :: (9, zI (Int.tmod y21 128)) :: (8, zI y21) :: (7, .view 5000000 0 [] 0) :: (6, zB (decide (y21 > 127))) :: (5, zI y21) :: T3, B3⟩ ?_
     refine rs 5 ⟨(12, .view 12 1 [] 0) :: (11, .sc (.int .u8 (wk .u8 (w64 ((Int.tmod y21 128) + 128))))) :: (10, zI (w64 ((Int.tmod y21 128) + 128))) :: (9, zI (Int.tmod y21 128)) :: (8, zI y21) :: (7, .view 5000000 0 [] 0) :: (6, zB (decide (y21 > 127))) :: (5, zI y21) :: T3, (12, ⟨1, 1, false, some (.sl 1 (List.map encU8 [wk .u8 (w64 ((Int.tmod y21 128) + 128))]))⟩) :: B3⟩ [∀ y ∈ (List.map encU8 [wk .u8 (w64 ((Int.tmod y21 128) + 128))] : List X), (X.cells y).length = tSize Try.prog 5] ⟨fmap fun _ => by kernel_rfl, trivial⟩ ?_
     obtain ⟨hg30, h⟩ := gO_some h
     refine rs 6 ⟨(13, .view 13 1 [] 0) :: (12, .view 12 1 [] 0) :: (11, .sc (.int .u8 (wk .u8 (w64 ((Int.tmod y21 128) + 128))))) :: (10, zI (w64 ((Int.tmod y21 128) + 128))) :: (9, zI (Int.tmod y21 128)) :: (8, zI y21) :: (7, .view 5000000 0 [] 0) :: (6, zB (decide (y21 > 127))) :: (5, zI y21) :: T3, (13, ⟨1, 1, false, some (.sl 1 (List.map encU8 (y22 ++ [wk .u8 (w64 ((Int.tmod y21 128) + 128))])))⟩) :: (5000000, ⟨0, 1, false, some (.junk)⟩) :: (12, ⟨1, 1, false, some (.sl 1 (List.map encU8 [wk .u8 (w64 ((Int.tmod y21 128) + 128))]))⟩) :: B3⟩ [((List.map encU8 y22 : List X).length + (List.map encU8 [wk .u8 (w64 ((Int.tmod y21 128) + 128))] : List X).length) * tBytes Try.prog 5 ≤ 140737488355328 ∧ (List.map encU8 y22 : List X).length + (List.map encU8 [wk .u8 (w64 ((Int.tmod y21 128) + 128))] : List X).length ≤ 140737488355328 ∧ (∀ y ∈ (List.map encU8 y22 : List X), (X.cells y).length = tSize Try.prog 5) ∧ ∀ y ∈ (List.map encU8 [wk .u8 (w64 ((Int.tmod y21 128) + 128))] : List X), (X.cells y).length = tSize Try.prog 5] ⟨⟨(app_side (b := 1) (b2 := tBytes Try.prog 5) (f := encU8) (A := y22) (B := [wk .u8 (w64 ((Int.tmod y21 128) + 128))]) (by kernel_rfl) hg30).1, (app_side (b := 1) (b2 := 1) (f := encU8) (A := y22) (B := [wk .u8 (w64 ((Int.tmod y21 128) + 128))]) rfl hg30).2, fmap fun _ => by kernel_rfl, fmap fun _ => by kernel_rfl⟩, trivial⟩ ?_ (he := by rw [show List.map encU8 (y22 ++ [wk .u8 (w64 ((Int.tmod y21 128) + 128))]) = List.map encU8 y22 ++ List.map encU8 [wk .u8 (w64 ((Int.tmod y21 128) + 128))] from List.map_append]; kernel_rfl)
     refine ro9 7 1 1 ⟨(0, .view 13 1 [] 0) :: (13, .view 13 1 [] 0) :: (12, .view 12 1 [] 0) :: (11, .sc (.int .u8 (wk .u8 (w64 ((Int.tmod y21 128) + 128))))) :: (10, zI (w64 ((Int.tmod y21 128) + 128))) :: (9, zI (Int.tmod y21 128)) :: (8, zI y21) :: (7, .view 5000000 0 [] 0) :: (6, zB (decide (y21 > 127))) :: (5, zI y21) :: T3, (13, ⟨1, 1, false, some (.sl 1 (List.map encU8 (y22 ++ [wk .u8 (w64 ((Int.tmod y21 128) + 128))])))⟩) :: (5000000, ⟨0, 1, false, some (.junk)⟩) :: (12, ⟨1, 1, false, some (.sl 1 (List.map encU8 [wk .u8 (w64 ((Int.tmod y21 128) + 128))]))⟩) :: B3⟩ ?_
     refine rg cv hn ?_
     refine ro9 0 3 3 ⟨(1, zI (w64 (Int.tdiv y21 128))) :: (15, zI (w64 (Int.tdiv y21 128))) :: (14, zI y21) :: (0, .view 13 1 [] 0) :: (13, .view 13 1 [] 0) :: (12, .view 12 1 [] 0) :: (11, .sc (.int .u8 (wk .u8 (w64 ((Int.tmod y21 128) + 128))))) :: (10, zI (w64 ((Int.tmod y21 128) + 128))) :: (9, zI (Int.tmod y21 128)) :: (8, zI y21) :: (7, .view 5000000 0 [] 0) :: (6, zB (decide (y21 > 127))) :: (5, zI y21) :: T3, (13, ⟨1, 1, false, some (.sl 1 (List.map encU8 (y22 ++ [wk .u8 (w64 ((Int.tmod y21 128) + 128))])))⟩) :: (5000000, ⟨0, 1, false, some (.junk)⟩) :: (12, ⟨1, 1, false, some (.sl 1 (List.map encU8 [wk .u8 (w64 ((Int.tmod y21 128) + 128))]))⟩) :: B3⟩ ?_
     exact ⟨(n1, w64 (Int.tdiv y21 128), y22 ++ [wk .u8 (w64 ((Int.tmod y21 128) + 128))]), Nat.lt_succ_self _, h, wre [0, 1] [(5000000, 13, false)]⟩
   · replace h := cond_f hb29 h
     refine cf hb29 ?_
     refine runs_exit ?_
     repeat refine thenX_exit ?_
     refine block_here ?_
     refine sqr cv hn ?_
     refine ro 0 3 3 ⟨(18, .sc (.int .u8 (wk .u8 y21))) :: (17, zI y21) :: (16, .view 5000000 0 [] 0) :: (6, zB (decide (y21 > 127))) :: (5, zI y21) :: T3, B3⟩ ?_
     refine rs 3 ⟨(19, .view 19 1 [] 0) :: (18, .sc (.int .u8 (wk .u8 y21))) :: (17, zI y21) :: (16, .view 5000000 0 [] 0) :: (6, zB (decide (y21 > 127))) :: (5, zI y21) :: T3, (19, ⟨1, 1, false, some (.sl 1 (List.map encU8 [wk .u8 y21]))⟩) :: B3⟩ [∀ y ∈ (List.map encU8 [wk .u8 y21] : List X), (X.cells y).length = tSize Try.prog 5] ⟨fmap fun _ => by kernel_rfl, trivial⟩ ?_
     obtain ⟨hg31, h⟩ := gO_some h
     refine rs 4 ⟨(20, .view 20 1 [] 0) :: (19, .view 19 1 [] 0) :: (18, .sc (.int .u8 (wk .u8 y21))) :: (17, zI y21) :: (16, .view 5000000 0 [] 0) :: (6, zB (decide (y21 > 127))) :: (5, zI y21) :: T3, (20, ⟨1, 1, false, some (.sl 1 (List.map encU8 (y22 ++ [wk .u8 y21])))⟩) :: (5000000, ⟨0, 1, false, some (.junk)⟩) :: (19, ⟨1, 1, false, some (.sl 1 (List.map encU8 [wk .u8 y21]))⟩) :: B3⟩ [((List.map encU8 y22 : List X).length + (List.map encU8 [wk .u8 y21] : List X).length) * tBytes Try.prog 5 ≤ 140737488355328 ∧ (List.map encU8 y22 : List X).length + (List.map encU8 [wk .u8 y21] : List X).length ≤ 140737488355328 ∧ (∀ y ∈ (List.map encU8 y22 : List X), (X.cells y).length = tSize Try.prog 5) ∧ ∀ y ∈ (List.map encU8 [wk .u8 y21] : List X), (X.cells y).length = tSize Try.prog 5] ⟨⟨(app_side (b := 1) (b2 := tBytes Try.prog 5) (f := encU8) (A := y22) (B := [wk .u8 y21]) (by kernel_rfl) hg31).1, (app_side (b := 1) (b2 := 1) (f := encU8) (A := y22) (B := [wk .u8 y21]) rfl hg31).2, fmap fun _ => by kernel_rfl, fmap fun _ => by kernel_rfl⟩, trivial⟩ ?_ (he := by rw [show List.map encU8 (y22 ++ [wk .u8 y21]) = List.map encU8 y22 ++ List.map encU8 [wk .u8 y21] from List.map_append]; kernel_rfl)
     refine ro9 5 1 1 ⟨(4, .view 20 1 [] 0) :: (20, .view 20 1 [] 0) :: (19, .view 19 1 [] 0) :: (18, .sc (.int .u8 (wk .u8 y21))) :: (17, zI y21) :: (16, .view 5000000 0 [] 0) :: (6, zB (decide (y21 > 127))) :: (5, zI y21) :: T3, (20, ⟨1, 1, false, some (.sl 1 (List.map encU8 (y22 ++ [wk .u8 y21])))⟩) :: (5000000, ⟨0, 1, false, some (.junk)⟩) :: (19, ⟨1, 1, false, some (.sl 1 (List.map encU8 [wk .u8 y21]))⟩) :: B3⟩ ?_
     refine runs_ret ?_
     exact fin _ _ h (by kernel_rfl)

set_option maxRecDepth 100000 in
set_option maxHeartbeats 2000000 in
theorem impl_addMsg_spec (a0 : (List Int)) (a1 : SMsg) (v0 : (List Int)) (h : impl_addMsg a0 a1 = some v0) : Ax.Spec Try.prog 98 (some 0) [.sl 1 (List.map encU8 a0), encMsg a1] (.sl 1 (List.map encU8 v0) : X) (.junk : X) := by
 let T1 : List (Nat × X) := [(0, .view 9000 1 [] 0), (1, encMsg a1)]
 let B1 : List (Nat × Bx) := [(9000, ⟨1, 1, false, some (.sl 2 (List.map encU8 a0))⟩)]
 refine walk0 (fn := Try.f98) (fun q0 : (List Int) => (.sl 1 (List.map encU8 q0) : X)) (fun q0 : (List Int) => (.junk : X)) v0 ⟨T1, B1⟩ Try.func98 rfl (by decide +kernel) fun Γ hn fin => ?_
 rw [impl_addMsg] at h
 refine sqr cv hn ?_
 refine ro9 0 2 2 ⟨(4, .sc (.slice none 0 0)) :: (3, .ptr 3 1 0) :: T1, (3, ⟨1, 1, true, some (encMsg a1)⟩) :: B1⟩ ?_
 refine runs_seq ?_
 refine rgT cv mixed hn ?_
 refine roT 0 3 3 ⟨(7, zI a1.fKind) :: (6, .ptr 3 1 0) :: (5, .view 9000 1 [] 0) :: (4, .sc (.slice none 0 0)) :: (3, .ptr 3 1 0) :: T1, (3, ⟨1, 1, true, some (encMsg a1)⟩) :: B1⟩ ?_
 obtain ⟨v1, hv2, h⟩ := bindO h
 refine rcT 3 ⟨(8, .view 8 1 [] 0) :: (7, zI a1.fKind) :: (6, .ptr 3 1 0) :: (5, .view 9000 1 [] 0) :: (4, .sc (.slice none 0 0)) :: (3, .ptr 3 1 0) :: T1, (8, ⟨1, 1, false, some (.sl 1 (List.map encU8 v1))⟩) :: (9000, ⟨1, 2, false, some (.junk)⟩) :: (3, ⟨1, 1, true, some (encMsg a1)⟩) :: B1⟩ (impl_addNum_spec a0 a1.fKind v1 hv2) ?_
 refine roT 4 2 2 ⟨(10, zI a1.fAcct) :: (9, .ptr 3 1 1) :: (8, .view 8 1 [] 0) :: (7, zI a1.fKind) :: (6, .ptr 3 1 0) :: (5, .view 9000 1 [] 0) :: (4, .sc (.slice none 0 0)) :: (3, .ptr 3 1 0) :: T1, (8, ⟨1, 1, false, some (.sl 1 (List.map encU8 v1))⟩) :: (9000, ⟨1, 2, false, some (.junk)⟩) :: (3, ⟨1, 1, true, some (encMsg a1)⟩) :: B1⟩ ?_
 obtain ⟨v3, hv4, h⟩ := bindO h
 refine rcT 6 ⟨(11, .view 11 1 [] 0) :: (10, zI a1.fAcct) :: (9, .ptr 3 1 1) :: (8, .view 8 1 [] 0) :: (7, zI a1.fKind) :: (6, .ptr 3 1 0) :: (5, .view 9000 1 [] 0) :: (4, .sc (.slice none 0 0)) :: (3, .ptr 3 1 0) :: T1, (11, ⟨1, 1, false, some (.sl 1 (List.map encU8 v3))⟩) :: (8, ⟨1, 2, false, some (.junk)⟩) :: (8, ⟨1, 1, false, some (.sl 1 (List.map encU8 v1))⟩) :: (9000, ⟨1, 2, false, some (.junk)⟩) :: (3, ⟨1, 1, true, some (encMsg a1)⟩) :: B1⟩ (impl_addNum_spec v1 a1.fAcct v3 hv4) ?_
 refine roT 7 2 2 ⟨(13, zI a1.fAmt) :: (12, .ptr 3 1 2) :: (11, .view 11 1 [] 0) :: (10, zI a1.fAcct) :: (9, .ptr 3 1 1) :: (8, .view 8 1 [] 0) :: (7, zI a1.fKind) :: (6, .ptr 3 1 0) :: (5, .view 9000 1 [] 0) :: (4, .sc (.slice none 0 0)) :: (3, .ptr 3 1 0) :: T1, (11, ⟨1, 1, false, some (.sl 1 (List.map encU8 v3))⟩) :: (8, ⟨1, 2, false, some (.junk)⟩) :: (8, ⟨1, 1, false, some (.sl 1 (List.map encU8 v1))⟩) :: (9000, ⟨1, 2, false, some (.junk)⟩) :: (3, ⟨1, 1, true, some (encMsg a1)⟩) :: B1⟩ ?_
 obtain ⟨v5, hv6, h⟩ := bindO h
 refine rcT 9 ⟨(14, .view 14 1 [] 0) :: (13, zI a1.fAmt) :: (12, .ptr 3 1 2) :: (11, .view 11 1 [] 0) :: (10, zI a1.fAcct) :: (9, .ptr 3 1 1) :: (8, .view 8 1 [] 0) :: (7, zI a1.fKind) :: (6, .ptr 3 1 0) :: (5, .view 9000 1 [] 0) :: (4, .sc (.slice none 0 0)) :: (3, .ptr 3 1 0) :: T1, (14, ⟨1, 1, false, some (.sl 1 (List.map encU8 v5))⟩) :: (11, ⟨1, 2, false, some (.junk)⟩) :: (11, ⟨1, 1, false, some (.sl 1 (List.map encU8 v3))⟩) :: (8, ⟨1, 2, false, some (.junk)⟩) :: (8, ⟨1, 1, false, some (.sl 1 (List.map encU8 v1))⟩) :: (9000, ⟨1, 2, false, some (.junk)⟩) :: (3, ⟨1, 1, true, some (encMsg a1)⟩) :: B1⟩ (impl_addNum_spec v3 a1.fAmt v5 hv6) ?_
 refine roT 10 2 2 ⟨(16, zI a1.fSrc) :: (15, .ptr 3 1 3) :: (14, .view 14 1 [] 0) :: (13, zI a1.fAmt) :: (12, .ptr 3 1 2) :: (11, .view 11 1 [] 0) :: (10, zI a1.fAcct) :: (9, .ptr 3 1 1) :: (8, .view 8 1 [] 0) :: (7, zI a1.fKind) :: (6, .ptr 3 1 0) :: (5, .view 9000 1 [] 0) :: (4, .sc (.slice none 0 0)) :: (3, .ptr 3 1 0) :: T1, (14, ⟨1, 1, false, some (.sl 1 (List.map encU8 v5))⟩) :: (11, ⟨1, 2, false, some (.junk)⟩) :: (11, ⟨1, 1, false, some (.sl 1 (List.map encU8 v3))⟩) :: (8, ⟨1, 2, false, some (.junk)⟩) :: (8, ⟨1, 1, false, some (.sl 1 (List.map encU8 v1))⟩) :: (9000, ⟨1, 2, false, some (.junk)⟩) :: (3, ⟨1, 1, true, some (encMsg a1)⟩) :: B1⟩ ?_
 obtain ⟨v7, hv8, h⟩ := bindO h
 refine rcT 12 ⟨(17, .view 17 1 [] 0) :: (16, zI a1.fSrc) :: (15, .ptr 3 1 3) :: (14, .view 14 1 [] 0) :: (13, zI a1.fAmt) :: (12, .ptr 3 1 2) :: (11, .view 11 1 [] 0) :: (10, zI a1.fAcct) :: (9, .ptr 3 1 1) :: (8, .view 8 1 [] 0) :: (7, zI a1.fKind) :: (6, .ptr 3 1 0) :: (5, .view 9000 1 [] 0) :: (4, .sc (.slice none 0 0)) :: (3, .ptr 3 1 0) :: T1, (17, ⟨1, 1, false, some (.sl 1 (List.map encU8 v7))⟩) :: (14, ⟨1, 2, false, some (.junk)⟩) :: (14, ⟨1, 1, false, some (.sl 1 (List.map encU8 v5))⟩) :: (11, ⟨1, 2, false, some (.junk)⟩) :: (11, ⟨1, 1, false, some (.sl 1 (List.map encU8 v3))⟩) :: (8, ⟨1, 2, false, some (.junk)⟩) :: (8, ⟨1, 1, false, some (.sl 1 (List.map encU8 v1))⟩) :: (9000, ⟨1, 2, false, some (.junk)⟩) :: (3, ⟨1, 1, true, some (encMsg a1)⟩) :: B1⟩ (impl_addNum_spec v5 a1.fSrc v7 hv8) ?_
 refine roT9 13 1 1 ⟨(4, .view 17 1 [] 0) :: (17, .view 17 1 [] 0) :: (16, zI a1.fSrc) :: (15, .ptr 3 1 3) :: (14, .view 14 1 [] 0) :: (13, zI a1.fAmt) :: (12, .ptr 3 1 2) :: (11, .view 11 1 [] 0) :: (10, zI a1.fAcct) :: (9, .ptr 3 1 1) :: (8, .view 8 1 [] 0) :: (7, zI a1.fKind) :: (6, .ptr 3 1 0) :: (5, .view 9000 1 [] 0) :: (4, .sc (.slice none 0 0)) :: (3, .ptr 3 1 0) :: T1, (17, ⟨1, 1, false, some (.sl 1 (List.map encU8 v7))⟩) :: (14, ⟨1, 2, false, some (.junk)⟩) :: (14, ⟨1, 1, false, some (.sl 1 (List.map encU8 v5))⟩) :: (11, ⟨1, 2, false, some (.junk)⟩) :: (11, ⟨1, 1, false, some (.sl 1 (List.map encU8 v3))⟩) :: (8, ⟨1, 2, false, some (.junk)⟩) :: (8, ⟨1, 1, false, some (.sl 1 (List.map encU8 v1))⟩) :: (9000, ⟨1, 2, false, some (.junk)⟩) :: (3, ⟨1, 1, true, some (encMsg a1)⟩) :: B1⟩ ?_
 refine runs_ret ?_
 exact fin _ _ h (by kernel_rfl)

set_option maxRecDepth 100000 in
set_option maxHeartbeats 2000000 in
theorem impl_RecBytes_spec (a0 : SRec) (v0 : (List Int) × Bool) (h : impl_RecBytes a0 = some v0) : Ax.Spec Try.prog 44 none [encRec a0] (.tup [.sl 1 (List.map encU8 v0.1), zB v0.2] : X) (.junk : X) := by
 refine walk0 (fn := Try.f44) (fun q0 : (List Int) × Bool => (.tup [.sl 1 (List.map encU8 q0.1), zB q0.2] : X)) (fun q0 : (List Int) × Bool => (.junk : X)) v0 ⟨[(0, encRec a0)], []⟩ Try.func44 rfl (by decide +kernel) fun Γ hn fin => ?_
 rw [impl_RecBytes] at h
 refine sqr cv hn ?_
 refine ro9 0 3 3 ⟨[(3, zB false), (2, .sc (.slice none 0 0)), (1, .ptr 1 1 0), (0, encRec a0)], [(1, ⟨1, 1, true, some (encRec a0)⟩)]⟩ ?_
 refine runs_seq ?_
 refine sqr cv hn ?_
 refine ro 0 1 1 ⟨[(5, encRec a0), (3, zB false), (2, .sc (.slice none 0 0)), (1, .ptr 1 1 0), (0, encRec a0)], [(1, ⟨1, 1, true, some (encRec a0)⟩)]⟩ ?_
 obtain ⟨v4, hv5, h⟩ := bindO h
 refine rc 1 ⟨[(6, zB v4), (5, encRec a0), (3, zB false), (2, .sc (.slice none 0 0)), (1, .ptr 1 1 0), (0, encRec a0)], [(1, ⟨1, 1, true, some (encRec a0)⟩)]⟩ (impl_RecOk_spec a0 v4 hv5) ?_
 refine ro9 2 1 1 ⟨[(7, zB (!v4)), (6, zB v4), (5, encRec a0), (3, zB false), (2, .sc (.slice none 0 0)), (1, .ptr 1 1 0), (0, encRec a0)], [(1, ⟨1, 1, true, some (encRec a0)⟩)]⟩ ?_
 rcases dich (!v4) with hb6 | hb6
 · replace h := cond_t hb6 h
   refine ct hb6 ?_
   let B3 : List (Nat × Bx) := [(1, ⟨0, 0, true, some (encRec a0)⟩)]
   refine wkr [1] [(1, 1, false)] ⟨[(1, .ptr 1 0 0)], B3⟩ ?_
   refine sqr cv hn ?_
   refine ro9 0 2 2 ⟨[(3, zB false), (2, .sc (.slice none 0 0)), (1, .ptr 1 0 0)], B3⟩ ?_
   refine runs_ret ?_
   exact fin _ _ h (by kernel_rfl)
 · replace h := cond_f hb6 h
   refine cf hb6 ?_
   refine runs_skip ?_
   refine runs_seq ?_
   let B5 : List (Nat × Bx) := [(1, ⟨0, 0, true, some (encRec a0)⟩)]
   refine wkr [1] [(1, 1, false)] ⟨[(1, .ptr 1 0 0)], B5⟩ ?_
   refine rgT cv mixed hn ?_
   refine roT 0 2 2 ⟨[(9, zI a0.fKind), (8, .ptr 1 0 0), (1, .ptr 1 0 0)], B5⟩ ?_
   obtain ⟨v17, hv18, h⟩ := bindO h
   refine rcT 2 ⟨[(10, .view 10 1 [] 0), (9, zI a0.fKind), (8, .ptr 1 0 0), (1, .ptr 1 0 0)], (10, ⟨1, 1, false, some (.sl 1 (List.map encU8 v17))⟩) :: B5⟩ (impl_addNum_spec [] a0.fKind v17 hv18) ?_
   refine roT 3 2 2 ⟨[(12, zI a0.fAcct), (11, .ptr 1 0 1), (10, .view 10 1 [] 0), (9, zI a0.fKind), (8, .ptr 1 0 0), (1, .ptr 1 0 0)], (10, ⟨1, 1, false, some (.sl 1 (List.map encU8 v17))⟩) :: B5⟩ ?_
   obtain ⟨v19, hv20, h⟩ := bindO h
   refine rcT 5 ⟨[(13, .view 13 1 [] 0), (12, zI a0.fAcct), (11, .ptr 1 0 1), (10, .view 10 1 [] 0), (9, zI a0.fKind), (8, .ptr 1 0 0), (1, .ptr 1 0 0)], (13, ⟨1, 1, false, some (.sl 1 (List.map encU8 v19))⟩) :: (10, ⟨1, 2, false, some (.junk)⟩) :: (10, ⟨1, 1, false, some (.sl 1 (List.map encU8 v17))⟩) :: B5⟩ (impl_addNum_spec v17 a0.fAcct v19 hv20) ?_
   refine roT 6 2 2 ⟨[(15, zI a0.fOther), (14, .ptr 1 0 2), (13, .view 13 1 [] 0), (12, zI a0.fAcct), (11, .ptr 1 0 1), (10, .view 10 1 [] 0), (9, zI a0.fKind), (8, .ptr 1 0 0), (1, .ptr 1 0 0)], (13, ⟨1, 1, false, some (.sl 1 (List.map encU8 v19))⟩) :: (10, ⟨1, 2, false, some (.junk)⟩) :: (10, ⟨1, 1, false, some (.sl 1 (List.map encU8 v17))⟩) :: B5⟩ ?_
   obtain ⟨v21, hv22, h⟩ := bindO h
   refine rcT 8 ⟨[(16, .view 16 1 [] 0), (15, zI a0.fOther), (14, .ptr 1 0 2), (13, .view 13 1 [] 0), (12, zI a0.fAcct), (11, .ptr 1 0 1), (10, .view 10 1 [] 0), (9, zI a0.fKind), (8, .ptr 1 0 0), (1, .ptr 1 0 0)], (16, ⟨1, 1, false, some (.sl 1 (List.map encU8 v21))⟩) :: (13, ⟨1, 2, false, some (.junk)⟩) :: (13, ⟨1, 1, false, some (.sl 1 (List.map encU8 v19))⟩) :: (10, ⟨1, 2, false, some (.junk)⟩) :: (10, ⟨1, 1, false, some (.sl 1 (List.map encU8 v17))⟩) :: B5⟩ (impl_addNum_spec v19 a0.fOther v21 hv22) ?_
   refine roT 9 2 2 ⟨[(18, zI a0.fTo), (17, .ptr 1 0 3), (16, .view 16 1 [] 0), (15, zI a0.fOther), (14, .ptr 1 0 2), (13, .view 13 1 [] 0), (12, zI a0.fAcct), (11, .ptr 1 0 1), (10, .view 10 1 [] 0), (9, zI a0.fKind), (8, .ptr 1 0 0), (1, .ptr 1 0 0)], (16, ⟨1, 1, false, some (.sl 1 (List.map encU8 v21))⟩) :: (13, ⟨1, 2, false, some (.junk)⟩) :: (13, ⟨1, 1, false, some (.sl 1 (List.map encU8 v19))⟩) :: (10, ⟨1, 2, false, some (.junk)⟩) :: (10, ⟨1, 1, false, some (.sl 1 (List.map encU8 v17))⟩) :: B5⟩ ?_
   obtain ⟨v23, hv24, h⟩ := bindO h
   refine rcT 11 ⟨[(19, .view 19 1 [] 0), (18, zI a0.fTo), (17, .ptr 1 0 3), (16, .view 16 1 [] 0), (15, zI a0.fOther), (14, .ptr 1 0 2), (13, .view 13 1 [] 0), (12, zI a0.fAcct), (11, .ptr 1 0 1), (10, .view 10 1 [] 0), (9, zI a0.fKind), (8, .ptr 1 0 0), (1, .ptr 1 0 0)], (19, ⟨1, 1, false, some (.sl 1 (List.map encU8 v23))⟩) :: (16, ⟨1, 2, false, some (.junk)⟩) :: (16, ⟨1, 1, false, some (.sl 1 (List.map encU8 v21))⟩) :: (13, ⟨1, 2, false, some (.junk)⟩) :: (13, ⟨1, 1, false, some (.sl 1 (List.map encU8 v19))⟩) :: (10, ⟨1, 2, false, some (.junk)⟩) :: (10, ⟨1, 1, false, some (.sl 1 (List.map encU8 v17))⟩) :: B5⟩ (impl_addNum_spec v21 a0.fTo v23 hv24) ?_
   refine roT 12 2 2 ⟨[(21, zI a0.fAmt), (20, .ptr 1 0 4), (19, .view 19 1 [] 0), (18, zI a0.fTo), (17, .ptr 1 0 3), (16, .view 16 1 [] 0), (15, zI a0.fOther), (14, .ptr 1 0 2), (13, .view 13 1 [] 0), (12, zI a0.fAcct), (11, .ptr 1 0 1), (10, .view 10 1 [] 0), (9, zI a0.fKind), (8, .ptr 1 0 0), (1, .ptr 1 0 0)], (19, ⟨1, 1, false, some (.sl 1 (List.map encU8 v23))⟩) :: (16, ⟨1, 2, false, some (.junk)⟩) :: (16, ⟨1, 1, false, some (.sl 1 (List.map encU8 v21))⟩) :: (13, ⟨1, 2, false, some (.junk)⟩) :: (13, ⟨1, 1, false, some (.sl 1 (List.map encU8 v19))⟩) :: (10, ⟨1, 2, false, some (.junk)⟩) :: (10, ⟨1, 1, false, some (.sl 1 (List.map encU8 v17))⟩) :: B5⟩ ?_
   obtain ⟨v25, hv26, h⟩ := bindO h
   refine rcT 14 ⟨[(22, .view 22 1 [] 0), (21, zI a0.fAmt), (20, .ptr 1 0 4), (19, .view 19 1 [] 0), (18, zI a0.fTo), (17, .ptr 1 0 3), (16, .view 16 1 [] 0), (15, zI a0.fOther), (14, .ptr 1 0 2), (13, .view 13 1 [] 0), (12, zI a0.fAcct), (11, .ptr 1 0 1), (10, .view 10 1 [] 0), (9, zI a0.fKind), (8, .ptr 1 0 0), (1, .ptr 1 0 0)], (22, ⟨1, 1, false, some (.sl 1 (List.map encU8 v25))⟩) :: (19, ⟨1, 2, false, some (.junk)⟩) :: (19, ⟨1, 1, false, some (.sl 1 (List.map encU8 v23))⟩) :: (16, ⟨1, 2, false, some (.junk)⟩) :: (16, ⟨1, 1, false, some (.sl 1 (List.map encU8 v21))⟩) :: (13, ⟨1, 2, false, some (.junk)⟩) :: (13, ⟨1, 1, false, some (.sl 1 (List.map encU8 v19))⟩) :: (10, ⟨1, 2, false, some (.junk)⟩) :: (10, ⟨1, 1, false, some (.sl 1 (List.map encU8 v17))⟩) :: B5⟩ (impl_addNum_spec v23 a0.fAmt v25 hv26) ?_
   refine roT9 15 1 1 ⟨[(4, .view 22 1 [] 0), (22, .view 22 1 [] 0), (21, zI a0.fAmt), (20, .ptr 1 0 4), (19, .view 19 1 [] 0), (18, zI a0.fTo), (17, .ptr 1 0 3), (16, .view 16 1 [] 0), (15, zI a0.fOther), (14, .ptr 1 0 2), (13, .view 13 1 [] 0), (12, zI a0.fAcct), (11, .ptr 1 0 1), (10, .view 10 1 [] 0), (9, zI a0.fKind), (8, .ptr 1 0 0), (1, .ptr 1 0 0)], (22, ⟨1, 1, false, some (.sl 1 (List.map encU8 v25))⟩) :: (19, ⟨1, 2, false, some (.junk)⟩) :: (19, ⟨1, 1, false, some (.sl 1 (List.map encU8 v23))⟩) :: (16, ⟨1, 2, false, some (.junk)⟩) :: (16, ⟨1, 1, false, some (.sl 1 (List.map encU8 v21))⟩) :: (13, ⟨1, 2, false, some (.junk)⟩) :: (13, ⟨1, 1, false, some (.sl 1 (List.map encU8 v19))⟩) :: (10, ⟨1, 2, false, some (.junk)⟩) :: (10, ⟨1, 1, false, some (.sl 1 (List.map encU8 v17))⟩) :: B5⟩ ?_
   refine runs_seq ?_
   let T7 : List (Nat × X) := [(4, .view 5000004 0 [] 0), (1, .ptr 1 0 0)]
   let B7 : List (Nat × Bx) := [(5000004, ⟨0, 0, false, some (.sl 1 (List.map encU8 v25))⟩), (1, ⟨0, 0, true, some (encRec a0)⟩)]
   refine wkr [4, 1] [(5000004, 22, false), (1, 1, false)] ⟨T7, B7⟩ ?_
   refine sqr cv hn ?_
   refine ro9 0 3 3 ⟨(25, zB (a0.fKind == 5)) :: (24, zI a0.fKind) :: (23, .ptr 1 0 0) :: T7, B7⟩ ?_
   rcases dich (a0.fKind == 5) with hb27 | hb27
   · replace h := cond_t hb27 h
     refine ct hb27 ?_
     refine rg cv hn ?_
     refine ro 0 3 3 ⟨(28, encMsg a0.fM) :: (27, .ptr 1 0 5) :: (26, .view 5000004 0 [] 0) :: (25, zB (a0.fKind == 5)) :: (24, zI a0.fKind) :: (23, .ptr 1 0 0) :: T7, B7⟩ ?_
     obtain ⟨v28, hv29, h⟩ := bindO h
     refine rc 3 ⟨(29, .view 29 1 [] 0) :: (28, encMsg a0.fM) :: (27, .ptr 1 0 5) :: (26, .view 5000004 0 [] 0) :: (25, zB (a0.fKind == 5)) :: (24, zI a0.fKind) :: (23, .ptr 1 0 0) :: T7, (29, ⟨1, 1, false, some (.sl 1 (List.map encU8 v28))⟩) :: (5000004, ⟨0, 1, false, some (.junk)⟩) :: B7⟩ (impl_addMsg_spec v25 a0.fM v28 hv29) ?_
     refine ro9 4 1 1 ⟨(4, .view 29 1 [] 0) :: (29, .view 29 1 [] 0) :: (28, encMsg a0.fM) :: (27, .ptr 1 0 5) :: (26, .view 5000004 0 [] 0) :: (25, zB (a0.fKind == 5)) :: (24, zI a0.fKind) :: (23, .ptr 1 0 0) :: T7, (29, ⟨1, 1, false, some (.sl 1 (List.map encU8 v28))⟩) :: (5000004, ⟨0, 1, false, some (.junk)⟩) :: B7⟩ ?_
     let B8 : List (Nat × Bx) := [(5000004, ⟨0, 0, false, some (.sl 1 (List.map encU8 v28))⟩)]
     refine wkr [4] [(5000004, 29, false)] ⟨[(4, .view 5000004 0 [] 0)], B8⟩ ?_
     refine sqr cv hn ?_
     refine ro9 0 3 3 ⟨[(3, zB true), (2, .view 5000004 0 [] 0), (30, .view 5000004 0 [] 0), (4, .view 5000004 0 [] 0)], B8⟩ ?_
     refine runs_ret ?_
     exact fin _ _ h (by kernel_rfl)
   · replace h := cond_f hb27 h
     refine cf hb27 ?_
     refine runs_skip ?_
     refine sqr cv hn ?_
     refine ro9 0 3 3 ⟨(3, zB true) :: (2, .view 5000004 0 [] 0) :: (30, .view 5000004 0 [] 0) :: (25, zB (a0.fKind == 5)) :: (24, zI a0.fKind) :: (23, .ptr 1 0 0) :: T7, B7⟩ ?_
     refine runs_ret ?_
     exact fin _ _ h (by kernel_rfl)

set_option maxRecDepth 100000 in
set_option maxHeartbeats 2000000 in
theorem laws_eqByteS_spec (a0 : (List Int)) (a1 : (List Int)) (v0 : Bool) (h : laws_eqByteS a0 a1 = some v0) : Ax.Spec Try.prog 45 none [.sl 0 (List.map encU8 a0), .sl 0 (List.map encU8 a1)] (zB v0 : X) (.junk : X) := by
 let T1 : List (Nat × X) := [(0, .sl 0 (List.map encU8 a0)), (1, .sl 0 (List.map encU8 a1))]
 refine walk0 (fn := Try.f45) (fun q0 : Bool => (zB q0 : X)) (fun q0 : Bool => (.junk : X)) v0 ⟨T1, []⟩ Try.func45 rfl (by decide +kernel) fun Γ hn fin => ?_
 rw [laws_eqByteS] at h
 refine sqr cv hn ?_
 refine ro9 0 1 1 ⟨(4, zB false) :: T1, []⟩ ?_
 refine runs_seq ?_
 refine sqr cv hn ?_
 refine ro9 0 5 5 ⟨(10, zB ((a0.length : Int) != (a1.length : Int))) :: (9, zI (a1.length : Int)) :: (8, .sl 0 (List.map encU8 a1)) :: (7, zI (a0.length : Int)) :: (6, .sl 0 (List.map encU8 a0)) :: (4, zB false) :: T1, []⟩ ?_ (he := by rw [show (a0.length : Int) = ((List.map encU8 a0).length : Int) from by rw [List.length_map]]; rw [show (a1.length : Int) = ((List.map encU8 a1).length : Int) from by rw [List.length_map]]; kernel_rfl)
 rcases dich ((a0.length : Int) != (a1.length : Int)) with hb2 | hb2
 · replace h := cond_t hb2 h
   refine ct hb2 ?_
   let T3 : List (Nat × X) := [(0, .sl 0 (List.map encU8 a0)), (1, .sl 0 (List.map encU8 a1))]
   refine wkr [0, 1] [] ⟨T3, []⟩ ?_
   refine sqr cv hn ?_
   refine ro9 0 1 1 ⟨(4, zB false) :: T3, []⟩ ?_
   refine runs_ret ?_
   exact fin _ _ h (by kernel_rfl)
 · replace h := cond_f hb2 h
   refine cf hb2 ?_
   refine runs_skip ?_
   refine runs_seq ?_
   let T5 : List (Nat × X) := [(0, .sl 0 (List.map encU8 a0)), (1, .sl 0 (List.map encU8 a1))]
   refine wkr [0, 1] [] ⟨T5, []⟩ ?_
   refine sqr cv hn ?_
   refine ro9 0 1 1 ⟨(5, zI 0) :: T5, []⟩ ?_
   refine runs_block ?_
   refine runs_loopM (σ := List Int × Nat) (fun s => ⟨[(5, zI (s.2 : Int)), (0, .sl 0 (List.map encU8 a0)), (1, .sl 0 (List.map encU8 a1))], []⟩) (fun s => s.1 = List.drop s.2 a0 ∧ laws_eqByteS_l1 a1 s.1 s.2 = some v0) (fun s => s.1.length) (a0, 0) ⟨rfl, h⟩ (wre [5, 0, 1] []) ?_
   rintro ⟨t1, i1⟩ ⟨hd1, h⟩
   refine seq0 ⟨[(5, zI (i1 : Int)), (0, .sl 0 (List.map encU8 a0)), (1, .sl 0 (List.map encU8 a1))], []⟩ ?_
   refine runs_len 0 (es := List.map encU8 a0) (by kernel_rfl) fun hl1 => ?_
   replace hl1 := len_of_map hl1
   cases t1 with
   | nil =>
     rw [laws_eqByteS_l1] at h
     have hLn1 := dnil hd1
     refine runs_seq ?_
     refine sqr cv hn ?_
     refine ro9 0 4 4 ⟨[(14, zB (decide ((i1 : Int) < (a0.length : Int)))), (13, zI (a0.length : Int)), (12, .sl 0 (List.map encU8 a0)), (11, zI (i1 : Int)), (5, zI (i1 : Int)), (0, .sl 0 (List.map encU8 a0)), (1, .sl 0 (List.map encU8 a1))], []⟩ ?_ (he := by rw [show (a0.length : Int) = ((List.map encU8 a0).length : Int) from by rw [List.length_map]]; kernel_rfl)
     refine cf hLn1 ?_
     refine runs_exit ?_
     repeat refine thenX_exit ?_
     refine block_here ?_
     refine wkr [] [] ⟨[], []⟩ ?_
     refine sqr cv hn ?_
     refine ro9 0 1 1 ⟨[(4, zB true)], []⟩ ?_
     refine runs_ret ?_
     exact fin _ _ h (by kernel_rfl)
   | cons x10 t1 =>
     rw [laws_eqByteS_l1] at h
     have hLc1 := dcons hd1
     have hx10 := dget hd1
     have hi1 := dinc hd1 hl1
     refine runs_seq ?_
     refine sqr cv hn ?_
     refine ro9 0 4 4 ⟨[(14, zB (decide ((i1 : Int) < (a0.length : Int)))), (13, zI (a0.length : Int)), (12, .sl 0 (List.map encU8 a0)), (11, zI (i1 : Int)), (5, zI (i1 : Int)), (0, .sl 0 (List.map encU8 a0)), (1, .sl 0 (List.map encU8 a1))], []⟩ ?_ (he := by rw [show (a0.length : Int) = ((List.map encU8 a0).length : Int) from by rw [List.length_map]]; kernel_rfl)
     refine ct hLc1 ?_
     refine runs_skip ?_
     refine runs_seq ?_
     refine runs_block ?_
     refine runs_seq ?_
     refine rgT cv mixed hn ?_
     refine roT 0 2 2 ⟨[(18, zI (i1 : Int)), (17, .sl 0 (List.map encU8 a0)), (14, zB (decide ((i1 : Int) < (a0.length : Int)))), (13, zI (a0.length : Int)), (12, .sl 0 (List.map encU8 a0)), (11, zI (i1 : Int)), (5, zI (i1 : Int)), (0, .sl 0 (List.map encU8 a0)), (1, .sl 0 (List.map encU8 a1))], []⟩ ?_
     refine rixT 2 encU8 5 hx10 (ix_nn hx10) ⟨[(19, .rp (.sc (.int .u8 x10)) 0), (18, zI (i1 : Int)), (17, .sl 0 (List.map encU8 a0)), (14, zB (decide ((i1 : Int) < (a0.length : Int)))), (13, zI (a0.length : Int)), (12, .sl 0 (List.map encU8 a0)), (11, zI (i1 : Int)), (5, zI (i1 : Int)), (0, .sl 0 (List.map encU8 a0)), (1, .sl 0 (List.map encU8 a1))], []⟩ ?_
     refine roT 3 3 3 ⟨[(22, zI (i1 : Int)), (21, .sl 0 (List.map encU8 a1)), (20, .sc (.int .u8 x10)), (19, .rp (.sc (.int .u8 x10)) 0), (18, zI (i1 : Int)), (17, .sl 0 (List.map encU8 a0)), (14, zB (decide ((i1 : Int) < (a0.length : Int)))), (13, zI (a0.length : Int)), (12, .sl 0 (List.map encU8 a0)), (11, zI (i1 : Int)), (5, zI (i1 : Int)), (0, .sl 0 (List.map encU8 a0)), (1, .sl 0 (List.map encU8 a1))], []⟩ ?_
     obtain ⟨x20, hx21, h⟩ := bindO h
     refine rixT 6 encU8 5 hx21 (ix_nn hx21) ⟨[(23, .rp (.sc (.int .u8 x20)) 0), (22, zI (i1 : Int)), (21, .sl 0 (List.map encU8 a1)), (20, .sc (.int .u8 x10)), (19, .rp (.sc (.int .u8 x10)) 0), (18, zI (i1 : Int)), (17, .sl 0 (List.map encU8 a0)), (14, zB (decide ((i1 : Int) < (a0.length : Int)))), (13, zI (a0.length : Int)), (12, .sl 0 (List.map encU8 a0)), (11, zI (i1 : Int)), (5, zI (i1 : Int)), (0, .sl 0 (List.map encU8 a0)), (1, .sl 0 (List.map encU8 a1))], []⟩ ?_
     refine roT9 7 2 2 ⟨[(25, zB (x10 != x20)), (24, .sc (.int .u8 x20)), (23, .rp (.sc (.int .u8 x20)) 0), (22, zI (i1 : Int)), (21, .sl 0 (List.map encU8 a1)), (20, .sc (.int .u8 x10)), (19, .rp (.sc (.int .u8 x10)) 0), (18, zI (i1 : Int)), (17, .sl 0 (List.map encU8 a0)), (14, zB (decide ((i1 : Int) < (a0.length : Int)))), (13, zI (a0.length : Int)), (12, .sl 0 (List.map encU8 a0)), (11, zI (i1 : Int)), (5, zI (i1 : Int)), (0, .sl 0 (List.map encU8 a0)), (1, .sl 0 (List.map encU8 a1))], []⟩ ?_
     rcases dich (x10 != x20) with hb22 | hb22
     · replace h := cond_t hb22 h
       refine ct hb22 ?_
       refine sqr cv hn ?_
       refine ro9 0 1 1 ⟨[(4, zB false), (25, zB (x10 != x20)), (24, .sc (.int .u8 x20)), (23, .rp (.sc (.int .u8 x20)) 0), (22, zI (i1 : Int)), (21, .sl 0 (List.map encU8 a1)), (20, .sc (.int .u8 x10)), (19, .rp (.sc (.int .u8 x10)) 0), (18, zI (i1 : Int)), (17, .sl 0 (List.map encU8 a0)), (14, zB (decide ((i1 : Int) < (a0.length : Int)))), (13, zI (a0.length : Int)), (12, .sl 0 (List.map encU8 a0)), (11, zI (i1 : Int)), (5, zI (i1 : Int)), (0, .sl 0 (List.map encU8 a0)), (1, .sl 0 (List.map encU8 a1))], []⟩ ?_
       refine runs_ret ?_
       exact fin _ _ h (by kernel_rfl)
     · replace h := cond_f hb22 h
       refine cf hb22 ?_
       refine runs_skip ?_
       refine rg cv hn ?_
       refine ro9 0 3 3 ⟨[(5, zI ((i1 + 1 : Nat) : Int)), (16, zI ((i1 + 1 : Nat) : Int)), (15, zI (i1 : Int)), (25, zB (x10 != x20)), (24, .sc (.int .u8 x20)), (23, .rp (.sc (.int .u8 x20)) 0), (22, zI (i1 : Int)), (21, .sl 0 (List.map encU8 a1)), (20, .sc (.int .u8 x10)), (19, .rp (.sc (.int .u8 x10)) 0), (18, zI (i1 : Int)), (17, .sl 0 (List.map encU8 a0)), (14, zB (decide ((i1 : Int) < (a0.length : Int)))), (13, zI (a0.length : Int)), (12, .sl 0 (List.map encU8 a0)), (11, zI (i1 : Int)), (5, zI (i1 : Int)), (0, .sl 0 (List.map encU8 a0)), (1, .sl 0 (List.map encU8 a1))], []⟩ ?_ (he := by rw [← hi1]; kernel_rfl)
       exact ⟨(t1, i1 + 1), Nat.lt_succ_self _, ⟨dnext hd1, h⟩, wre [5, 0, 1] []⟩

set_option maxRecDepth 100000 in
set_option maxHeartbeats 2000000 in
theorem laws_markByteS_spec (a0 : (List Int)) (a1 : Int) (v0 : (Int) × (List Int)) (h : laws_markByteS a0 a1 = some v0) : Ax.Spec Try.prog 46 (some 0) [.sl 1 (List.map encU8 a0), zI a1] (zI v0.1 : X) (.sl 1 (List.map encU8 v0.2) : X) := by
 let T1 : List (Nat × X) := [(0, .view 9000 1 [] 0), (1, zI a1)]
 let B1 : List (Nat × Bx) := [(9000, ⟨1, 1, false, some (.sl 2 (List.map encU8 a0))⟩)]
 refine walk0 (fn := Try.f46) (fun q0 : (Int) × (List Int) => (zI q0.1 : X)) (fun q0 : (Int) × (List Int) => (.sl 1 (List.map encU8 q0.2) : X)) v0 ⟨T1, B1⟩ Try.func46 rfl (by decide +kernel) fun Γ hn fin => ?_
 rw [laws_markByteS] at h
 refine sqr cv hn ?_
 refine ro9 0 1 1 ⟨(4, zI 0) :: T1, B1⟩ ?_
 refine runs_seq ?_
 refine sqr cv hn ?_
 refine ro9 0 1 1 ⟨(5, zI 0) :: (4, zI 0) :: T1, B1⟩ ?_
 refine runs_block ?_
 refine runs_loopM (σ := Nat × Int × Int × (List Int)) (fun s => ⟨[(5, zI s.2.1), (0, .view 5000000 0 [] 0), (1, zI s.2.2.1)], [(5000000, ⟨0, 0, false, some (.sl 2 (List.map encU8 s.2.2.2))⟩)]⟩) (fun s => laws_markByteS_l1 s.1 s.2.1 s.2.2.1 s.2.2.2 = some v0) (fun s => s.1) (fuel, 0, a1, a0) h (wre [5, 0, 1] [(5000000, 9000, false)]) ?_
 rintro ⟨n1, y8, y9, y10⟩ h
 let T2 : List (Nat × X) := [(5, zI y8), (0, .view 5000000 0 [] 0), (1, zI y9)]
 let B2 : List (Nat × Bx) := [(5000000, ⟨0, 0, false, some (.sl 2 (List.map encU8 y10))⟩)]
 refine seq0 ⟨T2, B2⟩ ?_
 cases n1 with
 | zero => rw [laws_markByteS_l1] at h; cases h
 | succ n1 =>
   rw [laws_markByteS_l1] at h
   refine runs_seq ?_
   refine sqr cv hn ?_
   refine ro9 0 4 4 ⟨(9, zB (decide (y8 < (y10.length : Int)))) :: (8, zI (y10.length : Int)) :: (7, .view 5000000 0 [] 0) :: (6, zI y8) :: T2, B2⟩ ?_ (he := by rw [show (y10.length : Int) = ((List.map encU8 y10).length : Int) from by rw [List.length_map]]; kernel_rfl)
   rcases dich (decide (y8 < (y10.length : Int))) with hb19 | hb19
   · replace h := cond_t hb19 h
     refine ct hb19 ?_
     refine runs_skip ?_
     refine runs_seq ?_
     refine runs_block ?_
     refine sqr cv hn ?_
     refine ro 0 4 4 ⟨(15, .sc (.int .u8 (wk .u8 y9))) :: (14, zI y9) :: (13, zI y8) :: (12, .view 5000000 0 [] 0) :: (9, zB (decide (y8 < (y10.length : Int)))) :: (8, zI (y10.length : Int)) :: (7, .view 5000000 0 [] 0) :: (6, zI y8) :: T2, B2⟩ ?_
     obtain ⟨x20, hx21, h⟩ := bindO h
     refine rix 4 encU8 5 hx21 (ix_nn hx21) ⟨(16, .ep 5000000 0 [(0, (Int.toNat y8))] 0) :: (15, .sc (.int .u8 (wk .u8 y9))) :: (14, zI y9) :: (13, zI y8) :: (12, .view 5000000 0 [] 0) :: (9, zB (decide (y8 < (y10.length : Int)))) :: (8, zI (y10.length : Int)) :: (7, .view 5000000 0 [] 0) :: (6, zI y8) :: T2, B2⟩ ?_
     refine ra 5 (.sc (.int .u8 x20) : X) (.sl 2 (List.map encU8 (List.set y10 (Int.toNat y8) (wk .u8 y9))) : X) ⟨(16, .ep 5000000 0 [(0, (Int.toNat y8))] 0) :: (15, .sc (.int .u8 (wk .u8 y9))) :: (14, zI y9) :: (13, zI y8) :: (12, .view 5000000 0 [] 0) :: (9, zB (decide (y8 < (y10.length : Int)))) :: (8, zI (y10.length : Int)) :: (7, .view 5000000 0 [] 0) :: (6, zI y8) :: T2, (5000000, ⟨0, 0, false, some (.sl 2 (List.map encU8 (List.set y10 (Int.toNat y8) (wk .u8 y9))))⟩) :: B2⟩ [X.nav (.sl 2 (List.map encU8 y10) : X) [(0, (Int.toNat y8))] = some (.sc (.int .u8 x20) : X), X.upd false (.sl 2 (List.map encU8 y10) : X) [(0, (Int.toNat y8))] (X.puts · 0 [.sc (.int .u8 (wk .u8 y9))]) = (.sl 2 (List.map encU8 (List.set y10 (Int.toNat y8) (wk .u8 y9))) : X)] ⟨nav_one (f := encU8) (t := 1) (by kernel_rfl) hx21, Eq.trans (upd_one (f := encU8) (v := wk .u8 y9) (t := 1) (by kernel_rfl) hx21 (by kernel_rfl)) (by kernel_rfl), trivial⟩ ?_
     refine re0 6 ?_
     refine rg cv hn ?_
     refine ro9 0 3 3 ⟨(1, zI (w64 (y9 + 1))) :: (18, zI (w64 (y9 + 1))) :: (17, zI y9) :: (16, .ep 5000000 0 [(0, (Int.toNat y8))] 0) :: (15, .sc (.int .u8 (wk .u8 y9))) :: (14, zI y9) :: (13, zI y8) :: (12, .view 5000000 0 [] 0) :: (9, zB (decide (y8 < (y10.length : Int)))) :: (8, zI (y10.length : Int)) :: (7, .view 5000000 0 [] 0) :: (6, zI y8) :: T2, (5000000, ⟨0, 0, false, some (.sl 2 (List.map encU8 (List.set y10 (Int.toNat y8) (wk .u8 y9))))⟩) :: B2⟩ ?_
     refine rg cv hn ?_
     refine ro9 0 3 3 ⟨(5, zI (w64 (y8 + 1))) :: (11, zI (w64 (y8 + 1))) :: (10, zI y8) :: (1, zI (w64 (y9 + 1))) :: (18, zI (w64 (y9 + 1))) :: (17, zI y9) :: (16, .ep 5000000 0 [(0, (Int.toNat y8))] 0) :: (15, .sc (.int .u8 (wk .u8 y9))) :: (14, zI y9) :: (13, zI y8) :: (12, .view 5000000 0 [] 0) :: (9, zB (decide (y8 < (y10.length : Int)))) :: (8, zI (y10.length : Int)) :: (7, .view 5000000 0 [] 0) :: (6, zI y8) :: T2, (5000000, ⟨0, 0, false, some (.sl 2 (List.map encU8 (List.set y10 (Int.toNat y8) (wk .u8 y9))))⟩) :: B2⟩ ?_
     exact ⟨(n1, w64 (y8 + 1), w64 (y9 + 1), List.set y10 (Int.toNat y8) (wk .u8 y9)), Nat.lt_succ_self _, h, wre [5, 0, 1] [(5000000, 5000000, false)]⟩
   · replace h := cond_f hb19 h
     refine cf hb19 ?_
     refine runs_exit ?_
     repeat refine thenX_exit ?_
     refine block_here ?_
     let B3 : List (Nat × Bx) := [(5000000, ⟨0, 0, false, some (.sl 2 (List.map encU8 y10))⟩)]
     refine wkr [1] [(5000000, 5000000, false)] ⟨[(1, zI y9)], B3⟩ ?_
     refine sqr cv hn ?_
     refine ro9 0 2 2 ⟨[(4, zI y9), (19, zI y9), (1, zI y9)], B3⟩ ?_
     refine runs_ret ?_
     exact fin _ _ h (by kernel_rfl)

set_option maxRecDepth 100000 in
set_option maxHeartbeats 2000000 in
theorem laws_heldByteS_spec (a0 : (List Int)) (a1 : Int) (v0 : Int) (h : laws_heldByteS a0 a1 = some v0) : Ax.Spec Try.prog 47 none [.sl 0 (List.map encU8 a0), zI a1] (zI v0 : X) (.junk : X) := by
 let T1 : List (Nat × X) := [(0, .sl 0 (List.map encU8 a0)), (1, zI a1)]
 refine walk0 (fn := Try.f47) (fun q0 : Int => (zI q0 : X)) (fun q0 : Int => (.junk : X)) v0 ⟨T1, []⟩ Try.func47 rfl (by decide +kernel) fun Γ hn fin => ?_
 rw [laws_heldByteS] at h
 refine sqr cv hn ?_
 refine ro9 0 1 1 ⟨(4, zI 0) :: T1, []⟩ ?_
 refine runs_seq ?_
 refine sqr cv hn ?_
 refine ro9 0 1 1 ⟨(5, zI 0) :: (4, zI 0) :: T1, []⟩ ?_
 refine runs_block ?_
 refine runs_loopM (σ := List Int × Nat × Int) (fun s => ⟨[(5, zI (s.2.1 : Int)), (0, .sl 0 (List.map encU8 a0)), (1, zI s.2.2)], []⟩) (fun s => s.1 = List.drop s.2.1 a0 ∧ laws_heldByteS_l1 s.1 s.2.1 s.2.2 = some v0) (fun s => s.1.length) (a0, 0, a1) ⟨rfl, h⟩ (wre [5, 0, 1] []) ?_
 rintro ⟨t1, i1, y9⟩ ⟨hd1, h⟩
 refine seq0 ⟨[(5, zI (i1 : Int)), (0, .sl 0 (List.map encU8 a0)), (1, zI y9)], []⟩ ?_
 refine runs_len 0 (es := List.map encU8 a0) (by kernel_rfl) fun hl1 => ?_
 replace hl1 := len_of_map hl1
 cases t1 with
 | nil =>
   rw [laws_heldByteS_l1] at h
   have hLn1 := dnil hd1
   refine runs_seq ?_
   refine sqr cv hn ?_
   refine ro9 0 4 4 ⟨[(9, zB (decide ((i1 : Int) < (a0.length : Int)))), (8, zI (a0.length : Int)), (7, .sl 0 (List.map encU8 a0)), (6, zI (i1 : Int)), (5, zI (i1 : Int)), (0, .sl 0 (List.map encU8 a0)), (1, zI y9)], []⟩ ?_ (he := by rw [show (a0.length : Int) = ((List.map encU8 a0).length : Int) from by rw [List.length_map]]; kernel_rfl)
   refine cf hLn1 ?_
   refine runs_exit ?_
   repeat refine thenX_exit ?_
   refine block_here ?_
   refine wkr [1] [] ⟨[(1, zI y9)], []⟩ ?_
   refine sqr cv hn ?_
   refine ro9 0 2 2 ⟨[(4, zI y9), (21, zI y9), (1, zI y9)], []⟩ ?_
   refine runs_ret ?_
   exact fin _ _ h (by kernel_rfl)
 | cons x10 t1 =>
   rw [laws_heldByteS_l1] at h
   have hLc1 := dcons hd1
   have hx10 := dget hd1
   have hi1 := dinc hd1 hl1
   refine runs_seq ?_
   refine sqr cv hn ?_
   refine ro9 0 4 4 ⟨[(9, zB (decide ((i1 : Int) < (a0.length : Int)))), (8, zI (a0.length : Int)), (7, .sl 0 (List.map encU8 a0)), (6, zI (i1 : Int)), (5, zI (i1 : Int)), (0, .sl 0 (List.map encU8 a0)), (1, zI y9)], []⟩ ?_ (he := by rw [show (a0.length : Int) = ((List.map encU8 a0).length : Int) from by rw [List.length_map]]; kernel_rfl)
   refine ct hLc1 ?_
   refine runs_skip ?_
   refine runs_seq ?_
   refine runs_block ?_
   refine runs_seq ?_
   refine sqr cv hn ?_
   refine ro 0 2 2 ⟨[(13, zI (i1 : Int)), (12, .sl 0 (List.map encU8 a0)), (9, zB (decide ((i1 : Int) < (a0.length : Int)))), (8, zI (a0.length : Int)), (7, .sl 0 (List.map encU8 a0)), (6, zI (i1 : Int)), (5, zI (i1 : Int)), (0, .sl 0 (List.map encU8 a0)), (1, zI y9)], []⟩ ?_
   refine rix 2 encU8 5 hx10 (ix_nn hx10) ⟨[(14, .rp (.sc (.int .u8 x10)) 0), (13, zI (i1 : Int)), (12, .sl 0 (List.map encU8 a0)), (9, zB (decide ((i1 : Int) < (a0.length : Int)))), (8, zI (a0.length : Int)), (7, .sl 0 (List.map encU8 a0)), (6, zI (i1 : Int)), (5, zI (i1 : Int)), (0, .sl 0 (List.map encU8 a0)), (1, zI y9)], []⟩ ?_
   refine ro9 3 4 4 ⟨[(18, zB (x10 != (wk .u8 y9))), (17, .sc (.int .u8 (wk .u8 y9))), (16, zI y9), (15, .sc (.int .u8 x10)), (14, .rp (.sc (.int .u8 x10)) 0), (13, zI (i1 : Int)), (12, .sl 0 (List.map encU8 a0)), (9, zB (decide ((i1 : Int) < (a0.length : Int)))), (8, zI (a0.length : Int)), (7, .sl 0 (List.map encU8 a0)), (6, zI (i1 : Int)), (5, zI (i1 : Int)), (0, .sl 0 (List.map encU8 a0)), (1, zI y9)], []⟩ ?_
   rcases dich (x10 != (wk .u8 y9)) with hb17 | hb17
   · replace h := cond_t hb17 h
     refine ct hb17 ?_
     refine sqr cv hn ?_
     refine ro9 0 1 1 ⟨[(4, zI (-1)), (18, zB (x10 != (wk .u8 y9))), (17, .sc (.int .u8 (wk .u8 y9))), (16, zI y9), (15, .sc (.int .u8 x10)), (14, .rp (.sc (.int .u8 x10)) 0), (13, zI (i1 : Int)), (12, .sl 0 (List.map encU8 a0)), (9, zB (decide ((i1 : Int) < (a0.length : Int)))), (8, zI (a0.length : Int)), (7, .sl 0 (List.map encU8 a0)), (6, zI (i1 : Int)), (5, zI (i1 : Int)), (0, .sl 0 (List.map encU8 a0)), (1, zI y9)], []⟩ ?_
     refine runs_ret ?_
     exact fin _ _ h (by kernel_rfl)
   · replace h := cond_f hb17 h
     refine cf hb17 ?_
     refine runs_skip ?_
     refine rg cv hn ?_
     refine ro9 0 3 3 ⟨[(1, zI (w64 (y9 + 1))), (20, zI (w64 (y9 + 1))), (19, zI y9), (18, zB (x10 != (wk .u8 y9))), (17, .sc (.int .u8 (wk .u8 y9))), (16, zI y9), (15, .sc (.int .u8 x10)), (14, .rp (.sc (.int .u8 x10)) 0), (13, zI (i1 : Int)), (12, .sl 0 (List.map encU8 a0)), (9, zB (decide ((i1 : Int) < (a0.length : Int)))), (8, zI (a0.length : Int)), (7, .sl 0 (List.map encU8 a0)), (6, zI (i1 : Int)), (5, zI (i1 : Int)), (0, .sl 0 (List.map encU8 a0)), (1, zI y9)], []⟩ ?_
     refine rg cv hn ?_
     refine ro9 0 3 3 ⟨[(5, zI ((i1 + 1 : Nat) : Int)), (11, zI ((i1 + 1 : Nat) : Int)), (10, zI (i1 : Int)), (1, zI (w64 (y9 + 1))), (20, zI (w64 (y9 + 1))), (19, zI y9), (18, zB (x10 != (wk .u8 y9))), (17, .sc (.int .u8 (wk .u8 y9))), (16, zI y9), (15, .sc (.int .u8 x10)), (14, .rp (.sc (.int .u8 x10)) 0), (13, zI (i1 : Int)), (12, .sl 0 (List.map encU8 a0)), (9, zB (decide ((i1 : Int) < (a0.length : Int)))), (8, zI (a0.length : Int)), (7, .sl 0 (List.map encU8 a0)), (6, zI (i1 : Int)), (5, zI (i1 : Int)), (0, .sl 0 (List.map encU8 a0)), (1, zI y9)], []⟩ ?_ (he := by rw [← hi1]; kernel_rfl)
     exact ⟨(t1, i1 + 1, w64 (y9 + 1)), Nat.lt_succ_self _, ⟨dnext hd1, h⟩, wre [5, 0, 1] []⟩

set_option maxRecDepth 100000 in
set_option maxHeartbeats 2000000 in
theorem laws_FnExactRecBytes_spec (a0 : SRec) (v0 : Bool) (h : laws_FnExactRecBytes a0 = some v0) : Ax.Spec Try.prog 8 none [encRec a0] (zB v0 : X) (.junk : X) := by
 refine walk0 (fn := Try.f8) (fun q0 : Bool => (zB q0 : X)) (fun q0 : Bool => (.junk : X)) v0 ⟨[(0, encRec a0)], []⟩ Try.func8 rfl (by decide +kernel) fun Γ hn fin => ?_
 rw [laws_FnExactRecBytes] at h
 refine sqr cv hn ?_
 refine ro9 0 2 2 ⟨[(2, zB false), (1, .ptr 1 1 0), (0, encRec a0)], [(1, ⟨1, 1, true, some (encRec a0)⟩)]⟩ ?_
 refine sqr cv hn ?_
 refine ro 0 1 1 ⟨[(12, encRec a0), (2, zB false), (1, .ptr 1 1 0), (0, encRec a0)], [(1, ⟨1, 1, true, some (encRec a0)⟩)]⟩ ?_
 obtain ⟨v5, hv6, h⟩ := bindO h
 refine rc 1 ⟨[(13, encRec v5), (12, encRec a0), (2, zB false), (1, .ptr 1 1 0), (0, encRec a0)], [(1, ⟨1, 1, true, some (encRec a0)⟩)]⟩ (laws_toRec_spec a0 v5 hv6) ?_
 obtain ⟨v7, hv8, h⟩ := bindO h
 refine rc 2 ⟨[(14, .tup [.view 14 1 [] 0, zB v7.2]), (13, encRec v5), (12, encRec a0), (2, zB false), (1, .ptr 1 1 0), (0, encRec a0)], [(14, ⟨1, 1, false, some (.sl 1 (List.map encU8 v7.1))⟩), (1, ⟨1, 1, true, some (encRec a0)⟩)]⟩ (spec_RecBytes_spec v5 v7 hv8) ?_
 refine ro9 3 5 5 ⟨[(4, zB v7.2), (3, .view 14 1 [] 0), (16, zB v7.2), (15, .view 14 1 [] 0), (11, .tup [.view 14 1 [] 0, zB v7.2]), (14, .tup [.view 14 1 [] 0, zB v7.2]), (13, encRec v5), (12, encRec a0), (2, zB false), (1, .ptr 1 1 0), (0, encRec a0)], [(14, ⟨1, 1, false, some (.sl 1 (List.map encU8 v7.1))⟩), (1, ⟨1, 1, true, some (encRec a0)⟩)]⟩ ?_
 let T3 : List (Nat × X) := [(4, zB v7.2), (3, .view 5000003 0 [] 0), (1, .ptr 1 0 0)]
 let B3 : List (Nat × Bx) := [(5000003, ⟨0, 0, false, some (.sl 1 (List.map encU8 v7.1))⟩), (1, ⟨0, 0, true, some (encRec a0)⟩)]
 refine wkr [4, 3, 1] [(5000003, 14, false), (1, 1, false)] ⟨T3, B3⟩ ?_
 refine sqr cv hn ?_
 refine ro 0 1 1 ⟨(18, encRec a0) :: T3, B3⟩ ?_
 obtain ⟨v13, hv14, h⟩ := bindO h
 refine rc 1 ⟨(19, encRec v13) :: (18, encRec a0) :: T3, B3⟩ (laws_toRec_spec a0 v13 hv14) ?_
 obtain ⟨v15, hv16, h⟩ := bindO h
 refine rc 2 ⟨(20, .tup [.view 20 1 [] 0, zB v15.2]) :: (19, encRec v13) :: (18, encRec a0) :: T3, (20, ⟨1, 1, false, some (.sl 1 (List.map encU8 v15.1))⟩) :: B3⟩ (impl_RecBytes_spec v13 v15 hv16) ?_
 refine ro9 3 5 5 ⟨(6, zB v15.2) :: (5, .view 20 1 [] 0) :: (22, zB v15.2) :: (21, .view 20 1 [] 0) :: (17, .tup [.view 20 1 [] 0, zB v15.2]) :: (20, .tup [.view 20 1 [] 0, zB v15.2]) :: (19, encRec v13) :: (18, encRec a0) :: T3, (20, ⟨1, 1, false, some (.sl 1 (List.map encU8 v15.1))⟩) :: B3⟩ ?_
 refine runs_seq ?_
 let T7 : List (Nat × X) := [(6, zB v15.2), (5, .view 5000005 0 [] 0), (4, zB v7.2), (3, .view 5000003 0 [] 0), (1, .ptr 1 0 0)]
 let B7 : List (Nat × Bx) := [(5000005, ⟨0, 0, false, some (.sl 1 (List.map encU8 v15.1))⟩), (5000003, ⟨0, 0, false, some (.sl 1 (List.map encU8 v7.1))⟩), (1, ⟨0, 0, true, some (encRec a0)⟩)]
 refine wkr [6, 5, 4, 3, 1] [(5000005, 20, false), (5000003, 5000003, false), (1, 1, false)] ⟨T7, B7⟩ ?_
 refine sqr cv hn ?_
 refine ro 0 2 2 ⟨(24, .view 5000003 0 [] 0) :: (23, .view 5000005 0 [] 0) :: T7, B7⟩ ?_
 obtain ⟨v21, hv22, h⟩ := bindO h
 refine rcH 2 [List.map encU8 v15.1, List.map encU8 v7.1] ⟨(25, zB v21) :: (24, .view 5000003 0 [] 0) :: (23, .view 5000005 0 [] 0) :: T7, B7⟩ [X.rds (List.map encU8 v15.1) = true, X.roifys (List.map encU8 v15.1) = List.map encU8 v15.1, X.rds (List.map encU8 v7.1) = true, X.roifys (List.map encU8 v7.1) = List.map encU8 v7.1, rootsBut (cv 45) 0 [.view 5000005 0 [] 0, .view 5000003 0 [] 0] = false ∨ (X.noRo (zB v21 : X) = true ∧ X.noRo (.junk : X) = true)] (laws_eqByteS_spec v15.1 v7.1 v21 hv22) ⟨rds_map rde_U8 _, ro_map ro_U8 _, rds_map rde_U8 _, ro_map ro_U8 _, .inr ⟨rfl, rfl⟩, trivial⟩ ?_
 refine ro 3 2 2 ⟨(27, zB (!v21)) :: (26, zB (!v21)) :: (25, zB v21) :: (24, .view 5000003 0 [] 0) :: (23, .view 5000005 0 [] 0) :: T7, B7⟩ ?_
 rcases dich (!v21) with hb23 | hb23
 · replace h := cond_t hb23 h
   refine rl 27 true hb23 ?_
   refine ro9 5 4 1 ⟨(31, zB true) :: (30, .tup []) :: (29, .tup []) :: (28, .tup []) :: (27, zB true) :: (26, zB (!v21)) :: (25, zB v21) :: (24, .view 5000003 0 [] 0) :: (23, .view 5000005 0 [] 0) :: T7, B7⟩ ?_
   refine cT ?_
   let T8 : List (Nat × X) := [(5, .view 5000005 0 [] 0), (4, zB v7.2), (3, .view 5000003 0 [] 0), (1, .ptr 1 0 0)]
   let B8 : List (Nat × Bx) := [(5000005, ⟨0, 0, false, some (.sl 1 (List.map encU8 v15.1))⟩), (5000003, ⟨0, 0, false, some (.sl 1 (List.map encU8 v7.1))⟩), (1, ⟨0, 0, true, some (encRec a0)⟩)]
   refine wkr [5, 4, 3, 1] [(5000005, 5000005, false), (5000003, 5000003, false), (1, 1, false)] ⟨T8, B8⟩ ?_
   refine sqr cv hn ?_
   refine ro9 0 1 1 ⟨(2, zB false) :: T8, B8⟩ ?_
   refine runs_ret ?_
   exact fin _ _ h (by kernel_rfl)
 · replace h := cond_f hb23 h
   refine rl 27 false hb23 ?_
   refine ro9 5 4 4 ⟨(31, zB (v15.2 != v7.2)) :: (30, zB (v15.2 != v7.2)) :: (29, zB v7.2) :: (28, zB v15.2) :: (27, zB false) :: (26, zB (!v21)) :: (25, zB v21) :: (24, .view 5000003 0 [] 0) :: (23, .view 5000005 0 [] 0) :: T7, B7⟩ ?_
   rcases dich (v15.2 != v7.2) with hb24 | hb24
   · replace h := cond_t hb24 h
     refine ct hb24 ?_
     let T9 : List (Nat × X) := [(5, .view 5000005 0 [] 0), (4, zB v7.2), (3, .view 5000003 0 [] 0), (1, .ptr 1 0 0)]
     let B9 : List (Nat × Bx) := [(5000005, ⟨0, 0, false, some (.sl 1 (List.map encU8 v15.1))⟩), (5000003, ⟨0, 0, false, some (.sl 1 (List.map encU8 v7.1))⟩), (1, ⟨0, 0, true, some (encRec a0)⟩)]
     refine wkr [5, 4, 3, 1] [(5000005, 5000005, false), (5000003, 5000003, false), (1, 1, false)] ⟨T9, B9⟩ ?_
     refine sqr cv hn ?_
     refine ro9 0 1 1 ⟨(2, zB false) :: T9, B9⟩ ?_
     refine runs_ret ?_
     exact fin _ _ h (by kernel_rfl)
   · replace h := cond_f hb24 h
     refine cf hb24 ?_
     refine runs_skip ?_
     let T11 : List (Nat × X) := [(5, .view 5000005 0 [] 0), (4, zB v7.2), (3, .view 5000003 0 [] 0), (1, .ptr 1 0 0)]
     let B11 : List (Nat × Bx) := [(5000005, ⟨0, 0, false, some (.sl 1 (List.map encU8 v15.1))⟩), (5000003, ⟨0, 0, false, some (.sl 1 (List.map encU8 v7.1))⟩), (1, ⟨0, 0, true, some (encRec a0)⟩)]
     refine wkr [5, 4, 3, 1] [(5000005, 5000005, false), (5000003, 5000003, false), (1, 1, false)] ⟨T11, B11⟩ ?_
     refine sqr cv hn ?_
     refine ro9 0 1 1 ⟨(7, zI 1) :: T11, B11⟩ ?_
     refine sqr cv hn ?_
     refine ro 0 2 2 ⟨(33, zI 1) :: (32, .view 5000005 0 [] 0) :: (7, zI 1) :: T11, B11⟩ ?_
     obtain ⟨v27, hv28, h⟩ := bindO h
     refine rc 2 ⟨(34, zI v27.1) :: (33, zI 1) :: (32, .view 5000005 0 [] 0) :: (7, zI 1) :: T11, (5000005, ⟨0, 0, false, some (.sl 1 (List.map encU8 v27.2))⟩) :: B11⟩ (laws_markByteS_spec v15.1 1 v27 hv28) ?_
     refine ro9 3 1 1 ⟨(7, zI v27.1) :: (34, zI v27.1) :: (33, zI 1) :: (32, .view 5000005 0 [] 0) :: (7, zI 1) :: T11, (5000005, ⟨0, 0, false, some (.sl 1 (List.map encU8 v27.2))⟩) :: B11⟩ ?_
     refine sqr cv hn ?_
     refine ro9 0 1 1 ⟨(8, zI 1) :: (7, zI v27.1) :: (34, zI v27.1) :: (33, zI 1) :: (32, .view 5000005 0 [] 0) :: (7, zI 1) :: T11, (5000005, ⟨0, 0, false, some (.sl 1 (List.map encU8 v27.2))⟩) :: B11⟩ ?_
     refine sqr cv hn ?_
     refine ro 0 2 2 ⟨(36, zI 1) :: (35, .view 5000005 0 [] 0) :: (8, zI 1) :: (7, zI v27.1) :: (34, zI v27.1) :: (33, zI 1) :: (32, .view 5000005 0 [] 0) :: (7, zI 1) :: T11, (5000005, ⟨0, 0, false, some (.sl 1 (List.map encU8 v27.2))⟩) :: B11⟩ ?_
     obtain ⟨v31, hv32, h⟩ := bindO h
     refine rcH 2 [List.map encU8 v27.2] ⟨(37, zI v31) :: (36, zI 1) :: (35, .view 5000005 0 [] 0) :: (8, zI 1) :: (7, zI v27.1) :: (34, zI v27.1) :: (33, zI 1) :: (32, .view 5000005 0 [] 0) :: (7, zI 1) :: T11, (5000005, ⟨0, 0, false, some (.sl 1 (List.map encU8 v27.2))⟩) :: B11⟩ [X.rds (List.map encU8 v27.2) = true, X.roifys (List.map encU8 v27.2) = List.map encU8 v27.2, rootsBut (cv 47) 0 [.view 5000005 0 [] 0, zI 1] = false ∨ (X.noRo (zI v31 : X) = true ∧ X.noRo (.junk : X) = true)] (laws_heldByteS_spec v27.2 1 v31 hv32) ⟨rds_map rde_U8 _, ro_map ro_U8 _, .inr ⟨rfl, rfl⟩, trivial⟩ ?_
     refine ro9 3 1 1 ⟨(8, zI v31) :: (37, zI v31) :: (36, zI 1) :: (35, .view 5000005 0 [] 0) :: (8, zI 1) :: (7, zI v27.1) :: (34, zI v27.1) :: (33, zI 1) :: (32, .view 5000005 0 [] 0) :: (7, zI 1) :: T11, (5000005, ⟨0, 0, false, some (.sl 1 (List.map encU8 v27.2))⟩) :: B11⟩ ?_
     refine runs_seq ?_
     let T13 : List (Nat × X) := [(8, zI v31), (7, zI v27.1), (5, .view 5000005 0 [] 0), (4, zB v7.2), (3, .view 5000003 0 [] 0), (1, .ptr 1 0 0)]
     let B13 : List (Nat × Bx) := [(5000005, ⟨0, 0, false, some (.sl 1 (List.map encU8 v27.2))⟩), (5000003, ⟨0, 0, false, some (.sl 1 (List.map encU8 v7.1))⟩), (1, ⟨0, 0, true, some (encRec a0)⟩)]
     refine wkr [8, 7, 5, 4, 3, 1] [(5000005, 5000005, false), (5000003, 5000003, false), (1, 1, false)] ⟨T13, B13⟩ ?_
     refine sqr cv hn ?_
     refine ro9 0 2 2 ⟨(39, zB (decide (v31 < 0))) :: (38, zI v31) :: T13, B13⟩ ?_
     rcases dich (decide (v31 < 0)) with hb34 | hb34
     · replace h := cond_t hb34 h
       refine ct hb34 ?_
       refine sqr cv hn ?_
       refine ro9 0 1 1 ⟨(2, zB false) :: (39, zB (decide (v31 < 0))) :: (38, zI v31) :: T13, B13⟩ ?_
       refine runs_ret ?_
       exact fin _ _ h (by kernel_rfl)
     · replace h := cond_f hb34 h
       refine cf hb34 ?_
       refine runs_skip ?_
       refine runs_seq ?_
       refine sqr cv hn ?_
       refine ro9 0 3 3 ⟨(42, zB (v31 != v27.1)) :: (41, zI v27.1) :: (40, zI v31) :: (39, zB (decide (v31 < 0))) :: (38, zI v31) :: T13, B13⟩ ?_
       rcases dich (v31 != v27.1) with hb36 | hb36
       · replace h := cond_t hb36 h
         refine ct hb36 ?_
         let T15 : List (Nat × X) := [(8, zI v31), (7, zI v27.1), (5, .view 5000005 0 [] 0), (4, zB v7.2), (3, .view 5000003 0 [] 0), (1, .ptr 1 0 0)]
         let B15 : List (Nat × Bx) := [(5000005, ⟨0, 0, false, some (.sl 1 (List.map encU8 v27.2))⟩), (5000003, ⟨0, 0, false, some (.sl 1 (List.map encU8 v7.1))⟩), (1, ⟨0, 0, true, some (encRec a0)⟩)]
         refine wkr [8, 7, 5, 4, 3, 1] [(5000005, 5000005, false), (5000003, 5000003, false), (1, 1, false)] ⟨T15, B15⟩ ?_
         refine sqr cv hn ?_
         refine ro9 0 1 1 ⟨(2, zB false) :: T15, B15⟩ ?_
         refine runs_ret ?_
         exact fin _ _ h (by kernel_rfl)
       · replace h := cond_f hb36 h
         refine cf hb36 ?_
         refine runs_skip ?_
         let T17 : List (Nat × X) := [(8, zI v31), (7, zI v27.1), (5, .view 5000005 0 [] 0), (4, zB v7.2), (3, .view 5000003 0 [] 0), (1, .ptr 1 0 0)]
         let B17 : List (Nat × Bx) := [(5000005, ⟨0, 0, false, some (.sl 1 (List.map encU8 v27.2))⟩), (5000003, ⟨0, 0, false, some (.sl 1 (List.map encU8 v7.1))⟩), (1, ⟨0, 0, true, some (encRec a0)⟩)]
         refine wkr [8, 7, 5, 4, 3, 1] [(5000005, 5000005, false), (5000003, 5000003, false), (1, 1, false)] ⟨T17, B17⟩ ?_
         refine sqr cv hn ?_
         refine ro 0 1 1 ⟨(44, encRec a0) :: T17, B17⟩ ?_
         obtain ⟨v41, hv42, h⟩ := bindO h
         refine rc 1 ⟨(45, encRec v41) :: (44, encRec a0) :: T17, B17⟩ (laws_toRec_spec a0 v41 hv42) ?_
         obtain ⟨v43, hv44, h⟩ := bindO h
         refine rc 2 ⟨(46, .tup [.view 46 1 [] 0, zB v43.2]) :: (45, encRec v41) :: (44, encRec a0) :: T17, (46, ⟨1, 1, false, some (.sl 1 (List.map encU8 v43.1))⟩) :: B17⟩ (impl_RecBytes_spec v41 v43 hv44) ?_
         refine ro9 3 5 5 ⟨(10, zB v43.2) :: (9, .view 46 1 [] 0) :: (48, zB v43.2) :: (47, .view 46 1 [] 0) :: (43, .tup [.view 46 1 [] 0, zB v43.2]) :: (46, .tup [.view 46 1 [] 0, zB v43.2]) :: (45, encRec v41) :: (44, encRec a0) :: T17, (46, ⟨1, 1, false, some (.sl 1 (List.map encU8 v43.1))⟩) :: B17⟩ ?_
         refine runs_seq ?_
         let T21 : List (Nat × X) := [(10, zB v43.2), (9, .view 5000009 0 [] 0), (8, zI v31), (7, zI v27.1), (5, .view 5000005 0 [] 0), (4, zB v7.2), (3, .view 5000003 0 [] 0)]
         let B21 : List (Nat × Bx) := [(5000009, ⟨0, 0, false, some (.sl 1 (List.map encU8 v43.1))⟩), (5000005, ⟨0, 0, false, some (.sl 1 (List.map encU8 v27.2))⟩), (5000003, ⟨0, 0, false, some (.sl 1 (List.map encU8 v7.1))⟩)]
         refine wkr [10, 9, 8, 7, 5, 4, 3] [(5000009, 46, false), (5000005, 5000005, false), (5000003, 5000003, false)] ⟨T21, B21⟩ ?_
         refine sqr cv hn ?_
         refine ro 0 2 2 ⟨(50, .view 5000003 0 [] 0) :: (49, .view 5000009 0 [] 0) :: T21, B21⟩ ?_
         obtain ⟨v49, hv50, h⟩ := bindO h
         refine rcH 2 [List.map encU8 v43.1, List.map encU8 v7.1] ⟨(51, zB v49) :: (50, .view 5000003 0 [] 0) :: (49, .view 5000009 0 [] 0) :: T21, B21⟩ [X.rds (List.map encU8 v43.1) = true, X.roifys (List.map encU8 v43.1) = List.map encU8 v43.1, X.rds (List.map encU8 v7.1) = true, X.roifys (List.map encU8 v7.1) = List.map encU8 v7.1, rootsBut (cv 45) 0 [.view 5000009 0 [] 0, .view 5000003 0 [] 0] = false ∨ (X.noRo (zB v49 : X) = true ∧ X.noRo (.junk : X) = true)] (laws_eqByteS_spec v43.1 v7.1 v49 hv50) ⟨rds_map rde_U8 _, ro_map ro_U8 _, rds_map rde_U8 _, ro_map ro_U8 _, .inr ⟨rfl, rfl⟩, trivial⟩ ?_
         refine ro 3 2 2 ⟨(53, zB (!v49)) :: (52, zB (!v49)) :: (51, zB v49) :: (50, .view 5000003 0 [] 0) :: (49, .view 5000009 0 [] 0) :: T21, B21⟩ ?_
         rcases dich (!v49) with hb51 | hb51
         · replace h := cond_t hb51 h
           refine rl 53 true hb51 ?_
           refine ro9 5 4 1 ⟨(57, zB true) :: (56, .tup []) :: (55, .tup []) :: (54, .tup []) :: (53, zB true) :: (52, zB (!v49)) :: (51, zB v49) :: (50, .view 5000003 0 [] 0) :: (49, .view 5000009 0 [] 0) :: T21, B21⟩ ?_
           refine cT ?_
           let T22 : List (Nat × X) := [(8, zI v31), (7, zI v27.1), (5, .view 5000005 0 [] 0)]
           let B22 : List (Nat × Bx) := [(5000005, ⟨0, 0, false, some (.sl 1 (List.map encU8 v27.2))⟩)]
           refine wkr [8, 7, 5] [(5000005, 5000005, false)] ⟨T22, B22⟩ ?_
           refine sqr cv hn ?_
           refine ro9 0 1 1 ⟨(2, zB false) :: T22, B22⟩ ?_
           refine runs_ret ?_
           exact fin _ _ h (by kernel_rfl)
         · replace h := cond_f hb51 h
           refine rl 53 false hb51 ?_
           refine ro9 5 4 4 ⟨(57, zB (v43.2 != v7.2)) :: (56, zB (v43.2 != v7.2)) :: (55, zB v7.2) :: (54, zB v43.2) :: (53, zB false) :: (52, zB (!v49)) :: (51, zB v49) :: (50, .view 5000003 0 [] 0) :: (49, .view 5000009 0 [] 0) :: T21, B21⟩ ?_
           rcases dich (v43.2 != v7.2) with hb52 | hb52
           · replace h := cond_t hb52 h
             refine ct hb52 ?_
             let T23 : List (Nat × X) := [(8, zI v31), (7, zI v27.1), (5, .view 5000005 0 [] 0)]
             let B23 : List (Nat × Bx) := [(5000005, ⟨0, 0, false, some (.sl 1 (List.map encU8 v27.2))⟩)]
             refine wkr [8, 7, 5] [(5000005, 5000005, false)] ⟨T23, B23⟩ ?_
             refine sqr cv hn ?_
             refine ro9 0 1 1 ⟨(2, zB false) :: T23, B23⟩ ?_
             refine runs_ret ?_
             exact fin _ _ h (by kernel_rfl)
           · replace h := cond_f hb52 h
             refine cf hb52 ?_
             refine runs_skip ?_
             let T25 : List (Nat × X) := [(8, zI v31), (7, zI v27.1), (5, .view 5000005 0 [] 0)]
             let B25 : List (Nat × Bx) := [(5000005, ⟨0, 0, false, some (.sl 1 (List.map encU8 v27.2))⟩)]
             refine wkr [8, 7, 5] [(5000005, 5000005, false)] ⟨T25, B25⟩ ?_
             refine sqr cv hn ?_
             refine ro9 0 1 1 ⟨(8, zI 1) :: T25, B25⟩ ?_
             refine sqr cv hn ?_
             refine ro 0 2 2 ⟨(59, zI 1) :: (58, .view 5000005 0 [] 0) :: (8, zI 1) :: T25, B25⟩ ?_
             obtain ⟨v55, hv56, h⟩ := bindO h
             refine rcH 2 [List.map encU8 v27.2] ⟨(60, zI v55) :: (59, zI 1) :: (58, .view 5000005 0 [] 0) :: (8, zI 1) :: T25, B25⟩ [X.rds (List.map encU8 v27.2) = true, X.roifys (List.map encU8 v27.2) = List.map encU8 v27.2, rootsBut (cv 47) 0 [.view 5000005 0 [] 0, zI 1] = false ∨ (X.noRo (zI v55 : X) = true ∧ X.noRo (.junk : X) = true)] (laws_heldByteS_spec v27.2 1 v55 hv56) ⟨rds_map rde_U8 _, ro_map ro_U8 _, .inr ⟨rfl, rfl⟩, trivial⟩ ?_
             refine ro9 3 1 1 ⟨(8, zI v55) :: (60, zI v55) :: (59, zI 1) :: (58, .view 5000005 0 [] 0) :: (8, zI 1) :: T25, B25⟩ ?_
             refine runs_seq ?_
             refine wkr [8, 7] [] ⟨[(8, zI v55), (7, zI v27.1)], []⟩ ?_
             refine sqr cv hn ?_
             refine ro9 0 2 2 ⟨[(62, zB (decide (v55 < 0))), (61, zI v55), (8, zI v55), (7, zI v27.1)], []⟩ ?_
             rcases dich (decide (v55 < 0)) with hb58 | hb58
             · replace h := cond_t hb58 h
               refine ct hb58 ?_
               refine sqr cv hn ?_
               refine ro9 0 1 1 ⟨[(2, zB false), (62, zB (decide (v55 < 0))), (61, zI v55), (8, zI v55), (7, zI v27.1)], []⟩ ?_
               refine runs_ret ?_
               exact fin _ _ h (by kernel_rfl)
             · replace h := cond_f hb58 h
               refine cf hb58 ?_
               refine runs_skip ?_
               refine runs_seq ?_
               refine sqr cv hn ?_
               refine ro9 0 3 3 ⟨[(65, zB (v55 != v27.1)), (64, zI v27.1), (63, zI v55), (62, zB (decide (v55 < 0))), (61, zI v55), (8, zI v55), (7, zI v27.1)], []⟩ ?_
               rcases dich (v55 != v27.1) with hb59 | hb59
               · replace h := cond_t hb59 h
                 refine ct hb59 ?_
                 refine wkr [] [] ⟨[], []⟩ ?_
                 refine sqr cv hn ?_
                 refine ro9 0 1 1 ⟨[(2, zB false)], []⟩ ?_
                 refine runs_ret ?_
                 exact fin _ _ h (by kernel_rfl)
               · replace h := cond_f hb59 h
                 refine cf hb59 ?_
                 refine runs_skip ?_
                 refine wkr [] [] ⟨[], []⟩ ?_
                 refine sqr cv hn ?_
                 refine ro9 0 1 1 ⟨[(2, zB true)], []⟩ ?_
                 refine runs_ret ?_
                 exact fin _ _ h (by kernel_rfl)

end Go.Proofs.Ytncjcbdbdocjaaa
