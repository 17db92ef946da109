/- The walks: each Go function answers what its plain function says. -/
import Derived.Test.YteolobihfindjaaUFnExactPacketOk
import Derived.Test.YteolobihfindjaaProg
set_option linter.unusedVariables false
namespace Go.Proofs.Yteolobihfindjaa
open Go Ax
abbrev cv : Nat → Option Nat := fun g => bif g == 77 then some 0 else bif g == 60 then some 0 else bif g == 98 then some 0 else bif g == 63 then some 0 else none
theorem mixed : Try.prog.follows .mixedOrders = true := by decide +kernel
theorem eqok53 : EqOK Try.prog 53 := eqok_of (by kernel_rfl) (by kernel_rfl)
theorem eqok55 : EqOK Try.prog 55 := eqok_of (by kernel_rfl) (by kernel_rfl)

set_option maxRecDepth 100000 in
set_option maxHeartbeats 2000000 in
theorem spec_l01In_spec (a0 : Int) (a1 : Int) (a2 : Int) (v0 : Bool) (h : spec_l01In a0 a1 a2 = some v0) : Ax.Spec Try.prog 70 none [zI a0, zI a1, zI a2] (zB v0 : X) (.junk : X) := by
 let T1 : List (Nat × X) := [(0, zI a0), (1, zI a1), (2, zI a2)]
 refine walk0 (fn := Try.f70) (fun q0 : Bool => (zB q0 : X)) (fun q0 : Bool => (.junk : X)) v0 ⟨T1, []⟩ Try.func70 rfl (by decide +kernel) fun Γ hn fin => ?_
 rw [spec_l01In] at h
 refine sqr cv hn ?_
 refine ro9 0 1 1 ⟨(6, zB false) :: T1, []⟩ ?_
 refine sqr cv hn ?_
 refine ro 0 4 4 ⟨(10, zB (decide (a0 ≥ a1))) :: (9, zB (decide (a0 ≥ a1))) :: (8, zI a1) :: (7, zI a0) :: (6, zB false) :: T1, []⟩ ?_
 rcases dich (decide (a0 ≥ a1)) with hb1 | hb1
 · replace h := cond_t hb1 h
   refine rl 10 true hb1 ?_
   refine ro9 4 5 5 ⟨(6, zB (decide (a0 ≤ a2))) :: (14, zB (decide (a0 ≤ a2))) :: (13, zB (decide (a0 ≤ a2))) :: (12, zI a2) :: (11, zI a0) :: (10, zB true) :: (9, zB (decide (a0 ≥ a1))) :: (8, zI a1) :: (7, zI a0) :: (6, zB false) :: T1, []⟩ ?_
   refine runs_ret ?_
   exact fin _ _ h (by kernel_rfl)
 · replace h := cond_f hb1 h
   refine rl 10 false hb1 ?_
   refine ro9 4 5 2 ⟨(6, zB false) :: (14, zB false) :: (13, .tup []) :: (12, .tup []) :: (11, .tup []) :: (10, zB false) :: (9, zB (decide (a0 ≥ a1))) :: (8, zI a1) :: (7, zI a0) :: (6, zB false) :: T1, []⟩ ?_
   refine runs_ret ?_
   exact fin _ _ h (by kernel_rfl)

set_option maxRecDepth 100000 in
set_option maxHeartbeats 2000000 in
theorem spec_l07Val_spec (a0 : Int) (v0 : Bool) (h : spec_l07Val a0 = some v0) : Ax.Spec Try.prog 71 none [zI a0] (zB v0 : X) (.junk : X) := by
 refine walk0 (fn := Try.f71) (fun q0 : Bool => (zB q0 : X)) (fun q0 : Bool => (.junk : X)) v0 ⟨[(0, zI a0)], []⟩ Try.func71 rfl (by decide +kernel) fun Γ hn fin => ?_
 rw [spec_l07Val] at h
 refine sqr cv hn ?_
 refine ro9 0 1 1 ⟨[(2, zB false), (0, zI a0)], []⟩ ?_
 refine sqr cv hn ?_
 refine ro 0 1 1 ⟨[(3, zI a0), (2, zB false), (0, zI a0)], []⟩ ?_
 obtain ⟨v1, hv2, h⟩ := bindO h
 refine rc 1 ⟨[(4, zB v1), (3, zI a0), (2, zB false), (0, zI a0)], []⟩ (spec_l01In_spec a0 1 4 v1 hv2) ?_
 refine ro9 2 1 1 ⟨[(2, zB v1), (4, zB v1), (3, zI a0), (2, zB false), (0, zI a0)], []⟩ ?_
 refine runs_ret ?_
 exact fin _ _ h (by kernel_rfl)

set_option maxRecDepth 100000 in
set_option maxHeartbeats 2000000 in
theorem spec_l07Node_spec (a0 : Int) (v0 : Bool) (h : spec_l07Node a0 = some v0) : Ax.Spec Try.prog 79 none [zI a0] (zB v0 : X) (.junk : X) := by
 refine walk0 (fn := Try.f79) (fun q0 : Bool => (zB q0 : X)) (fun q0 : Bool => (.junk : X)) v0 ⟨[(0, zI a0)], []⟩ Try.func79 rfl (by decide +kernel) fun Γ hn fin => ?_
 rw [spec_l07Node] at h
 refine sqr cv hn ?_
 refine ro9 0 1 1 ⟨[(2, zB false), (0, zI a0)], []⟩ ?_
 refine sqr cv hn ?_
 refine ro 0 1 1 ⟨[(3, zI a0), (2, zB false), (0, zI a0)], []⟩ ?_
 obtain ⟨v1, hv2, h⟩ := bindO h
 refine rc 1 ⟨[(4, zB v1), (3, zI a0), (2, zB false), (0, zI a0)], []⟩ (spec_l01In_spec a0 0 3 v1 hv2) ?_
 refine ro9 2 1 1 ⟨[(2, zB v1), (4, zB v1), (3, zI a0), (2, zB false), (0, zI a0)], []⟩ ?_
 refine runs_ret ?_
 exact fin _ _ h (by kernel_rfl)

set_option maxRecDepth 100000 in
set_option maxHeartbeats 2000000 in
theorem spec_l01Num_spec (a0 : Int) (v0 : Bool) (h : spec_l01Num a0 = some v0) : Ax.Spec Try.prog 80 none [zI a0] (zB v0 : X) (.junk : X) := by
 refine walk0 (fn := Try.f80) (fun q0 : Bool => (zB q0 : X)) (fun q0 : Bool => (.junk : X)) v0 ⟨[(0, zI a0)], []⟩ Try.func80 rfl (by decide +kernel) fun Γ hn fin => ?_
 rw [spec_l01Num] at h
 refine sqr cv hn ?_
 refine ro9 0 1 1 ⟨[(2, zB false), (0, zI a0)], []⟩ ?_
 refine sqr cv hn ?_
 refine ro 0 1 1 ⟨[(3, zI a0), (2, zB false), (0, zI a0)], []⟩ ?_
 obtain ⟨v1, hv2, h⟩ := bindO h
 refine rc 1 ⟨[(4, zB v1), (3, zI a0), (2, zB false), (0, zI a0)], []⟩ (spec_l01In_spec a0 0 1125899906842624 v1 hv2) ?_
 refine ro9 2 1 1 ⟨[(2, zB v1), (4, zB v1), (3, zI a0), (2, zB false), (0, zI a0)], []⟩ ?_
 refine runs_ret ?_
 exact fin _ _ h (by kernel_rfl)

set_option maxRecDepth 100000 in
set_option maxHeartbeats 2000000 in
theorem spec_IsAmt_spec (a0 : Int) (v0 : Bool) (h : spec_IsAmt a0 = some v0) : Ax.Spec Try.prog 85 none [zI a0] (zB v0 : X) (.junk : X) := by
 refine walk0 (fn := Try.f85) (fun q0 : Bool => (zB q0 : X)) (fun q0 : Bool => (.junk : X)) v0 ⟨[(0, zI a0)], []⟩ Try.func85 rfl (by decide +kernel) fun Γ hn fin => ?_
 rw [spec_IsAmt] at h
 refine sqr cv hn ?_
 refine ro9 0 1 1 ⟨[(2, zB false), (0, zI a0)], []⟩ ?_
 refine sqr cv hn ?_
 refine ro 0 1 1 ⟨[(3, zI a0), (2, zB false), (0, zI a0)], []⟩ ?_
 obtain ⟨v1, hv2, h⟩ := bindO h
 refine rc 1 ⟨[(4, zB v1), (3, zI a0), (2, zB false), (0, zI a0)], []⟩ (spec_l01In_spec a0 1 1000000000 v1 hv2) ?_
 refine ro9 2 1 1 ⟨[(2, zB v1), (4, zB v1), (3, zI a0), (2, zB false), (0, zI a0)], []⟩ ?_
 refine runs_ret ?_
 exact fin _ _ h (by kernel_rfl)

set_option maxRecDepth 100000 in
set_option maxHeartbeats 2000000 in
theorem spec_MsgOk_spec (a0 : SMsg) (v0 : Bool) (h : spec_MsgOk a0 = some v0) : Ax.Spec Try.prog 81 none [encMsg a0] (zB v0 : X) (.junk : X) := by
 refine walk0 (fn := Try.f81) (fun q0 : Bool => (zB q0 : X)) (fun q0 : Bool => (.junk : X)) v0 ⟨[(0, encMsg a0)], []⟩ Try.func81 rfl (by decide +kernel) fun Γ hn fin => ?_
 rw [spec_MsgOk] at h
 refine sqr cv hn ?_
 refine ro9 0 2 2 ⟨[(2, zB false), (1, .ptr 1 1 0), (0, encMsg a0)], [(1, ⟨1, 1, true, some (encMsg a0)⟩)]⟩ ?_
 refine runs_seqJ (σ := Unit) (fun s => ⟨[(1, .ptr 1 0 0)], [(1, ⟨0, 0, true, some (encMsg a0)⟩)]⟩) (fun s => spec_MsgOk_j1 a0 = some v0) ?_ ?_
 · rintro _ h
   rw [spec_MsgOk_j1] at h
   let B5 : List (Nat × Bx) := [(1, ⟨0, 0, true, some (encMsg a0)⟩)]
   refine seq0 ⟨[(1, .ptr 1 0 0)], B5⟩ ?_
   refine runs_seq ?_
   refine sqr cv hn ?_
   refine ro9 0 2 2 ⟨[(24, zI a0.fKind), (23, .ptr 1 0 0), (1, .ptr 1 0 0)], B5⟩ ?_
   refine runs_block ?_
   refine runs_seqJ (σ := Bool) (fun s => ⟨[(1, .ptr 1 0 0), (24, zI a0.fKind), (25, zB s)], [(1, ⟨0, 0, true, some (encMsg a0)⟩)]⟩) (fun s => spec_MsgOk_j2 a0 s = some v0) ?_ ?_
   · rintro y11 h
     rw [spec_MsgOk_j2] at h
     let T6 : List (Nat × X) := [(1, .ptr 1 0 0), (24, zI a0.fKind), (25, zB y11)]
     let B6 : List (Nat × Bx) := [(1, ⟨0, 0, true, some (encMsg a0)⟩)]
     refine seq0 ⟨T6, B6⟩ ?_
     rcases dich y11 with hb12 | hb12
     · replace h := cond_t hb12 h
       refine ct hb12 ?_
       refine sqr cv hn ?_
       refine ro 0 2 2 ⟨(30, zI a0.fAmt) :: (29, .ptr 1 0 2) :: T6, B6⟩ ?_
       obtain ⟨v13, hv14, h⟩ := bindO h
       refine rc 2 ⟨(31, zB v13) :: (30, zI a0.fAmt) :: (29, .ptr 1 0 2) :: T6, B6⟩ (spec_IsAmt_spec a0.fAmt v13 hv14) ?_
       refine ro9 3 1 1 ⟨(2, zB v13) :: (31, zB v13) :: (30, zI a0.fAmt) :: (29, .ptr 1 0 2) :: T6, B6⟩ ?_
       refine runs_ret ?_
       exact fin _ _ h (by kernel_rfl)
     · replace h := cond_f hb12 h
       refine cf hb12 ?_
       refine sqr cv hn ?_
       refine ro9 0 2 2 ⟨(32, zB (a0.fKind == 4)) :: (33, zB (a0.fKind == 4)) :: T6, B6⟩ ?_
       rcases dich (a0.fKind == 4) with hb15 | hb15
       · replace h := cond_t hb15 h
         refine ct hb15 ?_
         refine sqr cv hn ?_
         refine ro 0 2 2 ⟨(35, zI a0.fAmt) :: (34, .ptr 1 0 2) :: (32, zB (a0.fKind == 4)) :: (33, zB (a0.fKind == 4)) :: T6, B6⟩ ?_
         obtain ⟨v16, hv17, h⟩ := bindO h
         refine rc 2 ⟨(36, zB v16) :: (35, zI a0.fAmt) :: (34, .ptr 1 0 2) :: (32, zB (a0.fKind == 4)) :: (33, zB (a0.fKind == 4)) :: T6, B6⟩ (spec_l01In_spec a0.fAmt 0 3 v16 hv17) ?_
         refine ro9 3 1 1 ⟨(2, zB v16) :: (36, zB v16) :: (35, zI a0.fAmt) :: (34, .ptr 1 0 2) :: (32, zB (a0.fKind == 4)) :: (33, zB (a0.fKind == 4)) :: T6, B6⟩ ?_
         refine runs_ret ?_
         exact fin _ _ h (by kernel_rfl)
       · replace h := cond_f hb15 h
         refine cf hb15 ?_
         refine sqr cv hn ?_
         refine ro9 0 2 2 ⟨(37, zB (a0.fKind == 5)) :: (38, zB (a0.fKind == 5)) :: (32, zB (a0.fKind == 4)) :: (33, zB (a0.fKind == 4)) :: T6, B6⟩ ?_
         rcases dich (a0.fKind == 5) with hb18 | hb18
         · replace h := cond_t hb18 h
           refine ct hb18 ?_
           let B7 : List (Nat × Bx) := [(1, ⟨0, 0, true, some (encMsg a0)⟩)]
           refine wkr [1] [(1, 1, false)] ⟨[(1, .ptr 1 0 0)], B7⟩ ?_
           refine sqr cv hn ?_
           refine ro 0 2 2 ⟨[(40, zI a0.fAmt), (39, .ptr 1 0 2), (1, .ptr 1 0 0)], B7⟩ ?_
           obtain ⟨v19, hv20, h⟩ := bindO h
           refine rc 2 ⟨[(41, zB v19), (40, zI a0.fAmt), (39, .ptr 1 0 2), (1, .ptr 1 0 0)], B7⟩ (spec_l01Num_spec a0.fAmt v19 hv20) ?_
           refine ro9 3 1 1 ⟨[(2, zB v19), (41, zB v19), (40, zI a0.fAmt), (39, .ptr 1 0 2), (1, .ptr 1 0 0)], B7⟩ ?_
           refine runs_ret ?_
           exact fin _ _ h (by kernel_rfl)
         · replace h := cond_f hb18 h
           refine cf hb18 ?_
           refine runs_skip ?_
           refine wkr [] [] ⟨[], []⟩ ?_
           refine sqr cv hn ?_
           refine ro9 0 1 1 ⟨[(2, zB false)], []⟩ ?_
           refine runs_ret ?_
           exact fin _ _ h (by kernel_rfl)
   · skip
     refine sqr cv hn ?_
     refine ro9 0 2 2 ⟨[(25, zB (a0.fKind == 1)), (26, zB (a0.fKind == 1)), (24, zI a0.fKind), (23, .ptr 1 0 0), (1, .ptr 1 0 0)], B5⟩ ?_
     rcases dich (a0.fKind == 1) with hb21 | hb21
     · replace h := cond_t hb21 h
       refine ct hb21 ?_
       refine runs_skip ?_
       exact ⟨(a0.fKind == 1), h, wre [1, 24, 25] [(1, 1, false)]⟩
     · replace h := cond_f hb21 h
       refine cf hb21 ?_
       refine sqr cv hn ?_
       refine ro9 0 2 2 ⟨[(25, zB (a0.fKind == 2)), (27, zB (a0.fKind == 2)), (25, zB (a0.fKind == 1)), (26, zB (a0.fKind == 1)), (24, zI a0.fKind), (23, .ptr 1 0 0), (1, .ptr 1 0 0)], B5⟩ ?_
       rcases dich (a0.fKind == 2) with hb22 | hb22
       · replace h := cond_t hb22 h
         refine ct hb22 ?_
         refine runs_skip ?_
         exact ⟨(a0.fKind == 2), h, wre [1, 24, 25] [(1, 1, false)]⟩
       · replace h := cond_f hb22 h
         refine cf hb22 ?_
         refine rg cv hn ?_
         refine ro9 0 2 2 ⟨[(25, zB (a0.fKind == 3)), (28, zB (a0.fKind == 3)), (25, zB (a0.fKind == 2)), (27, zB (a0.fKind == 2)), (25, zB (a0.fKind == 1)), (26, zB (a0.fKind == 1)), (24, zI a0.fKind), (23, .ptr 1 0 0), (1, .ptr 1 0 0)], B5⟩ ?_
         exact ⟨(a0.fKind == 3), h, wre [1, 24, 25] [(1, 1, false)]⟩
 · skip
   refine sqr cv hn ?_
   refine ro 0 2 2 ⟨[(4, zI a0.fAcct), (3, .ptr 1 1 1), (2, zB false), (1, .ptr 1 1 0), (0, encMsg a0)], [(1, ⟨1, 1, true, some (encMsg a0)⟩)]⟩ ?_
   obtain ⟨v23, hv24, h⟩ := bindO h
   refine rc 2 ⟨[(5, zB v23), (4, zI a0.fAcct), (3, .ptr 1 1 1), (2, zB false), (1, .ptr 1 1 0), (0, encMsg a0)], [(1, ⟨1, 1, true, some (encMsg a0)⟩)]⟩ (spec_l01In_spec a0.fAcct 0 2 v23 hv24) ?_
   refine ro 3 2 2 ⟨[(7, zB (!v23)), (6, zB (!v23)), (5, zB v23), (4, zI a0.fAcct), (3, .ptr 1 1 1), (2, zB false), (1, .ptr 1 1 0), (0, encMsg a0)], [(1, ⟨1, 1, true, some (encMsg a0)⟩)]⟩ ?_
   rcases dich (!v23) with hb25 | hb25
   · replace h := cond_t hb25 h
     refine rl 7 true hb25 ?_
     refine ro9 5 15 3 ⟨[(22, zB true), (21, .tup []), (20, .tup []), (19, .tup []), (18, .tup []), (17, .tup []), (16, .tup []), (15, .tup []), (14, .tup []), (13, zB true), (12, zB true), (11, .tup []), (10, .tup []), (9, .tup []), (8, .tup []), (7, zB true), (6, zB (!v23)), (5, zB v23), (4, zI a0.fAcct), (3, .ptr 1 1 1), (2, zB false), (1, .ptr 1 1 0), (0, encMsg a0)], [(1, ⟨1, 1, true, some (encMsg a0)⟩)]⟩ ?_
     refine cT ?_
     let B9 : List (Nat × Bx) := [(1, ⟨0, 0, true, some (encMsg a0)⟩)]
     refine wkr [1] [(1, 1, false)] ⟨[(1, .ptr 1 0 0)], B9⟩ ?_
     refine sqr cv hn ?_
     refine ro9 0 1 1 ⟨[(2, zB false), (1, .ptr 1 0 0)], B9⟩ ?_
     refine runs_ret ?_
     exact fin _ _ h (by kernel_rfl)
   · replace h := cond_f hb25 h
     refine rl 7 false hb25 ?_
     refine ro 5 2 2 ⟨[(9, zI a0.fSrc), (8, .ptr 1 1 3), (7, zB false), (6, zB (!v23)), (5, zB v23), (4, zI a0.fAcct), (3, .ptr 1 1 1), (2, zB false), (1, .ptr 1 1 0), (0, encMsg a0)], [(1, ⟨1, 1, true, some (encMsg a0)⟩)]⟩ ?_
     obtain ⟨v26, hv27, h⟩ := bindO h
     refine rc 7 ⟨[(10, zB v26), (9, zI a0.fSrc), (8, .ptr 1 1 3), (7, zB false), (6, zB (!v23)), (5, zB v23), (4, zI a0.fAcct), (3, .ptr 1 1 1), (2, zB false), (1, .ptr 1 1 0), (0, encMsg a0)], [(1, ⟨1, 1, true, some (encMsg a0)⟩)]⟩ (spec_l01In_spec a0.fSrc 0 2 v26 hv27) ?_
     refine ro 8 3 3 ⟨[(13, zB (!v26)), (12, zB (!v26)), (11, zB (!v26)), (10, zB v26), (9, zI a0.fSrc), (8, .ptr 1 1 3), (7, zB false), (6, zB (!v23)), (5, zB v23), (4, zI a0.fAcct), (3, .ptr 1 1 1), (2, zB false), (1, .ptr 1 1 0), (0, encMsg a0)], [(1, ⟨1, 1, true, some (encMsg a0)⟩)]⟩ ?_
     rcases dich (!v26) with hb28 | hb28
     · replace h := cond_t hb28 h
       refine rl 13 true hb28 ?_
       refine ro9 11 9 1 ⟨[(22, zB true), (21, .tup []), (20, .tup []), (19, .tup []), (18, .tup []), (17, .tup []), (16, .tup []), (15, .tup []), (14, .tup []), (13, zB true), (12, zB (!v26)), (11, zB (!v26)), (10, zB v26), (9, zI a0.fSrc), (8, .ptr 1 1 3), (7, zB false), (6, zB (!v23)), (5, zB v23), (4, zI a0.fAcct), (3, .ptr 1 1 1), (2, zB false), (1, .ptr 1 1 0), (0, encMsg a0)], [(1, ⟨1, 1, true, some (encMsg a0)⟩)]⟩ ?_
       refine cT ?_
       let B10 : List (Nat × Bx) := [(1, ⟨0, 0, true, some (encMsg a0)⟩)]
       refine wkr [1] [(1, 1, false)] ⟨[(1, .ptr 1 0 0)], B10⟩ ?_
       refine sqr cv hn ?_
       refine ro9 0 1 1 ⟨[(2, zB false), (1, .ptr 1 0 0)], B10⟩ ?_
       refine runs_ret ?_
       exact fin _ _ h (by kernel_rfl)
     · replace h := cond_f hb28 h
       refine rl 13 false hb28 ?_
       refine ro 11 4 4 ⟨[(17, zB (a0.fKind != 2)), (16, zB (a0.fKind != 2)), (15, zI a0.fKind), (14, .ptr 1 1 0), (13, zB false), (12, zB (!v26)), (11, zB (!v26)), (10, zB v26), (9, zI a0.fSrc), (8, .ptr 1 1 3), (7, zB false), (6, zB (!v23)), (5, zB v23), (4, zI a0.fAcct), (3, .ptr 1 1 1), (2, zB false), (1, .ptr 1 1 0), (0, encMsg a0)], [(1, ⟨1, 1, true, some (encMsg a0)⟩)]⟩ ?_
       rcases dich (a0.fKind != 2) with hb29 | hb29
       · replace h := cond_t hb29 h
         refine rl 17 true hb29 ?_
         refine ro9 15 5 5 ⟨[(22, zB (a0.fSrc != 0)), (21, zB (a0.fSrc != 0)), (20, zB (a0.fSrc != 0)), (19, zI a0.fSrc), (18, .ptr 1 1 3), (17, zB true), (16, zB (a0.fKind != 2)), (15, zI a0.fKind), (14, .ptr 1 1 0), (13, zB false), (12, zB (!v26)), (11, zB (!v26)), (10, zB v26), (9, zI a0.fSrc), (8, .ptr 1 1 3), (7, zB false), (6, zB (!v23)), (5, zB v23), (4, zI a0.fAcct), (3, .ptr 1 1 1), (2, zB false), (1, .ptr 1 1 0), (0, encMsg a0)], [(1, ⟨1, 1, true, some (encMsg a0)⟩)]⟩ ?_
         rcases dich (a0.fSrc != 0) with hb30 | hb30
         · replace h := cond_t hb30 h
           refine ct hb30 ?_
           let B11 : List (Nat × Bx) := [(1, ⟨0, 0, true, some (encMsg a0)⟩)]
           refine wkr [1] [(1, 1, false)] ⟨[(1, .ptr 1 0 0)], B11⟩ ?_
           refine sqr cv hn ?_
           refine ro9 0 1 1 ⟨[(2, zB false), (1, .ptr 1 0 0)], B11⟩ ?_
           refine runs_ret ?_
           exact fin _ _ h (by kernel_rfl)
         · replace h := cond_f hb30 h
           refine cf hb30 ?_
           refine runs_skip ?_
           exact ⟨(), h, wre [1] [(1, 1, false)]⟩
       · replace h := cond_f hb29 h
         refine rl 17 false hb29 ?_
         refine ro9 15 5 2 ⟨[(22, zB false), (21, zB false), (20, .tup []), (19, .tup []), (18, .tup []), (17, zB false), (16, zB (a0.fKind != 2)), (15, zI a0.fKind), (14, .ptr 1 1 0), (13, zB false), (12, zB (!v26)), (11, zB (!v26)), (10, zB v26), (9, zI a0.fSrc), (8, .ptr 1 1 3), (7, zB false), (6, zB (!v23)), (5, zB v23), (4, zI a0.fAcct), (3, .ptr 1 1 1), (2, zB false), (1, .ptr 1 1 0), (0, encMsg a0)], [(1, ⟨1, 1, true, some (encMsg a0)⟩)]⟩ ?_
         refine cF ?_
         refine runs_skip ?_
         exact ⟨(), h, wre [1] [(1, 1, false)]⟩

set_option maxRecDepth 100000 in
set_option maxHeartbeats 2000000 in
theorem spec_PacketOk_spec (a0 : SPacket) (v0 : Bool) (h : spec_PacketOk a0 = some v0) : Ax.Spec Try.prog 36 none [encPacket a0] (zB v0 : X) (.junk : X) := by
 refine walk0 (fn := Try.f36) (fun q0 : Bool => (zB q0 : X)) (fun q0 : Bool => (.junk : X)) v0 ⟨[(0, encPacket a0)], []⟩ Try.func36 rfl (by decide +kernel) fun Γ hn fin => ?_
 rw [spec_PacketOk] at h
 refine sqr cv hn ?_
 refine ro9 0 2 2 ⟨[(2, zB false), (1, .ptr 1 1 0), (0, encPacket a0)], [(1, ⟨1, 1, true, some (encPacket a0)⟩)]⟩ ?_
 refine runs_seq ?_
 refine sqr cv hn ?_
 refine ro 0 2 2 ⟨[(5, zI a0.fFrom), (4, .ptr 1 1 0), (2, zB false), (1, .ptr 1 1 0), (0, encPacket a0)], [(1, ⟨1, 1, true, some (encPacket a0)⟩)]⟩ ?_
 obtain ⟨v19, hv20, h⟩ := bindO h
 refine rc 2 ⟨[(6, zB v19), (5, zI a0.fFrom), (4, .ptr 1 1 0), (2, zB false), (1, .ptr 1 1 0), (0, encPacket a0)], [(1, ⟨1, 1, true, some (encPacket a0)⟩)]⟩ (spec_l07Node_spec a0.fFrom v19 hv20) ?_
 refine ro 3 2 2 ⟨[(8, zB (!v19)), (7, zB (!v19)), (6, zB v19), (5, zI a0.fFrom), (4, .ptr 1 1 0), (2, zB false), (1, .ptr 1 1 0), (0, encPacket a0)], [(1, ⟨1, 1, true, some (encPacket a0)⟩)]⟩ ?_
 rcases dich (!v19) with hb21 | hb21
 · replace h := cond_t hb21 h
   refine rl 8 true hb21 ?_
   refine ro9 5 29 9 ⟨[(37, zB true), (36, .tup []), (35, .tup []), (34, .tup []), (33, .tup []), (32, zB true), (31, zB true), (30, .tup []), (29, .tup []), (28, .tup []), (27, .tup []), (26, zB true), (25, zB true), (24, .tup []), (23, .tup []), (22, .tup []), (21, .tup []), (20, zB true), (19, zB true), (18, .tup []), (17, .tup []), (16, .tup []), (15, .tup []), (14, zB true), (13, zB true), (12, .tup []), (11, .tup []), (10, .tup []), (9, .tup []), (8, zB true), (7, zB (!v19)), (6, zB v19), (5, zI a0.fFrom), (4, .ptr 1 1 0), (2, zB false), (1, .ptr 1 1 0), (0, encPacket a0)], [(1, ⟨1, 1, true, some (encPacket a0)⟩)]⟩ ?_
   refine cT ?_
   let B8 : List (Nat × Bx) := [(1, ⟨0, 0, true, some (encPacket a0)⟩)]
   refine wkr [1] [(1, 1, false)] ⟨[(1, .ptr 1 0 0)], B8⟩ ?_
   refine sqr cv hn ?_
   refine ro9 0 1 1 ⟨[(2, zB false), (1, .ptr 1 0 0)], B8⟩ ?_
   refine runs_ret ?_
   exact fin _ _ h (by kernel_rfl)
 · replace h := cond_f hb21 h
   refine rl 8 false hb21 ?_
   refine ro 5 2 2 ⟨[(10, zI a0.fTo), (9, .ptr 1 1 1), (8, zB false), (7, zB (!v19)), (6, zB v19), (5, zI a0.fFrom), (4, .ptr 1 1 0), (2, zB false), (1, .ptr 1 1 0), (0, encPacket a0)], [(1, ⟨1, 1, true, some (encPacket a0)⟩)]⟩ ?_
   obtain ⟨v22, hv23, h⟩ := bindO h
   refine rc 7 ⟨[(11, zB v22), (10, zI a0.fTo), (9, .ptr 1 1 1), (8, zB false), (7, zB (!v19)), (6, zB v19), (5, zI a0.fFrom), (4, .ptr 1 1 0), (2, zB false), (1, .ptr 1 1 0), (0, encPacket a0)], [(1, ⟨1, 1, true, some (encPacket a0)⟩)]⟩ (spec_l07Node_spec a0.fTo v22 hv23) ?_
   refine ro 8 3 3 ⟨[(14, zB (!v22)), (13, zB (!v22)), (12, zB (!v22)), (11, zB v22), (10, zI a0.fTo), (9, .ptr 1 1 1), (8, zB false), (7, zB (!v19)), (6, zB v19), (5, zI a0.fFrom), (4, .ptr 1 1 0), (2, zB false), (1, .ptr 1 1 0), (0, encPacket a0)], [(1, ⟨1, 1, true, some (encPacket a0)⟩)]⟩ ?_
   rcases dich (!v22) with hb24 | hb24
   · replace h := cond_t hb24 h
     refine rl 14 true hb24 ?_
     refine ro9 11 23 7 ⟨[(37, zB true), (36, .tup []), (35, .tup []), (34, .tup []), (33, .tup []), (32, zB true), (31, zB true), (30, .tup []), (29, .tup []), (28, .tup []), (27, .tup []), (26, zB true), (25, zB true), (24, .tup []), (23, .tup []), (22, .tup []), (21, .tup []), (20, zB true), (19, zB true), (18, .tup []), (17, .tup []), (16, .tup []), (15, .tup []), (14, zB true), (13, zB (!v22)), (12, zB (!v22)), (11, zB v22), (10, zI a0.fTo), (9, .ptr 1 1 1), (8, zB false), (7, zB (!v19)), (6, zB v19), (5, zI a0.fFrom), (4, .ptr 1 1 0), (2, zB false), (1, .ptr 1 1 0), (0, encPacket a0)], [(1, ⟨1, 1, true, some (encPacket a0)⟩)]⟩ ?_
     refine cT ?_
     let B9 : List (Nat × Bx) := [(1, ⟨0, 0, true, some (encPacket a0)⟩)]
     refine wkr [1] [(1, 1, false)] ⟨[(1, .ptr 1 0 0)], B9⟩ ?_
     refine sqr cv hn ?_
     refine ro9 0 1 1 ⟨[(2, zB false), (1, .ptr 1 0 0)], B9⟩ ?_
     refine runs_ret ?_
     exact fin _ _ h (by kernel_rfl)
   · replace h := cond_f hb24 h
     refine rl 14 false hb24 ?_
     refine ro 11 2 2 ⟨[(16, zI a0.fKind), (15, .ptr 1 1 2), (14, zB false), (13, zB (!v22)), (12, zB (!v22)), (11, zB v22), (10, zI a0.fTo), (9, .ptr 1 1 1), (8, zB false), (7, zB (!v19)), (6, zB v19), (5, zI a0.fFrom), (4, .ptr 1 1 0), (2, zB false), (1, .ptr 1 1 0), (0, encPacket a0)], [(1, ⟨1, 1, true, some (encPacket a0)⟩)]⟩ ?_
     obtain ⟨v25, hv26, h⟩ := bindO h
     refine rc 13 ⟨[(17, zB v25), (16, zI a0.fKind), (15, .ptr 1 1 2), (14, zB false), (13, zB (!v22)), (12, zB (!v22)), (11, zB v22), (10, zI a0.fTo), (9, .ptr 1 1 1), (8, zB false), (7, zB (!v19)), (6, zB v19), (5, zI a0.fFrom), (4, .ptr 1 1 0), (2, zB false), (1, .ptr 1 1 0), (0, encPacket a0)], [(1, ⟨1, 1, true, some (encPacket a0)⟩)]⟩ (spec_l01In_spec a0.fKind 1 6 v25 hv26) ?_
     refine ro 14 3 3 ⟨[(20, zB (!v25)), (19, zB (!v25)), (18, zB (!v25)), (17, zB v25), (16, zI a0.fKind), (15, .ptr 1 1 2), (14, zB false), (13, zB (!v22)), (12, zB (!v22)), (11, zB v22), (10, zI a0.fTo), (9, .ptr 1 1 1), (8, zB false), (7, zB (!v19)), (6, zB v19), (5, zI a0.fFrom), (4, .ptr 1 1 0), (2, zB false), (1, .ptr 1 1 0), (0, encPacket a0)], [(1, ⟨1, 1, true, some (encPacket a0)⟩)]⟩ ?_
     rcases dich (!v25) with hb27 | hb27
     · replace h := cond_t hb27 h
       refine rl 20 true hb27 ?_
       refine ro9 17 17 5 ⟨[(37, zB true), (36, .tup []), (35, .tup []), (34, .tup []), (33, .tup []), (32, zB true), (31, zB true), (30, .tup []), (29, .tup []), (28, .tup []), (27, .tup []), (26, zB true), (25, zB true), (24, .tup []), (23, .tup []), (22, .tup []), (21, .tup []), (20, zB true), (19, zB (!v25)), (18, zB (!v25)), (17, zB v25), (16, zI a0.fKind), (15, .ptr 1 1 2), (14, zB false), (13, zB (!v22)), (12, zB (!v22)), (11, zB v22), (10, zI a0.fTo), (9, .ptr 1 1 1), (8, zB false), (7, zB (!v19)), (6, zB v19), (5, zI a0.fFrom), (4, .ptr 1 1 0), (2, zB false), (1, .ptr 1 1 0), (0, encPacket a0)], [(1, ⟨1, 1, true, some (encPacket a0)⟩)]⟩ ?_
       refine cT ?_
       let B10 : List (Nat × Bx) := [(1, ⟨0, 0, true, some (encPacket a0)⟩)]
       refine wkr [1] [(1, 1, false)] ⟨[(1, .ptr 1 0 0)], B10⟩ ?_
       refine sqr cv hn ?_
       refine ro9 0 1 1 ⟨[(2, zB false), (1, .ptr 1 0 0)], B10⟩ ?_
       refine runs_ret ?_
       exact fin _ _ h (by kernel_rfl)
     · replace h := cond_f hb27 h
       refine rl 20 false hb27 ?_
       refine ro 17 2 2 ⟨[(22, zI a0.fA), (21, .ptr 1 1 4), (20, zB false), (19, zB (!v25)), (18, zB (!v25)), (17, zB v25), (16, zI a0.fKind), (15, .ptr 1 1 2), (14, zB false), (13, zB (!v22)), (12, zB (!v22)), (11, zB v22), (10, zI a0.fTo), (9, .ptr 1 1 1), (8, zB false), (7, zB (!v19)), (6, zB v19), (5, zI a0.fFrom), (4, .ptr 1 1 0), (2, zB false), (1, .ptr 1 1 0), (0, encPacket a0)], [(1, ⟨1, 1, true, some (encPacket a0)⟩)]⟩ ?_
       obtain ⟨v28, hv29, h⟩ := bindO h
       refine rc 19 ⟨[(23, zB v28), (22, zI a0.fA), (21, .ptr 1 1 4), (20, zB false), (19, zB (!v25)), (18, zB (!v25)), (17, zB v25), (16, zI a0.fKind), (15, .ptr 1 1 2), (14, zB false), (13, zB (!v22)), (12, zB (!v22)), (11, zB v22), (10, zI a0.fTo), (9, .ptr 1 1 1), (8, zB false), (7, zB (!v19)), (6, zB v19), (5, zI a0.fFrom), (4, .ptr 1 1 0), (2, zB false), (1, .ptr 1 1 0), (0, encPacket a0)], [(1, ⟨1, 1, true, some (encPacket a0)⟩)]⟩ (spec_l01Num_spec a0.fA v28 hv29) ?_
       refine ro 20 3 3 ⟨[(26, zB (!v28)), (25, zB (!v28)), (24, zB (!v28)), (23, zB v28), (22, zI a0.fA), (21, .ptr 1 1 4), (20, zB false), (19, zB (!v25)), (18, zB (!v25)), (17, zB v25), (16, zI a0.fKind), (15, .ptr 1 1 2), (14, zB false), (13, zB (!v22)), (12, zB (!v22)), (11, zB v22), (10, zI a0.fTo), (9, .ptr 1 1 1), (8, zB false), (7, zB (!v19)), (6, zB v19), (5, zI a0.fFrom), (4, .ptr 1 1 0), (2, zB false), (1, .ptr 1 1 0), (0, encPacket a0)], [(1, ⟨1, 1, true, some (encPacket a0)⟩)]⟩ ?_
       rcases dich (!v28) with hb30 | hb30
       · replace h := cond_t hb30 h
         refine rl 26 true hb30 ?_
         refine ro9 23 11 3 ⟨[(37, zB true), (36, .tup []), (35, .tup []), (34, .tup []), (33, .tup []), (32, zB true), (31, zB true), (30, .tup []), (29, .tup []), (28, .tup []), (27, .tup []), (26, zB true), (25, zB (!v28)), (24, zB (!v28)), (23, zB v28), (22, zI a0.fA), (21, .ptr 1 1 4), (20, zB false), (19, zB (!v25)), (18, zB (!v25)), (17, zB v25), (16, zI a0.fKind), (15, .ptr 1 1 2), (14, zB false), (13, zB (!v22)), (12, zB (!v22)), (11, zB v22), (10, zI a0.fTo), (9, .ptr 1 1 1), (8, zB false), (7, zB (!v19)), (6, zB v19), (5, zI a0.fFrom), (4, .ptr 1 1 0), (2, zB false), (1, .ptr 1 1 0), (0, encPacket a0)], [(1, ⟨1, 1, true, some (encPacket a0)⟩)]⟩ ?_
         refine cT ?_
         let B11 : List (Nat × Bx) := [(1, ⟨0, 0, true, some (encPacket a0)⟩)]
         refine wkr [1] [(1, 1, false)] ⟨[(1, .ptr 1 0 0)], B11⟩ ?_
         refine sqr cv hn ?_
         refine ro9 0 1 1 ⟨[(2, zB false), (1, .ptr 1 0 0)], B11⟩ ?_
         refine runs_ret ?_
         exact fin _ _ h (by kernel_rfl)
       · replace h := cond_f hb30 h
         refine rl 26 false hb30 ?_
         refine ro 23 2 2 ⟨[(28, zI a0.fB), (27, .ptr 1 1 5), (26, zB false), (25, zB (!v28)), (24, zB (!v28)), (23, zB v28), (22, zI a0.fA), (21, .ptr 1 1 4), (20, zB false), (19, zB (!v25)), (18, zB (!v25)), (17, zB v25), (16, zI a0.fKind), (15, .ptr 1 1 2), (14, zB false), (13, zB (!v22)), (12, zB (!v22)), (11, zB v22), (10, zI a0.fTo), (9, .ptr 1 1 1), (8, zB false), (7, zB (!v19)), (6, zB v19), (5, zI a0.fFrom), (4, .ptr 1 1 0), (2, zB false), (1, .ptr 1 1 0), (0, encPacket a0)], [(1, ⟨1, 1, true, some (encPacket a0)⟩)]⟩ ?_
         obtain ⟨v31, hv32, h⟩ := bindO h
         refine rc 25 ⟨[(29, zB v31), (28, zI a0.fB), (27, .ptr 1 1 5), (26, zB false), (25, zB (!v28)), (24, zB (!v28)), (23, zB v28), (22, zI a0.fA), (21, .ptr 1 1 4), (20, zB false), (19, zB (!v25)), (18, zB (!v25)), (17, zB v25), (16, zI a0.fKind), (15, .ptr 1 1 2), (14, zB false), (13, zB (!v22)), (12, zB (!v22)), (11, zB v22), (10, zI a0.fTo), (9, .ptr 1 1 1), (8, zB false), (7, zB (!v19)), (6, zB v19), (5, zI a0.fFrom), (4, .ptr 1 1 0), (2, zB false), (1, .ptr 1 1 0), (0, encPacket a0)], [(1, ⟨1, 1, true, some (encPacket a0)⟩)]⟩ (spec_l01Num_spec a0.fB v31 hv32) ?_
         refine ro 26 3 3 ⟨[(32, zB (!v31)), (31, zB (!v31)), (30, zB (!v31)), (29, zB v31), (28, zI a0.fB), (27, .ptr 1 1 5), (26, zB false), (25, zB (!v28)), (24, zB (!v28)), (23, zB v28), (22, zI a0.fA), (21, .ptr 1 1 4), (20, zB false), (19, zB (!v25)), (18, zB (!v25)), (17, zB v25), (16, zI a0.fKind), (15, .ptr 1 1 2), (14, zB false), (13, zB (!v22)), (12, zB (!v22)), (11, zB v22), (10, zI a0.fTo), (9, .ptr 1 1 1), (8, zB false), (7, zB (!v19)), (6, zB v19), (5, zI a0.fFrom), (4, .ptr 1 1 0), (2, zB false), (1, .ptr 1 1 0), (0, encPacket a0)], [(1, ⟨1, 1, true, some (encPacket a0)⟩)]⟩ ?_
         rcases dich (!v31) with hb33 | hb33
         · replace h := cond_t hb33 h
           refine rl 32 true hb33 ?_
           refine ro9 29 5 1 ⟨[(37, zB true), (36, .tup []), (35, .tup []), (34, .tup []), (33, .tup []), (32, zB true), (31, zB (!v31)), (30, zB (!v31)), (29, zB v31), (28, zI a0.fB), (27, .ptr 1 1 5), (26, zB false), (25, zB (!v28)), (24, zB (!v28)), (23, zB v28), (22, zI a0.fA), (21, .ptr 1 1 4), (20, zB false), (19, zB (!v25)), (18, zB (!v25)), (17, zB v25), (16, zI a0.fKind), (15, .ptr 1 1 2), (14, zB false), (13, zB (!v22)), (12, zB (!v22)), (11, zB v22), (10, zI a0.fTo), (9, .ptr 1 1 1), (8, zB false), (7, zB (!v19)), (6, zB v19), (5, zI a0.fFrom), (4, .ptr 1 1 0), (2, zB false), (1, .ptr 1 1 0), (0, encPacket a0)], [(1, ⟨1, 1, true, some (encPacket a0)⟩)]⟩ ?_
           refine cT ?_
           let B12 : List (Nat × Bx) := [(1, ⟨0, 0, true, some (encPacket a0)⟩)]
           refine wkr [1] [(1, 1, false)] ⟨[(1, .ptr 1 0 0)], B12⟩ ?_
           refine sqr cv hn ?_
           refine ro9 0 1 1 ⟨[(2, zB false), (1, .ptr 1 0 0)], B12⟩ ?_
           refine runs_ret ?_
           exact fin _ _ h (by kernel_rfl)
         · replace h := cond_f hb33 h
           refine rl 32 false hb33 ?_
           refine ro 29 2 2 ⟨[(34, zI a0.fAcct), (33, .ptr 1 1 3), (32, zB false), (31, zB (!v31)), (30, zB (!v31)), (29, zB v31), (28, zI a0.fB), (27, .ptr 1 1 5), (26, zB false), (25, zB (!v28)), (24, zB (!v28)), (23, zB v28), (22, zI a0.fA), (21, .ptr 1 1 4), (20, zB false), (19, zB (!v25)), (18, zB (!v25)), (17, zB v25), (16, zI a0.fKind), (15, .ptr 1 1 2), (14, zB false), (13, zB (!v22)), (12, zB (!v22)), (11, zB v22), (10, zI a0.fTo), (9, .ptr 1 1 1), (8, zB false), (7, zB (!v19)), (6, zB v19), (5, zI a0.fFrom), (4, .ptr 1 1 0), (2, zB false), (1, .ptr 1 1 0), (0, encPacket a0)], [(1, ⟨1, 1, true, some (encPacket a0)⟩)]⟩ ?_
           obtain ⟨v34, hv35, h⟩ := bindO h
           refine rc 31 ⟨[(35, zB v34), (34, zI a0.fAcct), (33, .ptr 1 1 3), (32, zB false), (31, zB (!v31)), (30, zB (!v31)), (29, zB v31), (28, zI a0.fB), (27, .ptr 1 1 5), (26, zB false), (25, zB (!v28)), (24, zB (!v28)), (23, zB v28), (22, zI a0.fA), (21, .ptr 1 1 4), (20, zB false), (19, zB (!v25)), (18, zB (!v25)), (17, zB v25), (16, zI a0.fKind), (15, .ptr 1 1 2), (14, zB false), (13, zB (!v22)), (12, zB (!v22)), (11, zB v22), (10, zI a0.fTo), (9, .ptr 1 1 1), (8, zB false), (7, zB (!v19)), (6, zB v19), (5, zI a0.fFrom), (4, .ptr 1 1 0), (2, zB false), (1, .ptr 1 1 0), (0, encPacket a0)], [(1, ⟨1, 1, true, some (encPacket a0)⟩)]⟩ (spec_l01In_spec a0.fAcct 0 2 v34 hv35) ?_
           refine ro9 32 2 2 ⟨[(37, zB (!v34)), (36, zB (!v34)), (35, zB v34), (34, zI a0.fAcct), (33, .ptr 1 1 3), (32, zB false), (31, zB (!v31)), (30, zB (!v31)), (29, zB v31), (28, zI a0.fB), (27, .ptr 1 1 5), (26, zB false), (25, zB (!v28)), (24, zB (!v28)), (23, zB v28), (22, zI a0.fA), (21, .ptr 1 1 4), (20, zB false), (19, zB (!v25)), (18, zB (!v25)), (17, zB v25), (16, zI a0.fKind), (15, .ptr 1 1 2), (14, zB false), (13, zB (!v22)), (12, zB (!v22)), (11, zB v22), (10, zI a0.fTo), (9, .ptr 1 1 1), (8, zB false), (7, zB (!v19)), (6, zB v19), (5, zI a0.fFrom), (4, .ptr 1 1 0), (2, zB false), (1, .ptr 1 1 0), (0, encPacket a0)], [(1, ⟨1, 1, true, some (encPacket a0)⟩)]⟩ ?_
           rcases dich (!v34) with hb36 | hb36
           · replace h := cond_t hb36 h
             refine ct hb36 ?_
             let B13 : List (Nat × Bx) := [(1, ⟨0, 0, true, some (encPacket a0)⟩)]
             refine wkr [1] [(1, 1, false)] ⟨[(1, .ptr 1 0 0)], B13⟩ ?_
             refine sqr cv hn ?_
             refine ro9 0 1 1 ⟨[(2, zB false), (1, .ptr 1 0 0)], B13⟩ ?_
             refine runs_ret ?_
             exact fin _ _ h (by kernel_rfl)
           · replace h := cond_f hb36 h
             refine cf hb36 ?_
             refine runs_skip ?_
             refine runs_seqJ (σ := Unit) (fun s => ⟨[(1, .ptr 1 0 0)], [(1, ⟨0, 0, true, some (encPacket a0)⟩)]⟩) (fun s => spec_PacketOk_j1 a0 = some v0) ?_ ?_
             · rintro _ h
               rw [spec_PacketOk_j1] at h
               let B20 : List (Nat × Bx) := [(1, ⟨0, 0, true, some (encPacket a0)⟩)]
               refine seq0 ⟨[(1, .ptr 1 0 0)], B20⟩ ?_
               refine runs_seqJ (σ := Bool) (fun s => ⟨[(1, .ptr 1 0 0), (3, zB s)], [(1, ⟨0, 0, true, some (encPacket a0)⟩)]⟩) (fun s => spec_PacketOk_j2 a0 s = some v0) ?_ ?_
               · rintro y48 h
                 rw [spec_PacketOk_j2] at h
                 let B21 : List (Nat × Bx) := [(1, ⟨0, 0, true, some (encPacket a0)⟩)]
                 refine seq0 ⟨[(1, .ptr 1 0 0), (3, zB y48)], B21⟩ ?_
                 refine runs_seqJ (σ := Unit) (fun s => ⟨[(1, .ptr 1 0 0)], [(1, ⟨0, 0, true, some (encPacket a0)⟩)]⟩) (fun s => spec_PacketOk_j3 a0 = some v0) ?_ ?_
                 · rintro _ h
                   rw [spec_PacketOk_j3] at h
                   let B24 : List (Nat × Bx) := [(1, ⟨0, 0, true, some (encPacket a0)⟩)]
                   refine seq0 ⟨[(1, .ptr 1 0 0)], B24⟩ ?_
                   refine runs_seq ?_
                   refine sqr cv hn ?_
                   refine ro9 0 3 3 ⟨[(94, zB (a0.fKind == 1)), (93, zI a0.fKind), (92, .ptr 1 0 2), (1, .ptr 1 0 0)], B24⟩ ?_
                   rcases dich (a0.fKind == 1) with hb55 | hb55
                   · replace h := cond_t hb55 h
                     refine ct hb55 ?_
                     refine sqr cv hn ?_
                     refine ro 0 2 2 ⟨[(96, encMsg a0.fM), (95, .ptr 1 0 7), (94, zB (a0.fKind == 1)), (93, zI a0.fKind), (92, .ptr 1 0 2), (1, .ptr 1 0 0)], B24⟩ ?_
                     obtain ⟨v56, hv57, h⟩ := bindO h
                     refine rc 2 ⟨[(97, zB v56), (96, encMsg a0.fM), (95, .ptr 1 0 7), (94, zB (a0.fKind == 1)), (93, zI a0.fKind), (92, .ptr 1 0 2), (1, .ptr 1 0 0)], B24⟩ (spec_MsgOk_spec a0.fM v56 hv57) ?_
                     refine ro9 3 1 1 ⟨[(2, zB v56), (97, zB v56), (96, encMsg a0.fM), (95, .ptr 1 0 7), (94, zB (a0.fKind == 1)), (93, zI a0.fKind), (92, .ptr 1 0 2), (1, .ptr 1 0 0)], B24⟩ ?_
                     refine runs_ret ?_
                     exact fin _ _ h (by kernel_rfl)
                   · replace h := cond_f hb55 h
                     refine cf hb55 ?_
                     refine runs_skip ?_
                     refine runs_seqJ (σ := Unit) (fun s => ⟨[(1, .ptr 1 0 0)], [(1, ⟨0, 0, true, some (encPacket a0)⟩)]⟩) (fun s => spec_PacketOk_j4 a0 = some v0) ?_ ?_
                     · rintro _ h
                       rw [spec_PacketOk_j4] at h
                       let B35 : List (Nat × Bx) := [(1, ⟨0, 0, true, some (encPacket a0)⟩)]
                       refine seq0 ⟨[(1, .ptr 1 0 0)], B35⟩ ?_
                       refine sqr cv hn ?_
                       refine ro 0 3 3 ⟨[(142, .agg [zI 0, zI 0, zI 0, zI 0]), (141, encMsg a0.fM), (140, .ptr 1 0 7), (1, .ptr 1 0 0)], B35⟩ ?_
                       refine rs 3 ⟨[(143, zB ((a0.fM.fKind == 0) && ((a0.fM.fAcct == 0) && ((a0.fM.fAmt == 0) && ((a0.fM.fSrc == 0) && true))))), (142, .agg [zI 0, zI 0, zI 0, zI 0]), (141, encMsg a0.fM), (140, .ptr 1 0 7), (1, .ptr 1 0 0)], B35⟩ [EqOK Try.prog 53 ∧ (4 : Nat) = tSize Try.prog 53] ⟨⟨eqok53, by kernel_rfl⟩, trivial⟩ ?_
                       refine ro9 4 1 1 ⟨[(2, zB ((a0.fM.fKind == 0) && ((a0.fM.fAcct == 0) && ((a0.fM.fAmt == 0) && ((a0.fM.fSrc == 0) && true))))), (143, zB ((a0.fM.fKind == 0) && ((a0.fM.fAcct == 0) && ((a0.fM.fAmt == 0) && ((a0.fM.fSrc == 0) && true))))), (142, .agg [zI 0, zI 0, zI 0, zI 0]), (141, encMsg a0.fM), (140, .ptr 1 0 7), (1, .ptr 1 0 0)], B35⟩ ?_
                       refine runs_ret ?_
                       exact fin _ _ h (by kernel_rfl)
                     · skip
                       refine sqr cv hn ?_
                       refine ro 0 4 4 ⟨[(101, zB (a0.fKind == 4)), (100, zB (a0.fKind == 4)), (99, zI a0.fKind), (98, .ptr 1 0 2), (94, zB (a0.fKind == 1)), (93, zI a0.fKind), (92, .ptr 1 0 2), (1, .ptr 1 0 0)], B24⟩ ?_
                       rcases dich (a0.fKind == 4) with hb87 | hb87
                       · replace h := cond_t hb87 h
                         refine rl 101 true hb87 ?_
                         refine ro 4 4 4 ⟨[(105, zB (a0.fB == 0)), (104, zB (a0.fB == 0)), (103, zI a0.fB), (102, .ptr 1 0 5), (101, zB true), (100, zB (a0.fKind == 4)), (99, zI a0.fKind), (98, .ptr 1 0 2), (94, zB (a0.fKind == 1)), (93, zI a0.fKind), (92, .ptr 1 0 2), (1, .ptr 1 0 0)], B24⟩ ?_
                         rcases dich (a0.fB == 0) with hb88 | hb88
                         · replace h := cond_t hb88 h
                           refine rl 105 true hb88 ?_
                           refine ro 8 5 5 ⟨[(110, zB (a0.fC == 0)), (109, zB (a0.fC == 0)), (108, zB (a0.fC == 0)), (107, zI a0.fC), (106, .ptr 1 0 6), (105, zB true), (104, zB (a0.fB == 0)), (103, zI a0.fB), (102, .ptr 1 0 5), (101, zB true), (100, zB (a0.fKind == 4)), (99, zI a0.fKind), (98, .ptr 1 0 2), (94, zB (a0.fKind == 1)), (93, zI a0.fKind), (92, .ptr 1 0 2), (1, .ptr 1 0 0)], B24⟩ ?_
                           rcases dich (a0.fC == 0) with hb89 | hb89
                           · replace h := cond_t hb89 h
                             refine rl 110 true hb89 ?_
                             refine ro 13 23 8 ⟨[(133, zB (a0.fKind == 5)), (132, zB (a0.fKind == 5)), (131, zI a0.fKind), (130, .ptr 1 0 2), (129, zB false), (128, zB false), (127, zB false), (126, zB true), (125, .tup []), (124, .tup []), (123, .tup []), (122, .tup []), (121, .tup []), (120, .tup []), (119, .tup []), (118, .tup []), (117, .tup []), (116, .tup []), (115, .tup []), (114, .tup []), (113, .tup []), (112, .tup []), (111, .tup []), (110, zB true), (109, zB (a0.fC == 0)), (108, zB (a0.fC == 0)), (107, zI a0.fC), (106, .ptr 1 0 6), (105, zB true), (104, zB (a0.fB == 0)), (103, zI a0.fB), (102, .ptr 1 0 5), (101, zB true), (100, zB (a0.fKind == 4)), (99, zI a0.fKind), (98, .ptr 1 0 2), (94, zB (a0.fKind == 1)), (93, zI a0.fKind), (92, .ptr 1 0 2), (1, .ptr 1 0 0)], B24⟩ ?_
                             rcases dich (a0.fKind == 5) with hb90 | hb90
                             · replace h := cond_t hb90 h
                               refine rl 133 true hb90 ?_
                               refine ro 36 2 2 ⟨[(135, zI a0.fB), (134, .ptr 1 0 5), (133, zB true), (132, zB (a0.fKind == 5)), (131, zI a0.fKind), (130, .ptr 1 0 2), (129, zB false), (128, zB false), (127, zB false), (126, zB true), (125, .tup []), (124, .tup []), (123, .tup []), (122, .tup []), (121, .tup []), (120, .tup []), (119, .tup []), (118, .tup []), (117, .tup []), (116, .tup []), (115, .tup []), (114, .tup []), (113, .tup []), (112, .tup []), (111, .tup []), (110, zB true), (109, zB (a0.fC == 0)), (108, zB (a0.fC == 0)), (107, zI a0.fC), (106, .ptr 1 0 6), (105, zB true), (104, zB (a0.fB == 0)), (103, zI a0.fB), (102, .ptr 1 0 5), (101, zB true), (100, zB (a0.fKind == 4)), (99, zI a0.fKind), (98, .ptr 1 0 2), (94, zB (a0.fKind == 1)), (93, zI a0.fKind), (92, .ptr 1 0 2), (1, .ptr 1 0 0)], B24⟩ ?_
                               obtain ⟨v91, hv92, h⟩ := bindO h
                               refine rc 38 ⟨[(136, zB v91), (135, zI a0.fB), (134, .ptr 1 0 5), (133, zB true), (132, zB (a0.fKind == 5)), (131, zI a0.fKind), (130, .ptr 1 0 2), (129, zB false), (128, zB false), (127, zB false), (126, zB true), (125, .tup []), (124, .tup []), (123, .tup []), (122, .tup []), (121, .tup []), (120, .tup []), (119, .tup []), (118, .tup []), (117, .tup []), (116, .tup []), (115, .tup []), (114, .tup []), (113, .tup []), (112, .tup []), (111, .tup []), (110, zB true), (109, zB (a0.fC == 0)), (108, zB (a0.fC == 0)), (107, zI a0.fC), (106, .ptr 1 0 6), (105, zB true), (104, zB (a0.fB == 0)), (103, zI a0.fB), (102, .ptr 1 0 5), (101, zB true), (100, zB (a0.fKind == 4)), (99, zI a0.fKind), (98, .ptr 1 0 2), (94, zB (a0.fKind == 1)), (93, zI a0.fKind), (92, .ptr 1 0 2), (1, .ptr 1 0 0)], B24⟩ (spec_l07Val_spec a0.fB v91 hv92) ?_
                               refine ro9 39 3 3 ⟨[(139, zB (!v91)), (138, zB (!v91)), (137, zB (!v91)), (136, zB v91), (135, zI a0.fB), (134, .ptr 1 0 5), (133, zB true), (132, zB (a0.fKind == 5)), (131, zI a0.fKind), (130, .ptr 1 0 2), (129, zB false), (128, zB false), (127, zB false), (126, zB true), (125, .tup []), (124, .tup []), (123, .tup []), (122, .tup []), (121, .tup []), (120, .tup []), (119, .tup []), (118, .tup []), (117, .tup []), (116, .tup []), (115, .tup []), (114, .tup []), (113, .tup []), (112, .tup []), (111, .tup []), (110, zB true), (109, zB (a0.fC == 0)), (108, zB (a0.fC == 0)), (107, zI a0.fC), (106, .ptr 1 0 6), (105, zB true), (104, zB (a0.fB == 0)), (103, zI a0.fB), (102, .ptr 1 0 5), (101, zB true), (100, zB (a0.fKind == 4)), (99, zI a0.fKind), (98, .ptr 1 0 2), (94, zB (a0.fKind == 1)), (93, zI a0.fKind), (92, .ptr 1 0 2), (1, .ptr 1 0 0)], B24⟩ ?_
                               rcases dich (!v91) with hb93 | hb93
                               · replace h := cond_t hb93 h
                                 refine ct hb93 ?_
                                 let B36 : List (Nat × Bx) := [(1, ⟨0, 0, true, some (encPacket a0)⟩)]
                                 refine wkr [1] [(1, 1, false)] ⟨[(1, .ptr 1 0 0)], B36⟩ ?_
                                 refine sqr cv hn ?_
                                 refine ro9 0 1 1 ⟨[(2, zB false), (1, .ptr 1 0 0)], B36⟩ ?_
                                 refine runs_ret ?_
                                 exact fin _ _ h (by kernel_rfl)
                               · replace h := cond_f hb93 h
                                 refine cf hb93 ?_
                                 refine runs_skip ?_
                                 exact ⟨(), h, wre [1] [(1, 1, false)]⟩
                             · replace h := cond_f hb90 h
                               refine rl 133 false hb90 ?_
                               refine ro9 36 6 2 ⟨[(139, zB false), (138, zB false), (137, .tup []), (136, .tup []), (135, .tup []), (134, .tup []), (133, zB false), (132, zB (a0.fKind == 5)), (131, zI a0.fKind), (130, .ptr 1 0 2), (129, zB false), (128, zB false), (127, zB false), (126, zB true), (125, .tup []), (124, .tup []), (123, .tup []), (122, .tup []), (121, .tup []), (120, .tup []), (119, .tup []), (118, .tup []), (117, .tup []), (116, .tup []), (115, .tup []), (114, .tup []), (113, .tup []), (112, .tup []), (111, .tup []), (110, zB true), (109, zB (a0.fC == 0)), (108, zB (a0.fC == 0)), (107, zI a0.fC), (106, .ptr 1 0 6), (105, zB true), (104, zB (a0.fB == 0)), (103, zI a0.fB), (102, .ptr 1 0 5), (101, zB true), (100, zB (a0.fKind == 4)), (99, zI a0.fKind), (98, .ptr 1 0 2), (94, zB (a0.fKind == 1)), (93, zI a0.fKind), (92, .ptr 1 0 2), (1, .ptr 1 0 0)], B24⟩ ?_
                               refine cF ?_
                               refine runs_skip ?_
                               exact ⟨(), h, wre [1] [(1, 1, false)]⟩
                           · replace h := cond_f hb89 h
                             refine rl 110 false hb89 ?_
                             refine ro 13 4 4 ⟨[(114, zB (decide (a0.fB > 0))), (113, zB (decide (a0.fB > 0))), (112, zI a0.fB), (111, .ptr 1 0 5), (110, zB false), (109, zB (a0.fC == 0)), (108, zB (a0.fC == 0)), (107, zI a0.fC), (106, .ptr 1 0 6), (105, zB true), (104, zB (a0.fB == 0)), (103, zI a0.fB), (102, .ptr 1 0 5), (101, zB true), (100, zB (a0.fKind == 4)), (99, zI a0.fKind), (98, .ptr 1 0 2), (94, zB (a0.fKind == 1)), (93, zI a0.fKind), (92, .ptr 1 0 2), (1, .ptr 1 0 0)], B24⟩ ?_
                             rcases dich (decide (a0.fB > 0)) with hb94 | hb94
                             · replace h := cond_t hb94 h
                               refine rl 114 true hb94 ?_
                               refine ro 17 7 7 ⟨[(121, zB (decide (a0.fB < a0.fA))), (120, zB (decide (a0.fB < a0.fA))), (119, zB (decide (a0.fB < a0.fA))), (118, zI a0.fA), (117, .ptr 1 0 4), (116, zI a0.fB), (115, .ptr 1 0 5), (114, zB true), (113, zB (decide (a0.fB > 0))), (112, zI a0.fB), (111, .ptr 1 0 5), (110, zB false), (109, zB (a0.fC == 0)), (108, zB (a0.fC == 0)), (107, zI a0.fC), (106, .ptr 1 0 6), (105, zB true), (104, zB (a0.fB == 0)), (103, zI a0.fB), (102, .ptr 1 0 5), (101, zB true), (100, zB (a0.fKind == 4)), (99, zI a0.fKind), (98, .ptr 1 0 2), (94, zB (a0.fKind == 1)), (93, zI a0.fKind), (92, .ptr 1 0 2), (1, .ptr 1 0 0)], B24⟩ ?_
                               rcases dich (decide (a0.fB < a0.fA)) with hb95 | hb95
                               · replace h := cond_t hb95 h
                                 refine rl 121 true hb95 ?_
                                 refine ro 24 2 2 ⟨[(123, zI a0.fC), (122, .ptr 1 0 6), (121, zB true), (120, zB (decide (a0.fB < a0.fA))), (119, zB (decide (a0.fB < a0.fA))), (118, zI a0.fA), (117, .ptr 1 0 4), (116, zI a0.fB), (115, .ptr 1 0 5), (114, zB true), (113, zB (decide (a0.fB > 0))), (112, zI a0.fB), (111, .ptr 1 0 5), (110, zB false), (109, zB (a0.fC == 0)), (108, zB (a0.fC == 0)), (107, zI a0.fC), (106, .ptr 1 0 6), (105, zB true), (104, zB (a0.fB == 0)), (103, zI a0.fB), (102, .ptr 1 0 5), (101, zB true), (100, zB (a0.fKind == 4)), (99, zI a0.fKind), (98, .ptr 1 0 2), (94, zB (a0.fKind == 1)), (93, zI a0.fKind), (92, .ptr 1 0 2), (1, .ptr 1 0 0)], B24⟩ ?_
                                 obtain ⟨v96, hv97, h⟩ := bindO h
                                 refine rc 26 ⟨[(124, zB v96), (123, zI a0.fC), (122, .ptr 1 0 6), (121, zB true), (120, zB (decide (a0.fB < a0.fA))), (119, zB (decide (a0.fB < a0.fA))), (118, zI a0.fA), (117, .ptr 1 0 4), (116, zI a0.fB), (115, .ptr 1 0 5), (114, zB true), (113, zB (decide (a0.fB > 0))), (112, zI a0.fB), (111, .ptr 1 0 5), (110, zB false), (109, zB (a0.fC == 0)), (108, zB (a0.fC == 0)), (107, zI a0.fC), (106, .ptr 1 0 6), (105, zB true), (104, zB (a0.fB == 0)), (103, zI a0.fB), (102, .ptr 1 0 5), (101, zB true), (100, zB (a0.fKind == 4)), (99, zI a0.fKind), (98, .ptr 1 0 2), (94, zB (a0.fKind == 1)), (93, zI a0.fKind), (92, .ptr 1 0 2), (1, .ptr 1 0 0)], B24⟩ (spec_l07Val_spec a0.fC v96 hv97) ?_
                                 refine ro 27 5 5 ⟨[(129, zB (!v96)), (128, zB (!v96)), (127, zB (!v96)), (126, zB v96), (125, zB v96), (124, zB v96), (123, zI a0.fC), (122, .ptr 1 0 6), (121, zB true), (120, zB (decide (a0.fB < a0.fA))), (119, zB (decide (a0.fB < a0.fA))), (118, zI a0.fA), (117, .ptr 1 0 4), (116, zI a0.fB), (115, .ptr 1 0 5), (114, zB true), (113, zB (decide (a0.fB > 0))), (112, zI a0.fB), (111, .ptr 1 0 5), (110, zB false), (109, zB (a0.fC == 0)), (108, zB (a0.fC == 0)), (107, zI a0.fC), (106, .ptr 1 0 6), (105, zB true), (104, zB (a0.fB == 0)), (103, zI a0.fB), (102, .ptr 1 0 5), (101, zB true), (100, zB (a0.fKind == 4)), (99, zI a0.fKind), (98, .ptr 1 0 2), (94, zB (a0.fKind == 1)), (93, zI a0.fKind), (92, .ptr 1 0 2), (1, .ptr 1 0 0)], B24⟩ ?_
                                 rcases dich (!v96) with hb98 | hb98
                                 · replace h := cond_t hb98 h
                                   refine rl 129 true hb98 ?_
                                   refine ro9 32 10 1 ⟨[(139, zB true), (138, .tup []), (137, .tup []), (136, .tup []), (135, .tup []), (134, .tup []), (133, .tup []), (132, .tup []), (131, .tup []), (130, .tup []), (129, zB true), (128, zB (!v96)), (127, zB (!v96)), (126, zB v96), (125, zB v96), (124, zB v96), (123, zI a0.fC), (122, .ptr 1 0 6), (121, zB true), (120, zB (decide (a0.fB < a0.fA))), (119, zB (decide (a0.fB < a0.fA))), (118, zI a0.fA), (117, .ptr 1 0 4), (116, zI a0.fB), (115, .ptr 1 0 5), (114, zB true), (113, zB (decide (a0.fB > 0))), (112, zI a0.fB), (111, .ptr 1 0 5), (110, zB false), (109, zB (a0.fC == 0)), (108, zB (a0.fC == 0)), (107, zI a0.fC), (106, .ptr 1 0 6), (105, zB true), (104, zB (a0.fB == 0)), (103, zI a0.fB), (102, .ptr 1 0 5), (101, zB true), (100, zB (a0.fKind == 4)), (99, zI a0.fKind), (98, .ptr 1 0 2), (94, zB (a0.fKind == 1)), (93, zI a0.fKind), (92, .ptr 1 0 2), (1, .ptr 1 0 0)], B24⟩ ?_
                                   refine cT ?_
                                   let B37 : List (Nat × Bx) := [(1, ⟨0, 0, true, some (encPacket a0)⟩)]
                                   refine wkr [1] [(1, 1, false)] ⟨[(1, .ptr 1 0 0)], B37⟩ ?_
                                   refine sqr cv hn ?_
                                   refine ro9 0 1 1 ⟨[(2, zB false), (1, .ptr 1 0 0)], B37⟩ ?_
                                   refine runs_ret ?_
                                   exact fin _ _ h (by kernel_rfl)
                                 · replace h := cond_f hb98 h
                                   refine rl 129 false hb98 ?_
                                   refine ro 32 4 4 ⟨[(133, zB (a0.fKind == 5)), (132, zB (a0.fKind == 5)), (131, zI a0.fKind), (130, .ptr 1 0 2), (129, zB false), (128, zB (!v96)), (127, zB (!v96)), (126, zB v96), (125, zB v96), (124, zB v96), (123, zI a0.fC), (122, .ptr 1 0 6), (121, zB true), (120, zB (decide (a0.fB < a0.fA))), (119, zB (decide (a0.fB < a0.fA))), (118, zI a0.fA), (117, .ptr 1 0 4), (116, zI a0.fB), (115, .ptr 1 0 5), (114, zB true), (113, zB (decide (a0.fB > 0))), (112, zI a0.fB), (111, .ptr 1 0 5), (110, zB false), (109, zB (a0.fC == 0)), (108, zB (a0.fC == 0)), (107, zI a0.fC), (106, .ptr 1 0 6), (105, zB true), (104, zB (a0.fB == 0)), (103, zI a0.fB), (102, .ptr 1 0 5), (101, zB true), (100, zB (a0.fKind == 4)), (99, zI a0.fKind), (98, .ptr 1 0 2), (94, zB (a0.fKind == 1)), (93, zI a0.fKind), (92, .ptr 1 0 2), (1, .ptr 1 0 0)], B24⟩ ?_
                                   rcases dich (a0.fKind == 5) with hb99 | hb99
                                   · replace h := cond_t hb99 h
                                     refine rl 133 true hb99 ?_
                                     refine ro 36 2 2 ⟨[(135, zI a0.fB), (134, .ptr 1 0 5), (133, zB true), (132, zB (a0.fKind == 5)), (131, zI a0.fKind), (130, .ptr 1 0 2), (129, zB false), (128, zB (!v96)), (127, zB (!v96)), (126, zB v96), (125, zB v96), (124, zB v96), (123, zI a0.fC), (122, .ptr 1 0 6), (121, zB true), (120, zB (decide (a0.fB < a0.fA))), (119, zB (decide (a0.fB < a0.fA))), (118, zI a0.fA), (117, .ptr 1 0 4), (116, zI a0.fB), (115, .ptr 1 0 5), (114, zB true), (113, zB (decide (a0.fB > 0))), (112, zI a0.fB), (111, .ptr 1 0 5), (110, zB false), (109, zB (a0.fC == 0)), (108, zB (a0.fC == 0)), (107, zI a0.fC), (106, .ptr 1 0 6), (105, zB true), (104, zB (a0.fB == 0)), (103, zI a0.fB), (102, .ptr 1 0 5), (101, zB true), (100, zB (a0.fKind == 4)), (99, zI a0.fKind), (98, .ptr 1 0 2), (94, zB (a0.fKind == 1)), (93, zI a0.fKind), (92, .ptr 1 0 2), (1, .ptr 1 0 0)], B24⟩ ?_
                                     obtain ⟨v100, hv101, h⟩ := bindO h
                                     refine rc 38 ⟨[(136, zB v100), (135, zI a0.fB), (134, .ptr 1 0 5), (133, zB true), (132, zB (a0.fKind == 5)), (131, zI a0.fKind), (130, .ptr 1 0 2), (129, zB false), (128, zB (!v96)), (127, zB (!v96)), (126, zB v96), (125, zB v96), (124, zB v96), (123, zI a0.fC), (122, .ptr 1 0 6), (121, zB true), (120, zB (decide (a0.fB < a0.fA))), (119, zB (decide (a0.fB < a0.fA))), (118, zI a0.fA), (117, .ptr 1 0 4), (116, zI a0.fB), (115, .ptr 1 0 5), (114, zB true), (113, zB (decide (a0.fB > 0))), (112, zI a0.fB), (111, .ptr 1 0 5), (110, zB false), (109, zB (a0.fC == 0)), (108, zB (a0.fC == 0)), (107, zI a0.fC), (106, .ptr 1 0 6), (105, zB true), (104, zB (a0.fB == 0)), (103, zI a0.fB), (102, .ptr 1 0 5), (101, zB true), (100, zB (a0.fKind == 4)), (99, zI a0.fKind), (98, .ptr 1 0 2), (94, zB (a0.fKind == 1)), (93, zI a0.fKind), (92, .ptr 1 0 2), (1, .ptr 1 0 0)], B24⟩ (spec_l07Val_spec a0.fB v100 hv101) ?_
                                     refine ro9 39 3 3 ⟨[(139, zB (!v100)), (138, zB (!v100)), (137, zB (!v100)), (136, zB v100), (135, zI a0.fB), (134, .ptr 1 0 5), (133, zB true), (132, zB (a0.fKind == 5)), (131, zI a0.fKind), (130, .ptr 1 0 2), (129, zB false), (128, zB (!v96)), (127, zB (!v96)), (126, zB v96), (125, zB v96), (124, zB v96), (123, zI a0.fC), (122, .ptr 1 0 6), (121, zB true), (120, zB (decide (a0.fB < a0.fA))), (119, zB (decide (a0.fB < a0.fA))), (118, zI a0.fA), (117, .ptr 1 0 4), (116, zI a0.fB), (115, .ptr 1 0 5), (114, zB true), (113, zB (decide (a0.fB > 0))), (112, zI a0.fB), (111, .ptr 1 0 5), (110, zB false), (109, zB (a0.fC == 0)), (108, zB (a0.fC == 0)), (107, zI a0.fC), (106, .ptr 1 0 6), (105, zB true), (104, zB (a0.fB == 0)), (103, zI a0.fB), (102, .ptr 1 0 5), (101, zB true), (100, zB (a0.fKind == 4)), (99, zI a0.fKind), (98, .ptr 1 0 2), (94, zB (a0.fKind == 1)), (93, zI a0.fKind), (92, .ptr 1 0 2), (1, .ptr 1 0 0)], B24⟩ ?_
                                     rcases dich (!v100) with hb102 | hb102
                                     · replace h := cond_t hb102 h
                                       refine ct hb102 ?_
                                       let B38 : List (Nat × Bx) := [(1, ⟨0, 0, true, some (encPacket a0)⟩)]
                                       refine wkr [1] [(1, 1, false)] ⟨[(1, .ptr 1 0 0)], B38⟩ ?_
                                       refine sqr cv hn ?_
                                       refine ro9 0 1 1 ⟨[(2, zB false), (1, .ptr 1 0 0)], B38⟩ ?_
                                       refine runs_ret ?_
                                       exact fin _ _ h (by kernel_rfl)
                                     · replace h := cond_f hb102 h
                                       refine cf hb102 ?_
                                       refine runs_skip ?_
                                       exact ⟨(), h, wre [1] [(1, 1, false)]⟩
                                   · replace h := cond_f hb99 h
                                     refine rl 133 false hb99 ?_
                                     refine ro9 36 6 2 ⟨[(139, zB false), (138, zB false), (137, .tup []), (136, .tup []), (135, .tup []), (134, .tup []), (133, zB false), (132, zB (a0.fKind == 5)), (131, zI a0.fKind), (130, .ptr 1 0 2), (129, zB false), (128, zB (!v96)), (127, zB (!v96)), (126, zB v96), (125, zB v96), (124, zB v96), (123, zI a0.fC), (122, .ptr 1 0 6), (121, zB true), (120, zB (decide (a0.fB < a0.fA))), (119, zB (decide (a0.fB < a0.fA))), (118, zI a0.fA), (117, .ptr 1 0 4), (116, zI a0.fB), (115, .ptr 1 0 5), (114, zB true), (113, zB (decide (a0.fB > 0))), (112, zI a0.fB), (111, .ptr 1 0 5), (110, zB false), (109, zB (a0.fC == 0)), (108, zB (a0.fC == 0)), (107, zI a0.fC), (106, .ptr 1 0 6), (105, zB true), (104, zB (a0.fB == 0)), (103, zI a0.fB), (102, .ptr 1 0 5), (101, zB true), (100, zB (a0.fKind == 4)), (99, zI a0.fKind), (98, .ptr 1 0 2), (94, zB (a0.fKind == 1)), (93, zI a0.fKind), (92, .ptr 1 0 2), (1, .ptr 1 0 0)], B24⟩ ?_
                                     refine cF ?_
                                     refine runs_skip ?_
                                     exact ⟨(), h, wre [1] [(1, 1, false)]⟩
                               · replace h := cond_f hb95 h
                                 refine rl 121 false hb95 ?_
                                 refine ro9 24 18 6 ⟨[(139, zB true), (138, .tup []), (137, .tup []), (136, .tup []), (135, .tup []), (134, .tup []), (133, .tup []), (132, .tup []), (131, .tup []), (130, .tup []), (129, zB true), (128, zB true), (127, zB true), (126, zB false), (125, zB false), (124, .tup []), (123, .tup []), (122, .tup []), (121, zB false), (120, zB (decide (a0.fB < a0.fA))), (119, zB (decide (a0.fB < a0.fA))), (118, zI a0.fA), (117, .ptr 1 0 4), (116, zI a0.fB), (115, .ptr 1 0 5), (114, zB true), (113, zB (decide (a0.fB > 0))), (112, zI a0.fB), (111, .ptr 1 0 5), (110, zB false), (109, zB (a0.fC == 0)), (108, zB (a0.fC == 0)), (107, zI a0.fC), (106, .ptr 1 0 6), (105, zB true), (104, zB (a0.fB == 0)), (103, zI a0.fB), (102, .ptr 1 0 5), (101, zB true), (100, zB (a0.fKind == 4)), (99, zI a0.fKind), (98, .ptr 1 0 2), (94, zB (a0.fKind == 1)), (93, zI a0.fKind), (92, .ptr 1 0 2), (1, .ptr 1 0 0)], B24⟩ ?_
                                 refine cT ?_
                                 let B39 : List (Nat × Bx) := [(1, ⟨0, 0, true, some (encPacket a0)⟩)]
                                 refine wkr [1] [(1, 1, false)] ⟨[(1, .ptr 1 0 0)], B39⟩ ?_
                                 refine sqr cv hn ?_
                                 refine ro9 0 1 1 ⟨[(2, zB false), (1, .ptr 1 0 0)], B39⟩ ?_
                                 refine runs_ret ?_
                                 exact fin _ _ h (by kernel_rfl)
                             · replace h := cond_f hb94 h
                               refine rl 114 false hb94 ?_
                               refine ro9 17 25 8 ⟨[(139, zB true), (138, .tup []), (137, .tup []), (136, .tup []), (135, .tup []), (134, .tup []), (133, .tup []), (132, .tup []), (131, .tup []), (130, .tup []), (129, zB true), (128, zB true), (127, zB true), (126, zB false), (125, zB false), (124, .tup []), (123, .tup []), (122, .tup []), (121, zB false), (120, zB false), (119, .tup []), (118, .tup []), (117, .tup []), (116, .tup []), (115, .tup []), (114, zB false), (113, zB (decide (a0.fB > 0))), (112, zI a0.fB), (111, .ptr 1 0 5), (110, zB false), (109, zB (a0.fC == 0)), (108, zB (a0.fC == 0)), (107, zI a0.fC), (106, .ptr 1 0 6), (105, zB true), (104, zB (a0.fB == 0)), (103, zI a0.fB), (102, .ptr 1 0 5), (101, zB true), (100, zB (a0.fKind == 4)), (99, zI a0.fKind), (98, .ptr 1 0 2), (94, zB (a0.fKind == 1)), (93, zI a0.fKind), (92, .ptr 1 0 2), (1, .ptr 1 0 0)], B24⟩ ?_
                               refine cT ?_
                               let B40 : List (Nat × Bx) := [(1, ⟨0, 0, true, some (encPacket a0)⟩)]
                               refine wkr [1] [(1, 1, false)] ⟨[(1, .ptr 1 0 0)], B40⟩ ?_
                               refine sqr cv hn ?_
                               refine ro9 0 1 1 ⟨[(2, zB false), (1, .ptr 1 0 0)], B40⟩ ?_
                               refine runs_ret ?_
                               exact fin _ _ h (by kernel_rfl)
                         · replace h := cond_f hb88 h
                           refine rl 105 false hb88 ?_
                           refine ro 8 9 6 ⟨[(114, zB (decide (a0.fB > 0))), (113, zB (decide (a0.fB > 0))), (112, zI a0.fB), (111, .ptr 1 0 5), (110, zB false), (109, zB false), (108, .tup []), (107, .tup []), (106, .tup []), (105, zB false), (104, zB (a0.fB == 0)), (103, zI a0.fB), (102, .ptr 1 0 5), (101, zB true), (100, zB (a0.fKind == 4)), (99, zI a0.fKind), (98, .ptr 1 0 2), (94, zB (a0.fKind == 1)), (93, zI a0.fKind), (92, .ptr 1 0 2), (1, .ptr 1 0 0)], B24⟩ ?_
                           rcases dich (decide (a0.fB > 0)) with hb103 | hb103
                           · replace h := cond_t hb103 h
                             refine rl 114 true hb103 ?_
                             refine ro 17 7 7 ⟨[(121, zB (decide (a0.fB < a0.fA))), (120, zB (decide (a0.fB < a0.fA))), (119, zB (decide (a0.fB < a0.fA))), (118, zI a0.fA), (117, .ptr 1 0 4), (116, zI a0.fB), (115, .ptr 1 0 5), (114, zB true), (113, zB (decide (a0.fB > 0))), (112, zI a0.fB), (111, .ptr 1 0 5), (110, zB false), (109, zB false), (108, .tup []), (107, .tup []), (106, .tup []), (105, zB false), (104, zB (a0.fB == 0)), (103, zI a0.fB), (102, .ptr 1 0 5), (101, zB true), (100, zB (a0.fKind == 4)), (99, zI a0.fKind), (98, .ptr 1 0 2), (94, zB (a0.fKind == 1)), (93, zI a0.fKind), (92, .ptr 1 0 2), (1, .ptr 1 0 0)], B24⟩ ?_
                             rcases dich (decide (a0.fB < a0.fA)) with hb104 | hb104
                             · replace h := cond_t hb104 h
                               refine rl 121 true hb104 ?_
                               refine ro 24 2 2 ⟨[(123, zI a0.fC), (122, .ptr 1 0 6), (121, zB true), (120, zB (decide (a0.fB < a0.fA))), (119, zB (decide (a0.fB < a0.fA))), (118, zI a0.fA), (117, .ptr 1 0 4), (116, zI a0.fB), (115, .ptr 1 0 5), (114, zB true), (113, zB (decide (a0.fB > 0))), (112, zI a0.fB), (111, .ptr 1 0 5), (110, zB false), (109, zB false), (108, .tup []), (107, .tup []), (106, .tup []), (105, zB false), (104, zB (a0.fB == 0)), (103, zI a0.fB), (102, .ptr 1 0 5), (101, zB true), (100, zB (a0.fKind == 4)), (99, zI a0.fKind), (98, .ptr 1 0 2), (94, zB (a0.fKind == 1)), (93, zI a0.fKind), (92, .ptr 1 0 2), (1, .ptr 1 0 0)], B24⟩ ?_
                               obtain ⟨v105, hv106, h⟩ := bindO h
                               refine rc 26 ⟨[(124, zB v105), (123, zI a0.fC), (122, .ptr 1 0 6), (121, zB true), (120, zB (decide (a0.fB < a0.fA))), (119, zB (decide (a0.fB < a0.fA))), (118, zI a0.fA), (117, .ptr 1 0 4), (116, zI a0.fB), (115, .ptr 1 0 5), (114, zB true), (113, zB (decide (a0.fB > 0))), (112, zI a0.fB), (111, .ptr 1 0 5), (110, zB false), (109, zB false), (108, .tup []), (107, .tup []), (106, .tup []), (105, zB false), (104, zB (a0.fB == 0)), (103, zI a0.fB), (102, .ptr 1 0 5), (101, zB true), (100, zB (a0.fKind == 4)), (99, zI a0.fKind), (98, .ptr 1 0 2), (94, zB (a0.fKind == 1)), (93, zI a0.fKind), (92, .ptr 1 0 2), (1, .ptr 1 0 0)], B24⟩ (spec_l07Val_spec a0.fC v105 hv106) ?_
                               refine ro 27 5 5 ⟨[(129, zB (!v105)), (128, zB (!v105)), (127, zB (!v105)), (126, zB v105), (125, zB v105), (124, zB v105), (123, zI a0.fC), (122, .ptr 1 0 6), (121, zB true), (120, zB (decide (a0.fB < a0.fA))), (119, zB (decide (a0.fB < a0.fA))), (118, zI a0.fA), (117, .ptr 1 0 4), (116, zI a0.fB), (115, .ptr 1 0 5), (114, zB true), (113, zB (decide (a0.fB > 0))), (112, zI a0.fB), (111, .ptr 1 0 5), (110, zB false), (109, zB false), (108, .tup []), (107, .tup []), (106, .tup []), (105, zB false), (104, zB (a0.fB == 0)), (103, zI a0.fB), (102, .ptr 1 0 5), (101, zB true), (100, zB (a0.fKind == 4)), (99, zI a0.fKind), (98, .ptr 1 0 2), (94, zB (a0.fKind == 1)), (93, zI a0.fKind), (92, .ptr 1 0 2), (1, .ptr 1 0 0)], B24⟩ ?_
                               rcases dich (!v105) with hb107 | hb107
                               · replace h := cond_t hb107 h
                                 refine rl 129 true hb107 ?_
                                 refine ro9 32 10 1 ⟨[(139, zB true), (138, .tup []), (137, .tup []), (136, .tup []), (135, .tup []), (134, .tup []), (133, .tup []), (132, .tup []), (131, .tup []), (130, .tup []), (129, zB true), (128, zB (!v105)), (127, zB (!v105)), (126, zB v105), (125, zB v105), (124, zB v105), (123, zI a0.fC), (122, .ptr 1 0 6), (121, zB true), (120, zB (decide (a0.fB < a0.fA))), (119, zB (decide (a0.fB < a0.fA))), (118, zI a0.fA), (117, .ptr 1 0 4), (116, zI a0.fB), (115, .ptr 1 0 5), (114, zB true), (113, zB (decide (a0.fB > 0))), (112, zI a0.fB), (111, .ptr 1 0 5), (110, zB false), (109, zB false), (108, .tup []), (107, .tup []), (106, .tup []), (105, zB false), (104, zB (a0.fB == 0)), (103, zI a0.fB), (102, .ptr 1 0 5), (101, zB true), (100, zB (a0.fKind == 4)), (99, zI a0.fKind), (98, .ptr 1 0 2), (94, zB (a0.fKind == 1)), (93, zI a0.fKind), (92, .ptr 1 0 2), (1, .ptr 1 0 0)], B24⟩ ?_
                                 refine cT ?_
                                 let B41 : List (Nat × Bx) := [(1, ⟨0, 0, true, some (encPacket a0)⟩)]
                                 refine wkr [1] [(1, 1, false)] ⟨[(1, .ptr 1 0 0)], B41⟩ ?_
                                 refine sqr cv hn ?_
                                 refine ro9 0 1 1 ⟨[(2, zB false), (1, .ptr 1 0 0)], B41⟩ ?_
                                 refine runs_ret ?_
                                 exact fin _ _ h (by kernel_rfl)
                               · replace h := cond_f hb107 h
                                 refine rl 129 false hb107 ?_
                                 refine ro 32 4 4 ⟨[(133, zB (a0.fKind == 5)), (132, zB (a0.fKind == 5)), (131, zI a0.fKind), (130, .ptr 1 0 2), (129, zB false), (128, zB (!v105)), (127, zB (!v105)), (126, zB v105), (125, zB v105), (124, zB v105), (123, zI a0.fC), (122, .ptr 1 0 6), (121, zB true), (120, zB (decide (a0.fB < a0.fA))), (119, zB (decide (a0.fB < a0.fA))), (118, zI a0.fA), (117, .ptr 1 0 4), (116, zI a0.fB), (115, .ptr 1 0 5), (114, zB true), (113, zB (decide (a0.fB > 0))), (112, zI a0.fB), (111, .ptr 1 0 5), (110, zB false), (109, zB false), (108, .tup []), (107, .tup []), (106, .tup []), (105, zB false), (104, zB (a0.fB == 0)), (103, zI a0.fB), (102, .ptr 1 0 5), (101, zB true), (100, zB (a0.fKind == 4)), (99, zI a0.fKind), (98, .ptr 1 0 2), (94, zB (a0.fKind == 1)), (93, zI a0.fKind), (92, .ptr 1 0 2), (1, .ptr 1 0 0)], B24⟩ ?_
                                 rcases dich (a0.fKind == 5) with hb108 | hb108
                                 · replace h := cond_t hb108 h
                                   refine rl 133 true hb108 ?_
                                   refine ro 36 2 2 ⟨[(135, zI a0.fB), (134, .ptr 1 0 5), (133, zB true), (132, zB (a0.fKind == 5)), (131, zI a0.fKind), (130, .ptr 1 0 2), (129, zB false), (128, zB (!v105)), (127, zB (!v105)), (126, zB v105), (125, zB v105), (124, zB v105), (123, zI a0.fC), (122, .ptr 1 0 6), (121, zB true), (120, zB (decide (a0.fB < a0.fA))), (119, zB (decide (a0.fB < a0.fA))), (118, zI a0.fA), (117, .ptr 1 0 4), (116, zI a0.fB), (115, .ptr 1 0 5), (114, zB true), (113, zB (decide (a0.fB > 0))), (112, zI a0.fB), (111, .ptr 1 0 5), (110, zB false), (109, zB false), (108, .tup []), (107, .tup []), (106, .tup []), (105, zB false), (104, zB (a0.fB == 0)), (103, zI a0.fB), (102, .ptr 1 0 5), (101, zB true), (100, zB (a0.fKind == 4)), (99, zI a0.fKind), (98, .ptr 1 0 2), (94, zB (a0.fKind == 1)), (93, zI a0.fKind), (92, .ptr 1 0 2), (1, .ptr 1 0 0)], B24⟩ ?_
                                   obtain ⟨v109, hv110, h⟩ := bindO h
                                   refine rc 38 ⟨[(136, zB v109), (135, zI a0.fB), (134, .ptr 1 0 5), (133, zB true), (132, zB (a0.fKind == 5)), (131, zI a0.fKind), (130, .ptr 1 0 2), (129, zB false), (128, zB (!v105)), (127, zB (!v105)), (126, zB v105), (125, zB v105), (124, zB v105), (123, zI a0.fC), (122, .ptr 1 0 6), (121, zB true), (120, zB (decide (a0.fB < a0.fA))), (119, zB (decide (a0.fB < a0.fA))), (118, zI a0.fA), (117, .ptr 1 0 4), (116, zI a0.fB), (115, .ptr 1 0 5), (114, zB true), (113, zB (decide (a0.fB > 0))), (112, zI a0.fB), (111, .ptr 1 0 5), (110, zB false), (109, zB false), (108, .tup []), (107, .tup []), (106, .tup []), (105, zB false), (104, zB (a0.fB == 0)), (103, zI a0.fB), (102, .ptr 1 0 5), (101, zB true), (100, zB (a0.fKind == 4)), (99, zI a0.fKind), (98, .ptr 1 0 2), (94, zB (a0.fKind == 1)), (93, zI a0.fKind), (92, .ptr 1 0 2), (1, .ptr 1 0 0)], B24⟩ (spec_l07Val_spec a0.fB v109 hv110) ?_
                                   refine ro9 39 3 3 ⟨[(139, zB (!v109)), (138, zB (!v109)), (137, zB (!v109)), (136, zB v109), (135, zI a0.fB), (134, .ptr 1 0 5), (133, zB true), (132, zB (a0.fKind == 5)), (131, zI a0.fKind), (130, .ptr 1 0 2), (129, zB false), (128, zB (!v105)), (127, zB (!v105)), (126, zB v105), (125, zB v105), (124, zB v105), (123, zI a0.fC), (122, .ptr 1 0 6), (121, zB true), (120, zB (decide (a0.fB < a0.fA))), (119, zB (decide (a0.fB < a0.fA))), (118, zI a0.fA), (117, .ptr 1 0 4), (116, zI a0.fB), (115, .ptr 1 0 5), (114, zB true), (113, zB (decide (a0.fB > 0))), (112, zI a0.fB), (111, .ptr 1 0 5), (110, zB false), (109, zB false), (108, .tup []), (107, .tup []), (106, .tup []), (105, zB false), (104, zB (a0.fB == 0)), (103, zI a0.fB), (102, .ptr 1 0 5), (101, zB true), (100, zB (a0.fKind == 4)), (99, zI a0.fKind), (98, .ptr 1 0 2), (94, zB (a0.fKind == 1)), (93, zI a0.fKind), (92, .ptr 1 0 2), (1, .ptr 1 0 0)], B24⟩ ?_
                                   rcases dich (!v109) with hb111 | hb111
                                   · replace h := cond_t hb111 h
                                     refine ct hb111 ?_
                                     let B42 : List (Nat × Bx) := [(1, ⟨0, 0, true, some (encPacket a0)⟩)]
                                     refine wkr [1] [(1, 1, false)] ⟨[(1, .ptr 1 0 0)], B42⟩ ?_
                                     refine sqr cv hn ?_
                                     refine ro9 0 1 1 ⟨[(2, zB false), (1, .ptr 1 0 0)], B42⟩ ?_
                                     refine runs_ret ?_
                                     exact fin _ _ h (by kernel_rfl)
                                   · replace h := cond_f hb111 h
                                     refine cf hb111 ?_
                                     refine runs_skip ?_
                                     exact ⟨(), h, wre [1] [(1, 1, false)]⟩
                                 · replace h := cond_f hb108 h
                                   refine rl 133 false hb108 ?_
                                   refine ro9 36 6 2 ⟨[(139, zB false), (138, zB false), (137, .tup []), (136, .tup []), (135, .tup []), (134, .tup []), (133, zB false), (132, zB (a0.fKind == 5)), (131, zI a0.fKind), (130, .ptr 1 0 2), (129, zB false), (128, zB (!v105)), (127, zB (!v105)), (126, zB v105), (125, zB v105), (124, zB v105), (123, zI a0.fC), (122, .ptr 1 0 6), (121, zB true), (120, zB (decide (a0.fB < a0.fA))), (119, zB (decide (a0.fB < a0.fA))), (118, zI a0.fA), (117, .ptr 1 0 4), (116, zI a0.fB), (115, .ptr 1 0 5), (114, zB true), (113, zB (decide (a0.fB > 0))), (112, zI a0.fB), (111, .ptr 1 0 5), (110, zB false), (109, zB false), (108, .tup []), (107, .tup []), (106, .tup []), (105, zB false), (104, zB (a0.fB == 0)), (103, zI a0.fB), (102, .ptr 1 0 5), (101, zB true), (100, zB (a0.fKind == 4)), (99, zI a0.fKind), (98, .ptr 1 0 2), (94, zB (a0.fKind == 1)), (93, zI a0.fKind), (92, .ptr 1 0 2), (1, .ptr 1 0 0)], B24⟩ ?_
                                   refine cF ?_
                                   refine runs_skip ?_
                                   exact ⟨(), h, wre [1] [(1, 1, false)]⟩
                             · replace h := cond_f hb104 h
                               refine rl 121 false hb104 ?_
                               refine ro9 24 18 6 ⟨[(139, zB true), (138, .tup []), (137, .tup []), (136, .tup []), (135, .tup []), (134, .tup []), (133, .tup []), (132, .tup []), (131, .tup []), (130, .tup []), (129, zB true), (128, zB true), (127, zB true), (126, zB false), (125, zB false), (124, .tup []), (123, .tup []), (122, .tup []), (121, zB false), (120, zB (decide (a0.fB < a0.fA))), (119, zB (decide (a0.fB < a0.fA))), (118, zI a0.fA), (117, .ptr 1 0 4), (116, zI a0.fB), (115, .ptr 1 0 5), (114, zB true), (113, zB (decide (a0.fB > 0))), (112, zI a0.fB), (111, .ptr 1 0 5), (110, zB false), (109, zB false), (108, .tup []), (107, .tup []), (106, .tup []), (105, zB false), (104, zB (a0.fB == 0)), (103, zI a0.fB), (102, .ptr 1 0 5), (101, zB true), (100, zB (a0.fKind == 4)), (99, zI a0.fKind), (98, .ptr 1 0 2), (94, zB (a0.fKind == 1)), (93, zI a0.fKind), (92, .ptr 1 0 2), (1, .ptr 1 0 0)], B24⟩ ?_
                               refine cT ?_
                               let B43 : List (Nat × Bx) := [(1, ⟨0, 0, true, some (encPacket a0)⟩)]
                               refine wkr [1] [(1, 1, false)] ⟨[(1, .ptr 1 0 0)], B43⟩ ?_
                               refine sqr cv hn ?_
                               refine ro9 0 1 1 ⟨[(2, zB false), (1, .ptr 1 0 0)], B43⟩ ?_
                               refine runs_ret ?_
                               exact fin _ _ h (by kernel_rfl)
                           · replace h := cond_f hb103 h
                             refine rl 114 false hb103 ?_
                             refine ro9 17 25 8 ⟨[(139, zB true), (138, .tup []), (137, .tup []), (136, .tup []), (135, .tup []), (134, .tup []), (133, .tup []), (132, .tup []), (131, .tup []), (130, .tup []), (129, zB true), (128, zB true), (127, zB true), (126, zB false), (125, zB false), (124, .tup []), (123, .tup []), (122, .tup []), (121, zB false), (120, zB false), (119, .tup []), (118, .tup []), (117, .tup []), (116, .tup []), (115, .tup []), (114, zB false), (113, zB (decide (a0.fB > 0))), (112, zI a0.fB), (111, .ptr 1 0 5), (110, zB false), (109, zB false), (108, .tup []), (107, .tup []), (106, .tup []), (105, zB false), (104, zB (a0.fB == 0)), (103, zI a0.fB), (102, .ptr 1 0 5), (101, zB true), (100, zB (a0.fKind == 4)), (99, zI a0.fKind), (98, .ptr 1 0 2), (94, zB (a0.fKind == 1)), (93, zI a0.fKind), (92, .ptr 1 0 2), (1, .ptr 1 0 0)], B24⟩ ?_
                             refine cT ?_
                             let B44 : List (Nat × Bx) := [(1, ⟨0, 0, true, some (encPacket a0)⟩)]
                             refine wkr [1] [(1, 1, false)] ⟨[(1, .ptr 1 0 0)], B44⟩ ?_
                             refine sqr cv hn ?_
                             refine ro9 0 1 1 ⟨[(2, zB false), (1, .ptr 1 0 0)], B44⟩ ?_
                             refine runs_ret ?_
                             exact fin _ _ h (by kernel_rfl)
                       · replace h := cond_f hb87 h
                         refine rl 101 false hb87 ?_
                         refine ro 4 32 6 ⟨[(133, zB (a0.fKind == 5)), (132, zB (a0.fKind == 5)), (131, zI a0.fKind), (130, .ptr 1 0 2), (129, zB false), (128, zB false), (127, .tup []), (126, .tup []), (125, .tup []), (124, .tup []), (123, .tup []), (122, .tup []), (121, .tup []), (120, .tup []), (119, .tup []), (118, .tup []), (117, .tup []), (116, .tup []), (115, .tup []), (114, .tup []), (113, .tup []), (112, .tup []), (111, .tup []), (110, .tup []), (109, .tup []), (108, .tup []), (107, .tup []), (106, .tup []), (105, .tup []), (104, .tup []), (103, .tup []), (102, .tup []), (101, zB false), (100, zB (a0.fKind == 4)), (99, zI a0.fKind), (98, .ptr 1 0 2), (94, zB (a0.fKind == 1)), (93, zI a0.fKind), (92, .ptr 1 0 2), (1, .ptr 1 0 0)], B24⟩ ?_
                         rcases dich (a0.fKind == 5) with hb112 | hb112
                         · replace h := cond_t hb112 h
                           refine rl 133 true hb112 ?_
                           refine ro 36 2 2 ⟨[(135, zI a0.fB), (134, .ptr 1 0 5), (133, zB true), (132, zB (a0.fKind == 5)), (131, zI a0.fKind), (130, .ptr 1 0 2), (129, zB false), (128, zB false), (127, .tup []), (126, .tup []), (125, .tup []), (124, .tup []), (123, .tup []), (122, .tup []), (121, .tup []), (120, .tup []), (119, .tup []), (118, .tup []), (117, .tup []), (116, .tup []), (115, .tup []), (114, .tup []), (113, .tup []), (112, .tup []), (111, .tup []), (110, .tup []), (109, .tup []), (108, .tup []), (107, .tup []), (106, .tup []), (105, .tup []), (104, .tup []), (103, .tup []), (102, .tup []), (101, zB false), (100, zB (a0.fKind == 4)), (99, zI a0.fKind), (98, .ptr 1 0 2), (94, zB (a0.fKind == 1)), (93, zI a0.fKind), (92, .ptr 1 0 2), (1, .ptr 1 0 0)], B24⟩ ?_
                           obtain ⟨v113, hv114, h⟩ := bindO h
                           refine rc 38 ⟨[(136, zB v113), (135, zI a0.fB), (134, .ptr 1 0 5), (133, zB true), (132, zB (a0.fKind == 5)), (131, zI a0.fKind), (130, .ptr 1 0 2), (129, zB false), (128, zB false), (127, .tup []), (126, .tup []), (125, .tup []), (124, .tup []), (123, .tup []), (122, .tup []), (121, .tup []), (120, .tup []), (119, .tup []), (118, .tup []), (117, .tup []), (116, .tup []), (115, .tup []), (114, .tup []), (113, .tup []), (112, .tup []), (111, .tup []), (110, .tup []), (109, .tup []), (108, .tup []), (107, .tup []), (106, .tup []), (105, .tup []), (104, .tup []), (103, .tup []), (102, .tup []), (101, zB false), (100, zB (a0.fKind == 4)), (99, zI a0.fKind), (98, .ptr 1 0 2), (94, zB (a0.fKind == 1)), (93, zI a0.fKind), (92, .ptr 1 0 2), (1, .ptr 1 0 0)], B24⟩ (spec_l07Val_spec a0.fB v113 hv114) ?_
                           refine ro9 39 3 3 ⟨[(139, zB (!v113)), (138, zB (!v113)), (137, zB (!v113)), (136, zB v113), (135, zI a0.fB), (134, .ptr 1 0 5), (133, zB true), (132, zB (a0.fKind == 5)), (131, zI a0.fKind), (130, .ptr 1 0 2), (129, zB false), (128, zB false), (127, .tup []), (126, .tup []), (125, .tup []), (124, .tup []), (123, .tup []), (122, .tup []), (121, .tup []), (120, .tup []), (119, .tup []), (118, .tup []), (117, .tup []), (116, .tup []), (115, .tup []), (114, .tup []), (113, .tup []), (112, .tup []), (111, .tup []), (110, .tup []), (109, .tup []), (108, .tup []), (107, .tup []), (106, .tup []), (105, .tup []), (104, .tup []), (103, .tup []), (102, .tup []), (101, zB false), (100, zB (a0.fKind == 4)), (99, zI a0.fKind), (98, .ptr 1 0 2), (94, zB (a0.fKind == 1)), (93, zI a0.fKind), (92, .ptr 1 0 2), (1, .ptr 1 0 0)], B24⟩ ?_
                           rcases dich (!v113) with hb115 | hb115
                           · replace h := cond_t hb115 h
                             refine ct hb115 ?_
                             let B45 : List (Nat × Bx) := [(1, ⟨0, 0, true, some (encPacket a0)⟩)]
                             refine wkr [1] [(1, 1, false)] ⟨[(1, .ptr 1 0 0)], B45⟩ ?_
                             refine sqr cv hn ?_
                             refine ro9 0 1 1 ⟨[(2, zB false), (1, .ptr 1 0 0)], B45⟩ ?_
                             refine runs_ret ?_
                             exact fin _ _ h (by kernel_rfl)
                           · replace h := cond_f hb115 h
                             refine cf hb115 ?_
                             refine runs_skip ?_
                             exact ⟨(), h, wre [1] [(1, 1, false)]⟩
                         · replace h := cond_f hb112 h
                           refine rl 133 false hb112 ?_
                           refine ro9 36 6 2 ⟨[(139, zB false), (138, zB false), (137, .tup []), (136, .tup []), (135, .tup []), (134, .tup []), (133, zB false), (132, zB (a0.fKind == 5)), (131, zI a0.fKind), (130, .ptr 1 0 2), (129, zB false), (128, zB false), (127, .tup []), (126, .tup []), (125, .tup []), (124, .tup []), (123, .tup []), (122, .tup []), (121, .tup []), (120, .tup []), (119, .tup []), (118, .tup []), (117, .tup []), (116, .tup []), (115, .tup []), (114, .tup []), (113, .tup []), (112, .tup []), (111, .tup []), (110, .tup []), (109, .tup []), (108, .tup []), (107, .tup []), (106, .tup []), (105, .tup []), (104, .tup []), (103, .tup []), (102, .tup []), (101, zB false), (100, zB (a0.fKind == 4)), (99, zI a0.fKind), (98, .ptr 1 0 2), (94, zB (a0.fKind == 1)), (93, zI a0.fKind), (92, .ptr 1 0 2), (1, .ptr 1 0 0)], B24⟩ ?_
                           refine cF ?_
                           refine runs_skip ?_
                           exact ⟨(), h, wre [1] [(1, 1, false)]⟩
                 · skip
                   refine sqr cv hn ?_
                   refine ro 0 2 2 ⟨[(80, zB y48), (79, zB y48), (1, .ptr 1 0 0), (3, zB y48)], B21⟩ ?_
                   rcases dich y48 with hb116 | hb116
                   · replace h := cond_t hb116 h
                     refine rl 80 true hb116 ?_
                     refine ro 2 4 4 ⟨[(84, zB (a0.fAcct != 0)), (83, zB (a0.fAcct != 0)), (82, zI a0.fAcct), (81, .ptr 1 0 3), (80, zB true), (79, zB y48), (1, .ptr 1 0 0), (3, zB y48)], B21⟩ ?_
                     rcases dich (a0.fAcct != 0) with hb117 | hb117
                     · replace h := cond_t hb117 h
                       refine rl 84 true hb117 ?_
                       refine ro9 6 7 2 ⟨[(91, zB true), (90, zB true), (89, .tup []), (88, .tup []), (87, .tup []), (86, .tup []), (85, .tup []), (84, zB true), (83, zB (a0.fAcct != 0)), (82, zI a0.fAcct), (81, .ptr 1 0 3), (80, zB true), (79, zB y48), (1, .ptr 1 0 0), (3, zB y48)], B21⟩ ?_
                       refine cT ?_
                       let B46 : List (Nat × Bx) := [(1, ⟨0, 0, true, some (encPacket a0)⟩)]
                       refine wkr [1] [(1, 1, false)] ⟨[(1, .ptr 1 0 0)], B46⟩ ?_
                       refine sqr cv hn ?_
                       refine ro9 0 1 1 ⟨[(2, zB false), (1, .ptr 1 0 0)], B46⟩ ?_
                       refine runs_ret ?_
                       exact fin _ _ h (by kernel_rfl)
                     · replace h := cond_f hb117 h
                       refine rl 84 false hb117 ?_
                       refine ro9 6 7 7 ⟨[(91, zB (a0.fFrom == a0.fTo)), (90, zB (a0.fFrom == a0.fTo)), (89, zB (a0.fFrom == a0.fTo)), (88, zI a0.fTo), (87, .ptr 1 0 1), (86, zI a0.fFrom), (85, .ptr 1 0 0), (84, zB false), (83, zB (a0.fAcct != 0)), (82, zI a0.fAcct), (81, .ptr 1 0 3), (80, zB true), (79, zB y48), (1, .ptr 1 0 0), (3, zB y48)], B21⟩ ?_
                       rcases dich (a0.fFrom == a0.fTo) with hb118 | hb118
                       · replace h := cond_t hb118 h
                         refine ct hb118 ?_
                         let B47 : List (Nat × Bx) := [(1, ⟨0, 0, true, some (encPacket a0)⟩)]
                         refine wkr [1] [(1, 1, false)] ⟨[(1, .ptr 1 0 0)], B47⟩ ?_
                         refine sqr cv hn ?_
                         refine ro9 0 1 1 ⟨[(2, zB false), (1, .ptr 1 0 0)], B47⟩ ?_
                         refine runs_ret ?_
                         exact fin _ _ h (by kernel_rfl)
                       · replace h := cond_f hb118 h
                         refine cf hb118 ?_
                         refine runs_skip ?_
                         exact ⟨(), h, wre [1] [(1, 1, false)]⟩
                   · replace h := cond_f hb116 h
                     refine rl 80 false hb116 ?_
                     refine ro9 2 11 1 ⟨[(91, zB false), (90, .tup []), (89, .tup []), (88, .tup []), (87, .tup []), (86, .tup []), (85, .tup []), (84, .tup []), (83, .tup []), (82, .tup []), (81, .tup []), (80, zB false), (79, zB y48), (1, .ptr 1 0 0), (3, zB y48)], B21⟩ ?_
                     refine cF ?_
                     refine runs_skip ?_
                     exact ⟨(), h, wre [1] [(1, 1, false)]⟩
               · skip
                 refine rg cv hn ?_
                 refine ro 0 4 4 ⟨[(74, zB (a0.fKind == 1)), (73, zB (a0.fKind == 1)), (72, zI a0.fKind), (71, .ptr 1 0 2), (1, .ptr 1 0 0)], B20⟩ ?_
                 rcases dich (a0.fKind == 1) with hb119 | hb119
                 · replace h := cond_t hb119 h
                   refine rl 74 true hb119 ?_
                   refine ro9 4 5 2 ⟨[(3, zB true), (78, zB true), (77, .tup []), (76, .tup []), (75, .tup []), (74, zB true), (73, zB (a0.fKind == 1)), (72, zI a0.fKind), (71, .ptr 1 0 2), (1, .ptr 1 0 0)], B20⟩ ?_
                   exact ⟨(true), h, wre [1, 3] [(1, 1, false)]⟩
                 · replace h := cond_f hb119 h
                   refine rl 74 false hb119 ?_
                   refine ro9 4 5 5 ⟨[(3, zB (a0.fKind == 2)), (78, zB (a0.fKind == 2)), (77, zB (a0.fKind == 2)), (76, zI a0.fKind), (75, .ptr 1 0 2), (74, zB false), (73, zB (a0.fKind == 1)), (72, zI a0.fKind), (71, .ptr 1 0 2), (1, .ptr 1 0 0)], B20⟩ ?_
                   exact ⟨(a0.fKind == 2), h, wre [1, 3] [(1, 1, false)]⟩
             · skip
               let B48 : List (Nat × Bx) := [(1, ⟨0, 0, true, some (encPacket a0)⟩)]
               refine wkr [1] [(1, 1, false)] ⟨[(1, .ptr 1 0 0)], B48⟩ ?_
               refine sqr cv hn ?_
               refine ro 0 4 4 ⟨[(41, zB (a0.fA == 0)), (40, zB (a0.fA == 0)), (39, zI a0.fA), (38, .ptr 1 0 4), (1, .ptr 1 0 0)], B48⟩ ?_
               rcases dich (a0.fA == 0) with hb120 | hb120
               · replace h := cond_t hb120 h
                 refine rl 41 true hb120 ?_
                 refine ro 4 5 5 ⟨[(46, zB (a0.fKind != 2)), (45, zB (a0.fKind != 2)), (44, zB (a0.fKind != 2)), (43, zI a0.fKind), (42, .ptr 1 0 2), (41, zB true), (40, zB (a0.fA == 0)), (39, zI a0.fA), (38, .ptr 1 0 4), (1, .ptr 1 0 0)], B48⟩ ?_
                 rcases dich (a0.fKind != 2) with hb121 | hb121
                 · replace h := cond_t hb121 h
                   refine rl 46 true hb121 ?_
                   refine ro9 9 24 3 ⟨[(70, zB true), (69, .tup []), (68, .tup []), (67, .tup []), (66, .tup []), (65, .tup []), (64, .tup []), (63, .tup []), (62, .tup []), (61, .tup []), (60, .tup []), (59, .tup []), (58, .tup []), (57, .tup []), (56, zB true), (55, zB true), (54, .tup []), (53, .tup []), (52, .tup []), (51, .tup []), (50, .tup []), (49, .tup []), (48, .tup []), (47, .tup []), (46, zB true), (45, zB (a0.fKind != 2)), (44, zB (a0.fKind != 2)), (43, zI a0.fKind), (42, .ptr 1 0 2), (41, zB true), (40, zB (a0.fA == 0)), (39, zI a0.fA), (38, .ptr 1 0 4), (1, .ptr 1 0 0)], B48⟩ ?_
                   refine cT ?_
                   let B49 : List (Nat × Bx) := [(1, ⟨0, 0, true, some (encPacket a0)⟩)]
                   refine wkr [1] [(1, 1, false)] ⟨[(1, .ptr 1 0 0)], B49⟩ ?_
                   refine sqr cv hn ?_
                   refine ro9 0 1 1 ⟨[(2, zB false), (1, .ptr 1 0 0)], B49⟩ ?_
                   refine runs_ret ?_
                   exact fin _ _ h (by kernel_rfl)
                 · replace h := cond_f hb121 h
                   refine rl 46 false hb121 ?_
                   refine ro 9 4 4 ⟨[(50, zB (a0.fKind != 4)), (49, zB (a0.fKind != 4)), (48, zI a0.fKind), (47, .ptr 1 0 2), (46, zB false), (45, zB (a0.fKind != 2)), (44, zB (a0.fKind != 2)), (43, zI a0.fKind), (42, .ptr 1 0 2), (41, zB true), (40, zB (a0.fA == 0)), (39, zI a0.fA), (38, .ptr 1 0 4), (1, .ptr 1 0 0)], B48⟩ ?_
                   rcases dich (a0.fKind != 4) with hb122 | hb122
                   · replace h := cond_t hb122 h
                     refine rl 50 true hb122 ?_
                     refine ro 13 6 6 ⟨[(56, zB (a0.fC != 0)), (55, zB (a0.fC != 0)), (54, zB (a0.fC != 0)), (53, zB (a0.fC != 0)), (52, zI a0.fC), (51, .ptr 1 0 6), (50, zB true), (49, zB (a0.fKind != 4)), (48, zI a0.fKind), (47, .ptr 1 0 2), (46, zB false), (45, zB (a0.fKind != 2)), (44, zB (a0.fKind != 2)), (43, zI a0.fKind), (42, .ptr 1 0 2), (41, zB true), (40, zB (a0.fA == 0)), (39, zI a0.fA), (38, .ptr 1 0 4), (1, .ptr 1 0 0)], B48⟩ ?_
                     rcases dich (a0.fC != 0) with hb123 | hb123
                     · replace h := cond_t hb123 h
                       refine rl 56 true hb123 ?_
                       refine ro9 19 14 1 ⟨[(70, zB true), (69, .tup []), (68, .tup []), (67, .tup []), (66, .tup []), (65, .tup []), (64, .tup []), (63, .tup []), (62, .tup []), (61, .tup []), (60, .tup []), (59, .tup []), (58, .tup []), (57, .tup []), (56, zB true), (55, zB (a0.fC != 0)), (54, zB (a0.fC != 0)), (53, zB (a0.fC != 0)), (52, zI a0.fC), (51, .ptr 1 0 6), (50, zB true), (49, zB (a0.fKind != 4)), (48, zI a0.fKind), (47, .ptr 1 0 2), (46, zB false), (45, zB (a0.fKind != 2)), (44, zB (a0.fKind != 2)), (43, zI a0.fKind), (42, .ptr 1 0 2), (41, zB true), (40, zB (a0.fA == 0)), (39, zI a0.fA), (38, .ptr 1 0 4), (1, .ptr 1 0 0)], B48⟩ ?_
                       refine cT ?_
                       let B50 : List (Nat × Bx) := [(1, ⟨0, 0, true, some (encPacket a0)⟩)]
                       refine wkr [1] [(1, 1, false)] ⟨[(1, .ptr 1 0 0)], B50⟩ ?_
                       refine sqr cv hn ?_
                       refine ro9 0 1 1 ⟨[(2, zB false), (1, .ptr 1 0 0)], B50⟩ ?_
                       refine runs_ret ?_
                       exact fin _ _ h (by kernel_rfl)
                     · replace h := cond_f hb123 h
                       refine rl 56 false hb123 ?_
                       refine ro 19 4 4 ⟨[(60, zB (a0.fKind != 4)), (59, zB (a0.fKind != 4)), (58, zI a0.fKind), (57, .ptr 1 0 2), (56, zB false), (55, zB (a0.fC != 0)), (54, zB (a0.fC != 0)), (53, zB (a0.fC != 0)), (52, zI a0.fC), (51, .ptr 1 0 6), (50, zB true), (49, zB (a0.fKind != 4)), (48, zI a0.fKind), (47, .ptr 1 0 2), (46, zB false), (45, zB (a0.fKind != 2)), (44, zB (a0.fKind != 2)), (43, zI a0.fKind), (42, .ptr 1 0 2), (41, zB true), (40, zB (a0.fA == 0)), (39, zI a0.fA), (38, .ptr 1 0 4), (1, .ptr 1 0 0)], B48⟩ ?_
                       refine rl 60 true hb122 ?_
                       refine ro 23 5 5 ⟨[(65, zB (a0.fKind != 5)), (64, zB (a0.fKind != 5)), (63, zB (a0.fKind != 5)), (62, zI a0.fKind), (61, .ptr 1 0 2), (60, zB true), (59, zB (a0.fKind != 4)), (58, zI a0.fKind), (57, .ptr 1 0 2), (56, zB false), (55, zB (a0.fC != 0)), (54, zB (a0.fC != 0)), (53, zB (a0.fC != 0)), (52, zI a0.fC), (51, .ptr 1 0 6), (50, zB true), (49, zB (a0.fKind != 4)), (48, zI a0.fKind), (47, .ptr 1 0 2), (46, zB false), (45, zB (a0.fKind != 2)), (44, zB (a0.fKind != 2)), (43, zI a0.fKind), (42, .ptr 1 0 2), (41, zB true), (40, zB (a0.fA == 0)), (39, zI a0.fA), (38, .ptr 1 0 4), (1, .ptr 1 0 0)], B48⟩ ?_
                       rcases dich (a0.fKind != 5) with hb124 | hb124
                       · replace h := cond_t hb124 h
                         refine rl 65 true hb124 ?_
                         refine ro9 28 5 5 ⟨[(70, zB (a0.fB != 0)), (69, zB (a0.fB != 0)), (68, zB (a0.fB != 0)), (67, zI a0.fB), (66, .ptr 1 0 5), (65, zB true), (64, zB (a0.fKind != 5)), (63, zB (a0.fKind != 5)), (62, zI a0.fKind), (61, .ptr 1 0 2), (60, zB true), (59, zB (a0.fKind != 4)), (58, zI a0.fKind), (57, .ptr 1 0 2), (56, zB false), (55, zB (a0.fC != 0)), (54, zB (a0.fC != 0)), (53, zB (a0.fC != 0)), (52, zI a0.fC), (51, .ptr 1 0 6), (50, zB true), (49, zB (a0.fKind != 4)), (48, zI a0.fKind), (47, .ptr 1 0 2), (46, zB false), (45, zB (a0.fKind != 2)), (44, zB (a0.fKind != 2)), (43, zI a0.fKind), (42, .ptr 1 0 2), (41, zB true), (40, zB (a0.fA == 0)), (39, zI a0.fA), (38, .ptr 1 0 4), (1, .ptr 1 0 0)], B48⟩ ?_
                         rcases dich (a0.fB != 0) with hb125 | hb125
                         · replace h := cond_t hb125 h
                           refine ct hb125 ?_
                           let B51 : List (Nat × Bx) := [(1, ⟨0, 0, true, some (encPacket a0)⟩)]
                           refine wkr [1] [(1, 1, false)] ⟨[(1, .ptr 1 0 0)], B51⟩ ?_
                           refine sqr cv hn ?_
                           refine ro9 0 1 1 ⟨[(2, zB false), (1, .ptr 1 0 0)], B51⟩ ?_
                           refine runs_ret ?_
                           exact fin _ _ h (by kernel_rfl)
                         · replace h := cond_f hb125 h
                           refine cf hb125 ?_
                           refine runs_skip ?_
                           exact ⟨(), h, wre [1] [(1, 1, false)]⟩
                       · replace h := cond_f hb124 h
                         refine rl 65 false hb124 ?_
                         refine ro9 28 5 2 ⟨[(70, zB false), (69, zB false), (68, .tup []), (67, .tup []), (66, .tup []), (65, zB false), (64, zB (a0.fKind != 5)), (63, zB (a0.fKind != 5)), (62, zI a0.fKind), (61, .ptr 1 0 2), (60, zB true), (59, zB (a0.fKind != 4)), (58, zI a0.fKind), (57, .ptr 1 0 2), (56, zB false), (55, zB (a0.fC != 0)), (54, zB (a0.fC != 0)), (53, zB (a0.fC != 0)), (52, zI a0.fC), (51, .ptr 1 0 6), (50, zB true), (49, zB (a0.fKind != 4)), (48, zI a0.fKind), (47, .ptr 1 0 2), (46, zB false), (45, zB (a0.fKind != 2)), (44, zB (a0.fKind != 2)), (43, zI a0.fKind), (42, .ptr 1 0 2), (41, zB true), (40, zB (a0.fA == 0)), (39, zI a0.fA), (38, .ptr 1 0 4), (1, .ptr 1 0 0)], B48⟩ ?_
                         refine cF ?_
                         refine runs_skip ?_
                         exact ⟨(), h, wre [1] [(1, 1, false)]⟩
                   · replace h := cond_f hb122 h
                     refine rl 50 false hb122 ?_
                     refine ro 13 10 7 ⟨[(60, zB (a0.fKind != 4)), (59, zB (a0.fKind != 4)), (58, zI a0.fKind), (57, .ptr 1 0 2), (56, zB false), (55, zB false), (54, zB false), (53, .tup []), (52, .tup []), (51, .tup []), (50, zB false), (49, zB (a0.fKind != 4)), (48, zI a0.fKind), (47, .ptr 1 0 2), (46, zB false), (45, zB (a0.fKind != 2)), (44, zB (a0.fKind != 2)), (43, zI a0.fKind), (42, .ptr 1 0 2), (41, zB true), (40, zB (a0.fA == 0)), (39, zI a0.fA), (38, .ptr 1 0 4), (1, .ptr 1 0 0)], B48⟩ ?_
                     refine rl 60 false hb122 ?_
                     refine ro9 23 10 4 ⟨[(70, zB false), (69, zB false), (68, .tup []), (67, .tup []), (66, .tup []), (65, zB false), (64, zB false), (63, .tup []), (62, .tup []), (61, .tup []), (60, zB false), (59, zB (a0.fKind != 4)), (58, zI a0.fKind), (57, .ptr 1 0 2), (56, zB false), (55, zB false), (54, zB false), (53, .tup []), (52, .tup []), (51, .tup []), (50, zB false), (49, zB (a0.fKind != 4)), (48, zI a0.fKind), (47, .ptr 1 0 2), (46, zB false), (45, zB (a0.fKind != 2)), (44, zB (a0.fKind != 2)), (43, zI a0.fKind), (42, .ptr 1 0 2), (41, zB true), (40, zB (a0.fA == 0)), (39, zI a0.fA), (38, .ptr 1 0 4), (1, .ptr 1 0 0)], B48⟩ ?_
                     refine cF ?_
                     refine runs_skip ?_
                     exact ⟨(), h, wre [1] [(1, 1, false)]⟩
               · replace h := cond_f hb120 h
                 refine rl 41 false hb120 ?_
                 refine ro 4 9 6 ⟨[(50, zB (a0.fKind != 4)), (49, zB (a0.fKind != 4)), (48, zI a0.fKind), (47, .ptr 1 0 2), (46, zB false), (45, zB false), (44, .tup []), (43, .tup []), (42, .tup []), (41, zB false), (40, zB (a0.fA == 0)), (39, zI a0.fA), (38, .ptr 1 0 4), (1, .ptr 1 0 0)], B48⟩ ?_
                 rcases dich (a0.fKind != 4) with hb126 | hb126
                 · replace h := cond_t hb126 h
                   refine rl 50 true hb126 ?_
                   refine ro 13 6 6 ⟨[(56, zB (a0.fC != 0)), (55, zB (a0.fC != 0)), (54, zB (a0.fC != 0)), (53, zB (a0.fC != 0)), (52, zI a0.fC), (51, .ptr 1 0 6), (50, zB true), (49, zB (a0.fKind != 4)), (48, zI a0.fKind), (47, .ptr 1 0 2), (46, zB false), (45, zB false), (44, .tup []), (43, .tup []), (42, .tup []), (41, zB false), (40, zB (a0.fA == 0)), (39, zI a0.fA), (38, .ptr 1 0 4), (1, .ptr 1 0 0)], B48⟩ ?_
                   rcases dich (a0.fC != 0) with hb127 | hb127
                   · replace h := cond_t hb127 h
                     refine rl 56 true hb127 ?_
                     refine ro9 19 14 1 ⟨[(70, zB true), (69, .tup []), (68, .tup []), (67, .tup []), (66, .tup []), (65, .tup []), (64, .tup []), (63, .tup []), (62, .tup []), (61, .tup []), (60, .tup []), (59, .tup []), (58, .tup []), (57, .tup []), (56, zB true), (55, zB (a0.fC != 0)), (54, zB (a0.fC != 0)), (53, zB (a0.fC != 0)), (52, zI a0.fC), (51, .ptr 1 0 6), (50, zB true), (49, zB (a0.fKind != 4)), (48, zI a0.fKind), (47, .ptr 1 0 2), (46, zB false), (45, zB false), (44, .tup []), (43, .tup []), (42, .tup []), (41, zB false), (40, zB (a0.fA == 0)), (39, zI a0.fA), (38, .ptr 1 0 4), (1, .ptr 1 0 0)], B48⟩ ?_
                     refine cT ?_
                     let B52 : List (Nat × Bx) := [(1, ⟨0, 0, true, some (encPacket a0)⟩)]
                     refine wkr [1] [(1, 1, false)] ⟨[(1, .ptr 1 0 0)], B52⟩ ?_
                     refine sqr cv hn ?_
                     refine ro9 0 1 1 ⟨[(2, zB false), (1, .ptr 1 0 0)], B52⟩ ?_
                     refine runs_ret ?_
                     exact fin _ _ h (by kernel_rfl)
                   · replace h := cond_f hb127 h
                     refine rl 56 false hb127 ?_
                     refine ro 19 4 4 ⟨[(60, zB (a0.fKind != 4)), (59, zB (a0.fKind != 4)), (58, zI a0.fKind), (57, .ptr 1 0 2), (56, zB false), (55, zB (a0.fC != 0)), (54, zB (a0.fC != 0)), (53, zB (a0.fC != 0)), (52, zI a0.fC), (51, .ptr 1 0 6), (50, zB true), (49, zB (a0.fKind != 4)), (48, zI a0.fKind), (47, .ptr 1 0 2), (46, zB false), (45, zB false), (44, .tup []), (43, .tup []), (42, .tup []), (41, zB false), (40, zB (a0.fA == 0)), (39, zI a0.fA), (38, .ptr 1 0 4), (1, .ptr 1 0 0)], B48⟩ ?_
                     refine rl 60 true hb126 ?_
                     refine ro 23 5 5 ⟨[(65, zB (a0.fKind != 5)), (64, zB (a0.fKind != 5)), (63, zB (a0.fKind != 5)), (62, zI a0.fKind), (61, .ptr 1 0 2), (60, zB true), (59, zB (a0.fKind != 4)), (58, zI a0.fKind), (57, .ptr 1 0 2), (56, zB false), (55, zB (a0.fC != 0)), (54, zB (a0.fC != 0)), (53, zB (a0.fC != 0)), (52, zI a0.fC), (51, .ptr 1 0 6), (50, zB true), (49, zB (a0.fKind != 4)), (48, zI a0.fKind), (47, .ptr 1 0 2), (46, zB false), (45, zB false), (44, .tup []), (43, .tup []), (42, .tup []), (41, zB false), (40, zB (a0.fA == 0)), (39, zI a0.fA), (38, .ptr 1 0 4), (1, .ptr 1 0 0)], B48⟩ ?_
                     rcases dich (a0.fKind != 5) with hb128 | hb128
                     · replace h := cond_t hb128 h
                       refine rl 65 true hb128 ?_
                       refine ro9 28 5 5 ⟨[(70, zB (a0.fB != 0)), (69, zB (a0.fB != 0)), (68, zB (a0.fB != 0)), (67, zI a0.fB), (66, .ptr 1 0 5), (65, zB true), (64, zB (a0.fKind != 5)), (63, zB (a0.fKind != 5)), (62, zI a0.fKind), (61, .ptr 1 0 2), (60, zB true), (59, zB (a0.fKind != 4)), (58, zI a0.fKind), (57, .ptr 1 0 2), (56, zB false), (55, zB (a0.fC != 0)), (54, zB (a0.fC != 0)), (53, zB (a0.fC != 0)), (52, zI a0.fC), (51, .ptr 1 0 6), (50, zB true), (49, zB (a0.fKind != 4)), (48, zI a0.fKind), (47, .ptr 1 0 2), (46, zB false), (45, zB false), (44, .tup []), (43, .tup []), (42, .tup []), (41, zB false), (40, zB (a0.fA == 0)), (39, zI a0.fA), (38, .ptr 1 0 4), (1, .ptr 1 0 0)], B48⟩ ?_
                       rcases dich (a0.fB != 0) with hb129 | hb129
                       · replace h := cond_t hb129 h
                         refine ct hb129 ?_
                         let B53 : List (Nat × Bx) := [(1, ⟨0, 0, true, some (encPacket a0)⟩)]
                         refine wkr [1] [(1, 1, false)] ⟨[(1, .ptr 1 0 0)], B53⟩ ?_
                         refine sqr cv hn ?_
                         refine ro9 0 1 1 ⟨[(2, zB false), (1, .ptr 1 0 0)], B53⟩ ?_
                         refine runs_ret ?_
                         exact fin _ _ h (by kernel_rfl)
                       · replace h := cond_f hb129 h
                         refine cf hb129 ?_
                         refine runs_skip ?_
                         exact ⟨(), h, wre [1] [(1, 1, false)]⟩
                     · replace h := cond_f hb128 h
                       refine rl 65 false hb128 ?_
                       refine ro9 28 5 2 ⟨[(70, zB false), (69, zB false), (68, .tup []), (67, .tup []), (66, .tup []), (65, zB false), (64, zB (a0.fKind != 5)), (63, zB (a0.fKind != 5)), (62, zI a0.fKind), (61, .ptr 1 0 2), (60, zB true), (59, zB (a0.fKind != 4)), (58, zI a0.fKind), (57, .ptr 1 0 2), (56, zB false), (55, zB (a0.fC != 0)), (54, zB (a0.fC != 0)), (53, zB (a0.fC != 0)), (52, zI a0.fC), (51, .ptr 1 0 6), (50, zB true), (49, zB (a0.fKind != 4)), (48, zI a0.fKind), (47, .ptr 1 0 2), (46, zB false), (45, zB false), (44, .tup []), (43, .tup []), (42, .tup []), (41, zB false), (40, zB (a0.fA == 0)), (39, zI a0.fA), (38, .ptr 1 0 4), (1, .ptr 1 0 0)], B48⟩ ?_
                       refine cF ?_
                       refine runs_skip ?_
                       exact ⟨(), h, wre [1] [(1, 1, false)]⟩
                 · replace h := cond_f hb126 h
                   refine rl 50 false hb126 ?_
                   refine ro 13 10 7 ⟨[(60, zB (a0.fKind != 4)), (59, zB (a0.fKind != 4)), (58, zI a0.fKind), (57, .ptr 1 0 2), (56, zB false), (55, zB false), (54, zB false), (53, .tup []), (52, .tup []), (51, .tup []), (50, zB false), (49, zB (a0.fKind != 4)), (48, zI a0.fKind), (47, .ptr 1 0 2), (46, zB false), (45, zB false), (44, .tup []), (43, .tup []), (42, .tup []), (41, zB false), (40, zB (a0.fA == 0)), (39, zI a0.fA), (38, .ptr 1 0 4), (1, .ptr 1 0 0)], B48⟩ ?_
                   refine rl 60 false hb126 ?_
                   refine ro9 23 10 4 ⟨[(70, zB false), (69, zB false), (68, .tup []), (67, .tup []), (66, .tup []), (65, zB false), (64, zB false), (63, .tup []), (62, .tup []), (61, .tup []), (60, zB false), (59, zB (a0.fKind != 4)), (58, zI a0.fKind), (57, .ptr 1 0 2), (56, zB false), (55, zB false), (54, zB false), (53, .tup []), (52, .tup []), (51, .tup []), (50, zB false), (49, zB (a0.fKind != 4)), (48, zI a0.fKind), (47, .ptr 1 0 2), (46, zB false), (45, zB false), (44, .tup []), (43, .tup []), (42, .tup []), (41, zB false), (40, zB (a0.fA == 0)), (39, zI a0.fA), (38, .ptr 1 0 4), (1, .ptr 1 0 0)], B48⟩ ?_
                   refine cF ?_
                   refine runs_skip ?_
                   exact ⟨(), h, wre [1] [(1, 1, false)]⟩

set_option maxRecDepth 100000 in
set_option maxHeartbeats 2000000 in
theorem laws_toMsg_spec (a0 : SMsg) (v0 : SMsg) (h : laws_toMsg a0 = some v0) : Ax.Spec Try.prog 82 none [encMsg a0] (encMsg v0 : X) (.junk : X) := by
 refine walk0 (fn := Try.f82) (fun q0 : SMsg => (encMsg q0 : X)) (fun q0 : SMsg => (.junk : X)) v0 ⟨[(0, encMsg a0)], []⟩ Try.func82 rfl (by decide +kernel) fun Γ hn fin => ?_
 rw [laws_toMsg] at h
 refine sqr cv hn ?_
 refine ro9 0 2 2 ⟨[(2, .ptr 2 1 0), (1, .ptr 1 1 0), (0, encMsg a0)], [(2, ⟨1, 1, true, some (.agg [zI 0, zI 0, zI 0, zI 0])⟩), (1, ⟨1, 1, true, some (encMsg a0)⟩)]⟩ ?_
 refine sqr cv hn ?_
 refine ro9 0 1 1 ⟨[(3, .ptr 3 1 0), (2, .ptr 2 1 0), (1, .ptr 1 1 0), (0, encMsg a0)], [(3, ⟨1, 1, true, some (.agg [zI 0, zI 0, zI 0, zI 0])⟩), (2, ⟨1, 1, true, some (.agg [zI 0, zI 0, zI 0, zI 0])⟩), (1, ⟨1, 1, true, some (encMsg a0)⟩)]⟩ ?_
 refine sqr cv hn ?_
 refine ro9 0 4 4 ⟨[(6, .ptr 3 1 0), (5, zI a0.fKind), (4, .ptr 1 1 0), (3, .ptr 3 1 0), (2, .ptr 2 1 0), (1, .ptr 1 1 0), (0, encMsg a0)], [(3, ⟨1, 1, true, some (.agg [zI a0.fKind, zI 0, zI 0, zI 0])⟩), (3, ⟨1, 1, true, some (.agg [zI 0, zI 0, zI 0, zI 0])⟩), (2, ⟨1, 1, true, some (.agg [zI 0, zI 0, zI 0, zI 0])⟩), (1, ⟨1, 1, true, some (encMsg a0)⟩)]⟩ ?_
 refine sqr cv hn ?_
 refine ro9 0 4 4 ⟨[(9, .ptr 3 1 1), (8, zI a0.fAcct), (7, .ptr 1 1 1), (6, .ptr 3 1 0), (5, zI a0.fKind), (4, .ptr 1 1 0), (3, .ptr 3 1 0), (2, .ptr 2 1 0), (1, .ptr 1 1 0), (0, encMsg a0)], [(3, ⟨1, 1, true, some (.agg [zI a0.fKind, zI a0.fAcct, zI 0, zI 0])⟩), (3, ⟨1, 1, true, some (.agg [zI a0.fKind, zI 0, zI 0, zI 0])⟩), (3, ⟨1, 1, true, some (.agg [zI 0, zI 0, zI 0, zI 0])⟩), (2, ⟨1, 1, true, some (.agg [zI 0, zI 0, zI 0, zI 0])⟩), (1, ⟨1, 1, true, some (encMsg a0)⟩)]⟩ ?_
 let T3 : List (Nat × X) := [(3, .ptr 3 0 0), (2, .ptr 2 0 0), (1, .ptr 1 0 0)]
 let B3 : List (Nat × Bx) := [(3, ⟨0, 0, true, some (.agg [zI a0.fKind, zI a0.fAcct, zI 0, zI 0])⟩), (2, ⟨0, 0, true, some (.agg [zI 0, zI 0, zI 0, zI 0])⟩), (1, ⟨0, 0, true, some (encMsg a0)⟩)]
 refine wkr [3, 2, 1] [(3, 3, false), (2, 2, false), (1, 1, false)] ⟨T3, B3⟩ ?_
 refine sqr cv hn ?_
 refine ro9 0 4 4 ⟨(12, .ptr 3 0 2) :: (11, zI a0.fAmt) :: (10, .ptr 1 0 2) :: T3, (3, ⟨0, 0, true, some (.agg [zI a0.fKind, zI a0.fAcct, zI a0.fAmt, zI 0])⟩) :: B3⟩ ?_
 refine sqr cv hn ?_
 refine ro9 0 4 4 ⟨(15, .ptr 3 0 3) :: (14, zI a0.fSrc) :: (13, .ptr 1 0 3) :: (12, .ptr 3 0 2) :: (11, zI a0.fAmt) :: (10, .ptr 1 0 2) :: T3, (3, ⟨0, 0, true, some (encMsg a0)⟩) :: (3, ⟨0, 0, true, some (.agg [zI a0.fKind, zI a0.fAcct, zI a0.fAmt, zI 0])⟩) :: B3⟩ ?_
 let T4 : List (Nat × X) := [(3, .ptr 3 0 0), (2, .ptr 2 0 0)]
 let B4 : List (Nat × Bx) := [(3, ⟨0, 0, true, some (encMsg a0)⟩), (2, ⟨0, 0, true, some (.agg [zI 0, zI 0, zI 0, zI 0])⟩)]
 refine wkr [3, 2] [(3, 3, false), (2, 2, false)] ⟨T4, B4⟩ ?_
 refine sqr cv hn ?_
 refine ro9 0 2 2 ⟨(16, encMsg a0) :: T4, (2, ⟨0, 0, true, some (encMsg a0)⟩) :: B4⟩ ?_
 refine runs_ret ?_
 exact fin _ _ h (by kernel_rfl)

set_option maxRecDepth 100000 in
set_option maxHeartbeats 2000000 in
theorem laws_toPacket_spec (a0 : SPacket) (v0 : SPacket) (h : laws_toPacket a0 = some v0) : Ax.Spec Try.prog 37 none [encPacket a0] (encPacket v0 : X) (.junk : X) := by
 refine walk0 (fn := Try.f37) (fun q0 : SPacket => (encPacket q0 : X)) (fun q0 : SPacket => (.junk : X)) v0 ⟨[(0, encPacket a0)], []⟩ Try.func37 rfl (by decide +kernel) fun Γ hn fin => ?_
 rw [laws_toPacket] at h
 refine sqr cv hn ?_
 refine ro9 0 2 2 ⟨[(2, .ptr 2 1 0), (1, .ptr 1 1 0), (0, encPacket a0)], [(2, ⟨1, 1, true, some (.agg [zI 0, zI 0, zI 0, zI 0, zI 0, zI 0, zI 0, zI 0, zI 0, zI 0, zI 0])⟩), (1, ⟨1, 1, true, some (encPacket a0)⟩)]⟩ ?_
 refine sqr cv hn ?_
 refine ro9 0 1 1 ⟨[(3, .ptr 3 1 0), (2, .ptr 2 1 0), (1, .ptr 1 1 0), (0, encPacket a0)], [(3, ⟨1, 1, true, some (.agg [zI 0, zI 0, zI 0, zI 0, zI 0, zI 0, zI 0, zI 0, zI 0, zI 0, zI 0])⟩), (2, ⟨1, 1, true, some (.agg [zI 0, zI 0, zI 0, zI 0, zI 0, zI 0, zI 0, zI 0, zI 0, zI 0, zI 0])⟩), (1, ⟨1, 1, true, some (encPacket a0)⟩)]⟩ ?_
 refine sqr cv hn ?_
 refine ro9 0 4 4 ⟨[(6, .ptr 3 1 0), (5, zI a0.fFrom), (4, .ptr 1 1 0), (3, .ptr 3 1 0), (2, .ptr 2 1 0), (1, .ptr 1 1 0), (0, encPacket a0)], [(3, ⟨1, 1, true, some (.agg [zI a0.fFrom, zI 0, zI 0, zI 0, zI 0, zI 0, zI 0, zI 0, zI 0, zI 0, zI 0])⟩), (3, ⟨1, 1, true, some (.agg [zI 0, zI 0, zI 0, zI 0, zI 0, zI 0, zI 0, zI 0, zI 0, zI 0, zI 0])⟩), (2, ⟨1, 1, true, some (.agg [zI 0, zI 0, zI 0, zI 0, zI 0, zI 0, zI 0, zI 0, zI 0, zI 0, zI 0])⟩), (1, ⟨1, 1, true, some (encPacket a0)⟩)]⟩ ?_
 refine sqr cv hn ?_
 refine ro9 0 4 4 ⟨[(9, .ptr 3 1 1), (8, zI a0.fTo), (7, .ptr 1 1 1), (6, .ptr 3 1 0), (5, zI a0.fFrom), (4, .ptr 1 1 0), (3, .ptr 3 1 0), (2, .ptr 2 1 0), (1, .ptr 1 1 0), (0, encPacket a0)], [(3, ⟨1, 1, true, some (.agg [zI a0.fFrom, zI a0.fTo, zI 0, zI 0, zI 0, zI 0, zI 0, zI 0, zI 0, zI 0, zI 0])⟩), (3, ⟨1, 1, true, some (.agg [zI a0.fFrom, zI 0, zI 0, zI 0, zI 0, zI 0, zI 0, zI 0, zI 0, zI 0, zI 0])⟩), (3, ⟨1, 1, true, some (.agg [zI 0, zI 0, zI 0, zI 0, zI 0, zI 0, zI 0, zI 0, zI 0, zI 0, zI 0])⟩), (2, ⟨1, 1, true, some (.agg [zI 0, zI 0, zI 0, zI 0, zI 0, zI 0, zI 0, zI 0, zI 0, zI 0, zI 0])⟩), (1, ⟨1, 1, true, some (encPacket a0)⟩)]⟩ ?_
 let T3 : List (Nat × X) := [(3, .ptr 3 0 0), (2, .ptr 2 0 0), (1, .ptr 1 0 0)]
 let B3 : List (Nat × Bx) := [(3, ⟨0, 0, true, some (.agg [zI a0.fFrom, zI a0.fTo, zI 0, zI 0, zI 0, zI 0, zI 0, zI 0, zI 0, zI 0, zI 0])⟩), (2, ⟨0, 0, true, some (.agg [zI 0, zI 0, zI 0, zI 0, zI 0, zI 0, zI 0, zI 0, zI 0, zI 0, zI 0])⟩), (1, ⟨0, 0, true, some (encPacket a0)⟩)]
 refine wkr [3, 2, 1] [(3, 3, false), (2, 2, false), (1, 1, false)] ⟨T3, B3⟩ ?_
 refine sqr cv hn ?_
 refine ro9 0 4 4 ⟨(12, .ptr 3 0 2) :: (11, zI a0.fKind) :: (10, .ptr 1 0 2) :: T3, (3, ⟨0, 0, true, some (.agg [zI a0.fFrom, zI a0.fTo, zI a0.fKind, zI 0, zI 0, zI 0, zI 0, zI 0, zI 0, zI 0, zI 0])⟩) :: B3⟩ ?_
 refine sqr cv hn ?_
 refine ro9 0 4 4 ⟨(15, .ptr 3 0 3) :: (14, zI a0.fAcct) :: (13, .ptr 1 0 3) :: (12, .ptr 3 0 2) :: (11, zI a0.fKind) :: (10, .ptr 1 0 2) :: T3, (3, ⟨0, 0, true, some (.agg [zI a0.fFrom, zI a0.fTo, zI a0.fKind, zI a0.fAcct, zI 0, zI 0, zI 0, zI 0, zI 0, zI 0, zI 0])⟩) :: (3, ⟨0, 0, true, some (.agg [zI a0.fFrom, zI a0.fTo, zI a0.fKind, zI 0, zI 0, zI 0, zI 0, zI 0, zI 0, zI 0, zI 0])⟩) :: B3⟩ ?_
 let T5 : List (Nat × X) := [(3, .ptr 3 0 0), (2, .ptr 2 0 0), (1, .ptr 1 0 0)]
 let B5 : List (Nat × Bx) := [(3, ⟨0, 0, true, some (.agg [zI a0.fFrom, zI a0.fTo, zI a0.fKind, zI a0.fAcct, zI 0, zI 0, zI 0, zI 0, zI 0, zI 0, zI 0])⟩), (2, ⟨0, 0, true, some (.agg [zI 0, zI 0, zI 0, zI 0, zI 0, zI 0, zI 0, zI 0, zI 0, zI 0, zI 0])⟩), (1, ⟨0, 0, true, some (encPacket a0)⟩)]
 refine wkr [3, 2, 1] [(3, 3, false), (2, 2, false), (1, 1, false)] ⟨T5, B5⟩ ?_
 refine sqr cv hn ?_
 refine ro9 0 4 4 ⟨(18, .ptr 3 0 4) :: (17, zI a0.fA) :: (16, .ptr 1 0 4) :: T5, (3, ⟨0, 0, true, some (.agg [zI a0.fFrom, zI a0.fTo, zI a0.fKind, zI a0.fAcct, zI a0.fA, zI 0, zI 0, zI 0, zI 0, zI 0, zI 0])⟩) :: B5⟩ ?_
 refine sqr cv hn ?_
 refine ro9 0 4 4 ⟨(21, .ptr 3 0 5) :: (20, zI a0.fB) :: (19, .ptr 1 0 5) :: (18, .ptr 3 0 4) :: (17, zI a0.fA) :: (16, .ptr 1 0 4) :: T5, (3, ⟨0, 0, true, some (.agg [zI a0.fFrom, zI a0.fTo, zI a0.fKind, zI a0.fAcct, zI a0.fA, zI a0.fB, zI 0, zI 0, zI 0, zI 0, zI 0])⟩) :: (3, ⟨0, 0, true, some (.agg [zI a0.fFrom, zI a0.fTo, zI a0.fKind, zI a0.fAcct, zI a0.fA, zI 0, zI 0, zI 0, zI 0, zI 0, zI 0])⟩) :: B5⟩ ?_
 let T7 : List (Nat × X) := [(3, .ptr 3 0 0), (2, .ptr 2 0 0), (1, .ptr 1 0 0)]
 let B7 : List (Nat × Bx) := [(3, ⟨0, 0, true, some (.agg [zI a0.fFrom, zI a0.fTo, zI a0.fKind, zI a0.fAcct, zI a0.fA, zI a0.fB, zI 0, zI 0, zI 0, zI 0, zI 0])⟩), (2, ⟨0, 0, true, some (.agg [zI 0, zI 0, zI 0, zI 0, zI 0, zI 0, zI 0, zI 0, zI 0, zI 0, zI 0])⟩), (1, ⟨0, 0, true, some (encPacket a0)⟩)]
 refine wkr [3, 2, 1] [(3, 3, false), (2, 2, false), (1, 1, false)] ⟨T7, B7⟩ ?_
 refine sqr cv hn ?_
 refine ro9 0 4 4 ⟨(24, .ptr 3 0 6) :: (23, zI a0.fC) :: (22, .ptr 1 0 6) :: T7, (3, ⟨0, 0, true, some (.agg [zI a0.fFrom, zI a0.fTo, zI a0.fKind, zI a0.fAcct, zI a0.fA, zI a0.fB, zI a0.fC, zI 0, zI 0, zI 0, zI 0])⟩) :: B7⟩ ?_
 refine sqr cv hn ?_
 refine ro 0 2 2 ⟨(26, encMsg a0.fM) :: (25, .ptr 1 0 7) :: (24, .ptr 3 0 6) :: (23, zI a0.fC) :: (22, .ptr 1 0 6) :: T7, (3, ⟨0, 0, true, some (.agg [zI a0.fFrom, zI a0.fTo, zI a0.fKind, zI a0.fAcct, zI a0.fA, zI a0.fB, zI a0.fC, zI 0, zI 0, zI 0, zI 0])⟩) :: B7⟩ ?_
 obtain ⟨v1, hv2, h⟩ := bindO h
 refine rc 2 ⟨(27, encMsg v1) :: (26, encMsg a0.fM) :: (25, .ptr 1 0 7) :: (24, .ptr 3 0 6) :: (23, zI a0.fC) :: (22, .ptr 1 0 6) :: T7, (3, ⟨0, 0, true, some (.agg [zI a0.fFrom, zI a0.fTo, zI a0.fKind, zI a0.fAcct, zI a0.fA, zI a0.fB, zI a0.fC, zI 0, zI 0, zI 0, zI 0])⟩) :: B7⟩ (laws_toMsg_spec a0.fM v1 hv2) ?_
 refine ro9 3 2 2 ⟨(28, .ptr 3 0 7) :: (27, encMsg v1) :: (26, encMsg a0.fM) :: (25, .ptr 1 0 7) :: (24, .ptr 3 0 6) :: (23, zI a0.fC) :: (22, .ptr 1 0 6) :: T7, (3, ⟨0, 0, true, some (.agg [zI a0.fFrom, zI a0.fTo, zI a0.fKind, zI a0.fAcct, zI a0.fA, zI a0.fB, zI a0.fC, zI v1.fKind, zI v1.fAcct, zI v1.fAmt, zI v1.fSrc])⟩) :: (3, ⟨0, 0, true, some (.agg [zI a0.fFrom, zI a0.fTo, zI a0.fKind, zI a0.fAcct, zI a0.fA, zI a0.fB, zI a0.fC, zI 0, zI 0, zI 0, zI 0])⟩) :: B7⟩ ?_
 let T8 : List (Nat × X) := [(3, .ptr 3 0 0), (2, .ptr 2 0 0)]
 let B8 : List (Nat × Bx) := [(3, ⟨0, 0, true, some (.agg [zI a0.fFrom, zI a0.fTo, zI a0.fKind, zI a0.fAcct, zI a0.fA, zI a0.fB, zI a0.fC, zI v1.fKind, zI v1.fAcct, zI v1.fAmt, zI v1.fSrc])⟩), (2, ⟨0, 0, true, some (.agg [zI 0, zI 0, zI 0, zI 0, zI 0, zI 0, zI 0, zI 0, zI 0, zI 0, zI 0])⟩)]
 refine wkr [3, 2] [(3, 3, false), (2, 2, false)] ⟨T8, B8⟩ ?_
 refine sqr cv hn ?_
 refine ro9 0 2 2 ⟨(29, .agg [zI a0.fFrom, zI a0.fTo, zI a0.fKind, zI a0.fAcct, zI a0.fA, zI a0.fB, zI a0.fC, zI v1.fKind, zI v1.fAcct, zI v1.fAmt, zI v1.fSrc]) :: T8, (2, ⟨0, 0, true, some (.agg [zI a0.fFrom, zI a0.fTo, zI a0.fKind, zI a0.fAcct, zI a0.fA, zI a0.fB, zI a0.fC, zI v1.fKind, zI v1.fAcct, zI v1.fAmt, zI v1.fSrc])⟩) :: B8⟩ ?_
 refine runs_ret ?_
 exact fin _ _ h (by kernel_rfl)

set_option maxRecDepth 100000 in
set_option maxHeartbeats 2000000 in
theorem impl_in_spec (a0 : Int) (a1 : Int) (a2 : Int) (v0 : Bool) (h : impl_in a0 a1 a2 = some v0) : Ax.Spec Try.prog 64 none [zI a0, zI a1, zI a2] (zB v0 : X) (.junk : X) := by
 let T1 : List (Nat × X) := [(0, zI a0), (1, zI a1), (2, zI a2)]
 refine walk0 (fn := Try.f64) (fun q0 : Bool => (zB q0 : X)) (fun q0 : Bool => (.junk : X)) v0 ⟨T1, []⟩ Try.func64 rfl (by decide +kernel) fun Γ hn fin => ?_
 rw [impl_in] at h
 refine sqr cv hn ?_
 refine ro9 0 1 1 ⟨(6, zB false) :: T1, []⟩ ?_
 refine sqr cv hn ?_
 refine ro 0 4 4 ⟨(10, zB (decide (a0 ≥ a1))) :: (9, zB (decide (a0 ≥ a1))) :: (8, zI a1) :: (7, zI a0) :: (6, zB false) :: T1, []⟩ ?_
 rcases dich (decide (a0 ≥ a1)) with hb1 | hb1
 · replace h := cond_t hb1 h
   refine rl 10 true hb1 ?_
   refine ro9 4 5 5 ⟨(6, zB (decide (a0 ≤ a2))) :: (14, zB (decide (a0 ≤ a2))) :: (13, zB (decide (a0 ≤ a2))) :: (12, zI a2) :: (11, zI a0) :: (10, zB true) :: (9, zB (decide (a0 ≥ a1))) :: (8, zI a1) :: (7, zI a0) :: (6, zB false) :: T1, []⟩ ?_
   refine runs_ret ?_
   exact fin _ _ h (by kernel_rfl)
 · replace h := cond_f hb1 h
   refine rl 10 false hb1 ?_
   refine ro9 4 5 2 ⟨(6, zB false) :: (14, zB false) :: (13, .tup []) :: (12, .tup []) :: (11, .tup []) :: (10, zB false) :: (9, zB (decide (a0 ≥ a1))) :: (8, zI a1) :: (7, zI a0) :: (6, zB false) :: T1, []⟩ ?_
   refine runs_ret ?_
   exact fin _ _ h (by kernel_rfl)

set_option maxRecDepth 100000 in
set_option maxHeartbeats 2000000 in
theorem impl_isNode_spec (a0 : Int) (v0 : Bool) (h : impl_isNode a0 = some v0) : Ax.Spec Try.prog 65 none [zI a0] (zB v0 : X) (.junk : X) := by
 refine walk0 (fn := Try.f65) (fun q0 : Bool => (zB q0 : X)) (fun q0 : Bool => (.junk : X)) v0 ⟨[(0, zI a0)], []⟩ Try.func65 rfl (by decide +kernel) fun Γ hn fin => ?_
 rw [impl_isNode] at h
 refine sqr cv hn ?_
 refine ro9 0 1 1 ⟨[(2, zB false), (0, zI a0)], []⟩ ?_
 refine sqr cv hn ?_
 refine ro 0 1 1 ⟨[(3, zI a0), (2, zB false), (0, zI a0)], []⟩ ?_
 obtain ⟨v1, hv2, h⟩ := bindO h
 refine rc 1 ⟨[(4, zB v1), (3, zI a0), (2, zB false), (0, zI a0)], []⟩ (impl_in_spec a0 0 3 v1 hv2) ?_
 refine ro9 2 1 1 ⟨[(2, zB v1), (4, zB v1), (3, zI a0), (2, zB false), (0, zI a0)], []⟩ ?_
 refine runs_ret ?_
 exact fin _ _ h (by kernel_rfl)

set_option maxRecDepth 100000 in
set_option maxHeartbeats 2000000 in
theorem impl_isNum_spec (a0 : Int) (v0 : Bool) (h : impl_isNum a0 = some v0) : Ax.Spec Try.prog 66 none [zI a0] (zB v0 : X) (.junk : X) := by
 refine walk0 (fn := Try.f66) (fun q0 : Bool => (zB q0 : X)) (fun q0 : Bool => (.junk : X)) v0 ⟨[(0, zI a0)], []⟩ Try.func66 rfl (by decide +kernel) fun Γ hn fin => ?_
 rw [impl_isNum] at h
 refine sqr cv hn ?_
 refine ro9 0 1 1 ⟨[(2, zB false), (0, zI a0)], []⟩ ?_
 refine sqr cv hn ?_
 refine ro 0 1 1 ⟨[(3, zI a0), (2, zB false), (0, zI a0)], []⟩ ?_
 obtain ⟨v1, hv2, h⟩ := bindO h
 refine rc 1 ⟨[(4, zB v1), (3, zI a0), (2, zB false), (0, zI a0)], []⟩ (impl_in_spec a0 0 1125899906842624 v1 hv2) ?_
 refine ro9 2 1 1 ⟨[(2, zB v1), (4, zB v1), (3, zI a0), (2, zB false), (0, zI a0)], []⟩ ?_
 refine runs_ret ?_
 exact fin _ _ h (by kernel_rfl)

set_option maxRecDepth 100000 in
set_option maxHeartbeats 2000000 in
theorem impl_isChoice_spec (a0 : Int) (v0 : Bool) (h : impl_isChoice a0 = some v0) : Ax.Spec Try.prog 67 none [zI a0] (zB v0 : X) (.junk : X) := by
 refine walk0 (fn := Try.f67) (fun q0 : Bool => (zB q0 : X)) (fun q0 : Bool => (.junk : X)) v0 ⟨[(0, zI a0)], []⟩ Try.func67 rfl (by decide +kernel) fun Γ hn fin => ?_
 rw [impl_isChoice] at h
 refine sqr cv hn ?_
 refine ro9 0 1 1 ⟨[(2, zB false), (0, zI a0)], []⟩ ?_
 refine sqr cv hn ?_
 refine ro 0 1 1 ⟨[(3, zI a0), (2, zB false), (0, zI a0)], []⟩ ?_
 obtain ⟨v1, hv2, h⟩ := bindO h
 refine rc 1 ⟨[(4, zB v1), (3, zI a0), (2, zB false), (0, zI a0)], []⟩ (impl_in_spec a0 1 4 v1 hv2) ?_
 refine ro9 2 1 1 ⟨[(2, zB v1), (4, zB v1), (3, zI a0), (2, zB false), (0, zI a0)], []⟩ ?_
 refine runs_ret ?_
 exact fin _ _ h (by kernel_rfl)

set_option maxRecDepth 100000 in
set_option maxHeartbeats 2000000 in
theorem impl_IsAmt_spec (a0 : Int) (v0 : Bool) (h : impl_IsAmt a0 = some v0) : Ax.Spec Try.prog 86 none [zI a0] (zB v0 : X) (.junk : X) := by
 refine walk0 (fn := Try.f86) (fun q0 : Bool => (zB q0 : X)) (fun q0 : Bool => (.junk : X)) v0 ⟨[(0, zI a0)], []⟩ Try.func86 rfl (by decide +kernel) fun Γ hn fin => ?_
 rw [impl_IsAmt] at h
 refine sqr cv hn ?_
 refine ro9 0 1 1 ⟨[(2, zB false), (0, zI a0)], []⟩ ?_
 refine sqr cv hn ?_
 refine ro 0 1 1 ⟨[(3, zI a0), (2, zB false), (0, zI a0)], []⟩ ?_
 obtain ⟨v1, hv2, h⟩ := bindO h
 refine rc 1 ⟨[(4, zB v1), (3, zI a0), (2, zB false), (0, zI a0)], []⟩ (impl_in_spec a0 1 1000000000 v1 hv2) ?_
 refine ro9 2 1 1 ⟨[(2, zB v1), (4, zB v1), (3, zI a0), (2, zB false), (0, zI a0)], []⟩ ?_
 refine runs_ret ?_
 exact fin _ _ h (by kernel_rfl)

set_option maxRecDepth 100000 in
set_option maxHeartbeats 2000000 in
theorem impl_MsgOk_spec (a0 : SMsg) (v0 : Bool) (h : impl_MsgOk a0 = some v0) : Ax.Spec Try.prog 87 none [encMsg a0] (zB v0 : X) (.junk : X) := by
 refine walk0 (fn := Try.f87) (fun q0 : Bool => (zB q0 : X)) (fun q0 : Bool => (.junk : X)) v0 ⟨[(0, encMsg a0)], []⟩ Try.func87 rfl (by decide +kernel) fun Γ hn fin => ?_
 rw [impl_MsgOk] at h
 refine sqr cv hn ?_
 refine ro9 0 2 2 ⟨[(2, zB false), (1, .ptr 1 1 0), (0, encMsg a0)], [(1, ⟨1, 1, true, some (encMsg a0)⟩)]⟩ ?_
 refine runs_seqJ (σ := Unit) (fun s => ⟨[(1, .ptr 1 0 0)], [(1, ⟨0, 0, true, some (encMsg a0)⟩)]⟩) (fun s => impl_MsgOk_j1 a0 = some v0) ?_ ?_
 · rintro _ h
   rw [impl_MsgOk_j1] at h
   let B5 : List (Nat × Bx) := [(1, ⟨0, 0, true, some (encMsg a0)⟩)]
   refine seq0 ⟨[(1, .ptr 1 0 0)], B5⟩ ?_
   refine runs_seq ?_
   refine sqr cv hn ?_
   refine ro9 0 2 2 ⟨[(24, zI a0.fKind), (23, .ptr 1 0 0), (1, .ptr 1 0 0)], B5⟩ ?_
   refine runs_block ?_
   refine runs_seqJ (σ := Bool) (fun s => ⟨[(1, .ptr 1 0 0), (24, zI a0.fKind), (25, zB s)], [(1, ⟨0, 0, true, some (encMsg a0)⟩)]⟩) (fun s => impl_MsgOk_j2 a0 s = some v0) ?_ ?_
   · rintro y11 h
     rw [impl_MsgOk_j2] at h
     let T6 : List (Nat × X) := [(1, .ptr 1 0 0), (24, zI a0.fKind), (25, zB y11)]
     let B6 : List (Nat × Bx) := [(1, ⟨0, 0, true, some (encMsg a0)⟩)]
     refine seq0 ⟨T6, B6⟩ ?_
     rcases dich y11 with hb12 | hb12
     · replace h := cond_t hb12 h
       refine ct hb12 ?_
       refine sqr cv hn ?_
       refine ro 0 2 2 ⟨(30, zI a0.fAmt) :: (29, .ptr 1 0 2) :: T6, B6⟩ ?_
       obtain ⟨v13, hv14, h⟩ := bindO h
       refine rc 2 ⟨(31, zB v13) :: (30, zI a0.fAmt) :: (29, .ptr 1 0 2) :: T6, B6⟩ (impl_IsAmt_spec a0.fAmt v13 hv14) ?_
       refine ro9 3 1 1 ⟨(2, zB v13) :: (31, zB v13) :: (30, zI a0.fAmt) :: (29, .ptr 1 0 2) :: T6, B6⟩ ?_
       refine runs_ret ?_
       exact fin _ _ h (by kernel_rfl)
     · replace h := cond_f hb12 h
       refine cf hb12 ?_
       refine sqr cv hn ?_
       refine ro9 0 2 2 ⟨(32, zB (a0.fKind == 4)) :: (33, zB (a0.fKind == 4)) :: T6, B6⟩ ?_
       rcases dich (a0.fKind == 4) with hb15 | hb15
       · replace h := cond_t hb15 h
         refine ct hb15 ?_
         refine sqr cv hn ?_
         refine ro 0 2 2 ⟨(35, zI a0.fAmt) :: (34, .ptr 1 0 2) :: (32, zB (a0.fKind == 4)) :: (33, zB (a0.fKind == 4)) :: T6, B6⟩ ?_
         obtain ⟨v16, hv17, h⟩ := bindO h
         refine rc 2 ⟨(36, zB v16) :: (35, zI a0.fAmt) :: (34, .ptr 1 0 2) :: (32, zB (a0.fKind == 4)) :: (33, zB (a0.fKind == 4)) :: T6, B6⟩ (impl_in_spec a0.fAmt 0 3 v16 hv17) ?_
         refine ro9 3 1 1 ⟨(2, zB v16) :: (36, zB v16) :: (35, zI a0.fAmt) :: (34, .ptr 1 0 2) :: (32, zB (a0.fKind == 4)) :: (33, zB (a0.fKind == 4)) :: T6, B6⟩ ?_
         refine runs_ret ?_
         exact fin _ _ h (by kernel_rfl)
       · replace h := cond_f hb15 h
         refine cf hb15 ?_
         refine sqr cv hn ?_
         refine ro9 0 2 2 ⟨(37, zB (a0.fKind == 5)) :: (38, zB (a0.fKind == 5)) :: (32, zB (a0.fKind == 4)) :: (33, zB (a0.fKind == 4)) :: T6, B6⟩ ?_
         rcases dich (a0.fKind == 5) with hb18 | hb18
         · replace h := cond_t hb18 h
           refine ct hb18 ?_
           let B7 : List (Nat × Bx) := [(1, ⟨0, 0, true, some (encMsg a0)⟩)]
           refine wkr [1] [(1, 1, false)] ⟨[(1, .ptr 1 0 0)], B7⟩ ?_
           refine sqr cv hn ?_
           refine ro 0 2 2 ⟨[(40, zI a0.fAmt), (39, .ptr 1 0 2), (1, .ptr 1 0 0)], B7⟩ ?_
           obtain ⟨v19, hv20, h⟩ := bindO h
           refine rc 2 ⟨[(41, zB v19), (40, zI a0.fAmt), (39, .ptr 1 0 2), (1, .ptr 1 0 0)], B7⟩ (impl_isNum_spec a0.fAmt v19 hv20) ?_
           refine ro9 3 1 1 ⟨[(2, zB v19), (41, zB v19), (40, zI a0.fAmt), (39, .ptr 1 0 2), (1, .ptr 1 0 0)], B7⟩ ?_
           refine runs_ret ?_
           exact fin _ _ h (by kernel_rfl)
         · replace h := cond_f hb18 h
           refine cf hb18 ?_
           refine runs_skip ?_
           refine wkr [] [] ⟨[], []⟩ ?_
           refine sqr cv hn ?_
           refine ro9 0 1 1 ⟨[(2, zB false)], []⟩ ?_
           refine runs_ret ?_
           exact fin _ _ h (by kernel_rfl)
   · skip
     refine sqr cv hn ?_
     refine ro9 0 2 2 ⟨[(25, zB (a0.fKind == 1)), (26, zB (a0.fKind == 1)), (24, zI a0.fKind), (23, .ptr 1 0 0), (1, .ptr 1 0 0)], B5⟩ ?_
     rcases dich (a0.fKind == 1) with hb21 | hb21
     · replace h := cond_t hb21 h
       refine ct hb21 ?_
       refine runs_skip ?_
       exact ⟨(a0.fKind == 1), h, wre [1, 24, 25] [(1, 1, false)]⟩
     · replace h := cond_f hb21 h
       refine cf hb21 ?_
       refine sqr cv hn ?_
       refine ro9 0 2 2 ⟨[(25, zB (a0.fKind == 2)), (27, zB (a0.fKind == 2)), (25, zB (a0.fKind == 1)), (26, zB (a0.fKind == 1)), (24, zI a0.fKind), (23, .ptr 1 0 0), (1, .ptr 1 0 0)], B5⟩ ?_
       rcases dich (a0.fKind == 2) with hb22 | hb22
       · replace h := cond_t hb22 h
         refine ct hb22 ?_
         refine runs_skip ?_
         exact ⟨(a0.fKind == 2), h, wre [1, 24, 25] [(1, 1, false)]⟩
       · replace h := cond_f hb22 h
         refine cf hb22 ?_
         refine rg cv hn ?_
         refine ro9 0 2 2 ⟨[(25, zB (a0.fKind == 3)), (28, zB (a0.fKind == 3)), (25, zB (a0.fKind == 2)), (27, zB (a0.fKind == 2)), (25, zB (a0.fKind == 1)), (26, zB (a0.fKind == 1)), (24, zI a0.fKind), (23, .ptr 1 0 0), (1, .ptr 1 0 0)], B5⟩ ?_
         exact ⟨(a0.fKind == 3), h, wre [1, 24, 25] [(1, 1, false)]⟩
 · skip
   refine sqr cv hn ?_
   refine ro 0 2 2 ⟨[(4, zI a0.fAcct), (3, .ptr 1 1 1), (2, zB false), (1, .ptr 1 1 0), (0, encMsg a0)], [(1, ⟨1, 1, true, some (encMsg a0)⟩)]⟩ ?_
   obtain ⟨v23, hv24, h⟩ := bindO h
   refine rc 2 ⟨[(5, zB v23), (4, zI a0.fAcct), (3, .ptr 1 1 1), (2, zB false), (1, .ptr 1 1 0), (0, encMsg a0)], [(1, ⟨1, 1, true, some (encMsg a0)⟩)]⟩ (impl_in_spec a0.fAcct 0 2 v23 hv24) ?_
   refine ro 3 2 2 ⟨[(7, zB (!v23)), (6, zB (!v23)), (5, zB v23), (4, zI a0.fAcct), (3, .ptr 1 1 1), (2, zB false), (1, .ptr 1 1 0), (0, encMsg a0)], [(1, ⟨1, 1, true, some (encMsg a0)⟩)]⟩ ?_
   rcases dich (!v23) with hb25 | hb25
   · replace h := cond_t hb25 h
     refine rl 7 true hb25 ?_
     refine ro9 5 15 3 ⟨[(22, zB true), (21, .tup []), (20, .tup []), (19, .tup []), (18, .tup []), (17, .tup []), (16, .tup []), (15, .tup []), (14, .tup []), (13, zB true), (12, zB true), (11, .tup []), (10, .tup []), (9, .tup []), (8, .tup []), (7, zB true), (6, zB (!v23)), (5, zB v23), (4, zI a0.fAcct), (3, .ptr 1 1 1), (2, zB false), (1, .ptr 1 1 0), (0, encMsg a0)], [(1, ⟨1, 1, true, some (encMsg a0)⟩)]⟩ ?_
     refine cT ?_
     let B9 : List (Nat × Bx) := [(1, ⟨0, 0, true, some (encMsg a0)⟩)]
     refine wkr [1] [(1, 1, false)] ⟨[(1, .ptr 1 0 0)], B9⟩ ?_
     refine sqr cv hn ?_
     refine ro9 0 1 1 ⟨[(2, zB false), (1, .ptr 1 0 0)], B9⟩ ?_
     refine runs_ret ?_
     exact fin _ _ h (by kernel_rfl)
   · replace h := cond_f hb25 h
     refine rl 7 false hb25 ?_
     refine ro 5 2 2 ⟨[(9, zI a0.fSrc), (8, .ptr 1 1 3), (7, zB false), (6, zB (!v23)), (5, zB v23), (4, zI a0.fAcct), (3, .ptr 1 1 1), (2, zB false), (1, .ptr 1 1 0), (0, encMsg a0)], [(1, ⟨1, 1, true, some (encMsg a0)⟩)]⟩ ?_
     obtain ⟨v26, hv27, h⟩ := bindO h
     refine rc 7 ⟨[(10, zB v26), (9, zI a0.fSrc), (8, .ptr 1 1 3), (7, zB false), (6, zB (!v23)), (5, zB v23), (4, zI a0.fAcct), (3, .ptr 1 1 1), (2, zB false), (1, .ptr 1 1 0), (0, encMsg a0)], [(1, ⟨1, 1, true, some (encMsg a0)⟩)]⟩ (impl_in_spec a0.fSrc 0 2 v26 hv27) ?_
     refine ro 8 3 3 ⟨[(13, zB (!v26)), (12, zB (!v26)), (11, zB (!v26)), (10, zB v26), (9, zI a0.fSrc), (8, .ptr 1 1 3), (7, zB false), (6, zB (!v23)), (5, zB v23), (4, zI a0.fAcct), (3, .ptr 1 1 1), (2, zB false), (1, .ptr 1 1 0), (0, encMsg a0)], [(1, ⟨1, 1, true, some (encMsg a0)⟩)]⟩ ?_
     rcases dich (!v26) with hb28 | hb28
     · replace h := cond_t hb28 h
       refine rl 13 true hb28 ?_
       refine ro9 11 9 1 ⟨[(22, zB true), (21, .tup []), (20, .tup []), (19, .tup []), (18, .tup []), (17, .tup []), (16, .tup []), (15, .tup []), (14, .tup []), (13, zB true), (12, zB (!v26)), (11, zB (!v26)), (10, zB v26), (9, zI a0.fSrc), (8, .ptr 1 1 3), (7, zB false), (6, zB (!v23)), (5, zB v23), (4, zI a0.fAcct), (3, .ptr 1 1 1), (2, zB false), (1, .ptr 1 1 0), (0, encMsg a0)], [(1, ⟨1, 1, true, some (encMsg a0)⟩)]⟩ ?_
       refine cT ?_
       let B10 : List (Nat × Bx) := [(1, ⟨0, 0, true, some (encMsg a0)⟩)]
       refine wkr [1] [(1, 1, false)] ⟨[(1, .ptr 1 0 0)], B10⟩ ?_
       refine sqr cv hn ?_
       refine ro9 0 1 1 ⟨[(2, zB false), (1, .ptr 1 0 0)], B10⟩ ?_
       refine runs_ret ?_
       exact fin _ _ h (by kernel_rfl)
     · replace h := cond_f hb28 h
       refine rl 13 false hb28 ?_
       refine ro 11 4 4 ⟨[(17, zB (a0.fSrc != 0)), (16, zB (a0.fSrc != 0)), (15, zI a0.fSrc), (14, .ptr 1 1 3), (13, zB false), (12, zB (!v26)), (11, zB (!v26)), (10, zB v26), (9, zI a0.fSrc), (8, .ptr 1 1 3), (7, zB false), (6, zB (!v23)), (5, zB v23), (4, zI a0.fAcct), (3, .ptr 1 1 1), (2, zB false), (1, .ptr 1 1 0), (0, encMsg a0)], [(1, ⟨1, 1, true, some (encMsg a0)⟩)]⟩ ?_
       rcases dich (a0.fSrc != 0) with hb29 | hb29
       · replace h := cond_t hb29 h
         refine rl 17 true hb29 ?_
         refine ro9 15 5 5 ⟨[(22, zB (a0.fKind != 2)), (21, zB (a0.fKind != 2)), (20, zB (a0.fKind != 2)), (19, zI a0.fKind), (18, .ptr 1 1 0), (17, zB true), (16, zB (a0.fSrc != 0)), (15, zI a0.fSrc), (14, .ptr 1 1 3), (13, zB false), (12, zB (!v26)), (11, zB (!v26)), (10, zB v26), (9, zI a0.fSrc), (8, .ptr 1 1 3), (7, zB false), (6, zB (!v23)), (5, zB v23), (4, zI a0.fAcct), (3, .ptr 1 1 1), (2, zB false), (1, .ptr 1 1 0), (0, encMsg a0)], [(1, ⟨1, 1, true, some (encMsg a0)⟩)]⟩ ?_
         rcases dich (a0.fKind != 2) with hb30 | hb30
         · replace h := cond_t hb30 h
           refine ct hb30 ?_
           let B11 : List (Nat × Bx) := [(1, ⟨0, 0, true, some (encMsg a0)⟩)]
           refine wkr [1] [(1, 1, false)] ⟨[(1, .ptr 1 0 0)], B11⟩ ?_
           refine sqr cv hn ?_
           refine ro9 0 1 1 ⟨[(2, zB false), (1, .ptr 1 0 0)], B11⟩ ?_
           refine runs_ret ?_
           exact fin _ _ h (by kernel_rfl)
         · replace h := cond_f hb30 h
           refine cf hb30 ?_
           refine runs_skip ?_
           exact ⟨(), h, wre [1] [(1, 1, false)]⟩
       · replace h := cond_f hb29 h
         refine rl 17 false hb29 ?_
         refine ro9 15 5 2 ⟨[(22, zB false), (21, zB false), (20, .tup []), (19, .tup []), (18, .tup []), (17, zB false), (16, zB (a0.fSrc != 0)), (15, zI a0.fSrc), (14, .ptr 1 1 3), (13, zB false), (12, zB (!v26)), (11, zB (!v26)), (10, zB v26), (9, zI a0.fSrc), (8, .ptr 1 1 3), (7, zB false), (6, zB (!v23)), (5, zB v23), (4, zI a0.fAcct), (3, .ptr 1 1 1), (2, zB false), (1, .ptr 1 1 0), (0, encMsg a0)], [(1, ⟨1, 1, true, some (encMsg a0)⟩)]⟩ ?_
         refine cF ?_
         refine runs_skip ?_
         exact ⟨(), h, wre [1] [(1, 1, false)]⟩

set_option maxRecDepth 100000 in
set_option maxHeartbeats 2000000 in
theorem impl_packetFits_spec (a0 : SPacket) (v0 : Bool) (h : impl_packetFits a0 = some v0) : Ax.Spec Try.prog 83 none [encPacket a0] (zB v0 : X) (.junk : X) := by
 refine walk0 (fn := Try.f83) (fun q0 : Bool => (zB q0 : X)) (fun q0 : Bool => (.junk : X)) v0 ⟨[(0, encPacket a0)], []⟩ Try.func83 rfl (by decide +kernel) fun Γ hn fin => ?_
 rw [impl_packetFits] at h
 refine sqr cv hn ?_
 refine ro9 0 2 2 ⟨[(2, zB false), (1, .ptr 1 1 0), (0, encPacket a0)], [(1, ⟨1, 1, true, some (encPacket a0)⟩)]⟩ ?_
 refine sqr cv hn ?_
 refine ro9 0 11 11 ⟨[(3, .ptr 3 1 0), (12, .agg [zI a0.fFrom, zI a0.fTo, zI a0.fKind, zI 0, zI a0.fA, zI 0, zI 0, zI 0, zI 0, zI 0, zI 0]), (11, zI a0.fA), (10, .ptr 1 1 4), (9, zI a0.fKind), (8, .ptr 1 1 2), (7, zI a0.fTo), (6, .ptr 1 1 1), (5, zI a0.fFrom), (4, .ptr 1 1 0), (2, zB false), (1, .ptr 1 1 0), (0, encPacket a0)], [(3, ⟨1, 1, true, some (.agg [zI a0.fFrom, zI a0.fTo, zI a0.fKind, zI 0, zI a0.fA, zI 0, zI 0, zI 0, zI 0, zI 0, zI 0])⟩), (3, ⟨1, 1, true, some (.agg [zI 0, zI 0, zI 0, zI 0, zI 0, zI 0, zI 0, zI 0, zI 0, zI 0, zI 0])⟩), (1, ⟨1, 1, true, some (encPacket a0)⟩)]⟩ ?_
 refine runs_seq ?_
 let T7 : List (Nat × X) := [(3, .ptr 3 0 0), (1, .ptr 1 0 0)]
 let B7 : List (Nat × Bx) := [(3, ⟨0, 0, true, some (.agg [zI a0.fFrom, zI a0.fTo, zI a0.fKind, zI 0, zI a0.fA, zI 0, zI 0, zI 0, zI 0, zI 0, zI 0])⟩), (1, ⟨0, 0, true, some (encPacket a0)⟩)]
 refine wkr [3, 1] [(3, 3, false), (1, 1, false)] ⟨T7, B7⟩ ?_
 refine sqr cv hn ?_
 refine ro9 0 2 2 ⟨(14, zI a0.fKind) :: (13, .ptr 1 0 2) :: T7, B7⟩ ?_
 refine runs_block ?_
 refine sqr cv hn ?_
 refine ro9 0 2 2 ⟨(15, zB (a0.fKind == 1)) :: (16, zB (a0.fKind == 1)) :: (14, zI a0.fKind) :: (13, .ptr 1 0 2) :: T7, B7⟩ ?_
 rcases dich (a0.fKind == 1) with hb8 | hb8
 · replace h := cond_t hb8 h
   refine ct hb8 ?_
   refine sqr cv hn ?_
   refine ro9 0 4 4 ⟨(19, .ptr 3 0 7) :: (18, encMsg a0.fM) :: (17, .ptr 1 0 7) :: (15, zB (a0.fKind == 1)) :: (16, zB (a0.fKind == 1)) :: (14, zI a0.fKind) :: (13, .ptr 1 0 2) :: T7, (3, ⟨0, 0, true, some (.agg [zI a0.fFrom, zI a0.fTo, zI a0.fKind, zI 0, zI a0.fA, zI 0, zI 0, zI a0.fM.fKind, zI a0.fM.fAcct, zI a0.fM.fAmt, zI a0.fM.fSrc])⟩) :: B7⟩ ?_
   let T8 : List (Nat × X) := [(3, .ptr 3 0 0), (1, .ptr 1 0 0)]
   let B8 : List (Nat × Bx) := [(3, ⟨0, 0, true, some (.agg [zI a0.fFrom, zI a0.fTo, zI a0.fKind, zI 0, zI a0.fA, zI 0, zI 0, zI a0.fM.fKind, zI a0.fM.fAcct, zI a0.fM.fAmt, zI a0.fM.fSrc])⟩), (1, ⟨0, 0, true, some (encPacket a0)⟩)]
   refine wkr [3, 1] [(3, 3, false), (1, 1, false)] ⟨T8, B8⟩ ?_
   refine sqr cv hn ?_
   refine ro 0 2 2 ⟨(21, .agg [zI a0.fFrom, zI a0.fTo, zI a0.fKind, zI 0, zI a0.fA, zI 0, zI 0, zI a0.fM.fKind, zI a0.fM.fAcct, zI a0.fM.fAmt, zI a0.fM.fSrc]) :: (20, encPacket a0) :: T8, B8⟩ ?_
   refine rs 2 ⟨(22, zB ((a0.fFrom == a0.fFrom) && ((a0.fTo == a0.fTo) && ((a0.fKind == a0.fKind) && ((a0.fAcct == 0) && ((a0.fA == a0.fA) && ((a0.fB == 0) && ((a0.fC == 0) && ((a0.fM.fKind == a0.fM.fKind) && ((a0.fM.fAcct == a0.fM.fAcct) && ((a0.fM.fAmt == a0.fM.fAmt) && ((a0.fM.fSrc == a0.fM.fSrc) && true)))))))))))) :: (21, .agg [zI a0.fFrom, zI a0.fTo, zI a0.fKind, zI 0, zI a0.fA, zI 0, zI 0, zI a0.fM.fKind, zI a0.fM.fAcct, zI a0.fM.fAmt, zI a0.fM.fSrc]) :: (20, encPacket a0) :: T8, B8⟩ [EqOK Try.prog 55 ∧ (11 : Nat) = tSize Try.prog 55] ⟨⟨eqok55, by kernel_rfl⟩, trivial⟩ ?_
   refine ro 3 1 1 ⟨(23, zB ((a0.fFrom == a0.fFrom) && ((a0.fTo == a0.fTo) && ((a0.fKind == a0.fKind) && ((a0.fAcct == 0) && ((a0.fA == a0.fA) && ((a0.fB == 0) && ((a0.fC == 0) && ((a0.fM.fKind == a0.fM.fKind) && ((a0.fM.fAcct == a0.fM.fAcct) && ((a0.fM.fAmt == a0.fM.fAmt) && ((a0.fM.fSrc == a0.fM.fSrc) && true)))))))))))) :: (22, zB ((a0.fFrom == a0.fFrom) && ((a0.fTo == a0.fTo) && ((a0.fKind == a0.fKind) && ((a0.fAcct == 0) && ((a0.fA == a0.fA) && ((a0.fB == 0) && ((a0.fC == 0) && ((a0.fM.fKind == a0.fM.fKind) && ((a0.fM.fAcct == a0.fM.fAcct) && ((a0.fM.fAmt == a0.fM.fAmt) && ((a0.fM.fSrc == a0.fM.fSrc) && true)))))))))))) :: (21, .agg [zI a0.fFrom, zI a0.fTo, zI a0.fKind, zI 0, zI a0.fA, zI 0, zI 0, zI a0.fM.fKind, zI a0.fM.fAcct, zI a0.fM.fAmt, zI a0.fM.fSrc]) :: (20, encPacket a0) :: T8, B8⟩ ?_
   rcases dich ((a0.fFrom == a0.fFrom) && ((a0.fTo == a0.fTo) && ((a0.fKind == a0.fKind) && ((a0.fAcct == 0) && ((a0.fA == a0.fA) && ((a0.fB == 0) && ((a0.fC == 0) && ((a0.fM.fKind == a0.fM.fKind) && ((a0.fM.fAcct == a0.fM.fAcct) && ((a0.fM.fAmt == a0.fM.fAmt) && ((a0.fM.fSrc == a0.fM.fSrc) && true))))))))))) with hb9 | hb9
   · replace h := cond_t hb9 h
     refine rl 23 true hb9 ?_
     refine ro 4 2 2 ⟨(25, encMsg a0.fM) :: (24, .ptr 1 0 7) :: (23, zB true) :: (22, zB ((a0.fFrom == a0.fFrom) && ((a0.fTo == a0.fTo) && ((a0.fKind == a0.fKind) && ((a0.fAcct == 0) && ((a0.fA == a0.fA) && ((a0.fB == 0) && ((a0.fC == 0) && ((a0.fM.fKind == a0.fM.fKind) && ((a0.fM.fAcct == a0.fM.fAcct) && ((a0.fM.fAmt == a0.fM.fAmt) && ((a0.fM.fSrc == a0.fM.fSrc) && true)))))))))))) :: (21, .agg [zI a0.fFrom, zI a0.fTo, zI a0.fKind, zI 0, zI a0.fA, zI 0, zI 0, zI a0.fM.fKind, zI a0.fM.fAcct, zI a0.fM.fAmt, zI a0.fM.fSrc]) :: (20, encPacket a0) :: T8, B8⟩ ?_
     obtain ⟨v10, hv11, h⟩ := bindO h
     refine rc 6 ⟨(26, zB v10) :: (25, encMsg a0.fM) :: (24, .ptr 1 0 7) :: (23, zB true) :: (22, zB ((a0.fFrom == a0.fFrom) && ((a0.fTo == a0.fTo) && ((a0.fKind == a0.fKind) && ((a0.fAcct == 0) && ((a0.fA == a0.fA) && ((a0.fB == 0) && ((a0.fC == 0) && ((a0.fM.fKind == a0.fM.fKind) && ((a0.fM.fAcct == a0.fM.fAcct) && ((a0.fM.fAmt == a0.fM.fAmt) && ((a0.fM.fSrc == a0.fM.fSrc) && true)))))))))))) :: (21, .agg [zI a0.fFrom, zI a0.fTo, zI a0.fKind, zI 0, zI a0.fA, zI 0, zI 0, zI a0.fM.fKind, zI a0.fM.fAcct, zI a0.fM.fAmt, zI a0.fM.fSrc]) :: (20, encPacket a0) :: T8, B8⟩ (impl_MsgOk_spec a0.fM v10 hv11) ?_
     refine ro 7 2 2 ⟨(28, zB v10) :: (27, zB v10) :: (26, zB v10) :: (25, encMsg a0.fM) :: (24, .ptr 1 0 7) :: (23, zB true) :: (22, zB ((a0.fFrom == a0.fFrom) && ((a0.fTo == a0.fTo) && ((a0.fKind == a0.fKind) && ((a0.fAcct == 0) && ((a0.fA == a0.fA) && ((a0.fB == 0) && ((a0.fC == 0) && ((a0.fM.fKind == a0.fM.fKind) && ((a0.fM.fAcct == a0.fM.fAcct) && ((a0.fM.fAmt == a0.fM.fAmt) && ((a0.fM.fSrc == a0.fM.fSrc) && true)))))))))))) :: (21, .agg [zI a0.fFrom, zI a0.fTo, zI a0.fKind, zI 0, zI a0.fA, zI 0, zI 0, zI a0.fM.fKind, zI a0.fM.fAcct, zI a0.fM.fAmt, zI a0.fM.fSrc]) :: (20, encPacket a0) :: T8, B8⟩ ?_
     rcases dich v10 with hb12 | hb12
     · replace h := cond_t hb12 h
       refine rl 28 true hb12 ?_
       refine ro9 9 7 7 ⟨(2, zB (a0.fFrom != a0.fTo)) :: (34, zB (a0.fFrom != a0.fTo)) :: (33, zB (a0.fFrom != a0.fTo)) :: (32, zI a0.fTo) :: (31, .ptr 1 0 1) :: (30, zI a0.fFrom) :: (29, .ptr 1 0 0) :: (28, zB true) :: (27, zB v10) :: (26, zB v10) :: (25, encMsg a0.fM) :: (24, .ptr 1 0 7) :: (23, zB true) :: (22, zB ((a0.fFrom == a0.fFrom) && ((a0.fTo == a0.fTo) && ((a0.fKind == a0.fKind) && ((a0.fAcct == 0) && ((a0.fA == a0.fA) && ((a0.fB == 0) && ((a0.fC == 0) && ((a0.fM.fKind == a0.fM.fKind) && ((a0.fM.fAcct == a0.fM.fAcct) && ((a0.fM.fAmt == a0.fM.fAmt) && ((a0.fM.fSrc == a0.fM.fSrc) && true)))))))))))) :: (21, .agg [zI a0.fFrom, zI a0.fTo, zI a0.fKind, zI 0, zI a0.fA, zI 0, zI 0, zI a0.fM.fKind, zI a0.fM.fAcct, zI a0.fM.fAmt, zI a0.fM.fSrc]) :: (20, encPacket a0) :: T8, B8⟩ ?_
       refine runs_ret ?_
       exact fin _ _ h (by kernel_rfl)
     · replace h := cond_f hb12 h
       refine rl 28 false hb12 ?_
       refine ro9 9 7 2 ⟨(2, zB false) :: (34, zB false) :: (33, .tup []) :: (32, .tup []) :: (31, .tup []) :: (30, .tup []) :: (29, .tup []) :: (28, zB false) :: (27, zB v10) :: (26, zB v10) :: (25, encMsg a0.fM) :: (24, .ptr 1 0 7) :: (23, zB true) :: (22, zB ((a0.fFrom == a0.fFrom) && ((a0.fTo == a0.fTo) && ((a0.fKind == a0.fKind) && ((a0.fAcct == 0) && ((a0.fA == a0.fA) && ((a0.fB == 0) && ((a0.fC == 0) && ((a0.fM.fKind == a0.fM.fKind) && ((a0.fM.fAcct == a0.fM.fAcct) && ((a0.fM.fAmt == a0.fM.fAmt) && ((a0.fM.fSrc == a0.fM.fSrc) && true)))))))))))) :: (21, .agg [zI a0.fFrom, zI a0.fTo, zI a0.fKind, zI 0, zI a0.fA, zI 0, zI 0, zI a0.fM.fKind, zI a0.fM.fAcct, zI a0.fM.fAmt, zI a0.fM.fSrc]) :: (20, encPacket a0) :: T8, B8⟩ ?_
       refine runs_ret ?_
       exact fin _ _ h (by kernel_rfl)
   · replace h := cond_f hb9 h
     refine rl 23 false hb9 ?_
     refine ro9 4 12 4 ⟨(2, zB false) :: (34, zB false) :: (33, .tup []) :: (32, .tup []) :: (31, .tup []) :: (30, .tup []) :: (29, .tup []) :: (28, zB false) :: (27, zB false) :: (26, .tup []) :: (25, .tup []) :: (24, .tup []) :: (23, zB false) :: (22, zB ((a0.fFrom == a0.fFrom) && ((a0.fTo == a0.fTo) && ((a0.fKind == a0.fKind) && ((a0.fAcct == 0) && ((a0.fA == a0.fA) && ((a0.fB == 0) && ((a0.fC == 0) && ((a0.fM.fKind == a0.fM.fKind) && ((a0.fM.fAcct == a0.fM.fAcct) && ((a0.fM.fAmt == a0.fM.fAmt) && ((a0.fM.fSrc == a0.fM.fSrc) && true)))))))))))) :: (21, .agg [zI a0.fFrom, zI a0.fTo, zI a0.fKind, zI 0, zI a0.fA, zI 0, zI 0, zI a0.fM.fKind, zI a0.fM.fAcct, zI a0.fM.fAmt, zI a0.fM.fSrc]) :: (20, encPacket a0) :: T8, B8⟩ ?_
     refine runs_ret ?_
     exact fin _ _ h (by kernel_rfl)
 · replace h := cond_f hb8 h
   refine cf hb8 ?_
   refine sqr cv hn ?_
   refine ro9 0 2 2 ⟨(35, zB (a0.fKind == 2)) :: (36, zB (a0.fKind == 2)) :: (15, zB (a0.fKind == 1)) :: (16, zB (a0.fKind == 1)) :: (14, zI a0.fKind) :: (13, .ptr 1 0 2) :: T7, B7⟩ ?_
   rcases dich (a0.fKind == 2) with hb13 | hb13
   · replace h := cond_t hb13 h
     refine ct hb13 ?_
     let T9 : List (Nat × X) := [(3, .ptr 3 0 0), (1, .ptr 1 0 0)]
     let B9 : List (Nat × Bx) := [(3, ⟨0, 0, true, some (.agg [zI a0.fFrom, zI a0.fTo, zI a0.fKind, zI 0, zI a0.fA, zI 0, zI 0, zI 0, zI 0, zI 0, zI 0])⟩), (1, ⟨0, 0, true, some (encPacket a0)⟩)]
     refine wkr [3, 1] [(3, 3, false), (1, 1, false)] ⟨T9, B9⟩ ?_
     refine sqr cv hn ?_
     refine ro 0 2 2 ⟨(38, .agg [zI a0.fFrom, zI a0.fTo, zI a0.fKind, zI 0, zI a0.fA, zI 0, zI 0, zI 0, zI 0, zI 0, zI 0]) :: (37, encPacket a0) :: T9, B9⟩ ?_
     refine rs 2 ⟨(39, zB ((a0.fFrom == a0.fFrom) && ((a0.fTo == a0.fTo) && ((a0.fKind == a0.fKind) && ((a0.fAcct == 0) && ((a0.fA == a0.fA) && ((a0.fB == 0) && ((a0.fC == 0) && ((a0.fM.fKind == 0) && ((a0.fM.fAcct == 0) && ((a0.fM.fAmt == 0) && ((a0.fM.fSrc == 0) && true)))))))))))) :: (38, .agg [zI a0.fFrom, zI a0.fTo, zI a0.fKind, zI 0, zI a0.fA, zI 0, zI 0, zI 0, zI 0, zI 0, zI 0]) :: (37, encPacket a0) :: T9, B9⟩ [EqOK Try.prog 55 ∧ (11 : Nat) = tSize Try.prog 55] ⟨⟨eqok55, by kernel_rfl⟩, trivial⟩ ?_
     refine ro 3 1 1 ⟨(40, zB ((a0.fFrom == a0.fFrom) && ((a0.fTo == a0.fTo) && ((a0.fKind == a0.fKind) && ((a0.fAcct == 0) && ((a0.fA == a0.fA) && ((a0.fB == 0) && ((a0.fC == 0) && ((a0.fM.fKind == 0) && ((a0.fM.fAcct == 0) && ((a0.fM.fAmt == 0) && ((a0.fM.fSrc == 0) && true)))))))))))) :: (39, zB ((a0.fFrom == a0.fFrom) && ((a0.fTo == a0.fTo) && ((a0.fKind == a0.fKind) && ((a0.fAcct == 0) && ((a0.fA == a0.fA) && ((a0.fB == 0) && ((a0.fC == 0) && ((a0.fM.fKind == 0) && ((a0.fM.fAcct == 0) && ((a0.fM.fAmt == 0) && ((a0.fM.fSrc == 0) && true)))))))))))) :: (38, .agg [zI a0.fFrom, zI a0.fTo, zI a0.fKind, zI 0, zI a0.fA, zI 0, zI 0, zI 0, zI 0, zI 0, zI 0]) :: (37, encPacket a0) :: T9, B9⟩ ?_
     rcases dich ((a0.fFrom == a0.fFrom) && ((a0.fTo == a0.fTo) && ((a0.fKind == a0.fKind) && ((a0.fAcct == 0) && ((a0.fA == a0.fA) && ((a0.fB == 0) && ((a0.fC == 0) && ((a0.fM.fKind == 0) && ((a0.fM.fAcct == 0) && ((a0.fM.fAmt == 0) && ((a0.fM.fSrc == 0) && true))))))))))) with hb14 | hb14
     · replace h := cond_t hb14 h
       refine rl 40 true hb14 ?_
       refine ro9 4 7 7 ⟨(2, zB (a0.fFrom != a0.fTo)) :: (46, zB (a0.fFrom != a0.fTo)) :: (45, zB (a0.fFrom != a0.fTo)) :: (44, zI a0.fTo) :: (43, .ptr 1 0 1) :: (42, zI a0.fFrom) :: (41, .ptr 1 0 0) :: (40, zB true) :: (39, zB ((a0.fFrom == a0.fFrom) && ((a0.fTo == a0.fTo) && ((a0.fKind == a0.fKind) && ((a0.fAcct == 0) && ((a0.fA == a0.fA) && ((a0.fB == 0) && ((a0.fC == 0) && ((a0.fM.fKind == 0) && ((a0.fM.fAcct == 0) && ((a0.fM.fAmt == 0) && ((a0.fM.fSrc == 0) && true)))))))))))) :: (38, .agg [zI a0.fFrom, zI a0.fTo, zI a0.fKind, zI 0, zI a0.fA, zI 0, zI 0, zI 0, zI 0, zI 0, zI 0]) :: (37, encPacket a0) :: T9, B9⟩ ?_
       refine runs_ret ?_
       exact fin _ _ h (by kernel_rfl)
     · replace h := cond_f hb14 h
       refine rl 40 false hb14 ?_
       refine ro9 4 7 2 ⟨(2, zB false) :: (46, zB false) :: (45, .tup []) :: (44, .tup []) :: (43, .tup []) :: (42, .tup []) :: (41, .tup []) :: (40, zB false) :: (39, zB ((a0.fFrom == a0.fFrom) && ((a0.fTo == a0.fTo) && ((a0.fKind == a0.fKind) && ((a0.fAcct == 0) && ((a0.fA == a0.fA) && ((a0.fB == 0) && ((a0.fC == 0) && ((a0.fM.fKind == 0) && ((a0.fM.fAcct == 0) && ((a0.fM.fAmt == 0) && ((a0.fM.fSrc == 0) && true)))))))))))) :: (38, .agg [zI a0.fFrom, zI a0.fTo, zI a0.fKind, zI 0, zI a0.fA, zI 0, zI 0, zI 0, zI 0, zI 0, zI 0]) :: (37, encPacket a0) :: T9, B9⟩ ?_
       refine runs_ret ?_
       exact fin _ _ h (by kernel_rfl)
   · replace h := cond_f hb13 h
     refine cf hb13 ?_
     refine runs_skip ?_
     let T11 : List (Nat × X) := [(3, .ptr 3 0 0), (1, .ptr 1 0 0)]
     let B11 : List (Nat × Bx) := [(3, ⟨0, 0, true, some (.agg [zI a0.fFrom, zI a0.fTo, zI a0.fKind, zI 0, zI a0.fA, zI 0, zI 0, zI 0, zI 0, zI 0, zI 0])⟩), (1, ⟨0, 0, true, some (encPacket a0)⟩)]
     refine wkr [3, 1] [(3, 3, false), (1, 1, false)] ⟨T11, B11⟩ ?_
     refine sqr cv hn ?_
     refine ro9 0 4 4 ⟨(49, .ptr 3 0 3) :: (48, zI a0.fAcct) :: (47, .ptr 1 0 3) :: T11, (3, ⟨0, 0, true, some (.agg [zI a0.fFrom, zI a0.fTo, zI a0.fKind, zI a0.fAcct, zI a0.fA, zI 0, zI 0, zI 0, zI 0, zI 0, zI 0])⟩) :: B11⟩ ?_
     refine runs_seq ?_
     refine sqr cv hn ?_
     refine ro9 0 2 2 ⟨(51, zI a0.fKind) :: (50, .ptr 1 0 2) :: (49, .ptr 3 0 3) :: (48, zI a0.fAcct) :: (47, .ptr 1 0 3) :: T11, (3, ⟨0, 0, true, some (.agg [zI a0.fFrom, zI a0.fTo, zI a0.fKind, zI a0.fAcct, zI a0.fA, zI 0, zI 0, zI 0, zI 0, zI 0, zI 0])⟩) :: B11⟩ ?_
     refine runs_block ?_
     refine sqr cv hn ?_
     refine ro9 0 2 2 ⟨(52, zB (a0.fKind == 4)) :: (53, zB (a0.fKind == 4)) :: (51, zI a0.fKind) :: (50, .ptr 1 0 2) :: (49, .ptr 3 0 3) :: (48, zI a0.fAcct) :: (47, .ptr 1 0 3) :: T11, (3, ⟨0, 0, true, some (.agg [zI a0.fFrom, zI a0.fTo, zI a0.fKind, zI a0.fAcct, zI a0.fA, zI 0, zI 0, zI 0, zI 0, zI 0, zI 0])⟩) :: B11⟩ ?_
     rcases dich (a0.fKind == 4) with hb15 | hb15
     · replace h := cond_t hb15 h
       refine ct hb15 ?_
       refine runs_seq ?_
       let T13 : List (Nat × X) := [(3, .ptr 3 0 0), (1, .ptr 1 0 0)]
       let B13 : List (Nat × Bx) := [(3, ⟨0, 0, true, some (.agg [zI a0.fFrom, zI a0.fTo, zI a0.fKind, zI a0.fAcct, zI a0.fA, zI 0, zI 0, zI 0, zI 0, zI 0, zI 0])⟩), (1, ⟨0, 0, true, some (encPacket a0)⟩)]
       refine wkr [3, 1] [(3, 3, false), (1, 1, false)] ⟨T13, B13⟩ ?_
       refine rgT cv mixed hn ?_
       refine roT9 0 8 8 ⟨(59, .ptr 3 0 6) :: (58, .ptr 3 0 5) :: (57, zI a0.fC) :: (56, .ptr 1 0 6) :: (55, zI a0.fB) :: (54, .ptr 1 0 5) :: T13, (3, ⟨0, 0, true, some (.agg [zI a0.fFrom, zI a0.fTo, zI a0.fKind, zI a0.fAcct, zI a0.fA, zI a0.fB, zI a0.fC, zI 0, zI 0, zI 0, zI 0])⟩) :: (3, ⟨0, 0, true, some (.agg [zI a0.fFrom, zI a0.fTo, zI a0.fKind, zI a0.fAcct, zI a0.fA, zI a0.fB, zI 0, zI 0, zI 0, zI 0, zI 0])⟩) :: B13⟩ ?_
       let T14 : List (Nat × X) := [(3, .ptr 3 0 0), (1, .ptr 1 0 0)]
       let B14 : List (Nat × Bx) := [(3, ⟨0, 0, true, some (.agg [zI a0.fFrom, zI a0.fTo, zI a0.fKind, zI a0.fAcct, zI a0.fA, zI a0.fB, zI a0.fC, zI 0, zI 0, zI 0, zI 0])⟩), (1, ⟨0, 0, true, some (encPacket a0)⟩)]
       refine wkr [3, 1] [(3, 3, false), (1, 1, false)] ⟨T14, B14⟩ ?_
       refine sqr cv hn ?_
       refine ro 0 2 2 ⟨(61, .agg [zI a0.fFrom, zI a0.fTo, zI a0.fKind, zI a0.fAcct, zI a0.fA, zI a0.fB, zI a0.fC, zI 0, zI 0, zI 0, zI 0]) :: (60, encPacket a0) :: T14, B14⟩ ?_
       refine rs 2 ⟨(62, zB ((a0.fFrom == a0.fFrom) && ((a0.fTo == a0.fTo) && ((a0.fKind == a0.fKind) && ((a0.fAcct == a0.fAcct) && ((a0.fA == a0.fA) && ((a0.fB == a0.fB) && ((a0.fC == a0.fC) && ((a0.fM.fKind == 0) && ((a0.fM.fAcct == 0) && ((a0.fM.fAmt == 0) && ((a0.fM.fSrc == 0) && true)))))))))))) :: (61, .agg [zI a0.fFrom, zI a0.fTo, zI a0.fKind, zI a0.fAcct, zI a0.fA, zI a0.fB, zI a0.fC, zI 0, zI 0, zI 0, zI 0]) :: (60, encPacket a0) :: T14, B14⟩ [EqOK Try.prog 55 ∧ (11 : Nat) = tSize Try.prog 55] ⟨⟨eqok55, by kernel_rfl⟩, trivial⟩ ?_
       refine ro 3 1 1 ⟨(63, zB ((a0.fFrom == a0.fFrom) && ((a0.fTo == a0.fTo) && ((a0.fKind == a0.fKind) && ((a0.fAcct == a0.fAcct) && ((a0.fA == a0.fA) && ((a0.fB == a0.fB) && ((a0.fC == a0.fC) && ((a0.fM.fKind == 0) && ((a0.fM.fAcct == 0) && ((a0.fM.fAmt == 0) && ((a0.fM.fSrc == 0) && true)))))))))))) :: (62, zB ((a0.fFrom == a0.fFrom) && ((a0.fTo == a0.fTo) && ((a0.fKind == a0.fKind) && ((a0.fAcct == a0.fAcct) && ((a0.fA == a0.fA) && ((a0.fB == a0.fB) && ((a0.fC == a0.fC) && ((a0.fM.fKind == 0) && ((a0.fM.fAcct == 0) && ((a0.fM.fAmt == 0) && ((a0.fM.fSrc == 0) && true)))))))))))) :: (61, .agg [zI a0.fFrom, zI a0.fTo, zI a0.fKind, zI a0.fAcct, zI a0.fA, zI a0.fB, zI a0.fC, zI 0, zI 0, zI 0, zI 0]) :: (60, encPacket a0) :: T14, B14⟩ ?_
       rcases dich ((a0.fFrom == a0.fFrom) && ((a0.fTo == a0.fTo) && ((a0.fKind == a0.fKind) && ((a0.fAcct == a0.fAcct) && ((a0.fA == a0.fA) && ((a0.fB == a0.fB) && ((a0.fC == a0.fC) && ((a0.fM.fKind == 0) && ((a0.fM.fAcct == 0) && ((a0.fM.fAmt == 0) && ((a0.fM.fSrc == 0) && true))))))))))) with hb16 | hb16
       · replace h := cond_t hb16 h
         refine rl 63 true hb16 ?_
         refine ro 4 5 5 ⟨(68, zI (w64 (a0.fA - 1))) :: (67, zI a0.fA) :: (66, .ptr 1 0 4) :: (65, zI a0.fB) :: (64, .ptr 1 0 5) :: (63, zB true) :: (62, zB ((a0.fFrom == a0.fFrom) && ((a0.fTo == a0.fTo) && ((a0.fKind == a0.fKind) && ((a0.fAcct == a0.fAcct) && ((a0.fA == a0.fA) && ((a0.fB == a0.fB) && ((a0.fC == a0.fC) && ((a0.fM.fKind == 0) && ((a0.fM.fAcct == 0) && ((a0.fM.fAmt == 0) && ((a0.fM.fSrc == 0) && true)))))))))))) :: (61, .agg [zI a0.fFrom, zI a0.fTo, zI a0.fKind, zI a0.fAcct, zI a0.fA, zI a0.fB, zI a0.fC, zI 0, zI 0, zI 0, zI 0]) :: (60, encPacket a0) :: T14, B14⟩ ?_
         obtain ⟨v17, hv18, h⟩ := bindO h
         refine rc 9 ⟨(69, zB v17) :: (68, zI (w64 (a0.fA - 1))) :: (67, zI a0.fA) :: (66, .ptr 1 0 4) :: (65, zI a0.fB) :: (64, .ptr 1 0 5) :: (63, zB true) :: (62, zB ((a0.fFrom == a0.fFrom) && ((a0.fTo == a0.fTo) && ((a0.fKind == a0.fKind) && ((a0.fAcct == a0.fAcct) && ((a0.fA == a0.fA) && ((a0.fB == a0.fB) && ((a0.fC == a0.fC) && ((a0.fM.fKind == 0) && ((a0.fM.fAcct == 0) && ((a0.fM.fAmt == 0) && ((a0.fM.fSrc == 0) && true)))))))))))) :: (61, .agg [zI a0.fFrom, zI a0.fTo, zI a0.fKind, zI a0.fAcct, zI a0.fA, zI a0.fB, zI a0.fC, zI 0, zI 0, zI 0, zI 0]) :: (60, encPacket a0) :: T14, B14⟩ (impl_in_spec a0.fB 1 (w64 (a0.fA - 1)) v17 hv18) ?_
         refine ro 10 1 1 ⟨(70, zB v17) :: (69, zB v17) :: (68, zI (w64 (a0.fA - 1))) :: (67, zI a0.fA) :: (66, .ptr 1 0 4) :: (65, zI a0.fB) :: (64, .ptr 1 0 5) :: (63, zB true) :: (62, zB ((a0.fFrom == a0.fFrom) && ((a0.fTo == a0.fTo) && ((a0.fKind == a0.fKind) && ((a0.fAcct == a0.fAcct) && ((a0.fA == a0.fA) && ((a0.fB == a0.fB) && ((a0.fC == a0.fC) && ((a0.fM.fKind == 0) && ((a0.fM.fAcct == 0) && ((a0.fM.fAmt == 0) && ((a0.fM.fSrc == 0) && true)))))))))))) :: (61, .agg [zI a0.fFrom, zI a0.fTo, zI a0.fKind, zI a0.fAcct, zI a0.fA, zI a0.fB, zI a0.fC, zI 0, zI 0, zI 0, zI 0]) :: (60, encPacket a0) :: T14, B14⟩ ?_
         rcases dich v17 with hb19 | hb19
         · replace h := cond_t hb19 h
           refine rl 70 true hb19 ?_
           refine ro 11 2 2 ⟨(72, zI a0.fC) :: (71, .ptr 1 0 6) :: (70, zB true) :: (69, zB v17) :: (68, zI (w64 (a0.fA - 1))) :: (67, zI a0.fA) :: (66, .ptr 1 0 4) :: (65, zI a0.fB) :: (64, .ptr 1 0 5) :: (63, zB true) :: (62, zB ((a0.fFrom == a0.fFrom) && ((a0.fTo == a0.fTo) && ((a0.fKind == a0.fKind) && ((a0.fAcct == a0.fAcct) && ((a0.fA == a0.fA) && ((a0.fB == a0.fB) && ((a0.fC == a0.fC) && ((a0.fM.fKind == 0) && ((a0.fM.fAcct == 0) && ((a0.fM.fAmt == 0) && ((a0.fM.fSrc == 0) && true)))))))))))) :: (61, .agg [zI a0.fFrom, zI a0.fTo, zI a0.fKind, zI a0.fAcct, zI a0.fA, zI a0.fB, zI a0.fC, zI 0, zI 0, zI 0, zI 0]) :: (60, encPacket a0) :: T14, B14⟩ ?_
           obtain ⟨v20, hv21, h⟩ := bindO h
           refine rc 13 ⟨(73, zB v20) :: (72, zI a0.fC) :: (71, .ptr 1 0 6) :: (70, zB true) :: (69, zB v17) :: (68, zI (w64 (a0.fA - 1))) :: (67, zI a0.fA) :: (66, .ptr 1 0 4) :: (65, zI a0.fB) :: (64, .ptr 1 0 5) :: (63, zB true) :: (62, zB ((a0.fFrom == a0.fFrom) && ((a0.fTo == a0.fTo) && ((a0.fKind == a0.fKind) && ((a0.fAcct == a0.fAcct) && ((a0.fA == a0.fA) && ((a0.fB == a0.fB) && ((a0.fC == a0.fC) && ((a0.fM.fKind == 0) && ((a0.fM.fAcct == 0) && ((a0.fM.fAmt == 0) && ((a0.fM.fSrc == 0) && true)))))))))))) :: (61, .agg [zI a0.fFrom, zI a0.fTo, zI a0.fKind, zI a0.fAcct, zI a0.fA, zI a0.fB, zI a0.fC, zI 0, zI 0, zI 0, zI 0]) :: (60, encPacket a0) :: T14, B14⟩ (impl_isChoice_spec a0.fC v20 hv21) ?_
           refine ro 14 2 2 ⟨(75, zB v20) :: (74, zB v20) :: (73, zB v20) :: (72, zI a0.fC) :: (71, .ptr 1 0 6) :: (70, zB true) :: (69, zB v17) :: (68, zI (w64 (a0.fA - 1))) :: (67, zI a0.fA) :: (66, .ptr 1 0 4) :: (65, zI a0.fB) :: (64, .ptr 1 0 5) :: (63, zB true) :: (62, zB ((a0.fFrom == a0.fFrom) && ((a0.fTo == a0.fTo) && ((a0.fKind == a0.fKind) && ((a0.fAcct == a0.fAcct) && ((a0.fA == a0.fA) && ((a0.fB == a0.fB) && ((a0.fC == a0.fC) && ((a0.fM.fKind == 0) && ((a0.fM.fAcct == 0) && ((a0.fM.fAmt == 0) && ((a0.fM.fSrc == 0) && true)))))))))))) :: (61, .agg [zI a0.fFrom, zI a0.fTo, zI a0.fKind, zI a0.fAcct, zI a0.fA, zI a0.fB, zI a0.fC, zI 0, zI 0, zI 0, zI 0]) :: (60, encPacket a0) :: T14, B14⟩ ?_
           rcases dich v20 with hb22 | hb22
           · replace h := cond_t hb22 h
             refine rl 75 true hb22 ?_
             refine ro9 16 11 3 ⟨(2, zB true) :: (85, zB true) :: (84, zB true) :: (83, .tup []) :: (82, .tup []) :: (81, .tup []) :: (80, .tup []) :: (79, .tup []) :: (78, .tup []) :: (77, .tup []) :: (76, .tup []) :: (75, zB true) :: (74, zB v20) :: (73, zB v20) :: (72, zI a0.fC) :: (71, .ptr 1 0 6) :: (70, zB true) :: (69, zB v17) :: (68, zI (w64 (a0.fA - 1))) :: (67, zI a0.fA) :: (66, .ptr 1 0 4) :: (65, zI a0.fB) :: (64, .ptr 1 0 5) :: (63, zB true) :: (62, zB ((a0.fFrom == a0.fFrom) && ((a0.fTo == a0.fTo) && ((a0.fKind == a0.fKind) && ((a0.fAcct == a0.fAcct) && ((a0.fA == a0.fA) && ((a0.fB == a0.fB) && ((a0.fC == a0.fC) && ((a0.fM.fKind == 0) && ((a0.fM.fAcct == 0) && ((a0.fM.fAmt == 0) && ((a0.fM.fSrc == 0) && true)))))))))))) :: (61, .agg [zI a0.fFrom, zI a0.fTo, zI a0.fKind, zI a0.fAcct, zI a0.fA, zI a0.fB, zI a0.fC, zI 0, zI 0, zI 0, zI 0]) :: (60, encPacket a0) :: T14, B14⟩ ?_
             refine runs_ret ?_
             exact fin _ _ h (by kernel_rfl)
           · replace h := cond_f hb22 h
             refine rl 75 false hb22 ?_
             refine ro 16 4 4 ⟨(79, zB (a0.fB == 0)) :: (78, zB (a0.fB == 0)) :: (77, zI a0.fB) :: (76, .ptr 1 0 5) :: (75, zB false) :: (74, zB v20) :: (73, zB v20) :: (72, zI a0.fC) :: (71, .ptr 1 0 6) :: (70, zB true) :: (69, zB v17) :: (68, zI (w64 (a0.fA - 1))) :: (67, zI a0.fA) :: (66, .ptr 1 0 4) :: (65, zI a0.fB) :: (64, .ptr 1 0 5) :: (63, zB true) :: (62, zB ((a0.fFrom == a0.fFrom) && ((a0.fTo == a0.fTo) && ((a0.fKind == a0.fKind) && ((a0.fAcct == a0.fAcct) && ((a0.fA == a0.fA) && ((a0.fB == a0.fB) && ((a0.fC == a0.fC) && ((a0.fM.fKind == 0) && ((a0.fM.fAcct == 0) && ((a0.fM.fAmt == 0) && ((a0.fM.fSrc == 0) && true)))))))))))) :: (61, .agg [zI a0.fFrom, zI a0.fTo, zI a0.fKind, zI a0.fAcct, zI a0.fA, zI a0.fB, zI a0.fC, zI 0, zI 0, zI 0, zI 0]) :: (60, encPacket a0) :: T14, B14⟩ ?_
             rcases dich (a0.fB == 0) with hb23 | hb23
             · replace h := cond_t hb23 h
               refine rl 79 true hb23 ?_
               refine ro9 20 7 7 ⟨(2, zB (a0.fC == 0)) :: (85, zB (a0.fC == 0)) :: (84, zB (a0.fC == 0)) :: (83, zB (a0.fC == 0)) :: (82, zB (a0.fC == 0)) :: (81, zI a0.fC) :: (80, .ptr 1 0 6) :: (79, zB true) :: (78, zB (a0.fB == 0)) :: (77, zI a0.fB) :: (76, .ptr 1 0 5) :: (75, zB false) :: (74, zB v20) :: (73, zB v20) :: (72, zI a0.fC) :: (71, .ptr 1 0 6) :: (70, zB true) :: (69, zB v17) :: (68, zI (w64 (a0.fA - 1))) :: (67, zI a0.fA) :: (66, .ptr 1 0 4) :: (65, zI a0.fB) :: (64, .ptr 1 0 5) :: (63, zB true) :: (62, zB ((a0.fFrom == a0.fFrom) && ((a0.fTo == a0.fTo) && ((a0.fKind == a0.fKind) && ((a0.fAcct == a0.fAcct) && ((a0.fA == a0.fA) && ((a0.fB == a0.fB) && ((a0.fC == a0.fC) && ((a0.fM.fKind == 0) && ((a0.fM.fAcct == 0) && ((a0.fM.fAmt == 0) && ((a0.fM.fSrc == 0) && true)))))))))))) :: (61, .agg [zI a0.fFrom, zI a0.fTo, zI a0.fKind, zI a0.fAcct, zI a0.fA, zI a0.fB, zI a0.fC, zI 0, zI 0, zI 0, zI 0]) :: (60, encPacket a0) :: T14, B14⟩ ?_
               refine runs_ret ?_
               exact fin _ _ h (by kernel_rfl)
             · replace h := cond_f hb23 h
               refine rl 79 false hb23 ?_
               refine ro9 20 7 4 ⟨(2, zB false) :: (85, zB false) :: (84, zB false) :: (83, zB false) :: (82, .tup []) :: (81, .tup []) :: (80, .tup []) :: (79, zB false) :: (78, zB (a0.fB == 0)) :: (77, zI a0.fB) :: (76, .ptr 1 0 5) :: (75, zB false) :: (74, zB v20) :: (73, zB v20) :: (72, zI a0.fC) :: (71, .ptr 1 0 6) :: (70, zB true) :: (69, zB v17) :: (68, zI (w64 (a0.fA - 1))) :: (67, zI a0.fA) :: (66, .ptr 1 0 4) :: (65, zI a0.fB) :: (64, .ptr 1 0 5) :: (63, zB true) :: (62, zB ((a0.fFrom == a0.fFrom) && ((a0.fTo == a0.fTo) && ((a0.fKind == a0.fKind) && ((a0.fAcct == a0.fAcct) && ((a0.fA == a0.fA) && ((a0.fB == a0.fB) && ((a0.fC == a0.fC) && ((a0.fM.fKind == 0) && ((a0.fM.fAcct == 0) && ((a0.fM.fAmt == 0) && ((a0.fM.fSrc == 0) && true)))))))))))) :: (61, .agg [zI a0.fFrom, zI a0.fTo, zI a0.fKind, zI a0.fAcct, zI a0.fA, zI a0.fB, zI a0.fC, zI 0, zI 0, zI 0, zI 0]) :: (60, encPacket a0) :: T14, B14⟩ ?_
               refine runs_ret ?_
               exact fin _ _ h (by kernel_rfl)
         · replace h := cond_f hb19 h
           refine rl 70 false hb19 ?_
           refine ro 11 9 6 ⟨(79, zB (a0.fB == 0)) :: (78, zB (a0.fB == 0)) :: (77, zI a0.fB) :: (76, .ptr 1 0 5) :: (75, zB false) :: (74, zB false) :: (73, .tup []) :: (72, .tup []) :: (71, .tup []) :: (70, zB false) :: (69, zB v17) :: (68, zI (w64 (a0.fA - 1))) :: (67, zI a0.fA) :: (66, .ptr 1 0 4) :: (65, zI a0.fB) :: (64, .ptr 1 0 5) :: (63, zB true) :: (62, zB ((a0.fFrom == a0.fFrom) && ((a0.fTo == a0.fTo) && ((a0.fKind == a0.fKind) && ((a0.fAcct == a0.fAcct) && ((a0.fA == a0.fA) && ((a0.fB == a0.fB) && ((a0.fC == a0.fC) && ((a0.fM.fKind == 0) && ((a0.fM.fAcct == 0) && ((a0.fM.fAmt == 0) && ((a0.fM.fSrc == 0) && true)))))))))))) :: (61, .agg [zI a0.fFrom, zI a0.fTo, zI a0.fKind, zI a0.fAcct, zI a0.fA, zI a0.fB, zI a0.fC, zI 0, zI 0, zI 0, zI 0]) :: (60, encPacket a0) :: T14, B14⟩ ?_
           rcases dich (a0.fB == 0) with hb24 | hb24
           · replace h := cond_t hb24 h
             refine rl 79 true hb24 ?_
             refine ro9 20 7 7 ⟨(2, zB (a0.fC == 0)) :: (85, zB (a0.fC == 0)) :: (84, zB (a0.fC == 0)) :: (83, zB (a0.fC == 0)) :: (82, zB (a0.fC == 0)) :: (81, zI a0.fC) :: (80, .ptr 1 0 6) :: (79, zB true) :: (78, zB (a0.fB == 0)) :: (77, zI a0.fB) :: (76, .ptr 1 0 5) :: (75, zB false) :: (74, zB false) :: (73, .tup []) :: (72, .tup []) :: (71, .tup []) :: (70, zB false) :: (69, zB v17) :: (68, zI (w64 (a0.fA - 1))) :: (67, zI a0.fA) :: (66, .ptr 1 0 4) :: (65, zI a0.fB) :: (64, .ptr 1 0 5) :: (63, zB true) :: (62, zB ((a0.fFrom == a0.fFrom) && ((a0.fTo == a0.fTo) && ((a0.fKind == a0.fKind) && ((a0.fAcct == a0.fAcct) && ((a0.fA == a0.fA) && ((a0.fB == a0.fB) && ((a0.fC == a0.fC) && ((a0.fM.fKind == 0) && ((a0.fM.fAcct == 0) && ((a0.fM.fAmt == 0) && ((a0.fM.fSrc == 0) && true)))))))))))) :: (61, .agg [zI a0.fFrom, zI a0.fTo, zI a0.fKind, zI a0.fAcct, zI a0.fA, zI a0.fB, zI a0.fC, zI 0, zI 0, zI 0, zI 0]) :: (60, encPacket a0) :: T14, B14⟩ ?_
             refine runs_ret ?_
             exact fin _ _ h (by kernel_rfl)
           · replace h := cond_f hb24 h
             refine rl 79 false hb24 ?_
             refine ro9 20 7 4 ⟨(2, zB false) :: (85, zB false) :: (84, zB false) :: (83, zB false) :: (82, .tup []) :: (81, .tup []) :: (80, .tup []) :: (79, zB false) :: (78, zB (a0.fB == 0)) :: (77, zI a0.fB) :: (76, .ptr 1 0 5) :: (75, zB false) :: (74, zB false) :: (73, .tup []) :: (72, .tup []) :: (71, .tup []) :: (70, zB false) :: (69, zB v17) :: (68, zI (w64 (a0.fA - 1))) :: (67, zI a0.fA) :: (66, .ptr 1 0 4) :: (65, zI a0.fB) :: (64, .ptr 1 0 5) :: (63, zB true) :: (62, zB ((a0.fFrom == a0.fFrom) && ((a0.fTo == a0.fTo) && ((a0.fKind == a0.fKind) && ((a0.fAcct == a0.fAcct) && ((a0.fA == a0.fA) && ((a0.fB == a0.fB) && ((a0.fC == a0.fC) && ((a0.fM.fKind == 0) && ((a0.fM.fAcct == 0) && ((a0.fM.fAmt == 0) && ((a0.fM.fSrc == 0) && true)))))))))))) :: (61, .agg [zI a0.fFrom, zI a0.fTo, zI a0.fKind, zI a0.fAcct, zI a0.fA, zI a0.fB, zI a0.fC, zI 0, zI 0, zI 0, zI 0]) :: (60, encPacket a0) :: T14, B14⟩ ?_
             refine runs_ret ?_
             exact fin _ _ h (by kernel_rfl)
       · replace h := cond_f hb16 h
         refine rl 63 false hb16 ?_
         refine ro9 4 23 2 ⟨(2, zB false) :: (85, zB false) :: (84, .tup []) :: (83, .tup []) :: (82, .tup []) :: (81, .tup []) :: (80, .tup []) :: (79, .tup []) :: (78, .tup []) :: (77, .tup []) :: (76, .tup []) :: (75, .tup []) :: (74, .tup []) :: (73, .tup []) :: (72, .tup []) :: (71, .tup []) :: (70, .tup []) :: (69, .tup []) :: (68, .tup []) :: (67, .tup []) :: (66, .tup []) :: (65, .tup []) :: (64, .tup []) :: (63, zB false) :: (62, zB ((a0.fFrom == a0.fFrom) && ((a0.fTo == a0.fTo) && ((a0.fKind == a0.fKind) && ((a0.fAcct == a0.fAcct) && ((a0.fA == a0.fA) && ((a0.fB == a0.fB) && ((a0.fC == a0.fC) && ((a0.fM.fKind == 0) && ((a0.fM.fAcct == 0) && ((a0.fM.fAmt == 0) && ((a0.fM.fSrc == 0) && true)))))))))))) :: (61, .agg [zI a0.fFrom, zI a0.fTo, zI a0.fKind, zI a0.fAcct, zI a0.fA, zI a0.fB, zI a0.fC, zI 0, zI 0, zI 0, zI 0]) :: (60, encPacket a0) :: T14, B14⟩ ?_
         refine runs_ret ?_
         exact fin _ _ h (by kernel_rfl)
     · replace h := cond_f hb15 h
       refine cf hb15 ?_
       let T16 : List (Nat × X) := [(51, zI a0.fKind), (3, .ptr 3 0 0), (1, .ptr 1 0 0)]
       let B16 : List (Nat × Bx) := [(3, ⟨0, 0, true, some (.agg [zI a0.fFrom, zI a0.fTo, zI a0.fKind, zI a0.fAcct, zI a0.fA, zI 0, zI 0, zI 0, zI 0, zI 0, zI 0])⟩), (1, ⟨0, 0, true, some (encPacket a0)⟩)]
       refine wkr [51, 3, 1] [(3, 3, false), (1, 1, false)] ⟨T16, B16⟩ ?_
       refine sqr cv hn ?_
       refine ro9 0 2 2 ⟨(86, zB (a0.fKind == 5)) :: (87, zB (a0.fKind == 5)) :: T16, B16⟩ ?_
       rcases dich (a0.fKind == 5) with hb25 | hb25
       · replace h := cond_t hb25 h
         refine ct hb25 ?_
         refine sqr cv hn ?_
         refine ro9 0 4 4 ⟨(90, .ptr 3 0 5) :: (89, zI a0.fB) :: (88, .ptr 1 0 5) :: (86, zB (a0.fKind == 5)) :: (87, zB (a0.fKind == 5)) :: T16, (3, ⟨0, 0, true, some (.agg [zI a0.fFrom, zI a0.fTo, zI a0.fKind, zI a0.fAcct, zI a0.fA, zI a0.fB, zI 0, zI 0, zI 0, zI 0, zI 0])⟩) :: B16⟩ ?_
         let T17 : List (Nat × X) := [(3, .ptr 3 0 0), (1, .ptr 1 0 0)]
         let B17 : List (Nat × Bx) := [(3, ⟨0, 0, true, some (.agg [zI a0.fFrom, zI a0.fTo, zI a0.fKind, zI a0.fAcct, zI a0.fA, zI a0.fB, zI 0, zI 0, zI 0, zI 0, zI 0])⟩), (1, ⟨0, 0, true, some (encPacket a0)⟩)]
         refine wkr [3, 1] [(3, 3, false), (1, 1, false)] ⟨T17, B17⟩ ?_
         refine sqr cv hn ?_
         refine ro 0 2 2 ⟨(92, .agg [zI a0.fFrom, zI a0.fTo, zI a0.fKind, zI a0.fAcct, zI a0.fA, zI a0.fB, zI 0, zI 0, zI 0, zI 0, zI 0]) :: (91, encPacket a0) :: T17, B17⟩ ?_
         refine rs 2 ⟨(93, zB ((a0.fFrom == a0.fFrom) && ((a0.fTo == a0.fTo) && ((a0.fKind == a0.fKind) && ((a0.fAcct == a0.fAcct) && ((a0.fA == a0.fA) && ((a0.fB == a0.fB) && ((a0.fC == 0) && ((a0.fM.fKind == 0) && ((a0.fM.fAcct == 0) && ((a0.fM.fAmt == 0) && ((a0.fM.fSrc == 0) && true)))))))))))) :: (92, .agg [zI a0.fFrom, zI a0.fTo, zI a0.fKind, zI a0.fAcct, zI a0.fA, zI a0.fB, zI 0, zI 0, zI 0, zI 0, zI 0]) :: (91, encPacket a0) :: T17, B17⟩ [EqOK Try.prog 55 ∧ (11 : Nat) = tSize Try.prog 55] ⟨⟨eqok55, by kernel_rfl⟩, trivial⟩ ?_
         refine ro 3 1 1 ⟨(94, zB ((a0.fFrom == a0.fFrom) && ((a0.fTo == a0.fTo) && ((a0.fKind == a0.fKind) && ((a0.fAcct == a0.fAcct) && ((a0.fA == a0.fA) && ((a0.fB == a0.fB) && ((a0.fC == 0) && ((a0.fM.fKind == 0) && ((a0.fM.fAcct == 0) && ((a0.fM.fAmt == 0) && ((a0.fM.fSrc == 0) && true)))))))))))) :: (93, zB ((a0.fFrom == a0.fFrom) && ((a0.fTo == a0.fTo) && ((a0.fKind == a0.fKind) && ((a0.fAcct == a0.fAcct) && ((a0.fA == a0.fA) && ((a0.fB == a0.fB) && ((a0.fC == 0) && ((a0.fM.fKind == 0) && ((a0.fM.fAcct == 0) && ((a0.fM.fAmt == 0) && ((a0.fM.fSrc == 0) && true)))))))))))) :: (92, .agg [zI a0.fFrom, zI a0.fTo, zI a0.fKind, zI a0.fAcct, zI a0.fA, zI a0.fB, zI 0, zI 0, zI 0, zI 0, zI 0]) :: (91, encPacket a0) :: T17, B17⟩ ?_
         rcases dich ((a0.fFrom == a0.fFrom) && ((a0.fTo == a0.fTo) && ((a0.fKind == a0.fKind) && ((a0.fAcct == a0.fAcct) && ((a0.fA == a0.fA) && ((a0.fB == a0.fB) && ((a0.fC == 0) && ((a0.fM.fKind == 0) && ((a0.fM.fAcct == 0) && ((a0.fM.fAmt == 0) && ((a0.fM.fSrc == 0) && true))))))))))) with hb26 | hb26
         · replace h := cond_t hb26 h
           refine rl 94 true hb26 ?_
           refine ro 4 2 2 ⟨(96, zI a0.fB) :: (95, .ptr 1 0 5) :: (94, zB true) :: (93, zB ((a0.fFrom == a0.fFrom) && ((a0.fTo == a0.fTo) && ((a0.fKind == a0.fKind) && ((a0.fAcct == a0.fAcct) && ((a0.fA == a0.fA) && ((a0.fB == a0.fB) && ((a0.fC == 0) && ((a0.fM.fKind == 0) && ((a0.fM.fAcct == 0) && ((a0.fM.fAmt == 0) && ((a0.fM.fSrc == 0) && true)))))))))))) :: (92, .agg [zI a0.fFrom, zI a0.fTo, zI a0.fKind, zI a0.fAcct, zI a0.fA, zI a0.fB, zI 0, zI 0, zI 0, zI 0, zI 0]) :: (91, encPacket a0) :: T17, B17⟩ ?_
           obtain ⟨v27, hv28, h⟩ := bindO h
           refine rc 6 ⟨(97, zB v27) :: (96, zI a0.fB) :: (95, .ptr 1 0 5) :: (94, zB true) :: (93, zB ((a0.fFrom == a0.fFrom) && ((a0.fTo == a0.fTo) && ((a0.fKind == a0.fKind) && ((a0.fAcct == a0.fAcct) && ((a0.fA == a0.fA) && ((a0.fB == a0.fB) && ((a0.fC == 0) && ((a0.fM.fKind == 0) && ((a0.fM.fAcct == 0) && ((a0.fM.fAmt == 0) && ((a0.fM.fSrc == 0) && true)))))))))))) :: (92, .agg [zI a0.fFrom, zI a0.fTo, zI a0.fKind, zI a0.fAcct, zI a0.fA, zI a0.fB, zI 0, zI 0, zI 0, zI 0, zI 0]) :: (91, encPacket a0) :: T17, B17⟩ (impl_isChoice_spec a0.fB v27 hv28) ?_
           refine ro9 7 2 2 ⟨(2, zB v27) :: (98, zB v27) :: (97, zB v27) :: (96, zI a0.fB) :: (95, .ptr 1 0 5) :: (94, zB true) :: (93, zB ((a0.fFrom == a0.fFrom) && ((a0.fTo == a0.fTo) && ((a0.fKind == a0.fKind) && ((a0.fAcct == a0.fAcct) && ((a0.fA == a0.fA) && ((a0.fB == a0.fB) && ((a0.fC == 0) && ((a0.fM.fKind == 0) && ((a0.fM.fAcct == 0) && ((a0.fM.fAmt == 0) && ((a0.fM.fSrc == 0) && true)))))))))))) :: (92, .agg [zI a0.fFrom, zI a0.fTo, zI a0.fKind, zI a0.fAcct, zI a0.fA, zI a0.fB, zI 0, zI 0, zI 0, zI 0, zI 0]) :: (91, encPacket a0) :: T17, B17⟩ ?_
           refine runs_ret ?_
           exact fin _ _ h (by kernel_rfl)
         · replace h := cond_f hb26 h
           refine rl 94 false hb26 ?_
           refine ro9 4 5 2 ⟨(2, zB false) :: (98, zB false) :: (97, .tup []) :: (96, .tup []) :: (95, .tup []) :: (94, zB false) :: (93, zB ((a0.fFrom == a0.fFrom) && ((a0.fTo == a0.fTo) && ((a0.fKind == a0.fKind) && ((a0.fAcct == a0.fAcct) && ((a0.fA == a0.fA) && ((a0.fB == a0.fB) && ((a0.fC == 0) && ((a0.fM.fKind == 0) && ((a0.fM.fAcct == 0) && ((a0.fM.fAmt == 0) && ((a0.fM.fSrc == 0) && true)))))))))))) :: (92, .agg [zI a0.fFrom, zI a0.fTo, zI a0.fKind, zI a0.fAcct, zI a0.fA, zI a0.fB, zI 0, zI 0, zI 0, zI 0, zI 0]) :: (91, encPacket a0) :: T17, B17⟩ ?_
           refine runs_ret ?_
           exact fin _ _ h (by kernel_rfl)
       · replace h := cond_f hb25 h
         refine cf hb25 ?_
         refine runs_seqJ (σ := Bool) (fun s => ⟨[(1, .ptr 1 0 0), (3, .ptr 3 0 0), (99, zB s)], [(1, ⟨0, 0, true, some (encPacket a0)⟩), (3, ⟨0, 0, true, some (.agg [zI a0.fFrom, zI a0.fTo, zI a0.fKind, zI a0.fAcct, zI a0.fA, zI 0, zI 0, zI 0, zI 0, zI 0, zI 0])⟩)]⟩) (fun s => impl_packetFits_j1 a0 s = some v0) ?_ ?_
         · rintro y30 h
           rw [impl_packetFits_j1] at h
           let T18 : List (Nat × X) := [(1, .ptr 1 0 0), (3, .ptr 3 0 0), (99, zB y30)]
           let B18 : List (Nat × Bx) := [(1, ⟨0, 0, true, some (encPacket a0)⟩), (3, ⟨0, 0, true, some (.agg [zI a0.fFrom, zI a0.fTo, zI a0.fKind, zI a0.fAcct, zI a0.fA, zI 0, zI 0, zI 0, zI 0, zI 0, zI 0])⟩)]
           refine seq0 ⟨T18, B18⟩ ?_
           rcases dich y30 with hb31 | hb31
           · replace h := cond_t hb31 h
             refine ct hb31 ?_
             refine sqr cv hn ?_
             refine ro 0 2 2 ⟨(103, .agg [zI a0.fFrom, zI a0.fTo, zI a0.fKind, zI a0.fAcct, zI a0.fA, zI 0, zI 0, zI 0, zI 0, zI 0, zI 0]) :: (102, encPacket a0) :: T18, B18⟩ ?_
             refine rs 2 ⟨(104, zB ((a0.fFrom == a0.fFrom) && ((a0.fTo == a0.fTo) && ((a0.fKind == a0.fKind) && ((a0.fAcct == a0.fAcct) && ((a0.fA == a0.fA) && ((a0.fB == 0) && ((a0.fC == 0) && ((a0.fM.fKind == 0) && ((a0.fM.fAcct == 0) && ((a0.fM.fAmt == 0) && ((a0.fM.fSrc == 0) && true)))))))))))) :: (103, .agg [zI a0.fFrom, zI a0.fTo, zI a0.fKind, zI a0.fAcct, zI a0.fA, zI 0, zI 0, zI 0, zI 0, zI 0, zI 0]) :: (102, encPacket a0) :: T18, B18⟩ [EqOK Try.prog 55 ∧ (11 : Nat) = tSize Try.prog 55] ⟨⟨eqok55, by kernel_rfl⟩, trivial⟩ ?_
             refine ro9 3 1 1 ⟨(2, zB ((a0.fFrom == a0.fFrom) && ((a0.fTo == a0.fTo) && ((a0.fKind == a0.fKind) && ((a0.fAcct == a0.fAcct) && ((a0.fA == a0.fA) && ((a0.fB == 0) && ((a0.fC == 0) && ((a0.fM.fKind == 0) && ((a0.fM.fAcct == 0) && ((a0.fM.fAmt == 0) && ((a0.fM.fSrc == 0) && true)))))))))))) :: (104, zB ((a0.fFrom == a0.fFrom) && ((a0.fTo == a0.fTo) && ((a0.fKind == a0.fKind) && ((a0.fAcct == a0.fAcct) && ((a0.fA == a0.fA) && ((a0.fB == 0) && ((a0.fC == 0) && ((a0.fM.fKind == 0) && ((a0.fM.fAcct == 0) && ((a0.fM.fAmt == 0) && ((a0.fM.fSrc == 0) && true)))))))))))) :: (103, .agg [zI a0.fFrom, zI a0.fTo, zI a0.fKind, zI a0.fAcct, zI a0.fA, zI 0, zI 0, zI 0, zI 0, zI 0, zI 0]) :: (102, encPacket a0) :: T18, B18⟩ ?_
             refine runs_ret ?_
             exact fin _ _ h (by kernel_rfl)
           · replace h := cond_f hb31 h
             refine cf hb31 ?_
             refine runs_skip ?_
             refine sqr cv hn ?_
             refine ro9 0 1 1 ⟨(2, zB false) :: T18, B18⟩ ?_
             refine runs_ret ?_
             exact fin _ _ h (by kernel_rfl)
         · skip
           refine sqr cv hn ?_
           refine ro9 0 2 2 ⟨(99, zB (a0.fKind == 3)) :: (100, zB (a0.fKind == 3)) :: (86, zB (a0.fKind == 5)) :: (87, zB (a0.fKind == 5)) :: T16, B16⟩ ?_
           rcases dich (a0.fKind == 3) with hb32 | hb32
           · replace h := cond_t hb32 h
             refine ct hb32 ?_
             refine runs_skip ?_
             exact ⟨(a0.fKind == 3), h, wre [1, 3, 99] [(1, 1, false), (3, 3, false)]⟩
           · replace h := cond_f hb32 h
             refine cf hb32 ?_
             refine rg cv hn ?_
             refine ro9 0 2 2 ⟨(99, zB (a0.fKind == 6)) :: (101, zB (a0.fKind == 6)) :: (99, zB (a0.fKind == 3)) :: (100, zB (a0.fKind == 3)) :: (86, zB (a0.fKind == 5)) :: (87, zB (a0.fKind == 5)) :: T16, B16⟩ ?_
             exact ⟨(a0.fKind == 6), h, wre [1, 3, 99] [(1, 1, false), (3, 3, false)]⟩

set_option maxRecDepth 100000 in
set_option maxHeartbeats 2000000 in
theorem impl_PacketOk_spec (a0 : SPacket) (v0 : Bool) (h : impl_PacketOk a0 = some v0) : Ax.Spec Try.prog 38 none [encPacket a0] (zB v0 : X) (.junk : X) := by
 refine walk0 (fn := Try.f38) (fun q0 : Bool => (zB q0 : X)) (fun q0 : Bool => (.junk : X)) v0 ⟨[(0, encPacket a0)], []⟩ Try.func38 rfl (by decide +kernel) fun Γ hn fin => ?_
 rw [impl_PacketOk] at h
 refine sqr cv hn ?_
 refine ro9 0 2 2 ⟨[(2, zB false), (1, .ptr 1 1 0), (0, encPacket a0)], [(1, ⟨1, 1, true, some (encPacket a0)⟩)]⟩ ?_
 refine runs_seqJ (σ := Unit) (fun s => ⟨[(1, .ptr 1 0 0)], [(1, ⟨0, 0, true, some (encPacket a0)⟩)]⟩) (fun s => impl_PacketOk_j1 a0 = some v0) ?_ ?_
 · rintro _ h
   rw [impl_PacketOk_j1] at h
   let B7 : List (Nat × Bx) := [(1, ⟨0, 0, true, some (encPacket a0)⟩)]
   refine seq0 ⟨[(1, .ptr 1 0 0)], B7⟩ ?_
   refine sqr cv hn ?_
   refine ro 0 2 2 ⟨[(36, zI a0.fAcct), (35, .ptr 1 0 3), (1, .ptr 1 0 0)], B7⟩ ?_
   obtain ⟨v15, hv16, h⟩ := bindO h
   refine rc 2 ⟨[(37, zB v15), (36, zI a0.fAcct), (35, .ptr 1 0 3), (1, .ptr 1 0 0)], B7⟩ (impl_in_spec a0.fAcct 0 2 v15 hv16) ?_
   refine ro 3 1 1 ⟨[(38, zB v15), (37, zB v15), (36, zI a0.fAcct), (35, .ptr 1 0 3), (1, .ptr 1 0 0)], B7⟩ ?_
   rcases dich v15 with hb17 | hb17
   · replace h := cond_t hb17 h
     refine rl 38 true hb17 ?_
     refine ro 4 1 1 ⟨[(39, encPacket a0), (38, zB true), (37, zB v15), (36, zI a0.fAcct), (35, .ptr 1 0 3), (1, .ptr 1 0 0)], B7⟩ ?_
     obtain ⟨v18, hv19, h⟩ := bindO h
     refine rc 5 ⟨[(40, zB v18), (39, encPacket a0), (38, zB true), (37, zB v15), (36, zI a0.fAcct), (35, .ptr 1 0 3), (1, .ptr 1 0 0)], B7⟩ (impl_packetFits_spec a0 v18 hv19) ?_
     refine ro9 6 2 2 ⟨[(2, zB v18), (41, zB v18), (40, zB v18), (39, encPacket a0), (38, zB true), (37, zB v15), (36, zI a0.fAcct), (35, .ptr 1 0 3), (1, .ptr 1 0 0)], B7⟩ ?_
     refine runs_ret ?_
     exact fin _ _ h (by kernel_rfl)
   · replace h := cond_f hb17 h
     refine rl 38 false hb17 ?_
     refine ro9 4 4 2 ⟨[(2, zB false), (41, zB false), (40, .tup []), (39, .tup []), (38, zB false), (37, zB v15), (36, zI a0.fAcct), (35, .ptr 1 0 3), (1, .ptr 1 0 0)], B7⟩ ?_
     refine runs_ret ?_
     exact fin _ _ h (by kernel_rfl)
 · skip
   refine sqr cv hn ?_
   refine ro 0 2 2 ⟨[(4, zI a0.fFrom), (3, .ptr 1 1 0), (2, zB false), (1, .ptr 1 1 0), (0, encPacket a0)], [(1, ⟨1, 1, true, some (encPacket a0)⟩)]⟩ ?_
   obtain ⟨v20, hv21, h⟩ := bindO h
   refine rc 2 ⟨[(5, zB v20), (4, zI a0.fFrom), (3, .ptr 1 1 0), (2, zB false), (1, .ptr 1 1 0), (0, encPacket a0)], [(1, ⟨1, 1, true, some (encPacket a0)⟩)]⟩ (impl_isNode_spec a0.fFrom v20 hv21) ?_
   refine ro 3 2 2 ⟨[(7, zB (!v20)), (6, zB (!v20)), (5, zB v20), (4, zI a0.fFrom), (3, .ptr 1 1 0), (2, zB false), (1, .ptr 1 1 0), (0, encPacket a0)], [(1, ⟨1, 1, true, some (encPacket a0)⟩)]⟩ ?_
   rcases dich (!v20) with hb22 | hb22
   · replace h := cond_t hb22 h
     refine rl 7 true hb22 ?_
     refine ro9 5 27 7 ⟨[(34, zB true), (33, .tup []), (32, .tup []), (31, .tup []), (30, .tup []), (29, .tup []), (28, .tup []), (27, .tup []), (26, .tup []), (25, zB true), (24, zB true), (23, .tup []), (22, .tup []), (21, .tup []), (20, .tup []), (19, zB true), (18, zB true), (17, .tup []), (16, .tup []), (15, .tup []), (14, .tup []), (13, zB true), (12, zB true), (11, .tup []), (10, .tup []), (9, .tup []), (8, .tup []), (7, zB true), (6, zB (!v20)), (5, zB v20), (4, zI a0.fFrom), (3, .ptr 1 1 0), (2, zB false), (1, .ptr 1 1 0), (0, encPacket a0)], [(1, ⟨1, 1, true, some (encPacket a0)⟩)]⟩ ?_
     refine cT ?_
     let B8 : List (Nat × Bx) := [(1, ⟨0, 0, true, some (encPacket a0)⟩)]
     refine wkr [1] [(1, 1, false)] ⟨[(1, .ptr 1 0 0)], B8⟩ ?_
     refine sqr cv hn ?_
     refine ro9 0 1 1 ⟨[(2, zB false), (1, .ptr 1 0 0)], B8⟩ ?_
     refine runs_ret ?_
     exact fin _ _ h (by kernel_rfl)
   · replace h := cond_f hb22 h
     refine rl 7 false hb22 ?_
     refine ro 5 2 2 ⟨[(9, zI a0.fTo), (8, .ptr 1 1 1), (7, zB false), (6, zB (!v20)), (5, zB v20), (4, zI a0.fFrom), (3, .ptr 1 1 0), (2, zB false), (1, .ptr 1 1 0), (0, encPacket a0)], [(1, ⟨1, 1, true, some (encPacket a0)⟩)]⟩ ?_
     obtain ⟨v23, hv24, h⟩ := bindO h
     refine rc 7 ⟨[(10, zB v23), (9, zI a0.fTo), (8, .ptr 1 1 1), (7, zB false), (6, zB (!v20)), (5, zB v20), (4, zI a0.fFrom), (3, .ptr 1 1 0), (2, zB false), (1, .ptr 1 1 0), (0, encPacket a0)], [(1, ⟨1, 1, true, some (encPacket a0)⟩)]⟩ (impl_isNode_spec a0.fTo v23 hv24) ?_
     refine ro 8 3 3 ⟨[(13, zB (!v23)), (12, zB (!v23)), (11, zB (!v23)), (10, zB v23), (9, zI a0.fTo), (8, .ptr 1 1 1), (7, zB false), (6, zB (!v20)), (5, zB v20), (4, zI a0.fFrom), (3, .ptr 1 1 0), (2, zB false), (1, .ptr 1 1 0), (0, encPacket a0)], [(1, ⟨1, 1, true, some (encPacket a0)⟩)]⟩ ?_
     rcases dich (!v23) with hb25 | hb25
     · replace h := cond_t hb25 h
       refine rl 13 true hb25 ?_
       refine ro9 11 21 5 ⟨[(34, zB true), (33, .tup []), (32, .tup []), (31, .tup []), (30, .tup []), (29, .tup []), (28, .tup []), (27, .tup []), (26, .tup []), (25, zB true), (24, zB true), (23, .tup []), (22, .tup []), (21, .tup []), (20, .tup []), (19, zB true), (18, zB true), (17, .tup []), (16, .tup []), (15, .tup []), (14, .tup []), (13, zB true), (12, zB (!v23)), (11, zB (!v23)), (10, zB v23), (9, zI a0.fTo), (8, .ptr 1 1 1), (7, zB false), (6, zB (!v20)), (5, zB v20), (4, zI a0.fFrom), (3, .ptr 1 1 0), (2, zB false), (1, .ptr 1 1 0), (0, encPacket a0)], [(1, ⟨1, 1, true, some (encPacket a0)⟩)]⟩ ?_
       refine cT ?_
       let B9 : List (Nat × Bx) := [(1, ⟨0, 0, true, some (encPacket a0)⟩)]
       refine wkr [1] [(1, 1, false)] ⟨[(1, .ptr 1 0 0)], B9⟩ ?_
       refine sqr cv hn ?_
       refine ro9 0 1 1 ⟨[(2, zB false), (1, .ptr 1 0 0)], B9⟩ ?_
       refine runs_ret ?_
       exact fin _ _ h (by kernel_rfl)
     · replace h := cond_f hb25 h
       refine rl 13 false hb25 ?_
       refine ro 11 2 2 ⟨[(15, zI a0.fA), (14, .ptr 1 1 4), (13, zB false), (12, zB (!v23)), (11, zB (!v23)), (10, zB v23), (9, zI a0.fTo), (8, .ptr 1 1 1), (7, zB false), (6, zB (!v20)), (5, zB v20), (4, zI a0.fFrom), (3, .ptr 1 1 0), (2, zB false), (1, .ptr 1 1 0), (0, encPacket a0)], [(1, ⟨1, 1, true, some (encPacket a0)⟩)]⟩ ?_
       obtain ⟨v26, hv27, h⟩ := bindO h
       refine rc 13 ⟨[(16, zB v26), (15, zI a0.fA), (14, .ptr 1 1 4), (13, zB false), (12, zB (!v23)), (11, zB (!v23)), (10, zB v23), (9, zI a0.fTo), (8, .ptr 1 1 1), (7, zB false), (6, zB (!v20)), (5, zB v20), (4, zI a0.fFrom), (3, .ptr 1 1 0), (2, zB false), (1, .ptr 1 1 0), (0, encPacket a0)], [(1, ⟨1, 1, true, some (encPacket a0)⟩)]⟩ (impl_isNum_spec a0.fA v26 hv27) ?_
       refine ro 14 3 3 ⟨[(19, zB (!v26)), (18, zB (!v26)), (17, zB (!v26)), (16, zB v26), (15, zI a0.fA), (14, .ptr 1 1 4), (13, zB false), (12, zB (!v23)), (11, zB (!v23)), (10, zB v23), (9, zI a0.fTo), (8, .ptr 1 1 1), (7, zB false), (6, zB (!v20)), (5, zB v20), (4, zI a0.fFrom), (3, .ptr 1 1 0), (2, zB false), (1, .ptr 1 1 0), (0, encPacket a0)], [(1, ⟨1, 1, true, some (encPacket a0)⟩)]⟩ ?_
       rcases dich (!v26) with hb28 | hb28
       · replace h := cond_t hb28 h
         refine rl 19 true hb28 ?_
         refine ro9 17 15 3 ⟨[(34, zB true), (33, .tup []), (32, .tup []), (31, .tup []), (30, .tup []), (29, .tup []), (28, .tup []), (27, .tup []), (26, .tup []), (25, zB true), (24, zB true), (23, .tup []), (22, .tup []), (21, .tup []), (20, .tup []), (19, zB true), (18, zB (!v26)), (17, zB (!v26)), (16, zB v26), (15, zI a0.fA), (14, .ptr 1 1 4), (13, zB false), (12, zB (!v23)), (11, zB (!v23)), (10, zB v23), (9, zI a0.fTo), (8, .ptr 1 1 1), (7, zB false), (6, zB (!v20)), (5, zB v20), (4, zI a0.fFrom), (3, .ptr 1 1 0), (2, zB false), (1, .ptr 1 1 0), (0, encPacket a0)], [(1, ⟨1, 1, true, some (encPacket a0)⟩)]⟩ ?_
         refine cT ?_
         let B10 : List (Nat × Bx) := [(1, ⟨0, 0, true, some (encPacket a0)⟩)]
         refine wkr [1] [(1, 1, false)] ⟨[(1, .ptr 1 0 0)], B10⟩ ?_
         refine sqr cv hn ?_
         refine ro9 0 1 1 ⟨[(2, zB false), (1, .ptr 1 0 0)], B10⟩ ?_
         refine runs_ret ?_
         exact fin _ _ h (by kernel_rfl)
       · replace h := cond_f hb28 h
         refine rl 19 false hb28 ?_
         refine ro 17 2 2 ⟨[(21, zI a0.fB), (20, .ptr 1 1 5), (19, zB false), (18, zB (!v26)), (17, zB (!v26)), (16, zB v26), (15, zI a0.fA), (14, .ptr 1 1 4), (13, zB false), (12, zB (!v23)), (11, zB (!v23)), (10, zB v23), (9, zI a0.fTo), (8, .ptr 1 1 1), (7, zB false), (6, zB (!v20)), (5, zB v20), (4, zI a0.fFrom), (3, .ptr 1 1 0), (2, zB false), (1, .ptr 1 1 0), (0, encPacket a0)], [(1, ⟨1, 1, true, some (encPacket a0)⟩)]⟩ ?_
         obtain ⟨v29, hv30, h⟩ := bindO h
         refine rc 19 ⟨[(22, zB v29), (21, zI a0.fB), (20, .ptr 1 1 5), (19, zB false), (18, zB (!v26)), (17, zB (!v26)), (16, zB v26), (15, zI a0.fA), (14, .ptr 1 1 4), (13, zB false), (12, zB (!v23)), (11, zB (!v23)), (10, zB v23), (9, zI a0.fTo), (8, .ptr 1 1 1), (7, zB false), (6, zB (!v20)), (5, zB v20), (4, zI a0.fFrom), (3, .ptr 1 1 0), (2, zB false), (1, .ptr 1 1 0), (0, encPacket a0)], [(1, ⟨1, 1, true, some (encPacket a0)⟩)]⟩ (impl_isNum_spec a0.fB v29 hv30) ?_
         refine ro 20 3 3 ⟨[(25, zB (!v29)), (24, zB (!v29)), (23, zB (!v29)), (22, zB v29), (21, zI a0.fB), (20, .ptr 1 1 5), (19, zB false), (18, zB (!v26)), (17, zB (!v26)), (16, zB v26), (15, zI a0.fA), (14, .ptr 1 1 4), (13, zB false), (12, zB (!v23)), (11, zB (!v23)), (10, zB v23), (9, zI a0.fTo), (8, .ptr 1 1 1), (7, zB false), (6, zB (!v20)), (5, zB v20), (4, zI a0.fFrom), (3, .ptr 1 1 0), (2, zB false), (1, .ptr 1 1 0), (0, encPacket a0)], [(1, ⟨1, 1, true, some (encPacket a0)⟩)]⟩ ?_
         rcases dich (!v29) with hb31 | hb31
         · replace h := cond_t hb31 h
           refine rl 25 true hb31 ?_
           refine ro9 23 9 1 ⟨[(34, zB true), (33, .tup []), (32, .tup []), (31, .tup []), (30, .tup []), (29, .tup []), (28, .tup []), (27, .tup []), (26, .tup []), (25, zB true), (24, zB (!v29)), (23, zB (!v29)), (22, zB v29), (21, zI a0.fB), (20, .ptr 1 1 5), (19, zB false), (18, zB (!v26)), (17, zB (!v26)), (16, zB v26), (15, zI a0.fA), (14, .ptr 1 1 4), (13, zB false), (12, zB (!v23)), (11, zB (!v23)), (10, zB v23), (9, zI a0.fTo), (8, .ptr 1 1 1), (7, zB false), (6, zB (!v20)), (5, zB v20), (4, zI a0.fFrom), (3, .ptr 1 1 0), (2, zB false), (1, .ptr 1 1 0), (0, encPacket a0)], [(1, ⟨1, 1, true, some (encPacket a0)⟩)]⟩ ?_
           refine cT ?_
           let B11 : List (Nat × Bx) := [(1, ⟨0, 0, true, some (encPacket a0)⟩)]
           refine wkr [1] [(1, 1, false)] ⟨[(1, .ptr 1 0 0)], B11⟩ ?_
           refine sqr cv hn ?_
           refine ro9 0 1 1 ⟨[(2, zB false), (1, .ptr 1 0 0)], B11⟩ ?_
           refine runs_ret ?_
           exact fin _ _ h (by kernel_rfl)
         · replace h := cond_f hb31 h
           refine rl 25 false hb31 ?_
           refine ro 23 4 4 ⟨[(29, zB (a0.fA == 0)), (28, zB (a0.fA == 0)), (27, zI a0.fA), (26, .ptr 1 1 4), (25, zB false), (24, zB (!v29)), (23, zB (!v29)), (22, zB v29), (21, zI a0.fB), (20, .ptr 1 1 5), (19, zB false), (18, zB (!v26)), (17, zB (!v26)), (16, zB v26), (15, zI a0.fA), (14, .ptr 1 1 4), (13, zB false), (12, zB (!v23)), (11, zB (!v23)), (10, zB v23), (9, zI a0.fTo), (8, .ptr 1 1 1), (7, zB false), (6, zB (!v20)), (5, zB v20), (4, zI a0.fFrom), (3, .ptr 1 1 0), (2, zB false), (1, .ptr 1 1 0), (0, encPacket a0)], [(1, ⟨1, 1, true, some (encPacket a0)⟩)]⟩ ?_
           rcases dich (a0.fA == 0) with hb32 | hb32
           · replace h := cond_t hb32 h
             refine rl 29 true hb32 ?_
             refine ro9 27 5 5 ⟨[(34, zB (a0.fKind != 2)), (33, zB (a0.fKind != 2)), (32, zB (a0.fKind != 2)), (31, zI a0.fKind), (30, .ptr 1 1 2), (29, zB true), (28, zB (a0.fA == 0)), (27, zI a0.fA), (26, .ptr 1 1 4), (25, zB false), (24, zB (!v29)), (23, zB (!v29)), (22, zB v29), (21, zI a0.fB), (20, .ptr 1 1 5), (19, zB false), (18, zB (!v26)), (17, zB (!v26)), (16, zB v26), (15, zI a0.fA), (14, .ptr 1 1 4), (13, zB false), (12, zB (!v23)), (11, zB (!v23)), (10, zB v23), (9, zI a0.fTo), (8, .ptr 1 1 1), (7, zB false), (6, zB (!v20)), (5, zB v20), (4, zI a0.fFrom), (3, .ptr 1 1 0), (2, zB false), (1, .ptr 1 1 0), (0, encPacket a0)], [(1, ⟨1, 1, true, some (encPacket a0)⟩)]⟩ ?_
             rcases dich (a0.fKind != 2) with hb33 | hb33
             · replace h := cond_t hb33 h
               refine ct hb33 ?_
               let B12 : List (Nat × Bx) := [(1, ⟨0, 0, true, some (encPacket a0)⟩)]
               refine wkr [1] [(1, 1, false)] ⟨[(1, .ptr 1 0 0)], B12⟩ ?_
               refine sqr cv hn ?_
               refine ro9 0 1 1 ⟨[(2, zB false), (1, .ptr 1 0 0)], B12⟩ ?_
               refine runs_ret ?_
               exact fin _ _ h (by kernel_rfl)
             · replace h := cond_f hb33 h
               refine cf hb33 ?_
               refine runs_skip ?_
               exact ⟨(), h, wre [1] [(1, 1, false)]⟩
           · replace h := cond_f hb32 h
             refine rl 29 false hb32 ?_
             refine ro9 27 5 2 ⟨[(34, zB false), (33, zB false), (32, .tup []), (31, .tup []), (30, .tup []), (29, zB false), (28, zB (a0.fA == 0)), (27, zI a0.fA), (26, .ptr 1 1 4), (25, zB false), (24, zB (!v29)), (23, zB (!v29)), (22, zB v29), (21, zI a0.fB), (20, .ptr 1 1 5), (19, zB false), (18, zB (!v26)), (17, zB (!v26)), (16, zB v26), (15, zI a0.fA), (14, .ptr 1 1 4), (13, zB false), (12, zB (!v23)), (11, zB (!v23)), (10, zB v23), (9, zI a0.fTo), (8, .ptr 1 1 1), (7, zB false), (6, zB (!v20)), (5, zB v20), (4, zI a0.fFrom), (3, .ptr 1 1 0), (2, zB false), (1, .ptr 1 1 0), (0, encPacket a0)], [(1, ⟨1, 1, true, some (encPacket a0)⟩)]⟩ ?_
             refine cF ?_
             refine runs_skip ?_
             exact ⟨(), h, wre [1] [(1, 1, false)]⟩

set_option maxRecDepth 100000 in
set_option maxHeartbeats 2000000 in
theorem laws_FnExactPacketOk_spec (a0 : SPacket) (v0 : Bool) (h : laws_FnExactPacketOk a0 = some v0) : Ax.Spec Try.prog 9 none [encPacket a0] (zB v0 : X) (.junk : X) := by
 refine walk0 (fn := Try.f9) (fun q0 : Bool => (zB q0 : X)) (fun q0 : Bool => (.junk : X)) v0 ⟨[(0, encPacket a0)], []⟩ Try.func9 rfl (by decide +kernel) fun Γ hn fin => ?_
 rw [laws_FnExactPacketOk] at h
 refine sqr cv hn ?_
 refine ro9 0 2 2 ⟨[(2, zB false), (1, .ptr 1 1 0), (0, encPacket a0)], [(1, ⟨1, 1, true, some (encPacket a0)⟩)]⟩ ?_
 refine sqr cv hn ?_
 refine ro 0 1 1 ⟨[(5, encPacket a0), (2, zB false), (1, .ptr 1 1 0), (0, encPacket a0)], [(1, ⟨1, 1, true, some (encPacket a0)⟩)]⟩ ?_
 obtain ⟨v5, hv6, h⟩ := bindO h
 refine rc 1 ⟨[(6, encPacket v5), (5, encPacket a0), (2, zB false), (1, .ptr 1 1 0), (0, encPacket a0)], [(1, ⟨1, 1, true, some (encPacket a0)⟩)]⟩ (laws_toPacket_spec a0 v5 hv6) ?_
 obtain ⟨v7, hv8, h⟩ := bindO h
 refine rc 2 ⟨[(7, zB v7), (6, encPacket v5), (5, encPacket a0), (2, zB false), (1, .ptr 1 1 0), (0, encPacket a0)], [(1, ⟨1, 1, true, some (encPacket a0)⟩)]⟩ (spec_PacketOk_spec v5 v7 hv8) ?_
 refine ro9 3 1 1 ⟨[(3, zB v7), (7, zB v7), (6, encPacket v5), (5, encPacket a0), (2, zB false), (1, .ptr 1 1 0), (0, encPacket a0)], [(1, ⟨1, 1, true, some (encPacket a0)⟩)]⟩ ?_
 let B3 : List (Nat × Bx) := [(1, ⟨0, 0, true, some (encPacket a0)⟩)]
 refine wkr [3, 1] [(1, 1, false)] ⟨[(3, zB v7), (1, .ptr 1 0 0)], B3⟩ ?_
 refine sqr cv hn ?_
 refine ro 0 1 1 ⟨[(8, encPacket a0), (3, zB v7), (1, .ptr 1 0 0)], B3⟩ ?_
 obtain ⟨v13, hv14, h⟩ := bindO h
 refine rc 1 ⟨[(9, encPacket v13), (8, encPacket a0), (3, zB v7), (1, .ptr 1 0 0)], B3⟩ (laws_toPacket_spec a0 v13 hv14) ?_
 obtain ⟨v15, hv16, h⟩ := bindO h
 refine rc 2 ⟨[(10, zB v15), (9, encPacket v13), (8, encPacket a0), (3, zB v7), (1, .ptr 1 0 0)], B3⟩ (impl_PacketOk_spec v13 v15 hv16) ?_
 refine ro9 3 1 1 ⟨[(4, zB v15), (10, zB v15), (9, encPacket v13), (8, encPacket a0), (3, zB v7), (1, .ptr 1 0 0)], B3⟩ ?_
 refine runs_seq ?_
 refine sqr cv hn ?_
 refine ro9 0 3 3 ⟨[(13, zB (v15 != v7)), (12, zB v7), (11, zB v15), (4, zB v15), (10, zB v15), (9, encPacket v13), (8, encPacket a0), (3, zB v7), (1, .ptr 1 0 0)], B3⟩ ?_
 rcases dich (v15 != v7) with hb17 | hb17
 · replace h := cond_t hb17 h
   refine ct hb17 ?_
   refine wkr [] [] ⟨[], []⟩ ?_
   refine sqr cv hn ?_
   refine ro9 0 1 1 ⟨[(2, zB false)], []⟩ ?_
   refine runs_ret ?_
   exact fin _ _ h (by kernel_rfl)
 · replace h := cond_f hb17 h
   refine cf hb17 ?_
   refine runs_skip ?_
   refine wkr [] [] ⟨[], []⟩ ?_
   refine sqr cv hn ?_
   refine ro9 0 1 1 ⟨[(2, zB true)], []⟩ ?_
   refine runs_ret ?_
   exact fin _ _ h (by kernel_rfl)

end Go.Proofs.Yteolobihfindjaa
