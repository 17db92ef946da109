/- The walks: each Go function answers what its plain function says. -/
import Derived.Test.YtncjcbdbdocjaaaUFnExactPropHear
import Derived.Test.YtncjcbdbdocjaaaProg
set_option linter.unusedVariables false
namespace Go.Proofs.Ytncjcbdbdocjaaa
open Go Ax
abbrev cv : Nat → Option Nat := fun g => bif g == 82 then some 0 else bif g == 46 then some 0 else bif g == 83 then some 0 else bif g == 40 then some 0 else bif g == 30 then some 0 else bif g == 97 then some 0 else bif g == 98 then some 0 else bif g == 113 then some 0 else bif g == 63 then some 0 else none
theorem mixed : Try.prog.follows .mixedOrders = true := by decide +kernel

set_option maxRecDepth 100000 in
set_option maxHeartbeats 2000000 in
theorem impl_in_spec (a0 : Int) (a1 : Int) (a2 : Int) (v0 : Bool) (h : impl_in a0 a1 a2 = some v0) : Ax.Spec Try.prog 60 none [zI a0, zI a1, zI a2] (zB v0 : X) (.junk : X) := by
 let T1 : List (Nat × X) := [(0, zI a0), (1, zI a1), (2, zI a2)]
 refine walk0 (fn := Try.f60) (fun q0 : Bool => (zB q0 : X)) (fun q0 : Bool => (.junk : X)) v0 ⟨T1, []⟩ Try.func60 rfl (by decide +kernel) fun Γ hn fin => ?_
 rw [impl_in] at h
 refine sqr cv hn ?_
 refine ro9 0 1 1 ⟨(6, zB false) :: T1, []⟩ ?_
 refine sqr cv hn ?_
 refine ro 0 4 4 ⟨(10, zB (decide (a0 ≥ a1))) :: (9, zB (decide (a0 ≥ a1))) :: (8, zI a1) :: (7, zI a0) :: (6, zB false) :: T1, []⟩ ?_
 rcases dich (decide (a0 ≥ a1)) with hb1 | hb1
 · replace h := cond_t hb1 h
   refine rl 10 true hb1 ?_
   refine ro9 4 5 5 ⟨(6, zB (decide (a0 ≤ a2))) :: (14, zB (decide (a0 ≤ a2))) :: (13, zB (decide (a0 ≤ a2))) :: (12, zI a2) :: (11, zI a0) :: (10, zB true) :: (9, zB (decide (a0 ≥ a1))) :: (8, zI a1) :: (7, zI a0) :: (6, zB false) :: T1, []⟩ ?_
   refine runs_ret ?_
   exact fin _ _ h (by kernel_rfl)
 · replace h := cond_f hb1 h
   refine rl 10 false hb1 ?_
   refine ro9 4 5 2 ⟨(6, zB false) :: (14, zB false) :: (13, .tup []) :: (12, .tup []) :: (11, .tup []) :: (10, zB false) :: (9, zB (decide (a0 ≥ a1))) :: (8, zI a1) :: (7, zI a0) :: (6, zB false) :: T1, []⟩ ?_
   refine runs_ret ?_
   exact fin _ _ h (by kernel_rfl)

set_option maxRecDepth 100000 in
set_option maxHeartbeats 2000000 in
theorem impl_isChoice_spec (a0 : Int) (v0 : Bool) (h : impl_isChoice a0 = some v0) : Ax.Spec Try.prog 68 none [zI a0] (zB v0 : X) (.junk : X) := by
 refine walk0 (fn := Try.f68) (fun q0 : Bool => (zB q0 : X)) (fun q0 : Bool => (.junk : X)) v0 ⟨[(0, zI a0)], []⟩ Try.func68 rfl (by decide +kernel) fun Γ hn fin => ?_
 rw [impl_isChoice] at h
 refine sqr cv hn ?_
 refine ro9 0 1 1 ⟨[(2, zB false), (0, zI a0)], []⟩ ?_
 refine sqr cv hn ?_
 refine ro 0 1 1 ⟨[(3, zI a0), (2, zB false), (0, zI a0)], []⟩ ?_
 obtain ⟨v1, hv2, h⟩ := bindO h
 refine rc 1 ⟨[(4, zB v1), (3, zI a0), (2, zB false), (0, zI a0)], []⟩ (impl_in_spec a0 1 4 v1 hv2) ?_
 refine ro9 2 1 1 ⟨[(2, zB v1), (4, zB v1), (3, zI a0), (2, zB false), (0, zI a0)], []⟩ ?_
 refine runs_ret ?_
 exact fin _ _ h (by kernel_rfl)

set_option maxRecDepth 100000 in
set_option maxHeartbeats 2000000 in
theorem impl_isBallot_spec (a0 : Int) (v0 : Bool) (h : impl_isBallot a0 = some v0) : Ax.Spec Try.prog 70 none [zI a0] (zB v0 : X) (.junk : X) := by
 refine walk0 (fn := Try.f70) (fun q0 : Bool => (zB q0 : X)) (fun q0 : Bool => (.junk : X)) v0 ⟨[(0, zI a0)], []⟩ Try.func70 rfl (by decide +kernel) fun Γ hn fin => ?_
 rw [impl_isBallot] at h
 refine sqr cv hn ?_
 refine ro9 0 1 1 ⟨[(2, zB false), (0, zI a0)], []⟩ ?_
 refine sqr cv hn ?_
 refine ro 0 1 1 ⟨[(3, zI a0), (2, zB false), (0, zI a0)], []⟩ ?_
 obtain ⟨v1, hv2, h⟩ := bindO h
 refine rc 1 ⟨[(4, zB v1), (3, zI a0), (2, zB false), (0, zI a0)], []⟩ (impl_in_spec a0 1 1125899906842624 v1 hv2) ?_
 refine ro9 2 1 1 ⟨[(2, zB v1), (4, zB v1), (3, zI a0), (2, zB false), (0, zI a0)], []⟩ ?_
 refine runs_ret ?_
 exact fin _ _ h (by kernel_rfl)

set_option maxRecDepth 100000 in
set_option maxHeartbeats 2000000 in
theorem impl_nodesOk_spec (a0 : (List Int)) (a1 : Int) (v0 : Bool) (h : impl_nodesOk a0 a1 = some v0) : Ax.Spec Try.prog 71 none [.sl 0 (List.map encInt a0), zI a1] (zB v0 : X) (.junk : X) := by
 let T1 : List (Nat × X) := [(0, .sl 0 (List.map encInt a0)), (1, zI a1)]
 refine walk0 (fn := Try.f71) (fun q0 : Bool => (zB q0 : X)) (fun q0 : Bool => (.junk : X)) v0 ⟨T1, []⟩ Try.func71 rfl (by decide +kernel) fun Γ hn fin => ?_
 rw [impl_nodesOk] at h
 refine sqr cv hn ?_
 refine ro9 0 1 1 ⟨(4, zB false) :: T1, []⟩ ?_
 refine runs_seq ?_
 refine sqr cv hn ?_
 refine ro9 0 3 3 ⟨(9, zI 0) :: (8, zI (a0.length : Int)) :: (7, .sl 0 (List.map encInt a0)) :: (4, zB false) :: T1, []⟩ ?_ (he := by rw [show (a0.length : Int) = ((List.map encInt a0).length : Int) from by rw [List.length_map]]; kernel_rfl)
 refine runs_block ?_
 refine runs_loopM (σ := List Int × Nat) (fun s => ⟨[(9, zI (s.2 : Int)), (8, zI (a0.length : Int)), (7, .sl 0 (List.map encInt a0)), (0, .sl 0 (List.map encInt a0)), (1, zI a1)], []⟩) (fun s => s.1 = List.drop s.2 a0 ∧ impl_nodesOk_l1 a0 a1 s.1 s.2 = some v0) (fun s => s.1.length) (a0, 0) ⟨rfl, h⟩ (wre [9, 8, 7, 0, 1] []) ?_
 rintro ⟨t1, i1⟩ ⟨hd1, h⟩
 refine seq0 ⟨[(9, zI (i1 : Int)), (8, zI (a0.length : Int)), (7, .sl 0 (List.map encInt a0)), (0, .sl 0 (List.map encInt a0)), (1, zI a1)], []⟩ ?_
 refine runs_len 7 (es := List.map encInt a0) (by kernel_rfl) fun hl1 => ?_
 replace hl1 := len_of_map hl1
 cases t1 with
 | nil =>
   rw [impl_nodesOk_l1] at h
   have hLn1 := dnil hd1
   refine sqr cv hn ?_
   refine ro9 0 1 1 ⟨[(10, zB (decide ((i1 : Int) < (a0.length : Int)))), (9, zI (i1 : Int)), (8, zI (a0.length : Int)), (7, .sl 0 (List.map encInt a0)), (0, .sl 0 (List.map encInt a0)), (1, zI a1)], []⟩ ?_
   refine runs_seq ?_
   refine cf hLn1 ?_
   refine runs_exit ?_
   repeat refine thenX_exit ?_
   refine block_here ?_
   refine wkr [] [] ⟨[], []⟩ ?_
   refine sqr cv hn ?_
   refine ro9 0 1 1 ⟨[(4, zB true)], []⟩ ?_
   refine runs_ret ?_
   exact fin _ _ h (by kernel_rfl)
 | cons x10 t1 =>
   rw [impl_nodesOk_l1] at h
   have hLc1 := dcons hd1
   have hx10 := dget hd1
   have hi1 := dinc hd1 hl1
   refine sqr cv hn ?_
   refine ro9 0 1 1 ⟨[(10, zB (decide ((i1 : Int) < (a0.length : Int)))), (9, zI (i1 : Int)), (8, zI (a0.length : Int)), (7, .sl 0 (List.map encInt a0)), (0, .sl 0 (List.map encInt a0)), (1, zI a1)], []⟩ ?_
   refine runs_seq ?_
   refine ct hLc1 ?_
   refine runs_skip ?_
   refine runs_seq ?_
   refine runs_block ?_
   refine sqr cv hn ?_
   refine ro 0 1 1 ⟨[(11, zI (i1 : Int)), (10, zB (decide ((i1 : Int) < (a0.length : Int)))), (9, zI (i1 : Int)), (8, zI (a0.length : Int)), (7, .sl 0 (List.map encInt a0)), (0, .sl 0 (List.map encInt a0)), (1, zI a1)], []⟩ ?_
   refine rix 1 encInt 3 hx10 (ix_nn hx10) ⟨[(12, .rp (zI x10) 0), (11, zI (i1 : Int)), (10, zB (decide ((i1 : Int) < (a0.length : Int)))), (9, zI (i1 : Int)), (8, zI (a0.length : Int)), (7, .sl 0 (List.map encInt a0)), (0, .sl 0 (List.map encInt a0)), (1, zI a1)], []⟩ ?_
   refine ro9 2 3 3 ⟨[(6, zI x10), (5, zI (i1 : Int)), (13, zI x10), (12, .rp (zI x10) 0), (11, zI (i1 : Int)), (10, zB (decide ((i1 : Int) < (a0.length : Int)))), (9, zI (i1 : Int)), (8, zI (a0.length : Int)), (7, .sl 0 (List.map encInt a0)), (0, .sl 0 (List.map encInt a0)), (1, zI a1)], []⟩ ?_
   refine sqr cv hn ?_
   refine ro 0 3 3 ⟨[(16, zI (w64 (a1 - 1))), (15, zI a1), (14, zI x10), (6, zI x10), (5, zI (i1 : Int)), (13, zI x10), (12, .rp (zI x10) 0), (11, zI (i1 : Int)), (10, zB (decide ((i1 : Int) < (a0.length : Int)))), (9, zI (i1 : Int)), (8, zI (a0.length : Int)), (7, .sl 0 (List.map encInt a0)), (0, .sl 0 (List.map encInt a0)), (1, zI a1)], []⟩ ?_
   obtain ⟨v26, hv27, h⟩ := bindO h
   refine rc 3 ⟨[(17, zB v26), (16, zI (w64 (a1 - 1))), (15, zI a1), (14, zI x10), (6, zI x10), (5, zI (i1 : Int)), (13, zI x10), (12, .rp (zI x10) 0), (11, zI (i1 : Int)), (10, zB (decide ((i1 : Int) < (a0.length : Int)))), (9, zI (i1 : Int)), (8, zI (a0.length : Int)), (7, .sl 0 (List.map encInt a0)), (0, .sl 0 (List.map encInt a0)), (1, zI a1)], []⟩ (impl_in_spec x10 0 (w64 (a1 - 1)) v26 hv27) ?_
   refine ro 4 2 2 ⟨[(19, zB (!v26)), (18, zB (!v26)), (17, zB v26), (16, zI (w64 (a1 - 1))), (15, zI a1), (14, zI x10), (6, zI x10), (5, zI (i1 : Int)), (13, zI x10), (12, .rp (zI x10) 0), (11, zI (i1 : Int)), (10, zB (decide ((i1 : Int) < (a0.length : Int)))), (9, zI (i1 : Int)), (8, zI (a0.length : Int)), (7, .sl 0 (List.map encInt a0)), (0, .sl 0 (List.map encInt a0)), (1, zI a1)], []⟩ ?_
   rcases dich (!v26) with hb28 | hb28
   · replace h := cond_t hb28 h
     refine rl 19 true hb28 ?_
     refine ro9 6 12 1 ⟨[(31, zB true), (30, .tup []), (29, .tup []), (28, .tup []), (27, .tup []), (26, .tup []), (25, .tup []), (24, .tup []), (23, .tup []), (22, .tup []), (21, .tup []), (20, .tup []), (19, zB true), (18, zB (!v26)), (17, zB v26), (16, zI (w64 (a1 - 1))), (15, zI a1), (14, zI x10), (6, zI x10), (5, zI (i1 : Int)), (13, zI x10), (12, .rp (zI x10) 0), (11, zI (i1 : Int)), (10, zB (decide ((i1 : Int) < (a0.length : Int)))), (9, zI (i1 : Int)), (8, zI (a0.length : Int)), (7, .sl 0 (List.map encInt a0)), (0, .sl 0 (List.map encInt a0)), (1, zI a1)], []⟩ ?_
     refine cT ?_
     refine sqr cv hn ?_
     refine ro9 0 1 1 ⟨[(4, zB false), (31, zB true), (30, .tup []), (29, .tup []), (28, .tup []), (27, .tup []), (26, .tup []), (25, .tup []), (24, .tup []), (23, .tup []), (22, .tup []), (21, .tup []), (20, .tup []), (19, zB true), (18, zB (!v26)), (17, zB v26), (16, zI (w64 (a1 - 1))), (15, zI a1), (14, zI x10), (6, zI x10), (5, zI (i1 : Int)), (13, zI x10), (12, .rp (zI x10) 0), (11, zI (i1 : Int)), (10, zB (decide ((i1 : Int) < (a0.length : Int)))), (9, zI (i1 : Int)), (8, zI (a0.length : Int)), (7, .sl 0 (List.map encInt a0)), (0, .sl 0 (List.map encInt a0)), (1, zI a1)], []⟩ ?_
     refine runs_ret ?_
     exact fin _ _ h (by kernel_rfl)
   · replace h := cond_f hb28 h
     refine rl 19 false hb28 ?_
     refine ro 6 3 3 ⟨[(22, zB (decide ((i1 : Int) > 0))), (21, zB (decide ((i1 : Int) > 0))), (20, zI (i1 : Int)), (19, zB false), (18, zB (!v26)), (17, zB v26), (16, zI (w64 (a1 - 1))), (15, zI a1), (14, zI x10), (6, zI x10), (5, zI (i1 : Int)), (13, zI x10), (12, .rp (zI x10) 0), (11, zI (i1 : Int)), (10, zB (decide ((i1 : Int) < (a0.length : Int)))), (9, zI (i1 : Int)), (8, zI (a0.length : Int)), (7, .sl 0 (List.map encInt a0)), (0, .sl 0 (List.map encInt a0)), (1, zI a1)], []⟩ ?_
     rcases dich (decide ((i1 : Int) > 0)) with hb29 | hb29
     · replace h := cond_t hb29 h
       refine rl 22 true hb29 ?_
       refine ro 9 3 3 ⟨[(25, zI (w64 ((i1 : Int) - 1))), (24, zI (i1 : Int)), (23, .sl 0 (List.map encInt a0)), (22, zB true), (21, zB (decide ((i1 : Int) > 0))), (20, zI (i1 : Int)), (19, zB false), (18, zB (!v26)), (17, zB v26), (16, zI (w64 (a1 - 1))), (15, zI a1), (14, zI x10), (6, zI x10), (5, zI (i1 : Int)), (13, zI x10), (12, .rp (zI x10) 0), (11, zI (i1 : Int)), (10, zB (decide ((i1 : Int) < (a0.length : Int)))), (9, zI (i1 : Int)), (8, zI (a0.length : Int)), (7, .sl 0 (List.map encInt a0)), (0, .sl 0 (List.map encInt a0)), (1, zI a1)], []⟩ ?_
       obtain ⟨x30, hx31, h⟩ := bindO h
       refine rix 12 encInt 3 hx31 (ix_nn hx31) ⟨[(26, .rp (zI x30) 0), (25, zI (w64 ((i1 : Int) - 1))), (24, zI (i1 : Int)), (23, .sl 0 (List.map encInt a0)), (22, zB true), (21, zB (decide ((i1 : Int) > 0))), (20, zI (i1 : Int)), (19, zB false), (18, zB (!v26)), (17, zB v26), (16, zI (w64 (a1 - 1))), (15, zI a1), (14, zI x10), (6, zI x10), (5, zI (i1 : Int)), (13, zI x10), (12, .rp (zI x10) 0), (11, zI (i1 : Int)), (10, zB (decide ((i1 : Int) < (a0.length : Int)))), (9, zI (i1 : Int)), (8, zI (a0.length : Int)), (7, .sl 0 (List.map encInt a0)), (0, .sl 0 (List.map encInt a0)), (1, zI a1)], []⟩ ?_
       refine ro9 13 5 5 ⟨[(31, zB (decide (x30 ≥ x10))), (30, zB (decide (x30 ≥ x10))), (29, zB (decide (x30 ≥ x10))), (28, zI x10), (27, zI x30), (26, .rp (zI x30) 0), (25, zI (w64 ((i1 : Int) - 1))), (24, zI (i1 : Int)), (23, .sl 0 (List.map encInt a0)), (22, zB true), (21, zB (decide ((i1 : Int) > 0))), (20, zI (i1 : Int)), (19, zB false), (18, zB (!v26)), (17, zB v26), (16, zI (w64 (a1 - 1))), (15, zI a1), (14, zI x10), (6, zI x10), (5, zI (i1 : Int)), (13, zI x10), (12, .rp (zI x10) 0), (11, zI (i1 : Int)), (10, zB (decide ((i1 : Int) < (a0.length : Int)))), (9, zI (i1 : Int)), (8, zI (a0.length : Int)), (7, .sl 0 (List.map encInt a0)), (0, .sl 0 (List.map encInt a0)), (1, zI a1)], []⟩ ?_
       rcases dich (decide (x30 ≥ x10)) with hb32 | hb32
       · replace h := cond_t hb32 h
         refine ct hb32 ?_
         refine sqr cv hn ?_
         refine ro9 0 1 1 ⟨[(4, zB false), (31, zB (decide (x30 ≥ x10))), (30, zB (decide (x30 ≥ x10))), (29, zB (decide (x30 ≥ x10))), (28, zI x10), (27, zI x30), (26, .rp (zI x30) 0), (25, zI (w64 ((i1 : Int) - 1))), (24, zI (i1 : Int)), (23, .sl 0 (List.map encInt a0)), (22, zB true), (21, zB (decide ((i1 : Int) > 0))), (20, zI (i1 : Int)), (19, zB false), (18, zB (!v26)), (17, zB v26), (16, zI (w64 (a1 - 1))), (15, zI a1), (14, zI x10), (6, zI x10), (5, zI (i1 : Int)), (13, zI x10), (12, .rp (zI x10) 0), (11, zI (i1 : Int)), (10, zB (decide ((i1 : Int) < (a0.length : Int)))), (9, zI (i1 : Int)), (8, zI (a0.length : Int)), (7, .sl 0 (List.map encInt a0)), (0, .sl 0 (List.map encInt a0)), (1, zI a1)], []⟩ ?_
         refine runs_ret ?_
         exact fin _ _ h (by kernel_rfl)
       · replace h := cond_f hb32 h
         refine cf hb32 ?_
         refine runs_skip ?_
         refine rg cv hn ?_
         refine ro9 0 2 2 ⟨[(9, zI ((i1 + 1 : Nat) : Int)), (32, zI ((i1 + 1 : Nat) : Int)), (31, zB (decide (x30 ≥ x10))), (30, zB (decide (x30 ≥ x10))), (29, zB (decide (x30 ≥ x10))), (28, zI x10), (27, zI x30), (26, .rp (zI x30) 0), (25, zI (w64 ((i1 : Int) - 1))), (24, zI (i1 : Int)), (23, .sl 0 (List.map encInt a0)), (22, zB true), (21, zB (decide ((i1 : Int) > 0))), (20, zI (i1 : Int)), (19, zB false), (18, zB (!v26)), (17, zB v26), (16, zI (w64 (a1 - 1))), (15, zI a1), (14, zI x10), (6, zI x10), (5, zI (i1 : Int)), (13, zI x10), (12, .rp (zI x10) 0), (11, zI (i1 : Int)), (10, zB (decide ((i1 : Int) < (a0.length : Int)))), (9, zI (i1 : Int)), (8, zI (a0.length : Int)), (7, .sl 0 (List.map encInt a0)), (0, .sl 0 (List.map encInt a0)), (1, zI a1)], []⟩ ?_ (he := by rw [← hi1]; kernel_rfl)
         exact ⟨(t1, i1 + 1), Nat.lt_succ_self _, ⟨dnext hd1, h⟩, wre [9, 8, 7, 0, 1] []⟩
     · replace h := cond_f hb29 h
       refine rl 22 false hb29 ?_
       refine ro9 9 9 2 ⟨[(31, zB false), (30, zB false), (29, .tup []), (28, .tup []), (27, .tup []), (26, .tup []), (25, .tup []), (24, .tup []), (23, .tup []), (22, zB false), (21, zB (decide ((i1 : Int) > 0))), (20, zI (i1 : Int)), (19, zB false), (18, zB (!v26)), (17, zB v26), (16, zI (w64 (a1 - 1))), (15, zI a1), (14, zI x10), (6, zI x10), (5, zI (i1 : Int)), (13, zI x10), (12, .rp (zI x10) 0), (11, zI (i1 : Int)), (10, zB (decide ((i1 : Int) < (a0.length : Int)))), (9, zI (i1 : Int)), (8, zI (a0.length : Int)), (7, .sl 0 (List.map encInt a0)), (0, .sl 0 (List.map encInt a0)), (1, zI a1)], []⟩ ?_
       refine cF ?_
       refine runs_skip ?_
       refine rg cv hn ?_
       refine ro9 0 2 2 ⟨[(9, zI ((i1 + 1 : Nat) : Int)), (32, zI ((i1 + 1 : Nat) : Int)), (31, zB false), (30, zB false), (29, .tup []), (28, .tup []), (27, .tup []), (26, .tup []), (25, .tup []), (24, .tup []), (23, .tup []), (22, zB false), (21, zB (decide ((i1 : Int) > 0))), (20, zI (i1 : Int)), (19, zB false), (18, zB (!v26)), (17, zB v26), (16, zI (w64 (a1 - 1))), (15, zI a1), (14, zI x10), (6, zI x10), (5, zI (i1 : Int)), (13, zI x10), (12, .rp (zI x10) 0), (11, zI (i1 : Int)), (10, zB (decide ((i1 : Int) < (a0.length : Int)))), (9, zI (i1 : Int)), (8, zI (a0.length : Int)), (7, .sl 0 (List.map encInt a0)), (0, .sl 0 (List.map encInt a0)), (1, zI a1)], []⟩ ?_ (he := by rw [← hi1]; kernel_rfl)
       exact ⟨(t1, i1 + 1), Nat.lt_succ_self _, ⟨dnext hd1, h⟩, wre [9, 8, 7, 0, 1] []⟩

set_option maxRecDepth 100000 in
set_option maxHeartbeats 2000000 in
theorem impl_PropOk_spec (a0 : SProp) (v0 : Bool) (h : impl_PropOk a0 = some v0) : Ax.Spec Try.prog 23 none [encProp0 a0] (zB v0 : X) (.junk : X) := by
 refine walk0 (fn := Try.f23) (fun q0 : Bool => (zB q0 : X)) (fun q0 : Bool => (.junk : X)) v0 ⟨[(0, encProp0 a0)], []⟩ Try.func23 rfl (by decide +kernel) fun Γ hn fin => ?_
 rw [impl_PropOk] at h
 refine sqr cv hn ?_
 refine ro9 0 2 2 ⟨[(2, zB false), (1, .ptr 1 1 0), (0, encProp0 a0)], [(1, ⟨1, 1, true, some (encProp0 a0)⟩)]⟩ ?_
 refine sqr cv hn ?_
 refine ro 0 2 2 ⟨[(4, zI a0.fBal), (3, .ptr 1 1 0), (2, zB false), (1, .ptr 1 1 0), (0, encProp0 a0)], [(1, ⟨1, 1, true, some (encProp0 a0)⟩)]⟩ ?_
 obtain ⟨v1, hv2, h⟩ := bindO h
 refine rc 2 ⟨[(5, zB v1), (4, zI a0.fBal), (3, .ptr 1 1 0), (2, zB false), (1, .ptr 1 1 0), (0, encProp0 a0)], [(1, ⟨1, 1, true, some (encProp0 a0)⟩)]⟩ (impl_isBallot_spec a0.fBal v1 hv2) ?_
 refine ro 3 1 1 ⟨[(6, zB v1), (5, zB v1), (4, zI a0.fBal), (3, .ptr 1 1 0), (2, zB false), (1, .ptr 1 1 0), (0, encProp0 a0)], [(1, ⟨1, 1, true, some (encProp0 a0)⟩)]⟩ ?_
 rcases dich v1 with hb3 | hb3
 · replace h := cond_t hb3 h
   refine rl 6 true hb3 ?_
   refine ro 4 2 2 ⟨[(8, zI a0.fVal), (7, .ptr 1 1 1), (6, zB true), (5, zB v1), (4, zI a0.fBal), (3, .ptr 1 1 0), (2, zB false), (1, .ptr 1 1 0), (0, encProp0 a0)], [(1, ⟨1, 1, true, some (encProp0 a0)⟩)]⟩ ?_
   obtain ⟨v4, hv5, h⟩ := bindO h
   refine rc 6 ⟨[(9, zB v4), (8, zI a0.fVal), (7, .ptr 1 1 1), (6, zB true), (5, zB v1), (4, zI a0.fBal), (3, .ptr 1 1 0), (2, zB false), (1, .ptr 1 1 0), (0, encProp0 a0)], [(1, ⟨1, 1, true, some (encProp0 a0)⟩)]⟩ (impl_isChoice_spec a0.fVal v4 hv5) ?_
   refine ro 7 2 2 ⟨[(11, zB v4), (10, zB v4), (9, zB v4), (8, zI a0.fVal), (7, .ptr 1 1 1), (6, zB true), (5, zB v1), (4, zI a0.fBal), (3, .ptr 1 1 0), (2, zB false), (1, .ptr 1 1 0), (0, encProp0 a0)], [(1, ⟨1, 1, true, some (encProp0 a0)⟩)]⟩ ?_
   rcases dich v4 with hb6 | hb6
   · replace h := cond_t hb6 h
     refine rl 11 true hb6 ?_
     refine ro 9 2 2 ⟨[(13, .sl 0 (List.map encInt a0.fFrom)), (12, .ptr 1 1 2), (11, zB true), (10, zB v4), (9, zB v4), (8, zI a0.fVal), (7, .ptr 1 1 1), (6, zB true), (5, zB v1), (4, zI a0.fBal), (3, .ptr 1 1 0), (2, zB false), (1, .ptr 1 1 0), (0, encProp0 a0)], [(1, ⟨1, 1, true, some (encProp0 a0)⟩)]⟩ ?_
     obtain ⟨v7, hv8, h⟩ := bindO h
     refine rc 11 ⟨[(14, zB v7), (13, .sl 0 (List.map encInt a0.fFrom)), (12, .ptr 1 1 2), (11, zB true), (10, zB v4), (9, zB v4), (8, zI a0.fVal), (7, .ptr 1 1 1), (6, zB true), (5, zB v1), (4, zI a0.fBal), (3, .ptr 1 1 0), (2, zB false), (1, .ptr 1 1 0), (0, encProp0 a0)], [(1, ⟨1, 1, true, some (encProp0 a0)⟩)]⟩ (impl_nodesOk_spec a0.fFrom 4 v7 hv8) ?_
     refine ro 12 2 2 ⟨[(16, zB v7), (15, zB v7), (14, zB v7), (13, .sl 0 (List.map encInt a0.fFrom)), (12, .ptr 1 1 2), (11, zB true), (10, zB v4), (9, zB v4), (8, zI a0.fVal), (7, .ptr 1 1 1), (6, zB true), (5, zB v1), (4, zI a0.fBal), (3, .ptr 1 1 0), (2, zB false), (1, .ptr 1 1 0), (0, encProp0 a0)], [(1, ⟨1, 1, true, some (encProp0 a0)⟩)]⟩ ?_
     rcases dich v7 with hb9 | hb9
     · replace h := cond_t hb9 h
       refine rl 16 true hb9 ?_
       refine ro 14 2 2 ⟨[(18, .sl 0 (List.map encInt a0.fGot)), (17, .ptr 1 1 4), (16, zB true), (15, zB v7), (14, zB v7), (13, .sl 0 (List.map encInt a0.fFrom)), (12, .ptr 1 1 2), (11, zB true), (10, zB v4), (9, zB v4), (8, zI a0.fVal), (7, .ptr 1 1 1), (6, zB true), (5, zB v1), (4, zI a0.fBal), (3, .ptr 1 1 0), (2, zB false), (1, .ptr 1 1 0), (0, encProp0 a0)], [(1, ⟨1, 1, true, some (encProp0 a0)⟩)]⟩ ?_
       obtain ⟨v10, hv11, h⟩ := bindO h
       refine rc 16 ⟨[(19, zB v10), (18, .sl 0 (List.map encInt a0.fGot)), (17, .ptr 1 1 4), (16, zB true), (15, zB v7), (14, zB v7), (13, .sl 0 (List.map encInt a0.fFrom)), (12, .ptr 1 1 2), (11, zB true), (10, zB v4), (9, zB v4), (8, zI a0.fVal), (7, .ptr 1 1 1), (6, zB true), (5, zB v1), (4, zI a0.fBal), (3, .ptr 1 1 0), (2, zB false), (1, .ptr 1 1 0), (0, encProp0 a0)], [(1, ⟨1, 1, true, some (encProp0 a0)⟩)]⟩ (impl_nodesOk_spec a0.fGot 4 v10 hv11) ?_
       refine ro 17 2 2 ⟨[(21, zB v10), (20, zB v10), (19, zB v10), (18, .sl 0 (List.map encInt a0.fGot)), (17, .ptr 1 1 4), (16, zB true), (15, zB v7), (14, zB v7), (13, .sl 0 (List.map encInt a0.fFrom)), (12, .ptr 1 1 2), (11, zB true), (10, zB v4), (9, zB v4), (8, zI a0.fVal), (7, .ptr 1 1 1), (6, zB true), (5, zB v1), (4, zI a0.fBal), (3, .ptr 1 1 0), (2, zB false), (1, .ptr 1 1 0), (0, encProp0 a0)], [(1, ⟨1, 1, true, some (encProp0 a0)⟩)]⟩ ?_
       rcases dich v10 with hb12 | hb12
       · replace h := cond_t hb12 h
         refine rl 21 true hb12 ?_
         refine ro 19 5 5 ⟨[(26, zI (w64 (a0.fBal - 1))), (25, zI a0.fBal), (24, .ptr 1 1 0), (23, zI a0.fBest), (22, .ptr 1 1 3), (21, zB true), (20, zB v10), (19, zB v10), (18, .sl 0 (List.map encInt a0.fGot)), (17, .ptr 1 1 4), (16, zB true), (15, zB v7), (14, zB v7), (13, .sl 0 (List.map encInt a0.fFrom)), (12, .ptr 1 1 2), (11, zB true), (10, zB v4), (9, zB v4), (8, zI a0.fVal), (7, .ptr 1 1 1), (6, zB true), (5, zB v1), (4, zI a0.fBal), (3, .ptr 1 1 0), (2, zB false), (1, .ptr 1 1 0), (0, encProp0 a0)], [(1, ⟨1, 1, true, some (encProp0 a0)⟩)]⟩ ?_
         obtain ⟨v13, hv14, h⟩ := bindO h
         refine rc 24 ⟨[(27, zB v13), (26, zI (w64 (a0.fBal - 1))), (25, zI a0.fBal), (24, .ptr 1 1 0), (23, zI a0.fBest), (22, .ptr 1 1 3), (21, zB true), (20, zB v10), (19, zB v10), (18, .sl 0 (List.map encInt a0.fGot)), (17, .ptr 1 1 4), (16, zB true), (15, zB v7), (14, zB v7), (13, .sl 0 (List.map encInt a0.fFrom)), (12, .ptr 1 1 2), (11, zB true), (10, zB v4), (9, zB v4), (8, zI a0.fVal), (7, .ptr 1 1 1), (6, zB true), (5, zB v1), (4, zI a0.fBal), (3, .ptr 1 1 0), (2, zB false), (1, .ptr 1 1 0), (0, encProp0 a0)], [(1, ⟨1, 1, true, some (encProp0 a0)⟩)]⟩ (impl_in_spec a0.fBest 0 (w64 (a0.fBal - 1)) v13 hv14) ?_
         refine ro9 25 2 2 ⟨[(2, zB v13), (28, zB v13), (27, zB v13), (26, zI (w64 (a0.fBal - 1))), (25, zI a0.fBal), (24, .ptr 1 1 0), (23, zI a0.fBest), (22, .ptr 1 1 3), (21, zB true), (20, zB v10), (19, zB v10), (18, .sl 0 (List.map encInt a0.fGot)), (17, .ptr 1 1 4), (16, zB true), (15, zB v7), (14, zB v7), (13, .sl 0 (List.map encInt a0.fFrom)), (12, .ptr 1 1 2), (11, zB true), (10, zB v4), (9, zB v4), (8, zI a0.fVal), (7, .ptr 1 1 1), (6, zB true), (5, zB v1), (4, zI a0.fBal), (3, .ptr 1 1 0), (2, zB false), (1, .ptr 1 1 0), (0, encProp0 a0)], [(1, ⟨1, 1, true, some (encProp0 a0)⟩)]⟩ ?_
         refine runs_ret ?_
         exact fin _ _ h (by kernel_rfl)
       · replace h := cond_f hb12 h
         refine rl 21 false hb12 ?_
         refine ro9 19 8 2 ⟨[(2, zB false), (28, zB false), (27, .tup []), (26, .tup []), (25, .tup []), (24, .tup []), (23, .tup []), (22, .tup []), (21, zB false), (20, zB v10), (19, zB v10), (18, .sl 0 (List.map encInt a0.fGot)), (17, .ptr 1 1 4), (16, zB true), (15, zB v7), (14, zB v7), (13, .sl 0 (List.map encInt a0.fFrom)), (12, .ptr 1 1 2), (11, zB true), (10, zB v4), (9, zB v4), (8, zI a0.fVal), (7, .ptr 1 1 1), (6, zB true), (5, zB v1), (4, zI a0.fBal), (3, .ptr 1 1 0), (2, zB false), (1, .ptr 1 1 0), (0, encProp0 a0)], [(1, ⟨1, 1, true, some (encProp0 a0)⟩)]⟩ ?_
         refine runs_ret ?_
         exact fin _ _ h (by kernel_rfl)
     · replace h := cond_f hb9 h
       refine rl 16 false hb9 ?_
       refine ro9 14 13 4 ⟨[(2, zB false), (28, zB false), (27, .tup []), (26, .tup []), (25, .tup []), (24, .tup []), (23, .tup []), (22, .tup []), (21, zB false), (20, zB false), (19, .tup []), (18, .tup []), (17, .tup []), (16, zB false), (15, zB v7), (14, zB v7), (13, .sl 0 (List.map encInt a0.fFrom)), (12, .ptr 1 1 2), (11, zB true), (10, zB v4), (9, zB v4), (8, zI a0.fVal), (7, .ptr 1 1 1), (6, zB true), (5, zB v1), (4, zI a0.fBal), (3, .ptr 1 1 0), (2, zB false), (1, .ptr 1 1 0), (0, encProp0 a0)], [(1, ⟨1, 1, true, some (encProp0 a0)⟩)]⟩ ?_
       refine runs_ret ?_
       exact fin _ _ h (by kernel_rfl)
   · replace h := cond_f hb6 h
     refine rl 11 false hb6 ?_
     refine ro9 9 18 6 ⟨[(2, zB false), (28, zB false), (27, .tup []), (26, .tup []), (25, .tup []), (24, .tup []), (23, .tup []), (22, .tup []), (21, zB false), (20, zB false), (19, .tup []), (18, .tup []), (17, .tup []), (16, zB false), (15, zB false), (14, .tup []), (13, .tup []), (12, .tup []), (11, zB false), (10, zB v4), (9, zB v4), (8, zI a0.fVal), (7, .ptr 1 1 1), (6, zB true), (5, zB v1), (4, zI a0.fBal), (3, .ptr 1 1 0), (2, zB false), (1, .ptr 1 1 0), (0, encProp0 a0)], [(1, ⟨1, 1, true, some (encProp0 a0)⟩)]⟩ ?_
     refine runs_ret ?_
     exact fin _ _ h (by kernel_rfl)
 · replace h := cond_f hb3 h
   refine rl 6 false hb3 ?_
   refine ro9 4 23 8 ⟨[(2, zB false), (28, zB false), (27, .tup []), (26, .tup []), (25, .tup []), (24, .tup []), (23, .tup []), (22, .tup []), (21, zB false), (20, zB false), (19, .tup []), (18, .tup []), (17, .tup []), (16, zB false), (15, zB false), (14, .tup []), (13, .tup []), (12, .tup []), (11, zB false), (10, zB false), (9, .tup []), (8, .tup []), (7, .tup []), (6, zB false), (5, zB v1), (4, zI a0.fBal), (3, .ptr 1 1 0), (2, zB false), (1, .ptr 1 1 0), (0, encProp0 a0)], [(1, ⟨1, 1, true, some (encProp0 a0)⟩)]⟩ ?_
   refine runs_ret ?_
   exact fin _ _ h (by kernel_rfl)

set_option maxRecDepth 100000 in
set_option maxHeartbeats 2000000 in
theorem impl_isNode_spec (a0 : Int) (v0 : Bool) (h : impl_isNode a0 = some v0) : Ax.Spec Try.prog 61 none [zI a0] (zB v0 : X) (.junk : X) := by
 refine walk0 (fn := Try.f61) (fun q0 : Bool => (zB q0 : X)) (fun q0 : Bool => (.junk : X)) v0 ⟨[(0, zI a0)], []⟩ Try.func61 rfl (by decide +kernel) fun Γ hn fin => ?_
 rw [impl_isNode] at h
 refine sqr cv hn ?_
 refine ro9 0 1 1 ⟨[(2, zB false), (0, zI a0)], []⟩ ?_
 refine sqr cv hn ?_
 refine ro 0 1 1 ⟨[(3, zI a0), (2, zB false), (0, zI a0)], []⟩ ?_
 obtain ⟨v1, hv2, h⟩ := bindO h
 refine rc 1 ⟨[(4, zB v1), (3, zI a0), (2, zB false), (0, zI a0)], []⟩ (impl_in_spec a0 0 3 v1 hv2) ?_
 refine ro9 2 1 1 ⟨[(2, zB v1), (4, zB v1), (3, zI a0), (2, zB false), (0, zI a0)], []⟩ ?_
 refine runs_ret ?_
 exact fin _ _ h (by kernel_rfl)

set_option maxRecDepth 100000 in
set_option maxHeartbeats 2000000 in
theorem impl_copyInts_spec (a0 : (List Int)) (v0 : (List Int)) (h : impl_copyInts a0 = some v0) : Ax.Spec Try.prog 114 none [.sl 0 (List.map encInt a0)] (.sl 1 (List.map encInt v0) : X) (.junk : X) := by
 let T1 : List (Nat × X) := [(0, .sl 0 (List.map encInt a0))]
 refine walk0 (fn := Try.f114) (fun q0 : (List Int) => (.sl 1 (List.map encInt q0) : X)) (fun q0 : (List Int) => (.junk : X)) v0 ⟨T1, []⟩ Try.func114 rfl (by decide +kernel) fun Γ hn fin => ?_
 rw [impl_copyInts] at h
 refine sqr cv hn ?_
 refine ro9 0 1 1 ⟨(2, .sc (.slice none 0 0)) :: T1, []⟩ ?_
 refine sqr cv hn ?_
 refine ro 0 1 1 ⟨(3, .sl 0 (List.map encInt a0)) :: (2, .sc (.slice none 0 0)) :: T1, []⟩ ?_
 obtain ⟨hg1, h⟩ := gO_some h
 refine rs 1 ⟨(4, .view 4 1 [] 0) :: (3, .sl 0 (List.map encInt a0)) :: (2, .sc (.slice none 0 0)) :: T1, [(4, ⟨1, 1, false, some (.sl 1 (List.map encInt a0))⟩)]⟩ [((List.map encInt [] : List X).length + (List.map encInt a0 : List X).length) * tBytes Try.prog 3 ≤ 140737488355328 ∧ (List.map encInt [] : List X).length + (List.map encInt a0 : List X).length ≤ 140737488355328 ∧ (∀ y ∈ (List.map encInt [] : List X), (X.cells y).length = tSize Try.prog 3) ∧ ∀ y ∈ (List.map encInt a0 : List X), (X.cells y).length = tSize Try.prog 3] ⟨⟨(app_side (b := 8) (b2 := tBytes Try.prog 3) (f := encInt) (A := []) (B := a0) (by kernel_rfl) hg1).1, (app_side (b := 8) (b2 := 8) (f := encInt) (A := []) (B := a0) rfl hg1).2, fmap fun _ => by kernel_rfl, fmap fun _ => by kernel_rfl⟩, trivial⟩ ?_
 refine ro9 2 1 1 ⟨(2, .view 4 1 [] 0) :: (4, .view 4 1 [] 0) :: (3, .sl 0 (List.map encInt a0)) :: (2, .sc (.slice none 0 0)) :: T1, [(4, ⟨1, 1, false, some (.sl 1 (List.map encInt a0))⟩)]⟩ ?_
 refine runs_ret ?_
 exact fin _ _ h (by kernel_rfl)

set_option maxRecDepth 100000 in
set_option maxHeartbeats 2000000 in
theorem impl_copyProp_spec (a0 : SProp) (v0 : SProp) (h : impl_copyProp a0 = some v0) : Ax.Spec Try.prog 66 none [encProp0 a0] (encProp1 v0 : X) (.junk : X) := by
 refine walk0 (fn := Try.f66) (fun q0 : SProp => (encProp1 q0 : X)) (fun q0 : SProp => (.junk : X)) v0 ⟨[(0, encProp0 a0)], []⟩ Try.func66 rfl (by decide +kernel) fun Γ hn fin => ?_
 rw [impl_copyProp] at h
 refine sqr cv hn ?_
 refine ro9 0 2 2 ⟨[(2, .ptr 2 1 0), (1, .ptr 1 1 0), (0, encProp0 a0)], [(2, ⟨1, 1, true, some (.agg [zI 0, zI 0, .sl 1 (List.map encInt []), zI 0, .sl 1 (List.map encInt [])])⟩), (1, ⟨1, 1, true, some (encProp0 a0)⟩)]⟩ ?_
 refine runs_seq ?_
 refine rgT cv mixed hn ?_
 refine roT 0 2 2 ⟨[(4, .sl 0 (List.map encInt a0.fFrom)), (3, .ptr 1 1 2), (2, .ptr 2 1 0), (1, .ptr 1 1 0), (0, encProp0 a0)], [(2, ⟨1, 1, true, some (.agg [zI 0, zI 0, .sl 1 (List.map encInt []), zI 0, .sl 1 (List.map encInt [])])⟩), (1, ⟨1, 1, true, some (encProp0 a0)⟩)]⟩ ?_
 obtain ⟨v1, hv2, h⟩ := bindO h
 refine rcT 2 ⟨[(5, .view 5 1 [] 0), (4, .sl 0 (List.map encInt a0.fFrom)), (3, .ptr 1 1 2), (2, .ptr 2 1 0), (1, .ptr 1 1 0), (0, encProp0 a0)], [(5, ⟨1, 1, false, some (.sl 1 (List.map encInt v1))⟩), (2, ⟨1, 1, true, some (.agg [zI 0, zI 0, .sl 1 (List.map encInt []), zI 0, .sl 1 (List.map encInt [])])⟩), (1, ⟨1, 1, true, some (encProp0 a0)⟩)]⟩ (impl_copyInts_spec a0.fFrom v1 hv2) ?_
 refine roT 3 2 2 ⟨[(7, .sl 0 (List.map encInt a0.fGot)), (6, .ptr 1 1 4), (5, .view 5 1 [] 0), (4, .sl 0 (List.map encInt a0.fFrom)), (3, .ptr 1 1 2), (2, .ptr 2 1 0), (1, .ptr 1 1 0), (0, encProp0 a0)], [(5, ⟨1, 1, false, some (.sl 1 (List.map encInt v1))⟩), (2, ⟨1, 1, true, some (.agg [zI 0, zI 0, .sl 1 (List.map encInt []), zI 0, .sl 1 (List.map encInt [])])⟩), (1, ⟨1, 1, true, some (encProp0 a0)⟩)]⟩ ?_
 obtain ⟨v3, hv4, h⟩ := bindO h
 refine rcT 5 ⟨[(8, .view 8 1 [] 0), (7, .sl 0 (List.map encInt a0.fGot)), (6, .ptr 1 1 4), (5, .view 5 1 [] 0), (4, .sl 0 (List.map encInt a0.fFrom)), (3, .ptr 1 1 2), (2, .ptr 2 1 0), (1, .ptr 1 1 0), (0, encProp0 a0)], [(8, ⟨1, 1, false, some (.sl 1 (List.map encInt v3))⟩), (5, ⟨1, 1, false, some (.sl 1 (List.map encInt v1))⟩), (2, ⟨1, 1, true, some (.agg [zI 0, zI 0, .sl 1 (List.map encInt []), zI 0, .sl 1 (List.map encInt [])])⟩), (1, ⟨1, 1, true, some (encProp0 a0)⟩)]⟩ (impl_copyInts_spec a0.fGot v3 hv4) ?_
 refine roT9 6 4 4 ⟨[(10, .ptr 1 1 4), (9, .ptr 1 1 2), (8, .view 8 1 [] 0), (7, .sl 0 (List.map encInt a0.fGot)), (6, .ptr 1 1 4), (5, .view 5 1 [] 0), (4, .sl 0 (List.map encInt a0.fFrom)), (3, .ptr 1 1 2), (2, .ptr 2 1 0), (1, .ptr 1 1 0), (0, encProp0 a0)], [(1, ⟨1, 3, true, some (.agg [zI a0.fBal, zI a0.fVal, .sl 1 (List.map encInt v1), zI a0.fBest, .sl 1 (List.map encInt v3)])⟩), (8, ⟨1, 2, false, some (.junk)⟩), (1, ⟨1, 2, true, some (.agg [zI a0.fBal, zI a0.fVal, .sl 1 (List.map encInt v1), zI a0.fBest, .sl 0 (List.map encInt a0.fGot)])⟩), (5, ⟨1, 2, false, some (.junk)⟩), (8, ⟨1, 1, false, some (.sl 1 (List.map encInt v3))⟩), (5, ⟨1, 1, false, some (.sl 1 (List.map encInt v1))⟩), (2, ⟨1, 1, true, some (.agg [zI 0, zI 0, .sl 1 (List.map encInt []), zI 0, .sl 1 (List.map encInt [])])⟩), (1, ⟨1, 1, true, some (encProp0 a0)⟩)]⟩ ?_
 let T2 : List (Nat × X) := [(2, .ptr 2 0 0), (1, .ptr 1 0 0)]
 let B2 : List (Nat × Bx) := [(2, ⟨0, 0, true, some (.agg [zI 0, zI 0, .sl 1 (List.map encInt []), zI 0, .sl 1 (List.map encInt [])])⟩), (1, ⟨0, 0, true, some (.agg [zI a0.fBal, zI a0.fVal, .sl 1 (List.map encInt v1), zI a0.fBest, .sl 1 (List.map encInt v3)])⟩)]
 refine wkr [2, 1] [(2, 2, false), (1, 1, false)] ⟨T2, B2⟩ ?_
 refine sqr cv hn ?_
 refine ro9 0 2 2 ⟨(11, .agg [zI a0.fBal, zI a0.fVal, .view 1 0 [] 2, zI a0.fBest, .view 1 0 [] 4]) :: T2, (2, ⟨0, 1, true, some (.agg [zI a0.fBal, zI a0.fVal, .sl 1 (List.map encInt v1), zI a0.fBest, .sl 1 (List.map encInt v3)])⟩) :: (1, ⟨0, 2, true, some (.agg [zI a0.fBal, zI a0.fVal, .junk, zI a0.fBest, .junk])⟩) :: (1, ⟨0, 1, true, some (.agg [zI a0.fBal, zI a0.fVal, .junk, zI a0.fBest, .sl 1 (List.map encInt v3)])⟩) :: B2⟩ ?_
 refine runs_ret ?_
 exact fin _ _ h (by kernel_rfl)

set_option maxRecDepth 100000 in
set_option maxHeartbeats 2000000 in
theorem impl_hasInt_spec (a0 : (List Int)) (a1 : Int) (v0 : Bool) (h : impl_hasInt a0 a1 = some v0) : Ax.Spec Try.prog 67 none [.sl 0 (List.map encInt a0), zI a1] (zB v0 : X) (.junk : X) := by
 let T1 : List (Nat × X) := [(0, .sl 0 (List.map encInt a0)), (1, zI a1)]
 refine walk0 (fn := Try.f67) (fun q0 : Bool => (zB q0 : X)) (fun q0 : Bool => (.junk : X)) v0 ⟨T1, []⟩ Try.func67 rfl (by decide +kernel) fun Γ hn fin => ?_
 rw [impl_hasInt] at h
 refine sqr cv hn ?_
 refine ro9 0 1 1 ⟨(4, zB false) :: T1, []⟩ ?_
 refine runs_seq ?_
 refine sqr cv hn ?_
 refine ro9 0 3 3 ⟨(9, zI 0) :: (8, zI (a0.length : Int)) :: (7, .sl 0 (List.map encInt a0)) :: (4, zB false) :: T1, []⟩ ?_ (he := by rw [show (a0.length : Int) = ((List.map encInt a0).length : Int) from by rw [List.length_map]]; kernel_rfl)
 refine runs_block ?_
 refine runs_loopM (σ := List Int × Nat) (fun s => ⟨[(9, zI (s.2 : Int)), (8, zI (a0.length : Int)), (7, .sl 0 (List.map encInt a0)), (1, zI a1)], []⟩) (fun s => s.1 = List.drop s.2 a0 ∧ impl_hasInt_l1 a1 s.1 s.2 = some v0) (fun s => s.1.length) (a0, 0) ⟨rfl, h⟩ (wre [9, 8, 7, 1] []) ?_
 rintro ⟨t1, i1⟩ ⟨hd1, h⟩
 refine seq0 ⟨[(9, zI (i1 : Int)), (8, zI (a0.length : Int)), (7, .sl 0 (List.map encInt a0)), (1, zI a1)], []⟩ ?_
 refine runs_len 7 (es := List.map encInt a0) (by kernel_rfl) fun hl1 => ?_
 replace hl1 := len_of_map hl1
 cases t1 with
 | nil =>
   rw [impl_hasInt_l1] at h
   have hLn1 := dnil hd1
   refine sqr cv hn ?_
   refine ro9 0 1 1 ⟨[(10, zB (decide ((i1 : Int) < (a0.length : Int)))), (9, zI (i1 : Int)), (8, zI (a0.length : Int)), (7, .sl 0 (List.map encInt a0)), (1, zI a1)], []⟩ ?_
   refine runs_seq ?_
   refine cf hLn1 ?_
   refine runs_exit ?_
   repeat refine thenX_exit ?_
   refine block_here ?_
   refine wkr [] [] ⟨[], []⟩ ?_
   refine sqr cv hn ?_
   refine ro9 0 1 1 ⟨[(4, zB false)], []⟩ ?_
   refine runs_ret ?_
   exact fin _ _ h (by kernel_rfl)
 | cons x10 t1 =>
   rw [impl_hasInt_l1] at h
   have hLc1 := dcons hd1
   have hx10 := dget hd1
   have hi1 := dinc hd1 hl1
   refine sqr cv hn ?_
   refine ro9 0 1 1 ⟨[(10, zB (decide ((i1 : Int) < (a0.length : Int)))), (9, zI (i1 : Int)), (8, zI (a0.length : Int)), (7, .sl 0 (List.map encInt a0)), (1, zI a1)], []⟩ ?_
   refine runs_seq ?_
   refine ct hLc1 ?_
   refine runs_skip ?_
   refine runs_seq ?_
   refine runs_block ?_
   refine sqr cv hn ?_
   refine rix 0 encInt 3 hx10 (ix_nn hx10) ⟨[(11, .rp (zI x10) 0), (10, zB (decide ((i1 : Int) < (a0.length : Int)))), (9, zI (i1 : Int)), (8, zI (a0.length : Int)), (7, .sl 0 (List.map encInt a0)), (1, zI a1)], []⟩ ?_
   refine ro9 1 2 2 ⟨[(6, zI x10), (12, zI x10), (11, .rp (zI x10) 0), (10, zB (decide ((i1 : Int) < (a0.length : Int)))), (9, zI (i1 : Int)), (8, zI (a0.length : Int)), (7, .sl 0 (List.map encInt a0)), (1, zI a1)], []⟩ ?_
   refine sqr cv hn ?_
   refine ro9 0 3 3 ⟨[(15, zB (x10 == a1)), (14, zI a1), (13, zI x10), (6, zI x10), (12, zI x10), (11, .rp (zI x10) 0), (10, zB (decide ((i1 : Int) < (a0.length : Int)))), (9, zI (i1 : Int)), (8, zI (a0.length : Int)), (7, .sl 0 (List.map encInt a0)), (1, zI a1)], []⟩ ?_
   rcases dich (x10 == a1) with hb18 | hb18
   · replace h := cond_t hb18 h
     refine ct hb18 ?_
     refine sqr cv hn ?_
     refine ro9 0 1 1 ⟨[(4, zB true), (15, zB (x10 == a1)), (14, zI a1), (13, zI x10), (6, zI x10), (12, zI x10), (11, .rp (zI x10) 0), (10, zB (decide ((i1 : Int) < (a0.length : Int)))), (9, zI (i1 : Int)), (8, zI (a0.length : Int)), (7, .sl 0 (List.map encInt a0)), (1, zI a1)], []⟩ ?_
     refine runs_ret ?_
     exact fin _ _ h (by kernel_rfl)
   · replace h := cond_f hb18 h
     refine cf hb18 ?_
     refine runs_skip ?_
     refine rg cv hn ?_
     refine ro9 0 2 2 ⟨[(9, zI ((i1 + 1 : Nat) : Int)), (16, zI ((i1 + 1 : Nat) : Int)), (15, zB (x10 == a1)), (14, zI a1), (13, zI x10), (6, zI x10), (12, zI x10), (11, .rp (zI x10) 0), (10, zB (decide ((i1 : Int) < (a0.length : Int)))), (9, zI (i1 : Int)), (8, zI (a0.length : Int)), (7, .sl 0 (List.map encInt a0)), (1, zI a1)], []⟩ ?_ (he := by rw [← hi1]; kernel_rfl)
     exact ⟨(t1, i1 + 1), Nat.lt_succ_self _, ⟨dnext hd1, h⟩, wre [9, 8, 7, 1] []⟩

set_option maxRecDepth 100000 in
set_option maxHeartbeats 2000000 in
theorem impl_insertInt_spec (a0 : (List Int)) (a1 : Int) (v0 : (List Int)) (h : impl_insertInt a0 a1 = some v0) : Ax.Spec Try.prog 69 none [.sl 0 (List.map encInt a0), zI a1] (.sl 1 (List.map encInt v0) : X) (.junk : X) := by
 let T1 : List (Nat × X) := [(0, .sl 0 (List.map encInt a0)), (1, zI a1)]
 refine walk0 (fn := Try.f69) (fun q0 : (List Int) => (.sl 1 (List.map encInt q0) : X)) (fun q0 : (List Int) => (.junk : X)) v0 ⟨T1, []⟩ Try.func69 rfl (by decide +kernel) fun Γ hn fin => ?_
 rw [impl_insertInt] at h
 refine sqr cv hn ?_
 refine ro9 0 1 1 ⟨(4, .sc (.slice none 0 0)) :: T1, []⟩ ?_
 refine sqr cv hn ?_
 refine ro9 0 1 1 ⟨(5, zI 0) :: (4, .sc (.slice none 0 0)) :: T1, []⟩ ?_
 refine runs_seqJ (σ := Int) (fun s => ⟨[(0, .sl 0 (List.map encInt a0)), (1, zI a1), (5, zI s)], []⟩) (fun s => impl_insertInt_j1 a0 a1 s = some v0) ?_ ?_
 · rintro y31 h
   rw [impl_insertInt_j1] at h
   let T3 : List (Nat × X) := [(0, .sl 0 (List.map encInt a0)), (1, zI a1), (5, zI y31)]
   refine seq0 ⟨T3, []⟩ ?_
   refine sqr cv hn ?_
   refine ro 0 2 2 ⟨(22, zI y31) :: (21, .sl 0 (List.map encInt a0)) :: T3, []⟩ ?_
   obtain ⟨hg36, h⟩ := gO_some h
   refine rs 2 ⟨(23, .sl 0 (List.map encInt (List.take (Int.toNat y31 - Int.toNat 0) (List.drop (Int.toNat 0) a0)))) :: (22, zI y31) :: (21, .sl 0 (List.map encInt a0)) :: T3, []⟩ [0 ≤ (0 : Int) ∧ 0 ≤ (y31 : Int) ∧ y31 ≤ ((List.map encInt a0).length : Int) ∧ ∀ y ∈ (List.map encInt a0), (X.cells y).length = tSize Try.prog 3] ⟨⟨hg36.1, by simpa only [List.length_map] using hg36.2.1, by simpa only [List.length_map] using hg36.2.2, fmap fun _ => by kernel_rfl⟩, trivial⟩ ?_ (he := by rw [show List.map encInt (List.take (Int.toNat y31 - Int.toNat 0) (List.drop (Int.toNat 0) a0)) = List.take (Int.toNat y31 - Int.toNat 0) (List.drop (Int.toNat 0) (List.map encInt a0)) from by rw [List.map_take, List.map_drop]]; kernel_rfl)
   obtain ⟨v37, hv38, h⟩ := bindO h
   refine rc 3 ⟨(24, .view 24 1 [] 0) :: (23, .sl 0 (List.map encInt (List.take (Int.toNat y31 - Int.toNat 0) (List.drop (Int.toNat 0) a0)))) :: (22, zI y31) :: (21, .sl 0 (List.map encInt a0)) :: T3, [(24, ⟨1, 1, false, some (.sl 1 (List.map encInt v37))⟩)]⟩ (impl_copyInts_spec (List.take (Int.toNat y31 - Int.toNat 0) (List.drop (Int.toNat 0) a0)) v37 hv38) ?_
   refine ro 4 1 1 ⟨(25, zI a1) :: (24, .view 24 1 [] 0) :: (23, .sl 0 (List.map encInt (List.take (Int.toNat y31 - Int.toNat 0) (List.drop (Int.toNat 0) a0)))) :: (22, zI y31) :: (21, .sl 0 (List.map encInt a0)) :: T3, [(24, ⟨1, 1, false, some (.sl 1 (List.map encInt v37))⟩)]⟩ ?_
   refine rs 5 ⟨(26, .view 26 1 [] 0) :: (25, zI a1) :: (24, .view 24 1 [] 0) :: (23, .sl 0 (List.map encInt (List.take (Int.toNat y31 - Int.toNat 0) (List.drop (Int.toNat 0) a0)))) :: (22, zI y31) :: (21, .sl 0 (List.map encInt a0)) :: T3, [(26, ⟨1, 1, false, some (.sl 1 (List.map encInt [a1]))⟩), (24, ⟨1, 1, false, some (.sl 1 (List.map encInt v37))⟩)]⟩ [∀ y ∈ (List.map encInt [a1] : List X), (X.cells y).length = tSize Try.prog 3] ⟨fmap fun _ => by kernel_rfl, trivial⟩ ?_
   obtain ⟨hg39, h⟩ := gO_some h
   refine rs 6 ⟨(27, .view 27 1 [] 0) :: (26, .view 26 1 [] 0) :: (25, zI a1) :: (24, .view 24 1 [] 0) :: (23, .sl 0 (List.map encInt (List.take (Int.toNat y31 - Int.toNat 0) (List.drop (Int.toNat 0) a0)))) :: (22, zI y31) :: (21, .sl 0 (List.map encInt a0)) :: T3, [(27, ⟨1, 1, false, some (.sl 1 (List.map encInt (v37 ++ [a1])))⟩), (24, ⟨1, 2, false, some (.junk)⟩), (26, ⟨1, 1, false, some (.sl 1 (List.map encInt [a1]))⟩), (24, ⟨1, 1, false, some (.sl 1 (List.map encInt v37))⟩)]⟩ [((List.map encInt v37 : List X).length + (List.map encInt [a1] : List X).length) * tBytes Try.prog 3 ≤ 140737488355328 ∧ (List.map encInt v37 : List X).length + (List.map encInt [a1] : List X).length ≤ 140737488355328 ∧ (∀ y ∈ (List.map encInt v37 : List X), (X.cells y).length = tSize Try.prog 3) ∧ ∀ y ∈ (List.map encInt [a1] : List X), (X.cells y).length = tSize Try.prog 3] ⟨⟨(app_side (b := 8) (b2 := tBytes Try.prog 3) (f := encInt) (A := v37) (B := [a1]) (by kernel_rfl) hg39).1, (app_side (b := 8) (b2 := 8) (f := encInt) (A := v37) (B := [a1]) rfl hg39).2, fmap fun _ => by kernel_rfl, fmap fun _ => by kernel_rfl⟩, trivial⟩ ?_ (he := by rw [show List.map encInt (v37 ++ [a1]) = List.map encInt v37 ++ List.map encInt [a1] from List.map_append]; kernel_rfl)
   refine ro9 7 1 1 ⟨(6, .view 27 1 [] 0) :: (27, .view 27 1 [] 0) :: (26, .view 26 1 [] 0) :: (25, zI a1) :: (24, .view 24 1 [] 0) :: (23, .sl 0 (List.map encInt (List.take (Int.toNat y31 - Int.toNat 0) (List.drop (Int.toNat 0) a0)))) :: (22, zI y31) :: (21, .sl 0 (List.map encInt a0)) :: T3, [(27, ⟨1, 1, false, some (.sl 1 (List.map encInt (v37 ++ [a1])))⟩), (24, ⟨1, 2, false, some (.junk)⟩), (26, ⟨1, 1, false, some (.sl 1 (List.map encInt [a1]))⟩), (24, ⟨1, 1, false, some (.sl 1 (List.map encInt v37))⟩)]⟩ ?_
   let T4 : List (Nat × X) := [(6, .view 5000006 0 [] 0), (0, .sl 0 (List.map encInt a0)), (5, zI y31)]
   let B4 : List (Nat × Bx) := [(5000006, ⟨0, 0, false, some (.sl 1 (List.map encInt (v37 ++ [a1])))⟩)]
   refine wkr [6, 0, 5] [(5000006, 27, false)] ⟨T4, B4⟩ ?_
   refine sqr cv hn ?_
   refine ro 0 3 3 ⟨(30, zI y31) :: (29, .sl 0 (List.map encInt a0)) :: (28, .view 5000006 0 [] 0) :: T4, B4⟩ ?_
   obtain ⟨hg40, h⟩ := gO_some h
   refine rs 3 ⟨(31, .sl 0 (List.map encInt (List.take (Int.toNat (a0.length : Int) - Int.toNat y31) (List.drop (Int.toNat y31) a0)))) :: (30, zI y31) :: (29, .sl 0 (List.map encInt a0)) :: (28, .view 5000006 0 [] 0) :: T4, B4⟩ [0 ≤ (y31 : Int) ∧ y31 ≤ (((List.map encInt a0).length : Int) : Int) ∧ ((List.map encInt a0).length : Int) ≤ ((List.map encInt a0).length : Int) ∧ ∀ y ∈ (List.map encInt a0), (X.cells y).length = tSize Try.prog 3] ⟨⟨hg40.1, by simpa only [List.length_map] using hg40.2.1, by simpa only [List.length_map] using hg40.2.2, fmap fun _ => by kernel_rfl⟩, trivial⟩ ?_ (he := by rw [show List.map encInt (List.take (Int.toNat (a0.length : Int) - Int.toNat y31) (List.drop (Int.toNat y31) a0)) = List.take (Int.toNat (a0.length : Int) - Int.toNat y31) (List.drop (Int.toNat y31) (List.map encInt a0)) from by rw [List.map_take, List.map_drop]]; rw [show (a0.length : Int) = ((List.map encInt a0).length : Int) from by rw [List.length_map]]; kernel_rfl)
   obtain ⟨hg41, h⟩ := gO_some h
   refine rs 4 ⟨(32, .view 32 1 [] 0) :: (31, .sl 0 (List.map encInt (List.take (Int.toNat (a0.length : Int) - Int.toNat y31) (List.drop (Int.toNat y31) a0)))) :: (30, zI y31) :: (29, .sl 0 (List.map encInt a0)) :: (28, .view 5000006 0 [] 0) :: T4, (32, ⟨1, 1, false, some (.sl 1 (List.map encInt ((v37 ++ [a1]) ++ (List.take (Int.toNat (a0.length : Int) - Int.toNat y31) (List.drop (Int.toNat y31) a0)))))⟩) :: (5000006, ⟨0, 1, false, some (.junk)⟩) :: B4⟩ [((List.map encInt (v37 ++ [a1]) : List X).length + (List.map encInt (List.take (Int.toNat (a0.length : Int) - Int.toNat y31) (List.drop (Int.toNat y31) a0)) : List X).length) * tBytes Try.prog 3 ≤ 140737488355328 ∧ (List.map encInt (v37 ++ [a1]) : List X).length + (List.map encInt (List.take (Int.toNat (a0.length : Int) - Int.toNat y31) (List.drop (Int.toNat y31) a0)) : List X).length ≤ 140737488355328 ∧ (∀ y ∈ (List.map encInt (v37 ++ [a1]) : List X), (X.cells y).length = tSize Try.prog 3) ∧ ∀ y ∈ (List.map encInt (List.take (Int.toNat (a0.length : Int) - Int.toNat y31) (List.drop (Int.toNat y31) a0)) : List X), (X.cells y).length = tSize Try.prog 3] ⟨⟨(app_side (b := 8) (b2 := tBytes Try.prog 3) (f := encInt) (A := v37 ++ [a1]) (B := List.take (Int.toNat (a0.length : Int) - Int.toNat y31) (List.drop (Int.toNat y31) a0)) (by kernel_rfl) hg41).1, (app_side (b := 8) (b2 := 8) (f := encInt) (A := v37 ++ [a1]) (B := List.take (Int.toNat (a0.length : Int) - Int.toNat y31) (List.drop (Int.toNat y31) a0)) rfl hg41).2, fmap fun _ => by kernel_rfl, fmap fun _ => by kernel_rfl⟩, trivial⟩ ?_ (he := by rw [show List.map encInt ((v37 ++ [a1]) ++ (List.take (Int.toNat (a0.length : Int) - Int.toNat y31) (List.drop (Int.toNat y31) a0))) = List.map encInt (v37 ++ [a1]) ++ List.map encInt (List.take (Int.toNat (a0.length : Int) - Int.toNat y31) (List.drop (Int.toNat y31) a0)) from List.map_append]; kernel_rfl)
   refine ro9 5 1 1 ⟨(4, .view 32 1 [] 0) :: (32, .view 32 1 [] 0) :: (31, .sl 0 (List.map encInt (List.take (Int.toNat (a0.length : Int) - Int.toNat y31) (List.drop (Int.toNat y31) a0)))) :: (30, zI y31) :: (29, .sl 0 (List.map encInt a0)) :: (28, .view 5000006 0 [] 0) :: T4, (32, ⟨1, 1, false, some (.sl 1 (List.map encInt ((v37 ++ [a1]) ++ (List.take (Int.toNat (a0.length : Int) - Int.toNat y31) (List.drop (Int.toNat y31) a0)))))⟩) :: (5000006, ⟨0, 1, false, some (.junk)⟩) :: B4⟩ ?_
   refine runs_ret ?_
   exact fin _ _ h (by kernel_rfl)
 · skip
   refine runs_block ?_
   refine runs_loopM (σ := Nat × Int) (fun s => ⟨[(5, zI s.2), (0, .sl 0 (List.map encInt a0)), (1, zI a1)], []⟩) (fun s => impl_insertInt_l2 a0 a1 s.1 s.2 = some v0) (fun s => s.1) (fuel, 0) h (wre [5, 0, 1] []) ?_
   rintro ⟨n2, y51⟩ h
   let T5 : List (Nat × X) := [(5, zI y51), (0, .sl 0 (List.map encInt a0)), (1, zI a1)]
   refine seq0 ⟨T5, []⟩ ?_
   cases n2 with
   | zero => rw [impl_insertInt_l2] at h; cases h
   | succ n2 =>
     rw [impl_insertInt_l2] at h
     refine runs_seq ?_
     refine sqr cv hn ?_
     refine ro 0 5 5 ⟨(11, zB (decide (y51 < (a0.length : Int)))) :: (10, zB (decide (y51 < (a0.length : Int)))) :: (9, zI (a0.length : Int)) :: (8, .sl 0 (List.map encInt a0)) :: (7, zI y51) :: T5, []⟩ ?_ (he := by rw [show (a0.length : Int) = ((List.map encInt a0).length : Int) from by rw [List.length_map]]; kernel_rfl)
     rcases dich (decide (y51 < (a0.length : Int))) with hb68 | hb68
     · replace h := cond_t hb68 h
       refine rl 11 true hb68 ?_
       refine ro 5 2 2 ⟨(13, zI y51) :: (12, .sl 0 (List.map encInt a0)) :: (11, zB true) :: (10, zB (decide (y51 < (a0.length : Int)))) :: (9, zI (a0.length : Int)) :: (8, .sl 0 (List.map encInt a0)) :: (7, zI y51) :: T5, []⟩ ?_
       obtain ⟨x69, hx70, h⟩ := bindO h
       refine rix 7 encInt 3 hx70 (ix_nn hx70) ⟨(14, .rp (zI x69) 0) :: (13, zI y51) :: (12, .sl 0 (List.map encInt a0)) :: (11, zB true) :: (10, zB (decide (y51 < (a0.length : Int)))) :: (9, zI (a0.length : Int)) :: (8, .sl 0 (List.map encInt a0)) :: (7, zI y51) :: T5, []⟩ ?_
       refine ro9 8 4 4 ⟨(18, zB (decide (x69 ≤ a1))) :: (17, zB (decide (x69 ≤ a1))) :: (16, zI a1) :: (15, zI x69) :: (14, .rp (zI x69) 0) :: (13, zI y51) :: (12, .sl 0 (List.map encInt a0)) :: (11, zB true) :: (10, zB (decide (y51 < (a0.length : Int)))) :: (9, zI (a0.length : Int)) :: (8, .sl 0 (List.map encInt a0)) :: (7, zI y51) :: T5, []⟩ ?_
       rcases dich (decide (x69 ≤ a1)) with hb71 | hb71
       · replace h := cond_t hb71 h
         refine ct hb71 ?_
         refine runs_skip ?_
         refine runs_block ?_
         refine rg cv hn ?_
         refine ro9 0 3 3 ⟨(5, zI (w64 (y51 + 1))) :: (20, zI (w64 (y51 + 1))) :: (19, zI y51) :: (18, zB (decide (x69 ≤ a1))) :: (17, zB (decide (x69 ≤ a1))) :: (16, zI a1) :: (15, zI x69) :: (14, .rp (zI x69) 0) :: (13, zI y51) :: (12, .sl 0 (List.map encInt a0)) :: (11, zB true) :: (10, zB (decide (y51 < (a0.length : Int)))) :: (9, zI (a0.length : Int)) :: (8, .sl 0 (List.map encInt a0)) :: (7, zI y51) :: T5, []⟩ ?_
         exact ⟨(n2, w64 (y51 + 1)), Nat.lt_succ_self _, h, wre [5, 0, 1] []⟩
       · replace h := cond_f hb71 h
         refine cf hb71 ?_
         refine runs_exit ?_
         repeat refine thenX_exit ?_
         refine block_here ?_
         exact ⟨(y51), h, wre [0, 1, 5] []⟩
     · replace h := cond_f hb68 h
       refine rl 11 false hb68 ?_
       refine ro9 5 7 1 ⟨(18, zB false) :: (17, .tup []) :: (16, .tup []) :: (15, .tup []) :: (14, .tup []) :: (13, .tup []) :: (12, .tup []) :: (11, zB false) :: (10, zB (decide (y51 < (a0.length : Int)))) :: (9, zI (a0.length : Int)) :: (8, .sl 0 (List.map encInt a0)) :: (7, zI y51) :: T5, []⟩ ?_
       refine cF ?_
       refine runs_exit ?_
       repeat refine thenX_exit ?_
       refine block_here ?_
       exact ⟨(y51), h, wre [0, 1, 5] []⟩

set_option maxRecDepth 100000 in
set_option maxHeartbeats 2000000 in
theorem impl_PropHear_spec (a0 : SProp) (a1 : Int) (a2 : Int) (a3 : Int) (v0 : SProp) (h : impl_PropHear a0 a1 a2 a3 = some v0) : Ax.Spec Try.prog 19 none [encProp0 a0, zI a1, zI a2, zI a3] (encProp1 v0 : X) (.junk : X) := by
 let T1 : List (Nat × X) := [(0, encProp0 a0), (1, zI a1), (2, zI a2), (3, zI a3)]
 refine walk0 (fn := Try.f19) (fun q0 : SProp => (encProp1 q0 : X)) (fun q0 : SProp => (.junk : X)) v0 ⟨T1, []⟩ Try.func19 rfl (by decide +kernel) fun Γ hn fin => ?_
 rw [impl_PropHear] at h
 refine sqr cv hn ?_
 refine ro9 0 2 2 ⟨(8, .ptr 8 1 0) :: (4, .ptr 4 1 0) :: T1, [(8, ⟨1, 1, true, some (.agg [zI 0, zI 0, .sl 1 (List.map encInt []), zI 0, .sl 1 (List.map encInt [])])⟩), (4, ⟨1, 1, true, some (encProp0 a0)⟩)]⟩ ?_
 refine sqr cv hn ?_
 refine ro 0 1 1 ⟨(10, encProp0 a0) :: (8, .ptr 8 1 0) :: (4, .ptr 4 1 0) :: T1, [(8, ⟨1, 1, true, some (.agg [zI 0, zI 0, .sl 1 (List.map encInt []), zI 0, .sl 1 (List.map encInt [])])⟩), (4, ⟨1, 1, true, some (encProp0 a0)⟩)]⟩ ?_
 obtain ⟨v3, hv4, h⟩ := bindO h
 refine rc 1 ⟨(11, .agg [zI v3.fBal, zI v3.fVal, .view 11 1 [] 0, zI v3.fBest, .view 10011 1 [] 0]) :: (10, encProp0 a0) :: (8, .ptr 8 1 0) :: (4, .ptr 4 1 0) :: T1, [(10011, ⟨1, 1, false, some (.sl 1 (List.map encInt v3.fGot))⟩), (11, ⟨1, 1, false, some (.sl 1 (List.map encInt v3.fFrom))⟩), (8, ⟨1, 1, true, some (.agg [zI 0, zI 0, .sl 1 (List.map encInt []), zI 0, .sl 1 (List.map encInt [])])⟩), (4, ⟨1, 1, true, some (encProp0 a0)⟩)]⟩ (impl_copyProp_spec a0 v3 hv4) ?_
 refine ro9 2 2 2 ⟨(9, .ptr 9 1 0) :: (11, .agg [zI v3.fBal, zI v3.fVal, .view 11 1 [] 0, zI v3.fBest, .view 10011 1 [] 0]) :: (10, encProp0 a0) :: (8, .ptr 8 1 0) :: (4, .ptr 4 1 0) :: T1, [(9, ⟨1, 2, true, some (encProp1 v3)⟩), (10011, ⟨1, 2, false, some (.junk)⟩), (11, ⟨1, 2, false, some (.junk)⟩), (9, ⟨1, 1, true, some (.agg [zI 0, zI 0, .sl 1 (List.map encInt []), zI 0, .sl 1 (List.map encInt [])])⟩), (10011, ⟨1, 1, false, some (.sl 1 (List.map encInt v3.fGot))⟩), (11, ⟨1, 1, false, some (.sl 1 (List.map encInt v3.fFrom))⟩), (8, ⟨1, 1, true, some (.agg [zI 0, zI 0, .sl 1 (List.map encInt []), zI 0, .sl 1 (List.map encInt [])])⟩), (4, ⟨1, 1, true, some (encProp0 a0)⟩)]⟩ ?_
 refine runs_seqJ (σ := Unit) (fun s => ⟨[(1, zI a1), (2, zI a2), (3, zI a3), (4, .ptr 4 0 0), (8, .ptr 8 0 0), (9, .ptr 9 0 0)], [(4, ⟨0, 0, true, some (encProp0 a0)⟩), (8, ⟨0, 0, true, some (.agg [zI 0, zI 0, .sl 1 (List.map encInt []), zI 0, .sl 1 (List.map encInt [])])⟩), (9, ⟨0, 0, true, some (encProp1 v3)⟩)]⟩) (fun s => impl_PropHear_j1 a0 a1 a2 a3 v3 = some v0) ?_ ?_
 · rintro _ h
   rw [impl_PropHear_j1] at h
   let T8 : List (Nat × X) := [(1, zI a1), (2, zI a2), (3, zI a3), (4, .ptr 4 0 0), (8, .ptr 8 0 0), (9, .ptr 9 0 0)]
   let B8 : List (Nat × Bx) := [(4, ⟨0, 0, true, some (encProp0 a0)⟩), (8, ⟨0, 0, true, some (.agg [zI 0, zI 0, .sl 1 (List.map encInt []), zI 0, .sl 1 (List.map encInt [])])⟩), (9, ⟨0, 0, true, some (encProp1 v3)⟩)]
   refine seq0 ⟨T8, B8⟩ ?_
   refine sqr cv hn ?_
   refine ro 0 3 3 ⟨(46, zI a1) :: (45, .sl 0 (List.map encInt a0.fFrom)) :: (44, .ptr 4 0 2) :: T8, B8⟩ ?_
   obtain ⟨v23, hv24, h⟩ := bindO h
   refine rc 3 ⟨(47, .view 47 1 [] 0) :: (46, zI a1) :: (45, .sl 0 (List.map encInt a0.fFrom)) :: (44, .ptr 4 0 2) :: T8, (47, ⟨1, 1, false, some (.sl 1 (List.map encInt v23))⟩) :: B8⟩ (impl_insertInt_spec a0.fFrom a1 v23 hv24) ?_
   refine ro9 4 2 2 ⟨(48, .ptr 9 0 2) :: (47, .view 47 1 [] 0) :: (46, zI a1) :: (45, .sl 0 (List.map encInt a0.fFrom)) :: (44, .ptr 4 0 2) :: T8, (9, ⟨0, 1, true, some (.agg [zI v3.fBal, zI v3.fVal, .sl 1 (List.map encInt v23), zI v3.fBest, .sl 1 (List.map encInt v3.fGot)])⟩) :: (47, ⟨1, 2, false, some (.junk)⟩) :: (47, ⟨1, 1, false, some (.sl 1 (List.map encInt v23))⟩) :: B8⟩ ?_
   refine runs_seq ?_
   let T10 : List (Nat × X) := [(2, zI a2), (3, zI a3), (4, .ptr 4 0 0), (8, .ptr 8 0 0), (9, .ptr 9 0 0)]
   let B10 : List (Nat × Bx) := [(4, ⟨0, 0, true, some (encProp0 a0)⟩), (8, ⟨0, 0, true, some (.agg [zI 0, zI 0, .sl 1 (List.map encInt []), zI 0, .sl 1 (List.map encInt [])])⟩), (9, ⟨0, 0, true, some (.agg [zI v3.fBal, zI v3.fVal, .sl 1 (List.map encInt v23), zI v3.fBest, .sl 1 (List.map encInt v3.fGot)])⟩)]
   refine wkr [2, 3, 4, 8, 9] [(4, 4, false), (8, 8, false), (9, 9, false)] ⟨T10, B10⟩ ?_
   refine sqr cv hn ?_
   refine ro9 0 4 4 ⟨(52, zB (decide (a2 > a0.fBest))) :: (51, zI a0.fBest) :: (50, .ptr 4 0 3) :: (49, zI a2) :: T10, B10⟩ ?_
   rcases dich (decide (a2 > a0.fBest)) with hb25 | hb25
   · replace h := cond_t hb25 h
     refine ct hb25 ?_
     let T11 : List (Nat × X) := [(2, zI a2), (3, zI a3), (8, .ptr 8 0 0), (9, .ptr 9 0 0)]
     let B11 : List (Nat × Bx) := [(8, ⟨0, 0, true, some (.agg [zI 0, zI 0, .sl 1 (List.map encInt []), zI 0, .sl 1 (List.map encInt [])])⟩), (9, ⟨0, 0, true, some (.agg [zI v3.fBal, zI v3.fVal, .sl 1 (List.map encInt v23), zI v3.fBest, .sl 1 (List.map encInt v3.fGot)])⟩)]
     refine wkr [2, 3, 8, 9] [(8, 8, false), (9, 9, false)] ⟨T11, B11⟩ ?_
     refine rg cv hn ?_
     refine ro9 0 6 6 ⟨(56, .ptr 9 0 1) :: (55, .ptr 9 0 3) :: (54, zI a3) :: (53, zI a2) :: T11, (9, ⟨0, 0, true, some (.agg [zI v3.fBal, zI a3, .sl 1 (List.map encInt v23), zI a2, .sl 1 (List.map encInt v3.fGot)])⟩) :: (9, ⟨0, 0, true, some (.agg [zI v3.fBal, zI v3.fVal, .sl 1 (List.map encInt v23), zI a2, .sl 1 (List.map encInt v3.fGot)])⟩) :: B11⟩ ?_
     let T12 : List (Nat × X) := [(8, .ptr 8 0 0), (9, .ptr 9 0 0)]
     let B12 : List (Nat × Bx) := [(8, ⟨0, 0, true, some (.agg [zI 0, zI 0, .sl 1 (List.map encInt []), zI 0, .sl 1 (List.map encInt [])])⟩), (9, ⟨0, 0, true, some (.agg [zI v3.fBal, zI a3, .sl 1 (List.map encInt v23), zI a2, .sl 1 (List.map encInt v3.fGot)])⟩)]
     refine wkr [8, 9] [(8, 8, false), (9, 9, false)] ⟨T12, B12⟩ ?_
     refine sqr cv hn ?_
     refine ro9 0 2 2 ⟨(57, .agg [zI v3.fBal, zI a3, .view 9 0 [] 2, zI a2, .view 9 0 [] 4]) :: T12, (8, ⟨0, 1, true, some (.agg [zI v3.fBal, zI a3, .sl 1 (List.map encInt v23), zI a2, .sl 1 (List.map encInt v3.fGot)])⟩) :: (9, ⟨0, 2, true, some (.agg [zI v3.fBal, zI a3, .junk, zI a2, .junk])⟩) :: (9, ⟨0, 1, true, some (.agg [zI v3.fBal, zI a3, .junk, zI a2, .sl 1 (List.map encInt v3.fGot)])⟩) :: B12⟩ ?_
     refine runs_ret ?_
     exact fin _ _ h (by kernel_rfl)
   · replace h := cond_f hb25 h
     refine cf hb25 ?_
     refine runs_skip ?_
     let T13 : List (Nat × X) := [(8, .ptr 8 0 0), (9, .ptr 9 0 0)]
     let B13 : List (Nat × Bx) := [(8, ⟨0, 0, true, some (.agg [zI 0, zI 0, .sl 1 (List.map encInt []), zI 0, .sl 1 (List.map encInt [])])⟩), (9, ⟨0, 0, true, some (.agg [zI v3.fBal, zI v3.fVal, .sl 1 (List.map encInt v23), zI v3.fBest, .sl 1 (List.map encInt v3.fGot)])⟩)]
     refine wkr [8, 9] [(8, 8, false), (9, 9, false)] ⟨T13, B13⟩ ?_
     refine sqr cv hn ?_
     refine ro9 0 2 2 ⟨(57, .agg [zI v3.fBal, zI v3.fVal, .view 9 0 [] 2, zI v3.fBest, .view 9 0 [] 4]) :: T13, (8, ⟨0, 1, true, some (.agg [zI v3.fBal, zI v3.fVal, .sl 1 (List.map encInt v23), zI v3.fBest, .sl 1 (List.map encInt v3.fGot)])⟩) :: (9, ⟨0, 2, true, some (.agg [zI v3.fBal, zI v3.fVal, .junk, zI v3.fBest, .junk])⟩) :: (9, ⟨0, 1, true, some (.agg [zI v3.fBal, zI v3.fVal, .junk, zI v3.fBest, .sl 1 (List.map encInt v3.fGot)])⟩) :: B13⟩ ?_
     refine runs_ret ?_
     exact fin _ _ h (by kernel_rfl)
 · skip
   let T14 : List (Nat × X) := [(9, .ptr 9 0 0), (8, .ptr 8 0 0), (4, .ptr 4 0 0), (1, zI a1), (2, zI a2), (3, zI a3)]
   let B14 : List (Nat × Bx) := [(9, ⟨0, 0, true, some (encProp1 v3)⟩), (8, ⟨0, 0, true, some (.agg [zI 0, zI 0, .sl 1 (List.map encInt []), zI 0, .sl 1 (List.map encInt [])])⟩), (4, ⟨0, 0, true, some (encProp0 a0)⟩)]
   refine wkr [9, 8, 4, 1, 2, 3] [(9, 9, false), (8, 8, false), (4, 4, false)] ⟨T14, B14⟩ ?_
   refine sqr cv hn ?_
   refine ro 0 1 1 ⟨(12, encProp0 a0) :: T14, B14⟩ ?_
   obtain ⟨v26, hv27, h⟩ := bindO h
   refine rc 1 ⟨(13, zB v26) :: (12, encProp0 a0) :: T14, B14⟩ (impl_PropOk_spec a0 v26 hv27) ?_
   refine ro 2 2 2 ⟨(15, zB (!v26)) :: (14, zB (!v26)) :: (13, zB v26) :: (12, encProp0 a0) :: T14, B14⟩ ?_
   rcases dich (!v26) with hb28 | hb28
   · replace h := cond_t hb28 h
     refine rl 15 true hb28 ?_
     refine ro9 4 27 7 ⟨(42, zB true) :: (41, .tup []) :: (40, .tup []) :: (39, .tup []) :: (38, .tup []) :: (37, .tup []) :: (36, .tup []) :: (35, .tup []) :: (34, zB true) :: (33, zB true) :: (32, .tup []) :: (31, .tup []) :: (30, .tup []) :: (29, .tup []) :: (28, .tup []) :: (27, .tup []) :: (26, zB true) :: (25, zB true) :: (24, .tup []) :: (23, .tup []) :: (22, .tup []) :: (21, .tup []) :: (20, zB true) :: (19, zB true) :: (18, .tup []) :: (17, .tup []) :: (16, .tup []) :: (15, zB true) :: (14, zB (!v26)) :: (13, zB v26) :: (12, encProp0 a0) :: T14, B14⟩ ?_
     refine cT ?_
     let T15 : List (Nat × X) := [(9, .ptr 9 0 0), (8, .ptr 8 0 0), (4, .ptr 4 0 0), (1, zI a1), (2, zI a2), (3, zI a3)]
     let B15 : List (Nat × Bx) := [(9, ⟨0, 0, true, some (encProp1 v3)⟩), (8, ⟨0, 0, true, some (.agg [zI 0, zI 0, .sl 1 (List.map encInt []), zI 0, .sl 1 (List.map encInt [])])⟩), (4, ⟨0, 0, true, some (encProp0 a0)⟩)]
     refine wkr [9, 8, 4, 1, 2, 3] [(9, 9, false), (8, 8, false), (4, 4, false)] ⟨T15, B15⟩ ?_
     refine sqr cv hn ?_
     refine ro9 0 2 2 ⟨(43, .agg [zI v3.fBal, zI v3.fVal, .view 9 0 [] 2, zI v3.fBest, .view 9 0 [] 4]) :: T15, (8, ⟨0, 1, true, some (encProp1 v3)⟩) :: (9, ⟨0, 2, true, some (.agg [zI v3.fBal, zI v3.fVal, .junk, zI v3.fBest, .junk])⟩) :: (9, ⟨0, 1, true, some (.agg [zI v3.fBal, zI v3.fVal, .junk, zI v3.fBest, .sl 1 (List.map encInt v3.fGot)])⟩) :: B15⟩ ?_
     refine runs_ret ?_
     exact fin _ _ h (by kernel_rfl)
   · replace h := cond_f hb28 h
     refine rl 15 false hb28 ?_
     refine ro 4 1 1 ⟨(16, zI a1) :: (15, zB false) :: (14, zB (!v26)) :: (13, zB v26) :: (12, encProp0 a0) :: T14, B14⟩ ?_
     obtain ⟨v29, hv30, h⟩ := bindO h
     refine rc 5 ⟨(17, zB v29) :: (16, zI a1) :: (15, zB false) :: (14, zB (!v26)) :: (13, zB v26) :: (12, encProp0 a0) :: T14, B14⟩ (impl_isNode_spec a1 v29 hv30) ?_
     refine ro 6 3 3 ⟨(20, zB (!v29)) :: (19, zB (!v29)) :: (18, zB (!v29)) :: (17, zB v29) :: (16, zI a1) :: (15, zB false) :: (14, zB (!v26)) :: (13, zB v26) :: (12, encProp0 a0) :: T14, B14⟩ ?_
     rcases dich (!v29) with hb31 | hb31
     · replace h := cond_t hb31 h
       refine rl 20 true hb31 ?_
       refine ro9 9 22 5 ⟨(42, zB true) :: (41, .tup []) :: (40, .tup []) :: (39, .tup []) :: (38, .tup []) :: (37, .tup []) :: (36, .tup []) :: (35, .tup []) :: (34, zB true) :: (33, zB true) :: (32, .tup []) :: (31, .tup []) :: (30, .tup []) :: (29, .tup []) :: (28, .tup []) :: (27, .tup []) :: (26, zB true) :: (25, zB true) :: (24, .tup []) :: (23, .tup []) :: (22, .tup []) :: (21, .tup []) :: (20, zB true) :: (19, zB (!v29)) :: (18, zB (!v29)) :: (17, zB v29) :: (16, zI a1) :: (15, zB false) :: (14, zB (!v26)) :: (13, zB v26) :: (12, encProp0 a0) :: T14, B14⟩ ?_
       refine cT ?_
       let T16 : List (Nat × X) := [(9, .ptr 9 0 0), (8, .ptr 8 0 0), (4, .ptr 4 0 0), (1, zI a1), (2, zI a2), (3, zI a3)]
       let B16 : List (Nat × Bx) := [(9, ⟨0, 0, true, some (encProp1 v3)⟩), (8, ⟨0, 0, true, some (.agg [zI 0, zI 0, .sl 1 (List.map encInt []), zI 0, .sl 1 (List.map encInt [])])⟩), (4, ⟨0, 0, true, some (encProp0 a0)⟩)]
       refine wkr [9, 8, 4, 1, 2, 3] [(9, 9, false), (8, 8, false), (4, 4, false)] ⟨T16, B16⟩ ?_
       refine sqr cv hn ?_
       refine ro9 0 2 2 ⟨(43, .agg [zI v3.fBal, zI v3.fVal, .view 9 0 [] 2, zI v3.fBest, .view 9 0 [] 4]) :: T16, (8, ⟨0, 1, true, some (encProp1 v3)⟩) :: (9, ⟨0, 2, true, some (.agg [zI v3.fBal, zI v3.fVal, .junk, zI v3.fBest, .junk])⟩) :: (9, ⟨0, 1, true, some (.agg [zI v3.fBal, zI v3.fVal, .junk, zI v3.fBest, .sl 1 (List.map encInt v3.fGot)])⟩) :: B16⟩ ?_
       refine runs_ret ?_
       exact fin _ _ h (by kernel_rfl)
     · replace h := cond_f hb31 h
       refine rl 20 false hb31 ?_
       refine ro 9 3 3 ⟨(23, zI a1) :: (22, .sl 0 (List.map encInt a0.fFrom)) :: (21, .ptr 4 0 2) :: (20, zB false) :: (19, zB (!v29)) :: (18, zB (!v29)) :: (17, zB v29) :: (16, zI a1) :: (15, zB false) :: (14, zB (!v26)) :: (13, zB v26) :: (12, encProp0 a0) :: T14, B14⟩ ?_
       obtain ⟨v32, hv33, h⟩ := bindO h
       refine rc 12 ⟨(24, zB v32) :: (23, zI a1) :: (22, .sl 0 (List.map encInt a0.fFrom)) :: (21, .ptr 4 0 2) :: (20, zB false) :: (19, zB (!v29)) :: (18, zB (!v29)) :: (17, zB v29) :: (16, zI a1) :: (15, zB false) :: (14, zB (!v26)) :: (13, zB v26) :: (12, encProp0 a0) :: T14, B14⟩ (impl_hasInt_spec a0.fFrom a1 v32 hv33) ?_
       refine ro 13 2 2 ⟨(26, zB v32) :: (25, zB v32) :: (24, zB v32) :: (23, zI a1) :: (22, .sl 0 (List.map encInt a0.fFrom)) :: (21, .ptr 4 0 2) :: (20, zB false) :: (19, zB (!v29)) :: (18, zB (!v29)) :: (17, zB v29) :: (16, zI a1) :: (15, zB false) :: (14, zB (!v26)) :: (13, zB v26) :: (12, encProp0 a0) :: T14, B14⟩ ?_
       rcases dich v32 with hb34 | hb34
       · replace h := cond_t hb34 h
         refine rl 26 true hb34 ?_
         refine ro9 15 16 3 ⟨(42, zB true) :: (41, .tup []) :: (40, .tup []) :: (39, .tup []) :: (38, .tup []) :: (37, .tup []) :: (36, .tup []) :: (35, .tup []) :: (34, zB true) :: (33, zB true) :: (32, .tup []) :: (31, .tup []) :: (30, .tup []) :: (29, .tup []) :: (28, .tup []) :: (27, .tup []) :: (26, zB true) :: (25, zB v32) :: (24, zB v32) :: (23, zI a1) :: (22, .sl 0 (List.map encInt a0.fFrom)) :: (21, .ptr 4 0 2) :: (20, zB false) :: (19, zB (!v29)) :: (18, zB (!v29)) :: (17, zB v29) :: (16, zI a1) :: (15, zB false) :: (14, zB (!v26)) :: (13, zB v26) :: (12, encProp0 a0) :: T14, B14⟩ ?_
         refine cT ?_
         let T17 : List (Nat × X) := [(9, .ptr 9 0 0), (8, .ptr 8 0 0), (4, .ptr 4 0 0), (1, zI a1), (2, zI a2), (3, zI a3)]
         let B17 : List (Nat × Bx) := [(9, ⟨0, 0, true, some (encProp1 v3)⟩), (8, ⟨0, 0, true, some (.agg [zI 0, zI 0, .sl 1 (List.map encInt []), zI 0, .sl 1 (List.map encInt [])])⟩), (4, ⟨0, 0, true, some (encProp0 a0)⟩)]
         refine wkr [9, 8, 4, 1, 2, 3] [(9, 9, false), (8, 8, false), (4, 4, false)] ⟨T17, B17⟩ ?_
         refine sqr cv hn ?_
         refine ro9 0 2 2 ⟨(43, .agg [zI v3.fBal, zI v3.fVal, .view 9 0 [] 2, zI v3.fBest, .view 9 0 [] 4]) :: T17, (8, ⟨0, 1, true, some (encProp1 v3)⟩) :: (9, ⟨0, 2, true, some (.agg [zI v3.fBal, zI v3.fVal, .junk, zI v3.fBest, .junk])⟩) :: (9, ⟨0, 1, true, some (.agg [zI v3.fBal, zI v3.fVal, .junk, zI v3.fBest, .sl 1 (List.map encInt v3.fGot)])⟩) :: B17⟩ ?_
         refine runs_ret ?_
         exact fin _ _ h (by kernel_rfl)
       · replace h := cond_f hb34 h
         refine rl 26 false hb34 ?_
         refine ro 15 4 4 ⟨(30, zI (w64 (a0.fBal - 1))) :: (29, zI a0.fBal) :: (28, .ptr 4 0 0) :: (27, zI a2) :: (26, zB false) :: (25, zB v32) :: (24, zB v32) :: (23, zI a1) :: (22, .sl 0 (List.map encInt a0.fFrom)) :: (21, .ptr 4 0 2) :: (20, zB false) :: (19, zB (!v29)) :: (18, zB (!v29)) :: (17, zB v29) :: (16, zI a1) :: (15, zB false) :: (14, zB (!v26)) :: (13, zB v26) :: (12, encProp0 a0) :: T14, B14⟩ ?_
         obtain ⟨v35, hv36, h⟩ := bindO h
         refine rc 19 ⟨(31, zB v35) :: (30, zI (w64 (a0.fBal - 1))) :: (29, zI a0.fBal) :: (28, .ptr 4 0 0) :: (27, zI a2) :: (26, zB false) :: (25, zB v32) :: (24, zB v32) :: (23, zI a1) :: (22, .sl 0 (List.map encInt a0.fFrom)) :: (21, .ptr 4 0 2) :: (20, zB false) :: (19, zB (!v29)) :: (18, zB (!v29)) :: (17, zB v29) :: (16, zI a1) :: (15, zB false) :: (14, zB (!v26)) :: (13, zB v26) :: (12, encProp0 a0) :: T14, B14⟩ (impl_in_spec a2 0 (w64 (a0.fBal - 1)) v35 hv36) ?_
         refine ro 20 3 3 ⟨(34, zB (!v35)) :: (33, zB (!v35)) :: (32, zB (!v35)) :: (31, zB v35) :: (30, zI (w64 (a0.fBal - 1))) :: (29, zI a0.fBal) :: (28, .ptr 4 0 0) :: (27, zI a2) :: (26, zB false) :: (25, zB v32) :: (24, zB v32) :: (23, zI a1) :: (22, .sl 0 (List.map encInt a0.fFrom)) :: (21, .ptr 4 0 2) :: (20, zB false) :: (19, zB (!v29)) :: (18, zB (!v29)) :: (17, zB v29) :: (16, zI a1) :: (15, zB false) :: (14, zB (!v26)) :: (13, zB v26) :: (12, encProp0 a0) :: T14, B14⟩ ?_
         rcases dich (!v35) with hb37 | hb37
         · replace h := cond_t hb37 h
           refine rl 34 true hb37 ?_
           refine ro9 23 8 1 ⟨(42, zB true) :: (41, .tup []) :: (40, .tup []) :: (39, .tup []) :: (38, .tup []) :: (37, .tup []) :: (36, .tup []) :: (35, .tup []) :: (34, zB true) :: (33, zB (!v35)) :: (32, zB (!v35)) :: (31, zB v35) :: (30, zI (w64 (a0.fBal - 1))) :: (29, zI a0.fBal) :: (28, .ptr 4 0 0) :: (27, zI a2) :: (26, zB false) :: (25, zB v32) :: (24, zB v32) :: (23, zI a1) :: (22, .sl 0 (List.map encInt a0.fFrom)) :: (21, .ptr 4 0 2) :: (20, zB false) :: (19, zB (!v29)) :: (18, zB (!v29)) :: (17, zB v29) :: (16, zI a1) :: (15, zB false) :: (14, zB (!v26)) :: (13, zB v26) :: (12, encProp0 a0) :: T14, B14⟩ ?_
           refine cT ?_
           let T18 : List (Nat × X) := [(9, .ptr 9 0 0), (8, .ptr 8 0 0), (4, .ptr 4 0 0), (1, zI a1), (2, zI a2), (3, zI a3)]
           let B18 : List (Nat × Bx) := [(9, ⟨0, 0, true, some (encProp1 v3)⟩), (8, ⟨0, 0, true, some (.agg [zI 0, zI 0, .sl 1 (List.map encInt []), zI 0, .sl 1 (List.map encInt [])])⟩), (4, ⟨0, 0, true, some (encProp0 a0)⟩)]
           refine wkr [9, 8, 4, 1, 2, 3] [(9, 9, false), (8, 8, false), (4, 4, false)] ⟨T18, B18⟩ ?_
           refine sqr cv hn ?_
           refine ro9 0 2 2 ⟨(43, .agg [zI v3.fBal, zI v3.fVal, .view 9 0 [] 2, zI v3.fBest, .view 9 0 [] 4]) :: T18, (8, ⟨0, 1, true, some (encProp1 v3)⟩) :: (9, ⟨0, 2, true, some (.agg [zI v3.fBal, zI v3.fVal, .junk, zI v3.fBest, .junk])⟩) :: (9, ⟨0, 1, true, some (.agg [zI v3.fBal, zI v3.fVal, .junk, zI v3.fBest, .sl 1 (List.map encInt v3.fGot)])⟩) :: B18⟩ ?_
           refine runs_ret ?_
           exact fin _ _ h (by kernel_rfl)
         · replace h := cond_f hb37 h
           refine rl 34 false hb37 ?_
           refine ro 23 3 3 ⟨(37, zB (decide (a2 > 0))) :: (36, zB (decide (a2 > 0))) :: (35, zI a2) :: (34, zB false) :: (33, zB (!v35)) :: (32, zB (!v35)) :: (31, zB v35) :: (30, zI (w64 (a0.fBal - 1))) :: (29, zI a0.fBal) :: (28, .ptr 4 0 0) :: (27, zI a2) :: (26, zB false) :: (25, zB v32) :: (24, zB v32) :: (23, zI a1) :: (22, .sl 0 (List.map encInt a0.fFrom)) :: (21, .ptr 4 0 2) :: (20, zB false) :: (19, zB (!v29)) :: (18, zB (!v29)) :: (17, zB v29) :: (16, zI a1) :: (15, zB false) :: (14, zB (!v26)) :: (13, zB v26) :: (12, encProp0 a0) :: T14, B14⟩ ?_
           rcases dich (decide (a2 > 0)) with hb38 | hb38
           · replace h := cond_t hb38 h
             refine rl 37 true hb38 ?_
             refine ro 26 1 1 ⟨(38, zI a3) :: (37, zB true) :: (36, zB (decide (a2 > 0))) :: (35, zI a2) :: (34, zB false) :: (33, zB (!v35)) :: (32, zB (!v35)) :: (31, zB v35) :: (30, zI (w64 (a0.fBal - 1))) :: (29, zI a0.fBal) :: (28, .ptr 4 0 0) :: (27, zI a2) :: (26, zB false) :: (25, zB v32) :: (24, zB v32) :: (23, zI a1) :: (22, .sl 0 (List.map encInt a0.fFrom)) :: (21, .ptr 4 0 2) :: (20, zB false) :: (19, zB (!v29)) :: (18, zB (!v29)) :: (17, zB v29) :: (16, zI a1) :: (15, zB false) :: (14, zB (!v26)) :: (13, zB v26) :: (12, encProp0 a0) :: T14, B14⟩ ?_
             obtain ⟨v39, hv40, h⟩ := bindO h
             refine rc 27 ⟨(39, zB v39) :: (38, zI a3) :: (37, zB true) :: (36, zB (decide (a2 > 0))) :: (35, zI a2) :: (34, zB false) :: (33, zB (!v35)) :: (32, zB (!v35)) :: (31, zB v35) :: (30, zI (w64 (a0.fBal - 1))) :: (29, zI a0.fBal) :: (28, .ptr 4 0 0) :: (27, zI a2) :: (26, zB false) :: (25, zB v32) :: (24, zB v32) :: (23, zI a1) :: (22, .sl 0 (List.map encInt a0.fFrom)) :: (21, .ptr 4 0 2) :: (20, zB false) :: (19, zB (!v29)) :: (18, zB (!v29)) :: (17, zB v29) :: (16, zI a1) :: (15, zB false) :: (14, zB (!v26)) :: (13, zB v26) :: (12, encProp0 a0) :: T14, B14⟩ (impl_isChoice_spec a3 v39 hv40) ?_
             refine ro9 28 3 3 ⟨(42, zB (!v39)) :: (41, zB (!v39)) :: (40, zB (!v39)) :: (39, zB v39) :: (38, zI a3) :: (37, zB true) :: (36, zB (decide (a2 > 0))) :: (35, zI a2) :: (34, zB false) :: (33, zB (!v35)) :: (32, zB (!v35)) :: (31, zB v35) :: (30, zI (w64 (a0.fBal - 1))) :: (29, zI a0.fBal) :: (28, .ptr 4 0 0) :: (27, zI a2) :: (26, zB false) :: (25, zB v32) :: (24, zB v32) :: (23, zI a1) :: (22, .sl 0 (List.map encInt a0.fFrom)) :: (21, .ptr 4 0 2) :: (20, zB false) :: (19, zB (!v29)) :: (18, zB (!v29)) :: (17, zB v29) :: (16, zI a1) :: (15, zB false) :: (14, zB (!v26)) :: (13, zB v26) :: (12, encProp0 a0) :: T14, B14⟩ ?_
             rcases dich (!v39) with hb41 | hb41
             · replace h := cond_t hb41 h
               refine ct hb41 ?_
               let T19 : List (Nat × X) := [(9, .ptr 9 0 0), (8, .ptr 8 0 0), (4, .ptr 4 0 0), (1, zI a1), (2, zI a2), (3, zI a3)]
               let B19 : List (Nat × Bx) := [(9, ⟨0, 0, true, some (encProp1 v3)⟩), (8, ⟨0, 0, true, some (.agg [zI 0, zI 0, .sl 1 (List.map encInt []), zI 0, .sl 1 (List.map encInt [])])⟩), (4, ⟨0, 0, true, some (encProp0 a0)⟩)]
               refine wkr [9, 8, 4, 1, 2, 3] [(9, 9, false), (8, 8, false), (4, 4, false)] ⟨T19, B19⟩ ?_
               refine sqr cv hn ?_
               refine ro9 0 2 2 ⟨(43, .agg [zI v3.fBal, zI v3.fVal, .view 9 0 [] 2, zI v3.fBest, .view 9 0 [] 4]) :: T19, (8, ⟨0, 1, true, some (encProp1 v3)⟩) :: (9, ⟨0, 2, true, some (.agg [zI v3.fBal, zI v3.fVal, .junk, zI v3.fBest, .junk])⟩) :: (9, ⟨0, 1, true, some (.agg [zI v3.fBal, zI v3.fVal, .junk, zI v3.fBest, .sl 1 (List.map encInt v3.fGot)])⟩) :: B19⟩ ?_
               refine runs_ret ?_
               exact fin _ _ h (by kernel_rfl)
             · replace h := cond_f hb41 h
               refine cf hb41 ?_
               refine runs_skip ?_
               exact ⟨(), h, wre [1, 2, 3, 4, 8, 9] [(4, 4, false), (8, 8, false), (9, 9, false)]⟩
           · replace h := cond_f hb38 h
             refine rl 37 false hb38 ?_
             refine ro9 26 5 2 ⟨(42, zB false) :: (41, zB false) :: (40, .tup []) :: (39, .tup []) :: (38, .tup []) :: (37, zB false) :: (36, zB (decide (a2 > 0))) :: (35, zI a2) :: (34, zB false) :: (33, zB (!v35)) :: (32, zB (!v35)) :: (31, zB v35) :: (30, zI (w64 (a0.fBal - 1))) :: (29, zI a0.fBal) :: (28, .ptr 4 0 0) :: (27, zI a2) :: (26, zB false) :: (25, zB v32) :: (24, zB v32) :: (23, zI a1) :: (22, .sl 0 (List.map encInt a0.fFrom)) :: (21, .ptr 4 0 2) :: (20, zB false) :: (19, zB (!v29)) :: (18, zB (!v29)) :: (17, zB v29) :: (16, zI a1) :: (15, zB false) :: (14, zB (!v26)) :: (13, zB v26) :: (12, encProp0 a0) :: T14, B14⟩ ?_
             refine cF ?_
             refine runs_skip ?_
             exact ⟨(), h, wre [1, 2, 3, 4, 8, 9] [(4, 4, false), (8, 8, false), (9, 9, false)]⟩

set_option maxRecDepth 100000 in
set_option maxHeartbeats 2000000 in
theorem laws_szIntS_spec (a0 : (List Int)) (a1 : Int) (v0 : Int) (h : laws_szIntS a0 a1 = some v0) : Ax.Spec Try.prog 72 none [.sl 0 (List.map encInt a0), zI a1] (zI v0 : X) (.junk : X) := by
 let T1 : List (Nat × X) := [(0, .sl 0 (List.map encInt a0)), (1, zI a1)]
 refine walk0 (fn := Try.f72) (fun q0 : Int => (zI q0 : X)) (fun q0 : Int => (.junk : X)) v0 ⟨T1, []⟩ Try.func72 rfl (by decide +kernel) fun Γ hn fin => ?_
 rw [laws_szIntS] at h
 refine sqr cv hn ?_
 refine ro9 0 1 1 ⟨(4, zI 0) :: T1, []⟩ ?_
 refine sqr cv hn ?_
 refine ro9 0 5 5 ⟨(1, zI (w64 (a1 - (a0.length : Int)))) :: (8, zI (w64 (a1 - (a0.length : Int)))) :: (7, zI (a0.length : Int)) :: (6, .sl 0 (List.map encInt a0)) :: (5, zI a1) :: (4, zI 0) :: T1, []⟩ ?_ (he := by rw [show (a0.length : Int) = ((List.map encInt a0).length : Int) from by rw [List.length_map]]; kernel_rfl)
 refine runs_seq ?_
 let T2 : List (Nat × X) := [(1, zI (w64 (a1 - (a0.length : Int))))]
 refine wkr [1] [] ⟨T2, []⟩ ?_
 refine sqr cv hn ?_
 refine ro9 0 2 2 ⟨(10, zB (decide ((w64 (a1 - (a0.length : Int))) < 0))) :: (9, zI (w64 (a1 - (a0.length : Int)))) :: T2, []⟩ ?_
 rcases dich (decide ((w64 (a1 - (a0.length : Int))) < 0)) with hb1 | hb1
 · replace h := cond_t hb1 h
   refine ct hb1 ?_
   refine sqr cv hn ?_
   refine ro9 0 1 1 ⟨(4, zI (-1)) :: (10, zB (decide ((w64 (a1 - (a0.length : Int))) < 0))) :: (9, zI (w64 (a1 - (a0.length : Int)))) :: T2, []⟩ ?_
   refine runs_ret ?_
   exact fin _ _ h (by kernel_rfl)
 · replace h := cond_f hb1 h
   refine cf hb1 ?_
   refine runs_skip ?_
   refine sqr cv hn ?_
   refine ro9 0 2 2 ⟨(4, zI (w64 (a1 - (a0.length : Int)))) :: (11, zI (w64 (a1 - (a0.length : Int)))) :: (10, zB (decide ((w64 (a1 - (a0.length : Int))) < 0))) :: (9, zI (w64 (a1 - (a0.length : Int)))) :: T2, []⟩ ?_
   refine runs_ret ?_
   exact fin _ _ h (by kernel_rfl)

set_option maxRecDepth 100000 in
set_option maxHeartbeats 2000000 in
theorem laws_szProp_spec (a0 : SProp) (a1 : Int) (v0 : Int) (h : laws_szProp a0 a1 = some v0) : Ax.Spec Try.prog 36 none [encProp0 a0, zI a1] (zI v0 : X) (.junk : X) := by
 refine walk0 (fn := Try.f36) (fun q0 : Int => (zI q0 : X)) (fun q0 : Int => (.junk : X)) v0 ⟨[(0, encProp0 a0), (1, zI a1)], []⟩ Try.func36 rfl (by decide +kernel) fun Γ hn fin => ?_
 rw [laws_szProp] at h
 refine sqr cv hn ?_
 refine ro9 0 2 2 ⟨[(4, zI 0), (2, .ptr 2 1 0), (0, encProp0 a0), (1, zI a1)], [(2, ⟨1, 1, true, some (encProp0 a0)⟩)]⟩ ?_
 refine sqr cv hn ?_
 refine ro 0 3 3 ⟨[(7, zI a1), (6, .sl 0 (List.map encInt a0.fFrom)), (5, .ptr 2 1 2), (4, zI 0), (2, .ptr 2 1 0), (0, encProp0 a0), (1, zI a1)], [(2, ⟨1, 1, true, some (encProp0 a0)⟩)]⟩ ?_
 obtain ⟨v3, hv4, h⟩ := bindO h
 refine rc 3 ⟨[(8, zI v3), (7, zI a1), (6, .sl 0 (List.map encInt a0.fFrom)), (5, .ptr 2 1 2), (4, zI 0), (2, .ptr 2 1 0), (0, encProp0 a0), (1, zI a1)], [(2, ⟨1, 1, true, some (encProp0 a0)⟩)]⟩ (laws_szIntS_spec a0.fFrom a1 v3 hv4) ?_
 refine ro9 4 1 1 ⟨[(1, zI v3), (8, zI v3), (7, zI a1), (6, .sl 0 (List.map encInt a0.fFrom)), (5, .ptr 2 1 2), (4, zI 0), (2, .ptr 2 1 0), (0, encProp0 a0), (1, zI a1)], [(2, ⟨1, 1, true, some (encProp0 a0)⟩)]⟩ ?_
 refine runs_seq ?_
 let B3 : List (Nat × Bx) := [(2, ⟨0, 0, true, some (encProp0 a0)⟩)]
 refine wkr [1, 2] [(2, 2, false)] ⟨[(1, zI v3), (2, .ptr 2 0 0)], B3⟩ ?_
 refine sqr cv hn ?_
 refine ro9 0 2 2 ⟨[(10, zB (decide (v3 < 0))), (9, zI v3), (1, zI v3), (2, .ptr 2 0 0)], B3⟩ ?_
 rcases dich (decide (v3 < 0)) with hb6 | hb6
 · replace h := cond_t hb6 h
   refine ct hb6 ?_
   refine sqr cv hn ?_
   refine ro9 0 1 1 ⟨[(4, zI (-1)), (10, zB (decide (v3 < 0))), (9, zI v3), (1, zI v3), (2, .ptr 2 0 0)], B3⟩ ?_
   refine runs_ret ?_
   exact fin _ _ h (by kernel_rfl)
 · replace h := cond_f hb6 h
   refine cf hb6 ?_
   refine runs_skip ?_
   refine sqr cv hn ?_
   refine ro 0 3 3 ⟨[(13, zI v3), (12, .sl 0 (List.map encInt a0.fGot)), (11, .ptr 2 0 4), (10, zB (decide (v3 < 0))), (9, zI v3), (1, zI v3), (2, .ptr 2 0 0)], B3⟩ ?_
   obtain ⟨v9, hv10, h⟩ := bindO h
   refine rc 3 ⟨[(14, zI v9), (13, zI v3), (12, .sl 0 (List.map encInt a0.fGot)), (11, .ptr 2 0 4), (10, zB (decide (v3 < 0))), (9, zI v3), (1, zI v3), (2, .ptr 2 0 0)], B3⟩ (laws_szIntS_spec a0.fGot v3 v9 hv10) ?_
   refine ro9 4 1 1 ⟨[(1, zI v9), (14, zI v9), (13, zI v3), (12, .sl 0 (List.map encInt a0.fGot)), (11, .ptr 2 0 4), (10, zB (decide (v3 < 0))), (9, zI v3), (1, zI v3), (2, .ptr 2 0 0)], B3⟩ ?_
   refine runs_seq ?_
   refine wkr [1] [] ⟨[(1, zI v9)], []⟩ ?_
   refine sqr cv hn ?_
   refine ro9 0 2 2 ⟨[(16, zB (decide (v9 < 0))), (15, zI v9), (1, zI v9)], []⟩ ?_
   rcases dich (decide (v9 < 0)) with hb11 | hb11
   · replace h := cond_t hb11 h
     refine ct hb11 ?_
     refine sqr cv hn ?_
     refine ro9 0 1 1 ⟨[(4, zI (-1)), (16, zB (decide (v9 < 0))), (15, zI v9), (1, zI v9)], []⟩ ?_
     refine runs_ret ?_
     exact fin _ _ h (by kernel_rfl)
   · replace h := cond_f hb11 h
     refine cf hb11 ?_
     refine runs_skip ?_
     refine sqr cv hn ?_
     refine ro9 0 2 2 ⟨[(4, zI v9), (17, zI v9), (16, zB (decide (v9 < 0))), (15, zI v9), (1, zI v9)], []⟩ ?_
     refine runs_ret ?_
     exact fin _ _ h (by kernel_rfl)

set_option maxRecDepth 100000 in
set_option maxHeartbeats 2000000 in
theorem laws_toIntS_spec (a0 : (List Int)) (v0 : (List Int)) (h : laws_toIntS a0 = some v0) : Ax.Spec Try.prog 76 none [.sl 0 (List.map encInt a0)] (.sl 1 (List.map encInt v0) : X) (.junk : X) := by
 let T1 : List (Nat × X) := [(0, .sl 0 (List.map encInt a0))]
 refine walk0 (fn := Try.f76) (fun q0 : (List Int) => (.sl 1 (List.map encInt q0) : X)) (fun q0 : (List Int) => (.junk : X)) v0 ⟨T1, []⟩ Try.func76 rfl (by decide +kernel) fun Γ hn fin => ?_
 rw [laws_toIntS] at h
 refine sqr cv hn ?_
 refine ro9 0 1 1 ⟨(2, .sc (.slice none 0 0)) :: T1, []⟩ ?_
 refine sqr cv hn ?_
 refine ro 0 2 2 ⟨(6, zI (a0.length : Int)) :: (5, .sl 0 (List.map encInt a0)) :: (2, .sc (.slice none 0 0)) :: T1, []⟩ ?_ (he := by rw [show (a0.length : Int) = ((List.map encInt a0).length : Int) from by rw [List.length_map]]; kernel_rfl)
 obtain ⟨hg2, h⟩ := gO_some h
 refine rs 2 ⟨(7, .view 7 1 [] 0) :: (6, zI (a0.length : Int)) :: (5, .sl 0 (List.map encInt a0)) :: (2, .sc (.slice none 0 0)) :: T1, [(7, ⟨1, 1, false, some (.sl 1 (List.map encInt (List.replicate (Int.toNat (a0.length : Int)) 0)))⟩)]⟩ [((a0.length : Int) : Int) = (a0.length : Int) ∧ 0 ≤ ((a0.length : Int) : Int) ∧ tBytes Try.prog 3 * (Int.toNat (a0.length : Int)) ≤ 140737488355328 ∧ (Int.toNat (a0.length : Int)) ≤ 140737488355328] ⟨⟨rfl, hg2.1, mk_side (by kernel_rfl) hg2.2, hg2.2.2⟩, trivial⟩ ?_ (he := by rw [show List.map encInt (List.replicate (Int.toNat (a0.length : Int)) 0) = List.replicate (Int.toNat (a0.length : Int)) (encInt 0) from List.map_replicate]; kernel_rfl)
 refine ro9 3 1 1 ⟨(3, .view 7 1 [] 0) :: (7, .view 7 1 [] 0) :: (6, zI (a0.length : Int)) :: (5, .sl 0 (List.map encInt a0)) :: (2, .sc (.slice none 0 0)) :: T1, [(7, ⟨1, 1, false, some (.sl 1 (List.map encInt (List.replicate (Int.toNat (a0.length : Int)) 0)))⟩)]⟩ ?_
 refine runs_seq ?_
 refine sqr cv hn ?_
 refine ro9 0 1 1 ⟨(4, zI 0) :: (3, .view 7 1 [] 0) :: (7, .view 7 1 [] 0) :: (6, zI (a0.length : Int)) :: (5, .sl 0 (List.map encInt a0)) :: (2, .sc (.slice none 0 0)) :: T1, [(7, ⟨1, 1, false, some (.sl 1 (List.map encInt (List.replicate (Int.toNat (a0.length : Int)) 0)))⟩)]⟩ ?_
 refine runs_block ?_
 refine runs_loopM (σ := List Int × Nat × (List Int)) (fun s => ⟨[(4, zI (s.2.1 : Int)), (3, .view 5000003 0 [] 0), (0, .sl 0 (List.map encInt a0))], [(5000003, ⟨0, 0, false, some (.sl 1 (List.map encInt s.2.2))⟩)]⟩) (fun s => s.1 = List.drop s.2.1 a0 ∧ laws_toIntS_l1 s.1 s.2.1 s.2.2 = some v0) (fun s => s.1.length) (a0, 0, List.replicate (Int.toNat (a0.length : Int)) 0) ⟨rfl, h⟩ (wre [4, 3, 0] [(5000003, 7, false)]) ?_
 rintro ⟨t1, i1, y12⟩ ⟨hd1, h⟩
 refine seq0 ⟨[(4, zI (i1 : Int)), (3, .view 5000003 0 [] 0), (0, .sl 0 (List.map encInt a0))], [(5000003, ⟨0, 0, false, some (.sl 1 (List.map encInt y12))⟩)]⟩ ?_
 refine runs_len 0 (es := List.map encInt a0) (by kernel_rfl) fun hl1 => ?_
 replace hl1 := len_of_map hl1
 cases t1 with
 | nil =>
   rw [laws_toIntS_l1] at h
   have hLn1 := dnil hd1
   refine runs_seq ?_
   refine sqr cv hn ?_
   refine ro9 0 4 4 ⟨[(11, zB (decide ((i1 : Int) < (a0.length : Int)))), (10, zI (a0.length : Int)), (9, .sl 0 (List.map encInt a0)), (8, zI (i1 : Int)), (4, zI (i1 : Int)), (3, .view 5000003 0 [] 0), (0, .sl 0 (List.map encInt a0))], [(5000003, ⟨0, 0, false, some (.sl 1 (List.map encInt y12))⟩)]⟩ ?_ (he := by rw [show (a0.length : Int) = ((List.map encInt a0).length : Int) from by rw [List.length_map]]; kernel_rfl)
   refine cf hLn1 ?_
   refine runs_exit ?_
   repeat refine thenX_exit ?_
   refine block_here ?_
   let B2 : List (Nat × Bx) := [(5000003, ⟨0, 0, false, some (.sl 1 (List.map encInt y12))⟩)]
   refine wkr [3] [(5000003, 5000003, false)] ⟨[(3, .view 5000003 0 [] 0)], B2⟩ ?_
   refine sqr cv hn ?_
   refine ro9 0 2 2 ⟨[(2, .view 5000003 0 [] 0), (21, .view 5000003 0 [] 0), (3, .view 5000003 0 [] 0)], B2⟩ ?_
   refine runs_ret ?_
   exact fin _ _ h (by kernel_rfl)
 | cons x10 t1 =>
   rw [laws_toIntS_l1] at h
   have hLc1 := dcons hd1
   have hx10 := dget hd1
   have hi1 := dinc hd1 hl1
   refine runs_seq ?_
   refine sqr cv hn ?_
   refine ro9 0 4 4 ⟨[(11, zB (decide ((i1 : Int) < (a0.length : Int)))), (10, zI (a0.length : Int)), (9, .sl 0 (List.map encInt a0)), (8, zI (i1 : Int)), (4, zI (i1 : Int)), (3, .view 5000003 0 [] 0), (0, .sl 0 (List.map encInt a0))], [(5000003, ⟨0, 0, false, some (.sl 1 (List.map encInt y12))⟩)]⟩ ?_ (he := by rw [show (a0.length : Int) = ((List.map encInt a0).length : Int) from by rw [List.length_map]]; kernel_rfl)
   refine ct hLc1 ?_
   refine runs_skip ?_
   refine runs_seq ?_
   refine runs_block ?_
   refine rg cv hn ?_
   refine ro 0 4 4 ⟨[(17, zI (i1 : Int)), (16, .sl 0 (List.map encInt a0)), (15, zI (i1 : Int)), (14, .view 5000003 0 [] 0), (11, zB (decide ((i1 : Int) < (a0.length : Int)))), (10, zI (a0.length : Int)), (9, .sl 0 (List.map encInt a0)), (8, zI (i1 : Int)), (4, zI (i1 : Int)), (3, .view 5000003 0 [] 0), (0, .sl 0 (List.map encInt a0))], [(5000003, ⟨0, 0, false, some (.sl 1 (List.map encInt y12))⟩)]⟩ ?_
   refine rix 4 encInt 3 hx10 (ix_nn hx10) ⟨[(18, .rp (zI x10) 0), (17, zI (i1 : Int)), (16, .sl 0 (List.map encInt a0)), (15, zI (i1 : Int)), (14, .view 5000003 0 [] 0), (11, zB (decide ((i1 : Int) < (a0.length : Int)))), (10, zI (a0.length : Int)), (9, .sl 0 (List.map encInt a0)), (8, zI (i1 : Int)), (4, zI (i1 : Int)), (3, .view 5000003 0 [] 0), (0, .sl 0 (List.map encInt a0))], [(5000003, ⟨0, 0, false, some (.sl 1 (List.map encInt y12))⟩)]⟩ ?_
   refine ro 5 1 1 ⟨[(19, zI x10), (18, .rp (zI x10) 0), (17, zI (i1 : Int)), (16, .sl 0 (List.map encInt a0)), (15, zI (i1 : Int)), (14, .view 5000003 0 [] 0), (11, zB (decide ((i1 : Int) < (a0.length : Int)))), (10, zI (a0.length : Int)), (9, .sl 0 (List.map encInt a0)), (8, zI (i1 : Int)), (4, zI (i1 : Int)), (3, .view 5000003 0 [] 0), (0, .sl 0 (List.map encInt a0))], [(5000003, ⟨0, 0, false, some (.sl 1 (List.map encInt y12))⟩)]⟩ ?_
   obtain ⟨x21, hx22, h⟩ := bindO h
   refine rix 6 encInt 3 hx22 (ix_nn hx22) ⟨[(20, .ep 5000003 0 [(0, (Int.toNat (i1 : Int)))] 0), (19, zI x10), (18, .rp (zI x10) 0), (17, zI (i1 : Int)), (16, .sl 0 (List.map encInt a0)), (15, zI (i1 : Int)), (14, .view 5000003 0 [] 0), (11, zB (decide ((i1 : Int) < (a0.length : Int)))), (10, zI (a0.length : Int)), (9, .sl 0 (List.map encInt a0)), (8, zI (i1 : Int)), (4, zI (i1 : Int)), (3, .view 5000003 0 [] 0), (0, .sl 0 (List.map encInt a0))], [(5000003, ⟨0, 0, false, some (.sl 1 (List.map encInt y12))⟩)]⟩ ?_
   refine ra 7 (zI x21 : X) (.sl 1 (List.map encInt (List.set y12 (Int.toNat (i1 : Int)) x10)) : X) ⟨[(20, .ep 5000003 0 [(0, (Int.toNat (i1 : Int)))] 0), (19, zI x10), (18, .rp (zI x10) 0), (17, zI (i1 : Int)), (16, .sl 0 (List.map encInt a0)), (15, zI (i1 : Int)), (14, .view 5000003 0 [] 0), (11, zB (decide ((i1 : Int) < (a0.length : Int)))), (10, zI (a0.length : Int)), (9, .sl 0 (List.map encInt a0)), (8, zI (i1 : Int)), (4, zI (i1 : Int)), (3, .view 5000003 0 [] 0), (0, .sl 0 (List.map encInt a0))], [(5000003, ⟨0, 0, false, some (.sl 1 (List.map encInt (List.set y12 (Int.toNat (i1 : Int)) x10)))⟩), (5000003, ⟨0, 0, false, some (.sl 1 (List.map encInt y12))⟩)]⟩ [X.nav (.sl 1 (List.map encInt y12) : X) [(0, (Int.toNat (i1 : Int)))] = some (zI x21 : X), X.upd false (.sl 1 (List.map encInt y12) : X) [(0, (Int.toNat (i1 : Int)))] (X.puts · 0 [zI x10]) = (.sl 1 (List.map encInt (List.set y12 (Int.toNat (i1 : Int)) x10)) : X)] ⟨nav_one (f := encInt) (t := 0) (by kernel_rfl) hx22, Eq.trans (upd_one (f := encInt) (v := x10) (t := 0) (by kernel_rfl) hx22 (by kernel_rfl)) (by kernel_rfl), trivial⟩ ?_
   refine re0 8 ?_
   refine rg cv hn ?_
   refine ro9 0 3 3 ⟨[(4, zI ((i1 + 1 : Nat) : Int)), (13, zI ((i1 + 1 : Nat) : Int)), (12, zI (i1 : Int)), (20, .ep 5000003 0 [(0, (Int.toNat (i1 : Int)))] 0), (19, zI x10), (18, .rp (zI x10) 0), (17, zI (i1 : Int)), (16, .sl 0 (List.map encInt a0)), (15, zI (i1 : Int)), (14, .view 5000003 0 [] 0), (11, zB (decide ((i1 : Int) < (a0.length : Int)))), (10, zI (a0.length : Int)), (9, .sl 0 (List.map encInt a0)), (8, zI (i1 : Int)), (4, zI (i1 : Int)), (3, .view 5000003 0 [] 0), (0, .sl 0 (List.map encInt a0))], [(5000003, ⟨0, 0, false, some (.sl 1 (List.map encInt (List.set y12 (Int.toNat (i1 : Int)) x10)))⟩), (5000003, ⟨0, 0, false, some (.sl 1 (List.map encInt y12))⟩)]⟩ ?_ (he := by rw [← hi1]; kernel_rfl)
   exact ⟨(t1, i1 + 1, List.set y12 (Int.toNat (i1 : Int)) x10), Nat.lt_succ_self _, ⟨dnext hd1, h⟩, wre [4, 3, 0] [(5000003, 5000003, false)]⟩

set_option maxRecDepth 100000 in
set_option maxHeartbeats 2000000 in
theorem laws_toProp_spec (a0 : SProp) (v0 : SProp) (h : laws_toProp a0 = some v0) : Ax.Spec Try.prog 38 none [encProp0 a0] (encProp1 v0 : X) (.junk : X) := by
 refine walk0 (fn := Try.f38) (fun q0 : SProp => (encProp1 q0 : X)) (fun q0 : SProp => (.junk : X)) v0 ⟨[(0, encProp0 a0)], []⟩ Try.func38 rfl (by decide +kernel) fun Γ hn fin => ?_
 rw [laws_toProp] at h
 refine sqr cv hn ?_
 refine ro9 0 2 2 ⟨[(2, .ptr 2 1 0), (1, .ptr 1 1 0), (0, encProp0 a0)], [(2, ⟨1, 1, true, some (.agg [zI 0, zI 0, .sl 1 (List.map encInt []), zI 0, .sl 1 (List.map encInt [])])⟩), (1, ⟨1, 1, true, some (encProp0 a0)⟩)]⟩ ?_
 refine sqr cv hn ?_
 refine ro9 0 1 1 ⟨[(3, .ptr 3 1 0), (2, .ptr 2 1 0), (1, .ptr 1 1 0), (0, encProp0 a0)], [(3, ⟨1, 1, true, some (.agg [zI 0, zI 0, .sl 1 (List.map encInt []), zI 0, .sl 1 (List.map encInt [])])⟩), (2, ⟨1, 1, true, some (.agg [zI 0, zI 0, .sl 1 (List.map encInt []), zI 0, .sl 1 (List.map encInt [])])⟩), (1, ⟨1, 1, true, some (encProp0 a0)⟩)]⟩ ?_
 refine sqr cv hn ?_
 refine ro9 0 4 4 ⟨[(6, .ptr 3 1 0), (5, zI a0.fBal), (4, .ptr 1 1 0), (3, .ptr 3 1 0), (2, .ptr 2 1 0), (1, .ptr 1 1 0), (0, encProp0 a0)], [(3, ⟨1, 1, true, some (.agg [zI a0.fBal, zI 0, .sl 1 (List.map encInt []), zI 0, .sl 1 (List.map encInt [])])⟩), (3, ⟨1, 1, true, some (.agg [zI 0, zI 0, .sl 1 (List.map encInt []), zI 0, .sl 1 (List.map encInt [])])⟩), (2, ⟨1, 1, true, some (.agg [zI 0, zI 0, .sl 1 (List.map encInt []), zI 0, .sl 1 (List.map encInt [])])⟩), (1, ⟨1, 1, true, some (encProp0 a0)⟩)]⟩ ?_
 refine sqr cv hn ?_
 refine ro9 0 4 4 ⟨[(9, .ptr 3 1 1), (8, zI a0.fVal), (7, .ptr 1 1 1), (6, .ptr 3 1 0), (5, zI a0.fBal), (4, .ptr 1 1 0), (3, .ptr 3 1 0), (2, .ptr 2 1 0), (1, .ptr 1 1 0), (0, encProp0 a0)], [(3, ⟨1, 1, true, some (.agg [zI a0.fBal, zI a0.fVal, .sl 1 (List.map encInt []), zI 0, .sl 1 (List.map encInt [])])⟩), (3, ⟨1, 1, true, some (.agg [zI a0.fBal, zI 0, .sl 1 (List.map encInt []), zI 0, .sl 1 (List.map encInt [])])⟩), (3, ⟨1, 1, true, some (.agg [zI 0, zI 0, .sl 1 (List.map encInt []), zI 0, .sl 1 (List.map encInt [])])⟩), (2, ⟨1, 1, true, some (.agg [zI 0, zI 0, .sl 1 (List.map encInt []), zI 0, .sl 1 (List.map encInt [])])⟩), (1, ⟨1, 1, true, some (encProp0 a0)⟩)]⟩ ?_
 let T3 : List (Nat × X) := [(3, .ptr 3 0 0), (2, .ptr 2 0 0), (1, .ptr 1 0 0)]
 let B3 : List (Nat × Bx) := [(3, ⟨0, 0, true, some (.agg [zI a0.fBal, zI a0.fVal, .sl 1 (List.map encInt []), zI 0, .sl 1 (List.map encInt [])])⟩), (2, ⟨0, 0, true, some (.agg [zI 0, zI 0, .sl 1 (List.map encInt []), zI 0, .sl 1 (List.map encInt [])])⟩), (1, ⟨0, 0, true, some (encProp0 a0)⟩)]
 refine wkr [3, 2, 1] [(3, 3, false), (2, 2, false), (1, 1, false)] ⟨T3, B3⟩ ?_
 refine sqr cv hn ?_
 refine ro 0 2 2 ⟨(11, .sl 0 (List.map encInt a0.fFrom)) :: (10, .ptr 1 0 2) :: T3, B3⟩ ?_
 obtain ⟨v3, hv4, h⟩ := bindO h
 refine rc 2 ⟨(12, .view 12 1 [] 0) :: (11, .sl 0 (List.map encInt a0.fFrom)) :: (10, .ptr 1 0 2) :: T3, (12, ⟨1, 1, false, some (.sl 1 (List.map encInt v3))⟩) :: B3⟩ (laws_toIntS_spec a0.fFrom v3 hv4) ?_
 refine ro9 3 2 2 ⟨(13, .ptr 3 0 2) :: (12, .view 12 1 [] 0) :: (11, .sl 0 (List.map encInt a0.fFrom)) :: (10, .ptr 1 0 2) :: T3, (3, ⟨0, 1, true, some (.agg [zI a0.fBal, zI a0.fVal, .sl 1 (List.map encInt v3), zI 0, .sl 1 (List.map encInt [])])⟩) :: (12, ⟨1, 2, false, some (.junk)⟩) :: (12, ⟨1, 1, false, some (.sl 1 (List.map encInt v3))⟩) :: B3⟩ ?_
 let T5 : List (Nat × X) := [(3, .ptr 3 0 0), (2, .ptr 2 0 0), (1, .ptr 1 0 0)]
 let B5 : List (Nat × Bx) := [(3, ⟨0, 0, true, some (.agg [zI a0.fBal, zI a0.fVal, .sl 1 (List.map encInt v3), zI 0, .sl 1 (List.map encInt [])])⟩), (2, ⟨0, 0, true, some (.agg [zI 0, zI 0, .sl 1 (List.map encInt []), zI 0, .sl 1 (List.map encInt [])])⟩), (1, ⟨0, 0, true, some (encProp0 a0)⟩)]
 refine wkr [3, 2, 1] [(3, 3, false), (2, 2, false), (1, 1, false)] ⟨T5, B5⟩ ?_
 refine sqr cv hn ?_
 refine ro9 0 4 4 ⟨(16, .ptr 3 0 3) :: (15, zI a0.fBest) :: (14, .ptr 1 0 3) :: T5, (3, ⟨0, 0, true, some (.agg [zI a0.fBal, zI a0.fVal, .sl 1 (List.map encInt v3), zI a0.fBest, .sl 1 (List.map encInt [])])⟩) :: B5⟩ ?_
 refine sqr cv hn ?_
 refine ro 0 2 2 ⟨(18, .sl 0 (List.map encInt a0.fGot)) :: (17, .ptr 1 0 4) :: (16, .ptr 3 0 3) :: (15, zI a0.fBest) :: (14, .ptr 1 0 3) :: T5, (3, ⟨0, 0, true, some (.agg [zI a0.fBal, zI a0.fVal, .sl 1 (List.map encInt v3), zI a0.fBest, .sl 1 (List.map encInt [])])⟩) :: B5⟩ ?_
 obtain ⟨v5, hv6, h⟩ := bindO h
 refine rc 2 ⟨(19, .view 19 1 [] 0) :: (18, .sl 0 (List.map encInt a0.fGot)) :: (17, .ptr 1 0 4) :: (16, .ptr 3 0 3) :: (15, zI a0.fBest) :: (14, .ptr 1 0 3) :: T5, (19, ⟨1, 1, false, some (.sl 1 (List.map encInt v5))⟩) :: (3, ⟨0, 0, true, some (.agg [zI a0.fBal, zI a0.fVal, .sl 1 (List.map encInt v3), zI a0.fBest, .sl 1 (List.map encInt [])])⟩) :: B5⟩ (laws_toIntS_spec a0.fGot v5 hv6) ?_
 refine ro9 3 2 2 ⟨(20, .ptr 3 0 4) :: (19, .view 19 1 [] 0) :: (18, .sl 0 (List.map encInt a0.fGot)) :: (17, .ptr 1 0 4) :: (16, .ptr 3 0 3) :: (15, zI a0.fBest) :: (14, .ptr 1 0 3) :: T5, (3, ⟨0, 1, true, some (.agg [zI a0.fBal, zI a0.fVal, .sl 1 (List.map encInt v3), zI a0.fBest, .sl 1 (List.map encInt v5)])⟩) :: (19, ⟨1, 2, false, some (.junk)⟩) :: (19, ⟨1, 1, false, some (.sl 1 (List.map encInt v5))⟩) :: (3, ⟨0, 0, true, some (.agg [zI a0.fBal, zI a0.fVal, .sl 1 (List.map encInt v3), zI a0.fBest, .sl 1 (List.map encInt [])])⟩) :: B5⟩ ?_
 let T6 : List (Nat × X) := [(3, .ptr 3 0 0), (2, .ptr 2 0 0)]
 let B6 : List (Nat × Bx) := [(3, ⟨0, 0, true, some (.agg [zI a0.fBal, zI a0.fVal, .sl 1 (List.map encInt v3), zI a0.fBest, .sl 1 (List.map encInt v5)])⟩), (2, ⟨0, 0, true, some (.agg [zI 0, zI 0, .sl 1 (List.map encInt []), zI 0, .sl 1 (List.map encInt [])])⟩)]
 refine wkr [3, 2] [(3, 3, false), (2, 2, false)] ⟨T6, B6⟩ ?_
 refine sqr cv hn ?_
 refine ro9 0 2 2 ⟨(21, .agg [zI a0.fBal, zI a0.fVal, .view 3 0 [] 2, zI a0.fBest, .view 3 0 [] 4]) :: T6, (2, ⟨0, 1, true, some (.agg [zI a0.fBal, zI a0.fVal, .sl 1 (List.map encInt v3), zI a0.fBest, .sl 1 (List.map encInt v5)])⟩) :: (3, ⟨0, 2, true, some (.agg [zI a0.fBal, zI a0.fVal, .junk, zI a0.fBest, .junk])⟩) :: (3, ⟨0, 1, true, some (.agg [zI a0.fBal, zI a0.fVal, .junk, zI a0.fBest, .sl 1 (List.map encInt v5)])⟩) :: B6⟩ ?_
 refine runs_ret ?_
 exact fin _ _ h (by kernel_rfl)

set_option maxRecDepth 100000 in
set_option maxHeartbeats 2000000 in
theorem laws_eqIntS_spec (a0 : (List Int)) (a1 : (List Int)) (v0 : Bool) (h : laws_eqIntS a0 a1 = some v0) : Ax.Spec Try.prog 80 none [.sl 0 (List.map encInt a0), .sl 0 (List.map encInt a1)] (zB v0 : X) (.junk : X) := by
 let T1 : List (Nat × X) := [(0, .sl 0 (List.map encInt a0)), (1, .sl 0 (List.map encInt a1))]
 refine walk0 (fn := Try.f80) (fun q0 : Bool => (zB q0 : X)) (fun q0 : Bool => (.junk : X)) v0 ⟨T1, []⟩ Try.func80 rfl (by decide +kernel) fun Γ hn fin => ?_
 rw [laws_eqIntS] at h
 refine sqr cv hn ?_
 refine ro9 0 1 1 ⟨(4, zB false) :: T1, []⟩ ?_
 refine runs_seq ?_
 refine sqr cv hn ?_
 refine ro9 0 5 5 ⟨(10, zB ((a0.length : Int) != (a1.length : Int))) :: (9, zI (a1.length : Int)) :: (8, .sl 0 (List.map encInt a1)) :: (7, zI (a0.length : Int)) :: (6, .sl 0 (List.map encInt a0)) :: (4, zB false) :: T1, []⟩ ?_ (he := by rw [show (a0.length : Int) = ((List.map encInt a0).length : Int) from by rw [List.length_map]]; rw [show (a1.length : Int) = ((List.map encInt a1).length : Int) from by rw [List.length_map]]; kernel_rfl)
 rcases dich ((a0.length : Int) != (a1.length : Int)) with hb2 | hb2
 · replace h := cond_t hb2 h
   refine ct hb2 ?_
   let T3 : List (Nat × X) := [(0, .sl 0 (List.map encInt a0)), (1, .sl 0 (List.map encInt a1))]
   refine wkr [0, 1] [] ⟨T3, []⟩ ?_
   refine sqr cv hn ?_
   refine ro9 0 1 1 ⟨(4, zB false) :: T3, []⟩ ?_
   refine runs_ret ?_
   exact fin _ _ h (by kernel_rfl)
 · replace h := cond_f hb2 h
   refine cf hb2 ?_
   refine runs_skip ?_
   refine runs_seq ?_
   let T5 : List (Nat × X) := [(0, .sl 0 (List.map encInt a0)), (1, .sl 0 (List.map encInt a1))]
   refine wkr [0, 1] [] ⟨T5, []⟩ ?_
   refine sqr cv hn ?_
   refine ro9 0 1 1 ⟨(5, zI 0) :: T5, []⟩ ?_
   refine runs_block ?_
   refine runs_loopM (σ := List Int × Nat) (fun s => ⟨[(5, zI (s.2 : Int)), (0, .sl 0 (List.map encInt a0)), (1, .sl 0 (List.map encInt a1))], []⟩) (fun s => s.1 = List.drop s.2 a0 ∧ laws_eqIntS_l1 a1 s.1 s.2 = some v0) (fun s => s.1.length) (a0, 0) ⟨rfl, h⟩ (wre [5, 0, 1] []) ?_
   rintro ⟨t1, i1⟩ ⟨hd1, h⟩
   refine seq0 ⟨[(5, zI (i1 : Int)), (0, .sl 0 (List.map encInt a0)), (1, .sl 0 (List.map encInt a1))], []⟩ ?_
   refine runs_len 0 (es := List.map encInt a0) (by kernel_rfl) fun hl1 => ?_
   replace hl1 := len_of_map hl1
   cases t1 with
   | nil =>
     rw [laws_eqIntS_l1] at h
     have hLn1 := dnil hd1
     refine runs_seq ?_
     refine sqr cv hn ?_
     refine ro9 0 4 4 ⟨[(14, zB (decide ((i1 : Int) < (a0.length : Int)))), (13, zI (a0.length : Int)), (12, .sl 0 (List.map encInt a0)), (11, zI (i1 : Int)), (5, zI (i1 : Int)), (0, .sl 0 (List.map encInt a0)), (1, .sl 0 (List.map encInt a1))], []⟩ ?_ (he := by rw [show (a0.length : Int) = ((List.map encInt a0).length : Int) from by rw [List.length_map]]; kernel_rfl)
     refine cf hLn1 ?_
     refine runs_exit ?_
     repeat refine thenX_exit ?_
     refine block_here ?_
     refine wkr [] [] ⟨[], []⟩ ?_
     refine sqr cv hn ?_
     refine ro9 0 1 1 ⟨[(4, zB true)], []⟩ ?_
     refine runs_ret ?_
     exact fin _ _ h (by kernel_rfl)
   | cons x10 t1 =>
     rw [laws_eqIntS_l1] at h
     have hLc1 := dcons hd1
     have hx10 := dget hd1
     have hi1 := dinc hd1 hl1
     refine runs_seq ?_
     refine sqr cv hn ?_
     refine ro9 0 4 4 ⟨[(14, zB (decide ((i1 : Int) < (a0.length : Int)))), (13, zI (a0.length : Int)), (12, .sl 0 (List.map encInt a0)), (11, zI (i1 : Int)), (5, zI (i1 : Int)), (0, .sl 0 (List.map encInt a0)), (1, .sl 0 (List.map encInt a1))], []⟩ ?_ (he := by rw [show (a0.length : Int) = ((List.map encInt a0).length : Int) from by rw [List.length_map]]; kernel_rfl)
     refine ct hLc1 ?_
     refine runs_skip ?_
     refine runs_seq ?_
     refine runs_block ?_
     refine runs_seq ?_
     refine rgT cv mixed hn ?_
     refine roT 0 2 2 ⟨[(18, zI (i1 : Int)), (17, .sl 0 (List.map encInt a0)), (14, zB (decide ((i1 : Int) < (a0.length : Int)))), (13, zI (a0.length : Int)), (12, .sl 0 (List.map encInt a0)), (11, zI (i1 : Int)), (5, zI (i1 : Int)), (0, .sl 0 (List.map encInt a0)), (1, .sl 0 (List.map encInt a1))], []⟩ ?_
     refine rixT 2 encInt 3 hx10 (ix_nn hx10) ⟨[(19, .rp (zI x10) 0), (18, zI (i1 : Int)), (17, .sl 0 (List.map encInt a0)), (14, zB (decide ((i1 : Int) < (a0.length : Int)))), (13, zI (a0.length : Int)), (12, .sl 0 (List.map encInt a0)), (11, zI (i1 : Int)), (5, zI (i1 : Int)), (0, .sl 0 (List.map encInt a0)), (1, .sl 0 (List.map encInt a1))], []⟩ ?_
     refine roT 3 3 3 ⟨[(22, zI (i1 : Int)), (21, .sl 0 (List.map encInt a1)), (20, zI x10), (19, .rp (zI x10) 0), (18, zI (i1 : Int)), (17, .sl 0 (List.map encInt a0)), (14, zB (decide ((i1 : Int) < (a0.length : Int)))), (13, zI (a0.length : Int)), (12, .sl 0 (List.map encInt a0)), (11, zI (i1 : Int)), (5, zI (i1 : Int)), (0, .sl 0 (List.map encInt a0)), (1, .sl 0 (List.map encInt a1))], []⟩ ?_
     obtain ⟨x20, hx21, h⟩ := bindO h
     refine rixT 6 encInt 3 hx21 (ix_nn hx21) ⟨[(23, .rp (zI x20) 0), (22, zI (i1 : Int)), (21, .sl 0 (List.map encInt a1)), (20, zI x10), (19, .rp (zI x10) 0), (18, zI (i1 : Int)), (17, .sl 0 (List.map encInt a0)), (14, zB (decide ((i1 : Int) < (a0.length : Int)))), (13, zI (a0.length : Int)), (12, .sl 0 (List.map encInt a0)), (11, zI (i1 : Int)), (5, zI (i1 : Int)), (0, .sl 0 (List.map encInt a0)), (1, .sl 0 (List.map encInt a1))], []⟩ ?_
     refine roT9 7 2 2 ⟨[(25, zB (x10 != x20)), (24, zI x20), (23, .rp (zI x20) 0), (22, zI (i1 : Int)), (21, .sl 0 (List.map encInt a1)), (20, zI x10), (19, .rp (zI x10) 0), (18, zI (i1 : Int)), (17, .sl 0 (List.map encInt a0)), (14, zB (decide ((i1 : Int) < (a0.length : Int)))), (13, zI (a0.length : Int)), (12, .sl 0 (List.map encInt a0)), (11, zI (i1 : Int)), (5, zI (i1 : Int)), (0, .sl 0 (List.map encInt a0)), (1, .sl 0 (List.map encInt a1))], []⟩ ?_
     rcases dich (x10 != x20) with hb22 | hb22
     · replace h := cond_t hb22 h
       refine ct hb22 ?_
       refine sqr cv hn ?_
       refine ro9 0 1 1 ⟨[(4, zB false), (25, zB (x10 != x20)), (24, zI x20), (23, .rp (zI x20) 0), (22, zI (i1 : Int)), (21, .sl 0 (List.map encInt a1)), (20, zI x10), (19, .rp (zI x10) 0), (18, zI (i1 : Int)), (17, .sl 0 (List.map encInt a0)), (14, zB (decide ((i1 : Int) < (a0.length : Int)))), (13, zI (a0.length : Int)), (12, .sl 0 (List.map encInt a0)), (11, zI (i1 : Int)), (5, zI (i1 : Int)), (0, .sl 0 (List.map encInt a0)), (1, .sl 0 (List.map encInt a1))], []⟩ ?_
       refine runs_ret ?_
       exact fin _ _ h (by kernel_rfl)
     · replace h := cond_f hb22 h
       refine cf hb22 ?_
       refine runs_skip ?_
       refine rg cv hn ?_
       refine ro9 0 3 3 ⟨[(5, zI ((i1 + 1 : Nat) : Int)), (16, zI ((i1 + 1 : Nat) : Int)), (15, zI (i1 : Int)), (25, zB (x10 != x20)), (24, zI x20), (23, .rp (zI x20) 0), (22, zI (i1 : Int)), (21, .sl 0 (List.map encInt a1)), (20, zI x10), (19, .rp (zI x10) 0), (18, zI (i1 : Int)), (17, .sl 0 (List.map encInt a0)), (14, zB (decide ((i1 : Int) < (a0.length : Int)))), (13, zI (a0.length : Int)), (12, .sl 0 (List.map encInt a0)), (11, zI (i1 : Int)), (5, zI (i1 : Int)), (0, .sl 0 (List.map encInt a0)), (1, .sl 0 (List.map encInt a1))], []⟩ ?_ (he := by rw [← hi1]; kernel_rfl)
       exact ⟨(t1, i1 + 1), Nat.lt_succ_self _, ⟨dnext hd1, h⟩, wre [5, 0, 1] []⟩

set_option maxRecDepth 100000 in
set_option maxHeartbeats 2000000 in
theorem laws_eqProp_spec (a0 : SProp) (a1 : SProp) (v0 : Bool) (h : laws_eqProp a0 a1 = some v0) : Ax.Spec Try.prog 39 none [encProp0 a0, encProp0 a1] (zB v0 : X) (.junk : X) := by
 let T1 : List (Nat × X) := [(0, encProp0 a0), (1, encProp0 a1)]
 refine walk0 (fn := Try.f39) (fun q0 : Bool => (zB q0 : X)) (fun q0 : Bool => (.junk : X)) v0 ⟨T1, []⟩ Try.func39 rfl (by decide +kernel) fun Γ hn fin => ?_
 rw [laws_eqProp] at h
 refine sqr cv hn ?_
 refine ro9 0 3 3 ⟨(4, zB false) :: (3, .ptr 3 1 0) :: (2, .ptr 2 1 0) :: T1, [(3, ⟨1, 1, true, some (encProp0 a1)⟩), (2, ⟨1, 1, true, some (encProp0 a0)⟩)]⟩ ?_
 refine runs_seq ?_
 refine sqr cv hn ?_
 refine ro9 0 5 5 ⟨(9, zB (a0.fBal != a1.fBal)) :: (8, zI a1.fBal) :: (7, .ptr 3 1 0) :: (6, zI a0.fBal) :: (5, .ptr 2 1 0) :: (4, zB false) :: (3, .ptr 3 1 0) :: (2, .ptr 2 1 0) :: T1, [(3, ⟨1, 1, true, some (encProp0 a1)⟩), (2, ⟨1, 1, true, some (encProp0 a0)⟩)]⟩ ?_
 rcases dich (a0.fBal != a1.fBal) with hb2 | hb2
 · replace h := cond_t hb2 h
   refine ct hb2 ?_
   let T3 : List (Nat × X) := [(3, .ptr 3 0 0), (2, .ptr 2 0 0)]
   let B3 : List (Nat × Bx) := [(3, ⟨0, 0, true, some (encProp0 a1)⟩), (2, ⟨0, 0, true, some (encProp0 a0)⟩)]
   refine wkr [3, 2] [(3, 3, false), (2, 2, false)] ⟨T3, B3⟩ ?_
   refine sqr cv hn ?_
   refine ro9 0 1 1 ⟨(4, zB false) :: T3, B3⟩ ?_
   refine runs_ret ?_
   exact fin _ _ h (by kernel_rfl)
 · replace h := cond_f hb2 h
   refine cf hb2 ?_
   refine runs_skip ?_
   refine runs_seq ?_
   let T6 : List (Nat × X) := [(3, .ptr 3 0 0), (2, .ptr 2 0 0)]
   let B6 : List (Nat × Bx) := [(3, ⟨0, 0, true, some (encProp0 a1)⟩), (2, ⟨0, 0, true, some (encProp0 a0)⟩)]
   refine wkr [3, 2] [(3, 3, false), (2, 2, false)] ⟨T6, B6⟩ ?_
   refine sqr cv hn ?_
   refine ro9 0 5 5 ⟨(14, zB (a0.fVal != a1.fVal)) :: (13, zI a1.fVal) :: (12, .ptr 3 0 1) :: (11, zI a0.fVal) :: (10, .ptr 2 0 1) :: T6, B6⟩ ?_
   rcases dich (a0.fVal != a1.fVal) with hb4 | hb4
   · replace h := cond_t hb4 h
     refine ct hb4 ?_
     let T7 : List (Nat × X) := [(3, .ptr 3 0 0), (2, .ptr 2 0 0)]
     let B7 : List (Nat × Bx) := [(3, ⟨0, 0, true, some (encProp0 a1)⟩), (2, ⟨0, 0, true, some (encProp0 a0)⟩)]
     refine wkr [3, 2] [(3, 3, false), (2, 2, false)] ⟨T7, B7⟩ ?_
     refine sqr cv hn ?_
     refine ro9 0 1 1 ⟨(4, zB false) :: T7, B7⟩ ?_
     refine runs_ret ?_
     exact fin _ _ h (by kernel_rfl)
   · replace h := cond_f hb4 h
     refine cf hb4 ?_
     refine runs_skip ?_
     refine runs_seq ?_
     let T10 : List (Nat × X) := [(3, .ptr 3 0 0), (2, .ptr 2 0 0)]
     let B10 : List (Nat × Bx) := [(3, ⟨0, 0, true, some (encProp0 a1)⟩), (2, ⟨0, 0, true, some (encProp0 a0)⟩)]
     refine wkr [3, 2] [(3, 3, false), (2, 2, false)] ⟨T10, B10⟩ ?_
     refine sqr cv hn ?_
     refine ro 0 4 4 ⟨(18, .sl 0 (List.map encInt a1.fFrom)) :: (17, .ptr 3 0 2) :: (16, .sl 0 (List.map encInt a0.fFrom)) :: (15, .ptr 2 0 2) :: T10, B10⟩ ?_
     obtain ⟨v8, hv9, h⟩ := bindO h
     refine rc 4 ⟨(19, zB v8) :: (18, .sl 0 (List.map encInt a1.fFrom)) :: (17, .ptr 3 0 2) :: (16, .sl 0 (List.map encInt a0.fFrom)) :: (15, .ptr 2 0 2) :: T10, B10⟩ (laws_eqIntS_spec a0.fFrom a1.fFrom v8 hv9) ?_
     refine ro9 5 1 1 ⟨(20, zB (!v8)) :: (19, zB v8) :: (18, .sl 0 (List.map encInt a1.fFrom)) :: (17, .ptr 3 0 2) :: (16, .sl 0 (List.map encInt a0.fFrom)) :: (15, .ptr 2 0 2) :: T10, B10⟩ ?_
     rcases dich (!v8) with hb10 | hb10
     · replace h := cond_t hb10 h
       refine ct hb10 ?_
       let T11 : List (Nat × X) := [(3, .ptr 3 0 0), (2, .ptr 2 0 0)]
       let B11 : List (Nat × Bx) := [(3, ⟨0, 0, true, some (encProp0 a1)⟩), (2, ⟨0, 0, true, some (encProp0 a0)⟩)]
       refine wkr [3, 2] [(3, 3, false), (2, 2, false)] ⟨T11, B11⟩ ?_
       refine sqr cv hn ?_
       refine ro9 0 1 1 ⟨(4, zB false) :: T11, B11⟩ ?_
       refine runs_ret ?_
       exact fin _ _ h (by kernel_rfl)
     · replace h := cond_f hb10 h
       refine cf hb10 ?_
       refine runs_skip ?_
       refine runs_seq ?_
       let T14 : List (Nat × X) := [(3, .ptr 3 0 0), (2, .ptr 2 0 0)]
       let B14 : List (Nat × Bx) := [(3, ⟨0, 0, true, some (encProp0 a1)⟩), (2, ⟨0, 0, true, some (encProp0 a0)⟩)]
       refine wkr [3, 2] [(3, 3, false), (2, 2, false)] ⟨T14, B14⟩ ?_
       refine sqr cv hn ?_
       refine ro9 0 5 5 ⟨(25, zB (a0.fBest != a1.fBest)) :: (24, zI a1.fBest) :: (23, .ptr 3 0 3) :: (22, zI a0.fBest) :: (21, .ptr 2 0 3) :: T14, B14⟩ ?_
       rcases dich (a0.fBest != a1.fBest) with hb12 | hb12
       · replace h := cond_t hb12 h
         refine ct hb12 ?_
         let T15 : List (Nat × X) := [(3, .ptr 3 0 0), (2, .ptr 2 0 0)]
         let B15 : List (Nat × Bx) := [(3, ⟨0, 0, true, some (encProp0 a1)⟩), (2, ⟨0, 0, true, some (encProp0 a0)⟩)]
         refine wkr [3, 2] [(3, 3, false), (2, 2, false)] ⟨T15, B15⟩ ?_
         refine sqr cv hn ?_
         refine ro9 0 1 1 ⟨(4, zB false) :: T15, B15⟩ ?_
         refine runs_ret ?_
         exact fin _ _ h (by kernel_rfl)
       · replace h := cond_f hb12 h
         refine cf hb12 ?_
         refine runs_skip ?_
         refine runs_seq ?_
         let T16 : List (Nat × X) := [(3, .ptr 3 0 0), (2, .ptr 2 0 0)]
         let B16 : List (Nat × Bx) := [(3, ⟨0, 0, true, some (encProp0 a1)⟩), (2, ⟨0, 0, true, some (encProp0 a0)⟩)]
         refine wkr [3, 2] [(3, 3, false), (2, 2, false)] ⟨T16, B16⟩ ?_
         refine sqr cv hn ?_
         refine ro 0 4 4 ⟨(29, .sl 0 (List.map encInt a1.fGot)) :: (28, .ptr 3 0 4) :: (27, .sl 0 (List.map encInt a0.fGot)) :: (26, .ptr 2 0 4) :: T16, B16⟩ ?_
         obtain ⟨v13, hv14, h⟩ := bindO h
         refine rc 4 ⟨(30, zB v13) :: (29, .sl 0 (List.map encInt a1.fGot)) :: (28, .ptr 3 0 4) :: (27, .sl 0 (List.map encInt a0.fGot)) :: (26, .ptr 2 0 4) :: T16, B16⟩ (laws_eqIntS_spec a0.fGot a1.fGot v13 hv14) ?_
         refine ro9 5 1 1 ⟨(31, zB (!v13)) :: (30, zB v13) :: (29, .sl 0 (List.map encInt a1.fGot)) :: (28, .ptr 3 0 4) :: (27, .sl 0 (List.map encInt a0.fGot)) :: (26, .ptr 2 0 4) :: T16, B16⟩ ?_
         rcases dich (!v13) with hb15 | hb15
         · replace h := cond_t hb15 h
           refine ct hb15 ?_
           refine wkr [] [] ⟨[], []⟩ ?_
           refine sqr cv hn ?_
           refine ro9 0 1 1 ⟨[(4, zB false)], []⟩ ?_
           refine runs_ret ?_
           exact fin _ _ h (by kernel_rfl)
         · replace h := cond_f hb15 h
           refine cf hb15 ?_
           refine runs_skip ?_
           refine wkr [] [] ⟨[], []⟩ ?_
           refine sqr cv hn ?_
           refine ro9 0 1 1 ⟨[(4, zB true)], []⟩ ?_
           refine runs_ret ?_
           exact fin _ _ h (by kernel_rfl)

set_option maxRecDepth 100000 in
set_option maxHeartbeats 2000000 in
theorem laws_markIntS_spec (a0 : (List Int)) (a1 : Int) (v0 : (Int) × (List Int)) (h : laws_markIntS a0 a1 = some v0) : Ax.Spec Try.prog 82 (some 0) [.sl 1 (List.map encInt a0), zI a1] (zI v0.1 : X) (.sl 1 (List.map encInt v0.2) : X) := by
 let T1 : List (Nat × X) := [(0, .view 9000 1 [] 0), (1, zI a1)]
 let B1 : List (Nat × Bx) := [(9000, ⟨1, 1, false, some (.sl 2 (List.map encInt a0))⟩)]
 refine walk0 (fn := Try.f82) (fun q0 : (Int) × (List Int) => (zI q0.1 : X)) (fun q0 : (Int) × (List Int) => (.sl 1 (List.map encInt q0.2) : X)) v0 ⟨T1, B1⟩ Try.func82 rfl (by decide +kernel) fun Γ hn fin => ?_
 rw [laws_markIntS] at h
 refine sqr cv hn ?_
 refine ro9 0 1 1 ⟨(4, zI 0) :: T1, B1⟩ ?_
 refine runs_seq ?_
 refine sqr cv hn ?_
 refine ro9 0 1 1 ⟨(5, zI 0) :: (4, zI 0) :: T1, B1⟩ ?_
 refine runs_block ?_
 refine runs_loopM (σ := Nat × Int × Int × (List Int)) (fun s => ⟨[(5, zI s.2.1), (0, .view 5000000 0 [] 0), (1, zI s.2.2.1)], [(5000000, ⟨0, 0, false, some (.sl 2 (List.map encInt s.2.2.2))⟩)]⟩) (fun s => laws_markIntS_l1 s.1 s.2.1 s.2.2.1 s.2.2.2 = some v0) (fun s => s.1) (fuel, 0, a1, a0) h (wre [5, 0, 1] [(5000000, 9000, false)]) ?_
 rintro ⟨n1, y8, y9, y10⟩ h
 let T2 : List (Nat × X) := [(5, zI y8), (0, .view 5000000 0 [] 0), (1, zI y9)]
 let B2 : List (Nat × Bx) := [(5000000, ⟨0, 0, false, some (.sl 2 (List.map encInt y10))⟩)]
 refine seq0 ⟨T2, B2⟩ ?_
 cases n1 with
 | zero => rw [laws_markIntS_l1] at h; cases h
 | succ n1 =>
   rw [laws_markIntS_l1] at h
   refine runs_seq ?_
   refine sqr cv hn ?_
   refine ro9 0 4 4 ⟨(9, zB (decide (y8 < (y10.length : Int)))) :: (8, zI (y10.length : Int)) :: (7, .view 5000000 0 [] 0) :: (6, zI y8) :: T2, B2⟩ ?_ (he := by rw [show (y10.length : Int) = ((List.map encInt y10).length : Int) from by rw [List.length_map]]; kernel_rfl)
   rcases dich (decide (y8 < (y10.length : Int))) with hb19 | hb19
   · replace h := cond_t hb19 h
     refine ct hb19 ?_
     refine runs_skip ?_
     refine runs_seq ?_
     refine runs_block ?_
     refine sqr cv hn ?_
     refine ro 0 3 3 ⟨(14, zI y9) :: (13, zI y8) :: (12, .view 5000000 0 [] 0) :: (9, zB (decide (y8 < (y10.length : Int)))) :: (8, zI (y10.length : Int)) :: (7, .view 5000000 0 [] 0) :: (6, zI y8) :: T2, B2⟩ ?_
     obtain ⟨x20, hx21, h⟩ := bindO h
     refine rix 3 encInt 3 hx21 (ix_nn hx21) ⟨(15, .ep 5000000 0 [(0, (Int.toNat y8))] 0) :: (14, zI y9) :: (13, zI y8) :: (12, .view 5000000 0 [] 0) :: (9, zB (decide (y8 < (y10.length : Int)))) :: (8, zI (y10.length : Int)) :: (7, .view 5000000 0 [] 0) :: (6, zI y8) :: T2, B2⟩ ?_
     refine ra 4 (zI x20 : X) (.sl 2 (List.map encInt (List.set y10 (Int.toNat y8) y9)) : X) ⟨(15, .ep 5000000 0 [(0, (Int.toNat y8))] 0) :: (14, zI y9) :: (13, zI y8) :: (12, .view 5000000 0 [] 0) :: (9, zB (decide (y8 < (y10.length : Int)))) :: (8, zI (y10.length : Int)) :: (7, .view 5000000 0 [] 0) :: (6, zI y8) :: T2, (5000000, ⟨0, 0, false, some (.sl 2 (List.map encInt (List.set y10 (Int.toNat y8) y9)))⟩) :: B2⟩ [X.nav (.sl 2 (List.map encInt y10) : X) [(0, (Int.toNat y8))] = some (zI x20 : X), X.upd false (.sl 2 (List.map encInt y10) : X) [(0, (Int.toNat y8))] (X.puts · 0 [zI y9]) = (.sl 2 (List.map encInt (List.set y10 (Int.toNat y8) y9)) : X)] ⟨nav_one (f := encInt) (t := 1) (by kernel_rfl) hx21, Eq.trans (upd_one (f := encInt) (v := y9) (t := 1) (by kernel_rfl) hx21 (by kernel_rfl)) (by kernel_rfl), trivial⟩ ?_
     refine re0 5 ?_
     refine rg cv hn ?_
     refine ro9 0 3 3 ⟨(1, zI (w64 (y9 + 1))) :: (17, zI (w64 (y9 + 1))) :: (16, zI y9) :: (15, .ep 5000000 0 [(0, (Int.toNat y8))] 0) :: (14, zI y9) :: (13, zI y8) :: (12, .view 5000000 0 [] 0) :: (9, zB (decide (y8 < (y10.length : Int)))) :: (8, zI (y10.length : Int)) :: (7, .view 5000000 0 [] 0) :: (6, zI y8) :: T2, (5000000, ⟨0, 0, false, some (.sl 2 (List.map encInt (List.set y10 (Int.toNat y8) y9)))⟩) :: B2⟩ ?_
     refine rg cv hn ?_
     refine ro9 0 3 3 ⟨(5, zI (w64 (y8 + 1))) :: (11, zI (w64 (y8 + 1))) :: (10, zI y8) :: (1, zI (w64 (y9 + 1))) :: (17, zI (w64 (y9 + 1))) :: (16, zI y9) :: (15, .ep 5000000 0 [(0, (Int.toNat y8))] 0) :: (14, zI y9) :: (13, zI y8) :: (12, .view 5000000 0 [] 0) :: (9, zB (decide (y8 < (y10.length : Int)))) :: (8, zI (y10.length : Int)) :: (7, .view 5000000 0 [] 0) :: (6, zI y8) :: T2, (5000000, ⟨0, 0, false, some (.sl 2 (List.map encInt (List.set y10 (Int.toNat y8) y9)))⟩) :: B2⟩ ?_
     exact ⟨(n1, w64 (y8 + 1), w64 (y9 + 1), List.set y10 (Int.toNat y8) y9), Nat.lt_succ_self _, h, wre [5, 0, 1] [(5000000, 5000000, false)]⟩
   · replace h := cond_f hb19 h
     refine cf hb19 ?_
     refine runs_exit ?_
     repeat refine thenX_exit ?_
     refine block_here ?_
     let B3 : List (Nat × Bx) := [(5000000, ⟨0, 0, false, some (.sl 2 (List.map encInt y10))⟩)]
     refine wkr [1] [(5000000, 5000000, false)] ⟨[(1, zI y9)], B3⟩ ?_
     refine sqr cv hn ?_
     refine ro9 0 2 2 ⟨[(4, zI y9), (18, zI y9), (1, zI y9)], B3⟩ ?_
     refine runs_ret ?_
     exact fin _ _ h (by kernel_rfl)

set_option maxRecDepth 100000 in
set_option maxHeartbeats 2000000 in
theorem laws_markProp_spec (a0 : SProp) (a1 : Int) (v0 : (Int) × SProp) (h : laws_markProp a0 a1 = some v0) : Ax.Spec Try.prog 40 (some 0) [encProp1 a0, zI a1] (zI v0.1 : X) (.agg [.junk, .junk, .sl 1 (List.map encInt v0.2.fFrom), .junk, .sl 1 (List.map encInt v0.2.fGot)] : X) := by
 let T1 : List (Nat × X) := [(0, .agg [zI a0.fBal, zI a0.fVal, .view 9000 1 [] 0, zI a0.fBest, .view 19000 1 [] 0]), (1, zI a1)]
 let B1 : List (Nat × Bx) := [(19000, ⟨1, 1, false, some (.sl 3 (List.map encInt a0.fGot))⟩), (9000, ⟨1, 1, false, some (.sl 2 (List.map encInt a0.fFrom))⟩)]
 refine walk0 (fn := Try.f40) (fun q0 : (Int) × SProp => (zI q0.1 : X)) (fun q0 : (Int) × SProp => (.agg [.junk, .junk, .sl 1 (List.map encInt q0.2.fFrom), .junk, .sl 1 (List.map encInt q0.2.fGot)] : X)) v0 ⟨T1, B1⟩ Try.func40 rfl (by decide +kernel) fun Γ hn fin => ?_
 rw [laws_markProp] at h
 refine sqr cv hn ?_
 refine ro9 0 2 2 ⟨(4, zI 0) :: (2, .ptr 2 1 0) :: T1, (2, ⟨1, 1, true, some (.agg [zI a0.fBal, zI a0.fVal, .sl 2 (List.map encInt a0.fFrom), zI a0.fBest, .sl 3 (List.map encInt a0.fGot)])⟩) :: (19000, ⟨1, 2, false, some (.junk)⟩) :: (9000, ⟨1, 2, false, some (.junk)⟩) :: B1⟩ ?_
 refine sqr cv hn ?_
 refine ro 0 3 3 ⟨(7, zI a1) :: (6, .view 2 1 [] 2) :: (5, .ptr 2 1 2) :: (4, zI 0) :: (2, .ptr 2 1 0) :: T1, (2, ⟨1, 1, true, some (.agg [zI a0.fBal, zI a0.fVal, .sl 2 (List.map encInt a0.fFrom), zI a0.fBest, .sl 3 (List.map encInt a0.fGot)])⟩) :: (19000, ⟨1, 2, false, some (.junk)⟩) :: (9000, ⟨1, 2, false, some (.junk)⟩) :: B1⟩ ?_
 obtain ⟨v3, hv4, h⟩ := bindO h
 refine rc 3 ⟨(8, zI v3.1) :: (7, zI a1) :: (6, .view 2 1 [] 2) :: (5, .ptr 2 1 2) :: (4, zI 0) :: (2, .ptr 2 1 0) :: T1, (2, ⟨1, 1, true, some (.agg [zI a0.fBal, zI a0.fVal, .sl 2 (List.map encInt v3.2), zI a0.fBest, .sl 3 (List.map encInt a0.fGot)])⟩) :: (2, ⟨1, 1, true, some (.agg [zI a0.fBal, zI a0.fVal, .sl 2 (List.map encInt a0.fFrom), zI a0.fBest, .sl 3 (List.map encInt a0.fGot)])⟩) :: (19000, ⟨1, 2, false, some (.junk)⟩) :: (9000, ⟨1, 2, false, some (.junk)⟩) :: B1⟩ (laws_markIntS_spec a0.fFrom a1 v3 hv4) ?_
 refine ro9 4 1 1 ⟨(1, zI v3.1) :: (8, zI v3.1) :: (7, zI a1) :: (6, .view 2 1 [] 2) :: (5, .ptr 2 1 2) :: (4, zI 0) :: (2, .ptr 2 1 0) :: T1, (2, ⟨1, 1, true, some (.agg [zI a0.fBal, zI a0.fVal, .sl 2 (List.map encInt v3.2), zI a0.fBest, .sl 3 (List.map encInt a0.fGot)])⟩) :: (2, ⟨1, 1, true, some (.agg [zI a0.fBal, zI a0.fVal, .sl 2 (List.map encInt a0.fFrom), zI a0.fBest, .sl 3 (List.map encInt a0.fGot)])⟩) :: (19000, ⟨1, 2, false, some (.junk)⟩) :: (9000, ⟨1, 2, false, some (.junk)⟩) :: B1⟩ ?_
 let B2 : List (Nat × Bx) := [(2, ⟨0, 0, true, some (.agg [zI a0.fBal, zI a0.fVal, .sl 2 (List.map encInt v3.2), zI a0.fBest, .sl 3 (List.map encInt a0.fGot)])⟩)]
 refine wkr [1, 2] [(2, 2, false)] ⟨[(1, zI v3.1), (2, .ptr 2 0 0)], B2⟩ ?_
 refine sqr cv hn ?_
 refine ro 0 3 3 ⟨[(11, zI v3.1), (10, .view 2 0 [] 4), (9, .ptr 2 0 4), (1, zI v3.1), (2, .ptr 2 0 0)], B2⟩ ?_
 obtain ⟨v5, hv6, h⟩ := bindO h
 refine rc 3 ⟨[(12, zI v5.1), (11, zI v3.1), (10, .view 2 0 [] 4), (9, .ptr 2 0 4), (1, zI v3.1), (2, .ptr 2 0 0)], (2, ⟨0, 0, true, some (.agg [zI a0.fBal, zI a0.fVal, .sl 2 (List.map encInt v3.2), zI a0.fBest, .sl 3 (List.map encInt v5.2)])⟩) :: B2⟩ (laws_markIntS_spec a0.fGot v3.1 v5 hv6) ?_
 refine ro9 4 1 1 ⟨[(1, zI v5.1), (12, zI v5.1), (11, zI v3.1), (10, .view 2 0 [] 4), (9, .ptr 2 0 4), (1, zI v3.1), (2, .ptr 2 0 0)], (2, ⟨0, 0, true, some (.agg [zI a0.fBal, zI a0.fVal, .sl 2 (List.map encInt v3.2), zI a0.fBest, .sl 3 (List.map encInt v5.2)])⟩) :: B2⟩ ?_
 let B3 : List (Nat × Bx) := [(2, ⟨0, 0, true, some (.agg [zI a0.fBal, zI a0.fVal, .sl 2 (List.map encInt v3.2), zI a0.fBest, .sl 3 (List.map encInt v5.2)])⟩)]
 refine wkr [1] [(2, 2, false)] ⟨[(1, zI v5.1)], B3⟩ ?_
 refine sqr cv hn ?_
 refine ro9 0 2 2 ⟨[(4, zI v5.1), (13, zI v5.1), (1, zI v5.1)], B3⟩ ?_
 refine runs_ret ?_
 exact fin _ _ h (by kernel_rfl)

set_option maxRecDepth 100000 in
set_option maxHeartbeats 2000000 in
theorem laws_heldIntS_spec (a0 : (List Int)) (a1 : Int) (v0 : Int) (h : laws_heldIntS a0 a1 = some v0) : Ax.Spec Try.prog 84 none [.sl 0 (List.map encInt a0), zI a1] (zI v0 : X) (.junk : X) := by
 let T1 : List (Nat × X) := [(0, .sl 0 (List.map encInt a0)), (1, zI a1)]
 refine walk0 (fn := Try.f84) (fun q0 : Int => (zI q0 : X)) (fun q0 : Int => (.junk : X)) v0 ⟨T1, []⟩ Try.func84 rfl (by decide +kernel) fun Γ hn fin => ?_
 rw [laws_heldIntS] at h
 refine sqr cv hn ?_
 refine ro9 0 1 1 ⟨(4, zI 0) :: T1, []⟩ ?_
 refine runs_seq ?_
 refine sqr cv hn ?_
 refine ro9 0 1 1 ⟨(5, zI 0) :: (4, zI 0) :: T1, []⟩ ?_
 refine runs_block ?_
 refine runs_loopM (σ := List Int × Nat × Int) (fun s => ⟨[(5, zI (s.2.1 : Int)), (0, .sl 0 (List.map encInt a0)), (1, zI s.2.2)], []⟩) (fun s => s.1 = List.drop s.2.1 a0 ∧ laws_heldIntS_l1 s.1 s.2.1 s.2.2 = some v0) (fun s => s.1.length) (a0, 0, a1) ⟨rfl, h⟩ (wre [5, 0, 1] []) ?_
 rintro ⟨t1, i1, y9⟩ ⟨hd1, h⟩
 refine seq0 ⟨[(5, zI (i1 : Int)), (0, .sl 0 (List.map encInt a0)), (1, zI y9)], []⟩ ?_
 refine runs_len 0 (es := List.map encInt a0) (by kernel_rfl) fun hl1 => ?_
 replace hl1 := len_of_map hl1
 cases t1 with
 | nil =>
   rw [laws_heldIntS_l1] at h
   have hLn1 := dnil hd1
   refine runs_seq ?_
   refine sqr cv hn ?_
   refine ro9 0 4 4 ⟨[(9, zB (decide ((i1 : Int) < (a0.length : Int)))), (8, zI (a0.length : Int)), (7, .sl 0 (List.map encInt a0)), (6, zI (i1 : Int)), (5, zI (i1 : Int)), (0, .sl 0 (List.map encInt a0)), (1, zI y9)], []⟩ ?_ (he := by rw [show (a0.length : Int) = ((List.map encInt a0).length : Int) from by rw [List.length_map]]; kernel_rfl)
   refine cf hLn1 ?_
   refine runs_exit ?_
   repeat refine thenX_exit ?_
   refine block_here ?_
   refine wkr [1] [] ⟨[(1, zI y9)], []⟩ ?_
   refine sqr cv hn ?_
   refine ro9 0 2 2 ⟨[(4, zI y9), (20, zI y9), (1, zI y9)], []⟩ ?_
   refine runs_ret ?_
   exact fin _ _ h (by kernel_rfl)
 | cons x10 t1 =>
   rw [laws_heldIntS_l1] at h
   have hLc1 := dcons hd1
   have hx10 := dget hd1
   have hi1 := dinc hd1 hl1
   refine runs_seq ?_
   refine sqr cv hn ?_
   refine ro9 0 4 4 ⟨[(9, zB (decide ((i1 : Int) < (a0.length : Int)))), (8, zI (a0.length : Int)), (7, .sl 0 (List.map encInt a0)), (6, zI (i1 : Int)), (5, zI (i1 : Int)), (0, .sl 0 (List.map encInt a0)), (1, zI y9)], []⟩ ?_ (he := by rw [show (a0.length : Int) = ((List.map encInt a0).length : Int) from by rw [List.length_map]]; kernel_rfl)
   refine ct hLc1 ?_
   refine runs_skip ?_
   refine runs_seq ?_
   refine runs_block ?_
   refine runs_seq ?_
   refine sqr cv hn ?_
   refine ro 0 2 2 ⟨[(13, zI (i1 : Int)), (12, .sl 0 (List.map encInt a0)), (9, zB (decide ((i1 : Int) < (a0.length : Int)))), (8, zI (a0.length : Int)), (7, .sl 0 (List.map encInt a0)), (6, zI (i1 : Int)), (5, zI (i1 : Int)), (0, .sl 0 (List.map encInt a0)), (1, zI y9)], []⟩ ?_
   refine rix 2 encInt 3 hx10 (ix_nn hx10) ⟨[(14, .rp (zI x10) 0), (13, zI (i1 : Int)), (12, .sl 0 (List.map encInt a0)), (9, zB (decide ((i1 : Int) < (a0.length : Int)))), (8, zI (a0.length : Int)), (7, .sl 0 (List.map encInt a0)), (6, zI (i1 : Int)), (5, zI (i1 : Int)), (0, .sl 0 (List.map encInt a0)), (1, zI y9)], []⟩ ?_
   refine ro9 3 3 3 ⟨[(17, zB (x10 != y9)), (16, zI y9), (15, zI x10), (14, .rp (zI x10) 0), (13, zI (i1 : Int)), (12, .sl 0 (List.map encInt a0)), (9, zB (decide ((i1 : Int) < (a0.length : Int)))), (8, zI (a0.length : Int)), (7, .sl 0 (List.map encInt a0)), (6, zI (i1 : Int)), (5, zI (i1 : Int)), (0, .sl 0 (List.map encInt a0)), (1, zI y9)], []⟩ ?_
   rcases dich (x10 != y9) with hb17 | hb17
   · replace h := cond_t hb17 h
     refine ct hb17 ?_
     refine sqr cv hn ?_
     refine ro9 0 1 1 ⟨[(4, zI (-1)), (17, zB (x10 != y9)), (16, zI y9), (15, zI x10), (14, .rp (zI x10) 0), (13, zI (i1 : Int)), (12, .sl 0 (List.map encInt a0)), (9, zB (decide ((i1 : Int) < (a0.length : Int)))), (8, zI (a0.length : Int)), (7, .sl 0 (List.map encInt a0)), (6, zI (i1 : Int)), (5, zI (i1 : Int)), (0, .sl 0 (List.map encInt a0)), (1, zI y9)], []⟩ ?_
     refine runs_ret ?_
     exact fin _ _ h (by kernel_rfl)
   · replace h := cond_f hb17 h
     refine cf hb17 ?_
     refine runs_skip ?_
     refine rg cv hn ?_
     refine ro9 0 3 3 ⟨[(1, zI (w64 (y9 + 1))), (19, zI (w64 (y9 + 1))), (18, zI y9), (17, zB (x10 != y9)), (16, zI y9), (15, zI x10), (14, .rp (zI x10) 0), (13, zI (i1 : Int)), (12, .sl 0 (List.map encInt a0)), (9, zB (decide ((i1 : Int) < (a0.length : Int)))), (8, zI (a0.length : Int)), (7, .sl 0 (List.map encInt a0)), (6, zI (i1 : Int)), (5, zI (i1 : Int)), (0, .sl 0 (List.map encInt a0)), (1, zI y9)], []⟩ ?_
     refine rg cv hn ?_
     refine ro9 0 3 3 ⟨[(5, zI ((i1 + 1 : Nat) : Int)), (11, zI ((i1 + 1 : Nat) : Int)), (10, zI (i1 : Int)), (1, zI (w64 (y9 + 1))), (19, zI (w64 (y9 + 1))), (18, zI y9), (17, zB (x10 != y9)), (16, zI y9), (15, zI x10), (14, .rp (zI x10) 0), (13, zI (i1 : Int)), (12, .sl 0 (List.map encInt a0)), (9, zB (decide ((i1 : Int) < (a0.length : Int)))), (8, zI (a0.length : Int)), (7, .sl 0 (List.map encInt a0)), (6, zI (i1 : Int)), (5, zI (i1 : Int)), (0, .sl 0 (List.map encInt a0)), (1, zI y9)], []⟩ ?_ (he := by rw [← hi1]; kernel_rfl)
     exact ⟨(t1, i1 + 1, w64 (y9 + 1)), Nat.lt_succ_self _, ⟨dnext hd1, h⟩, wre [5, 0, 1] []⟩

set_option maxRecDepth 100000 in
set_option maxHeartbeats 2000000 in
theorem laws_heldProp_spec (a0 : SProp) (a1 : Int) (v0 : Int) (h : laws_heldProp a0 a1 = some v0) : Ax.Spec Try.prog 41 none [encProp0 a0, zI a1] (zI v0 : X) (.junk : X) := by
 refine walk0 (fn := Try.f41) (fun q0 : Int => (zI q0 : X)) (fun q0 : Int => (.junk : X)) v0 ⟨[(0, encProp0 a0), (1, zI a1)], []⟩ Try.func41 rfl (by decide +kernel) fun Γ hn fin => ?_
 rw [laws_heldProp] at h
 refine sqr cv hn ?_
 refine ro9 0 2 2 ⟨[(4, zI 0), (2, .ptr 2 1 0), (0, encProp0 a0), (1, zI a1)], [(2, ⟨1, 1, true, some (encProp0 a0)⟩)]⟩ ?_
 refine sqr cv hn ?_
 refine ro 0 3 3 ⟨[(7, zI a1), (6, .sl 0 (List.map encInt a0.fFrom)), (5, .ptr 2 1 2), (4, zI 0), (2, .ptr 2 1 0), (0, encProp0 a0), (1, zI a1)], [(2, ⟨1, 1, true, some (encProp0 a0)⟩)]⟩ ?_
 obtain ⟨v3, hv4, h⟩ := bindO h
 refine rc 3 ⟨[(8, zI v3), (7, zI a1), (6, .sl 0 (List.map encInt a0.fFrom)), (5, .ptr 2 1 2), (4, zI 0), (2, .ptr 2 1 0), (0, encProp0 a0), (1, zI a1)], [(2, ⟨1, 1, true, some (encProp0 a0)⟩)]⟩ (laws_heldIntS_spec a0.fFrom a1 v3 hv4) ?_
 refine ro9 4 1 1 ⟨[(1, zI v3), (8, zI v3), (7, zI a1), (6, .sl 0 (List.map encInt a0.fFrom)), (5, .ptr 2 1 2), (4, zI 0), (2, .ptr 2 1 0), (0, encProp0 a0), (1, zI a1)], [(2, ⟨1, 1, true, some (encProp0 a0)⟩)]⟩ ?_
 refine runs_seq ?_
 let B3 : List (Nat × Bx) := [(2, ⟨0, 0, true, some (encProp0 a0)⟩)]
 refine wkr [1, 2] [(2, 2, false)] ⟨[(1, zI v3), (2, .ptr 2 0 0)], B3⟩ ?_
 refine sqr cv hn ?_
 refine ro9 0 2 2 ⟨[(10, zB (decide (v3 < 0))), (9, zI v3), (1, zI v3), (2, .ptr 2 0 0)], B3⟩ ?_
 rcases dich (decide (v3 < 0)) with hb6 | hb6
 · replace h := cond_t hb6 h
   refine ct hb6 ?_
   refine sqr cv hn ?_
   refine ro9 0 1 1 ⟨[(4, zI (-1)), (10, zB (decide (v3 < 0))), (9, zI v3), (1, zI v3), (2, .ptr 2 0 0)], B3⟩ ?_
   refine runs_ret ?_
   exact fin _ _ h (by kernel_rfl)
 · replace h := cond_f hb6 h
   refine cf hb6 ?_
   refine runs_skip ?_
   refine sqr cv hn ?_
   refine ro 0 3 3 ⟨[(13, zI v3), (12, .sl 0 (List.map encInt a0.fGot)), (11, .ptr 2 0 4), (10, zB (decide (v3 < 0))), (9, zI v3), (1, zI v3), (2, .ptr 2 0 0)], B3⟩ ?_
   obtain ⟨v9, hv10, h⟩ := bindO h
   refine rc 3 ⟨[(14, zI v9), (13, zI v3), (12, .sl 0 (List.map encInt a0.fGot)), (11, .ptr 2 0 4), (10, zB (decide (v3 < 0))), (9, zI v3), (1, zI v3), (2, .ptr 2 0 0)], B3⟩ (laws_heldIntS_spec a0.fGot v3 v9 hv10) ?_
   refine ro9 4 1 1 ⟨[(1, zI v9), (14, zI v9), (13, zI v3), (12, .sl 0 (List.map encInt a0.fGot)), (11, .ptr 2 0 4), (10, zB (decide (v3 < 0))), (9, zI v3), (1, zI v3), (2, .ptr 2 0 0)], B3⟩ ?_
   refine runs_seq ?_
   refine wkr [1] [] ⟨[(1, zI v9)], []⟩ ?_
   refine sqr cv hn ?_
   refine ro9 0 2 2 ⟨[(16, zB (decide (v9 < 0))), (15, zI v9), (1, zI v9)], []⟩ ?_
   rcases dich (decide (v9 < 0)) with hb11 | hb11
   · replace h := cond_t hb11 h
     refine ct hb11 ?_
     refine sqr cv hn ?_
     refine ro9 0 1 1 ⟨[(4, zI (-1)), (16, zB (decide (v9 < 0))), (15, zI v9), (1, zI v9)], []⟩ ?_
     refine runs_ret ?_
     exact fin _ _ h (by kernel_rfl)
   · replace h := cond_f hb11 h
     refine cf hb11 ?_
     refine runs_skip ?_
     refine sqr cv hn ?_
     refine ro9 0 2 2 ⟨[(4, zI v9), (17, zI v9), (16, zB (decide (v9 < 0))), (15, zI v9), (1, zI v9)], []⟩ ?_
     refine runs_ret ?_
     exact fin _ _ h (by kernel_rfl)

set_option maxRecDepth 100000 in
set_option maxHeartbeats 2000000 in
theorem spec_l01In_spec (a0 : Int) (a1 : Int) (a2 : Int) (v0 : Bool) (h : spec_l01In a0 a1 a2 = some v0) : Ax.Spec Try.prog 87 none [zI a0, zI a1, zI a2] (zB v0 : X) (.junk : X) := by
 let T1 : List (Nat × X) := [(0, zI a0), (1, zI a1), (2, zI a2)]
 refine walk0 (fn := Try.f87) (fun q0 : Bool => (zB q0 : X)) (fun q0 : Bool => (.junk : X)) v0 ⟨T1, []⟩ Try.func87 rfl (by decide +kernel) fun Γ hn fin => ?_
 rw [spec_l01In] at h
 refine sqr cv hn ?_
 refine ro9 0 1 1 ⟨(6, zB false) :: T1, []⟩ ?_
 refine sqr cv hn ?_
 refine ro 0 4 4 ⟨(10, zB (decide (a0 ≥ a1))) :: (9, zB (decide (a0 ≥ a1))) :: (8, zI a1) :: (7, zI a0) :: (6, zB false) :: T1, []⟩ ?_
 rcases dich (decide (a0 ≥ a1)) with hb1 | hb1
 · replace h := cond_t hb1 h
   refine rl 10 true hb1 ?_
   refine ro9 4 5 5 ⟨(6, zB (decide (a0 ≤ a2))) :: (14, zB (decide (a0 ≤ a2))) :: (13, zB (decide (a0 ≤ a2))) :: (12, zI a2) :: (11, zI a0) :: (10, zB true) :: (9, zB (decide (a0 ≥ a1))) :: (8, zI a1) :: (7, zI a0) :: (6, zB false) :: T1, []⟩ ?_
   refine runs_ret ?_
   exact fin _ _ h (by kernel_rfl)
 · replace h := cond_f hb1 h
   refine rl 10 false hb1 ?_
   refine ro9 4 5 2 ⟨(6, zB false) :: (14, zB false) :: (13, .tup []) :: (12, .tup []) :: (11, .tup []) :: (10, zB false) :: (9, zB (decide (a0 ≥ a1))) :: (8, zI a1) :: (7, zI a0) :: (6, zB false) :: T1, []⟩ ?_
   refine runs_ret ?_
   exact fin _ _ h (by kernel_rfl)

set_option maxRecDepth 100000 in
set_option maxHeartbeats 2000000 in
theorem spec_l07Node_spec (a0 : Int) (v0 : Bool) (h : spec_l07Node a0 = some v0) : Ax.Spec Try.prog 86 none [zI a0] (zB v0 : X) (.junk : X) := by
 refine walk0 (fn := Try.f86) (fun q0 : Bool => (zB q0 : X)) (fun q0 : Bool => (.junk : X)) v0 ⟨[(0, zI a0)], []⟩ Try.func86 rfl (by decide +kernel) fun Γ hn fin => ?_
 rw [spec_l07Node] at h
 refine sqr cv hn ?_
 refine ro9 0 1 1 ⟨[(2, zB false), (0, zI a0)], []⟩ ?_
 refine sqr cv hn ?_
 refine ro 0 1 1 ⟨[(3, zI a0), (2, zB false), (0, zI a0)], []⟩ ?_
 obtain ⟨v1, hv2, h⟩ := bindO h
 refine rc 1 ⟨[(4, zB v1), (3, zI a0), (2, zB false), (0, zI a0)], []⟩ (spec_l01In_spec a0 0 3 v1 hv2) ?_
 refine ro9 2 1 1 ⟨[(2, zB v1), (4, zB v1), (3, zI a0), (2, zB false), (0, zI a0)], []⟩ ?_
 refine runs_ret ?_
 exact fin _ _ h (by kernel_rfl)

set_option maxRecDepth 100000 in
set_option maxHeartbeats 2000000 in
theorem spec_l07Copy_spec (a0 : SProp) (v0 : SProp) (h : spec_l07Copy a0 = some v0) : Ax.Spec Try.prog 88 none [encProp0 a0] (encProp1 v0 : X) (.junk : X) := by
 refine walk0 (fn := Try.f88) (fun q0 : SProp => (encProp1 q0 : X)) (fun q0 : SProp => (.junk : X)) v0 ⟨[(0, encProp0 a0)], []⟩ Try.func88 rfl (by decide +kernel) fun Γ hn fin => ?_
 rw [spec_l07Copy] at h
 refine sqr cv hn ?_
 refine ro9 0 2 2 ⟨[(2, .ptr 2 1 0), (1, .ptr 1 1 0), (0, encProp0 a0)], [(2, ⟨1, 1, true, some (.agg [zI 0, zI 0, .sl 1 (List.map encInt []), zI 0, .sl 1 (List.map encInt [])])⟩), (1, ⟨1, 1, true, some (encProp0 a0)⟩)]⟩ ?_
 refine sqr cv hn ?_
 refine rs 0 ⟨[(3, .view 3 1 [] 0), (2, .ptr 2 1 0), (1, .ptr 1 1 0), (0, encProp0 a0)], [(3, ⟨1, 1, false, some (.sl 1 (List.map encInt []))⟩), (2, ⟨1, 1, true, some (.agg [zI 0, zI 0, .sl 1 (List.map encInt []), zI 0, .sl 1 (List.map encInt [])])⟩), (1, ⟨1, 1, true, some (encProp0 a0)⟩)]⟩ [∀ y ∈ (List.map encInt [] : List X), (X.cells y).length = tSize Try.prog 3] ⟨fmap fun _ => by kernel_rfl, trivial⟩ ?_
 refine ro 1 2 2 ⟨[(5, .sl 0 (List.map encInt a0.fFrom)), (4, .ptr 1 1 2), (3, .view 3 1 [] 0), (2, .ptr 2 1 0), (1, .ptr 1 1 0), (0, encProp0 a0)], [(3, ⟨1, 1, false, some (.sl 1 (List.map encInt []))⟩), (2, ⟨1, 1, true, some (.agg [zI 0, zI 0, .sl 1 (List.map encInt []), zI 0, .sl 1 (List.map encInt [])])⟩), (1, ⟨1, 1, true, some (encProp0 a0)⟩)]⟩ ?_
 obtain ⟨hg2, h⟩ := gO_some h
 refine rs 3 ⟨[(6, .view 6 1 [] 0), (5, .sl 0 (List.map encInt a0.fFrom)), (4, .ptr 1 1 2), (3, .view 3 1 [] 0), (2, .ptr 2 1 0), (1, .ptr 1 1 0), (0, encProp0 a0)], [(6, ⟨1, 1, false, some (.sl 1 (List.map encInt a0.fFrom))⟩), (3, ⟨1, 2, false, some (.junk)⟩), (3, ⟨1, 1, false, some (.sl 1 (List.map encInt []))⟩), (2, ⟨1, 1, true, some (.agg [zI 0, zI 0, .sl 1 (List.map encInt []), zI 0, .sl 1 (List.map encInt [])])⟩), (1, ⟨1, 1, true, some (encProp0 a0)⟩)]⟩ [((List.map encInt [] : List X).length + (List.map encInt a0.fFrom : List X).length) * tBytes Try.prog 3 ≤ 140737488355328 ∧ (List.map encInt [] : List X).length + (List.map encInt a0.fFrom : List X).length ≤ 140737488355328 ∧ (∀ y ∈ (List.map encInt [] : List X), (X.cells y).length = tSize Try.prog 3) ∧ ∀ y ∈ (List.map encInt a0.fFrom : List X), (X.cells y).length = tSize Try.prog 3] ⟨⟨(app_side (b := 8) (b2 := tBytes Try.prog 3) (f := encInt) (A := []) (B := a0.fFrom) (by kernel_rfl) hg2).1, (app_side (b := 8) (b2 := 8) (f := encInt) (A := []) (B := a0.fFrom) rfl hg2).2, fmap fun _ => by kernel_rfl, fmap fun _ => by kernel_rfl⟩, trivial⟩ ?_
 refine ro9 4 2 2 ⟨[(7, .ptr 1 1 2), (6, .view 6 1 [] 0), (5, .sl 0 (List.map encInt a0.fFrom)), (4, .ptr 1 1 2), (3, .view 3 1 [] 0), (2, .ptr 2 1 0), (1, .ptr 1 1 0), (0, encProp0 a0)], [(1, ⟨1, 2, true, some (.agg [zI a0.fBal, zI a0.fVal, .sl 1 (List.map encInt a0.fFrom), zI a0.fBest, .sl 0 (List.map encInt a0.fGot)])⟩), (6, ⟨1, 2, false, some (.junk)⟩), (6, ⟨1, 1, false, some (.sl 1 (List.map encInt a0.fFrom))⟩), (3, ⟨1, 2, false, some (.junk)⟩), (3, ⟨1, 1, false, some (.sl 1 (List.map encInt []))⟩), (2, ⟨1, 1, true, some (.agg [zI 0, zI 0, .sl 1 (List.map encInt []), zI 0, .sl 1 (List.map encInt [])])⟩), (1, ⟨1, 1, true, some (encProp0 a0)⟩)]⟩ ?_
 let T2 : List (Nat × X) := [(2, .ptr 2 0 0), (1, .ptr 1 0 0)]
 let B2 : List (Nat × Bx) := [(2, ⟨0, 0, true, some (.agg [zI 0, zI 0, .sl 1 (List.map encInt []), zI 0, .sl 1 (List.map encInt [])])⟩), (1, ⟨0, 0, true, some (.agg [zI a0.fBal, zI a0.fVal, .sl 1 (List.map encInt a0.fFrom), zI a0.fBest, .sl 0 (List.map encInt a0.fGot)])⟩)]
 refine wkr [2, 1] [(2, 2, false), (1, 1, false)] ⟨T2, B2⟩ ?_
 refine sqr cv hn ?_
 refine rs 0 ⟨(8, .view 8 1 [] 0) :: T2, (8, ⟨1, 1, false, some (.sl 1 (List.map encInt []))⟩) :: B2⟩ [∀ y ∈ (List.map encInt [] : List X), (X.cells y).length = tSize Try.prog 3] ⟨fmap fun _ => by kernel_rfl, trivial⟩ ?_
 refine ro 1 2 2 ⟨(10, .sl 0 (List.map encInt a0.fGot)) :: (9, .ptr 1 0 4) :: (8, .view 8 1 [] 0) :: T2, (8, ⟨1, 1, false, some (.sl 1 (List.map encInt []))⟩) :: B2⟩ ?_
 obtain ⟨hg3, h⟩ := gO_some h
 refine rs 3 ⟨(11, .view 11 1 [] 0) :: (10, .sl 0 (List.map encInt a0.fGot)) :: (9, .ptr 1 0 4) :: (8, .view 8 1 [] 0) :: T2, (11, ⟨1, 1, false, some (.sl 1 (List.map encInt a0.fGot))⟩) :: (8, ⟨1, 2, false, some (.junk)⟩) :: (8, ⟨1, 1, false, some (.sl 1 (List.map encInt []))⟩) :: B2⟩ [((List.map encInt [] : List X).length + (List.map encInt a0.fGot : List X).length) * tBytes Try.prog 3 ≤ 140737488355328 ∧ (List.map encInt [] : List X).length + (List.map encInt a0.fGot : List X).length ≤ 140737488355328 ∧ (∀ y ∈ (List.map encInt [] : List X), (X.cells y).length = tSize Try.prog 3) ∧ ∀ y ∈ (List.map encInt a0.fGot : List X), (X.cells y).length = tSize Try.prog 3] ⟨⟨(app_side (b := 8) (b2 := tBytes Try.prog 3) (f := encInt) (A := []) (B := a0.fGot) (by kernel_rfl) hg3).1, (app_side (b := 8) (b2 := 8) (f := encInt) (A := []) (B := a0.fGot) rfl hg3).2, fmap fun _ => by kernel_rfl, fmap fun _ => by kernel_rfl⟩, trivial⟩ ?_
 refine ro9 4 2 2 ⟨(12, .ptr 1 0 4) :: (11, .view 11 1 [] 0) :: (10, .sl 0 (List.map encInt a0.fGot)) :: (9, .ptr 1 0 4) :: (8, .view 8 1 [] 0) :: T2, (1, ⟨0, 1, true, some (encProp1 a0)⟩) :: (11, ⟨1, 2, false, some (.junk)⟩) :: (11, ⟨1, 1, false, some (.sl 1 (List.map encInt a0.fGot))⟩) :: (8, ⟨1, 2, false, some (.junk)⟩) :: (8, ⟨1, 1, false, some (.sl 1 (List.map encInt []))⟩) :: B2⟩ ?_
 let T3 : List (Nat × X) := [(2, .ptr 2 0 0), (1, .ptr 1 0 0)]
 let B3 : List (Nat × Bx) := [(2, ⟨0, 0, true, some (.agg [zI 0, zI 0, .sl 1 (List.map encInt []), zI 0, .sl 1 (List.map encInt [])])⟩), (1, ⟨0, 0, true, some (encProp1 a0)⟩)]
 refine wkr [2, 1] [(2, 2, false), (1, 1, false)] ⟨T3, B3⟩ ?_
 refine sqr cv hn ?_
 refine ro9 0 2 2 ⟨(13, .agg [zI a0.fBal, zI a0.fVal, .view 1 0 [] 2, zI a0.fBest, .view 1 0 [] 4]) :: T3, (2, ⟨0, 1, true, some (encProp1 a0)⟩) :: (1, ⟨0, 2, true, some (.agg [zI a0.fBal, zI a0.fVal, .junk, zI a0.fBest, .junk])⟩) :: (1, ⟨0, 1, true, some (.agg [zI a0.fBal, zI a0.fVal, .junk, zI a0.fBest, .sl 1 (List.map encInt a0.fGot)])⟩) :: B3⟩ ?_
 refine runs_ret ?_
 exact fin _ _ h (by kernel_rfl)

set_option maxRecDepth 100000 in
set_option maxHeartbeats 2000000 in
theorem spec_l07Val_spec (a0 : Int) (v0 : Bool) (h : spec_l07Val a0 = some v0) : Ax.Spec Try.prog 99 none [zI a0] (zB v0 : X) (.junk : X) := by
 refine walk0 (fn := Try.f99) (fun q0 : Bool => (zB q0 : X)) (fun q0 : Bool => (.junk : X)) v0 ⟨[(0, zI a0)], []⟩ Try.func99 rfl (by decide +kernel) fun Γ hn fin => ?_
 rw [spec_l07Val] at h
 refine sqr cv hn ?_
 refine ro9 0 1 1 ⟨[(2, zB false), (0, zI a0)], []⟩ ?_
 refine sqr cv hn ?_
 refine ro 0 1 1 ⟨[(3, zI a0), (2, zB false), (0, zI a0)], []⟩ ?_
 obtain ⟨v1, hv2, h⟩ := bindO h
 refine rc 1 ⟨[(4, zB v1), (3, zI a0), (2, zB false), (0, zI a0)], []⟩ (spec_l01In_spec a0 1 4 v1 hv2) ?_
 refine ro9 2 1 1 ⟨[(2, zB v1), (4, zB v1), (3, zI a0), (2, zB false), (0, zI a0)], []⟩ ?_
 refine runs_ret ?_
 exact fin _ _ h (by kernel_rfl)

set_option maxRecDepth 100000 in
set_option maxHeartbeats 2000000 in
theorem spec_l07Rise_spec (a0 : (List Int)) (v0 : Bool) (h : spec_l07Rise a0 = some v0) : Ax.Spec Try.prog 101 none [.sl 0 (List.map encInt a0)] (zB v0 : X) (.junk : X) := by
 let T1 : List (Nat × X) := [(0, .sl 0 (List.map encInt a0))]
 refine walk0 (fn := Try.f101) (fun q0 : Bool => (zB q0 : X)) (fun q0 : Bool => (.junk : X)) v0 ⟨T1, []⟩ Try.func101 rfl (by decide +kernel) fun Γ hn fin => ?_
 rw [spec_l07Rise] at h
 refine sqr cv hn ?_
 refine ro9 0 1 1 ⟨(2, zB false) :: T1, []⟩ ?_
 refine runs_seq ?_
 refine sqr cv hn ?_
 refine ro9 0 3 3 ⟨(7, zI 0) :: (6, zI (a0.length : Int)) :: (5, .sl 0 (List.map encInt a0)) :: (2, zB false) :: T1, []⟩ ?_ (he := by rw [show (a0.length : Int) = ((List.map encInt a0).length : Int) from by rw [List.length_map]]; kernel_rfl)
 refine runs_block ?_
 refine runs_loopM (σ := List Int × Nat) (fun s => ⟨[(7, zI (s.2 : Int)), (6, zI (a0.length : Int)), (5, .sl 0 (List.map encInt a0)), (0, .sl 0 (List.map encInt a0))], []⟩) (fun s => s.1 = List.drop s.2 a0 ∧ spec_l07Rise_l1 a0 s.1 s.2 = some v0) (fun s => s.1.length) (a0, 0) ⟨rfl, h⟩ (wre [7, 6, 5, 0] []) ?_
 rintro ⟨t1, i1⟩ ⟨hd1, h⟩
 refine seq0 ⟨[(7, zI (i1 : Int)), (6, zI (a0.length : Int)), (5, .sl 0 (List.map encInt a0)), (0, .sl 0 (List.map encInt a0))], []⟩ ?_
 refine runs_len 5 (es := List.map encInt a0) (by kernel_rfl) fun hl1 => ?_
 replace hl1 := len_of_map hl1
 cases t1 with
 | nil =>
   rw [spec_l07Rise_l1] at h
   have hLn1 := dnil hd1
   refine sqr cv hn ?_
   refine ro9 0 1 1 ⟨[(8, zB (decide ((i1 : Int) < (a0.length : Int)))), (7, zI (i1 : Int)), (6, zI (a0.length : Int)), (5, .sl 0 (List.map encInt a0)), (0, .sl 0 (List.map encInt a0))], []⟩ ?_
   refine runs_seq ?_
   refine cf hLn1 ?_
   refine runs_exit ?_
   repeat refine thenX_exit ?_
   refine block_here ?_
   refine wkr [] [] ⟨[], []⟩ ?_
   refine sqr cv hn ?_
   refine ro9 0 1 1 ⟨[(2, zB true)], []⟩ ?_
   refine runs_ret ?_
   exact fin _ _ h (by kernel_rfl)
 | cons x10 t1 =>
   rw [spec_l07Rise_l1] at h
   have hLc1 := dcons hd1
   have hx10 := dget hd1
   have hi1 := dinc hd1 hl1
   refine sqr cv hn ?_
   refine ro9 0 1 1 ⟨[(8, zB (decide ((i1 : Int) < (a0.length : Int)))), (7, zI (i1 : Int)), (6, zI (a0.length : Int)), (5, .sl 0 (List.map encInt a0)), (0, .sl 0 (List.map encInt a0))], []⟩ ?_
   refine runs_seq ?_
   refine ct hLc1 ?_
   refine runs_skip ?_
   refine runs_seq ?_
   refine runs_block ?_
   refine sqr cv hn ?_
   refine ro 0 1 1 ⟨[(9, zI (i1 : Int)), (8, zB (decide ((i1 : Int) < (a0.length : Int)))), (7, zI (i1 : Int)), (6, zI (a0.length : Int)), (5, .sl 0 (List.map encInt a0)), (0, .sl 0 (List.map encInt a0))], []⟩ ?_
   refine rix 1 encInt 3 hx10 (ix_nn hx10) ⟨[(10, .rp (zI x10) 0), (9, zI (i1 : Int)), (8, zB (decide ((i1 : Int) < (a0.length : Int)))), (7, zI (i1 : Int)), (6, zI (a0.length : Int)), (5, .sl 0 (List.map encInt a0)), (0, .sl 0 (List.map encInt a0))], []⟩ ?_
   refine ro9 2 3 3 ⟨[(4, zI x10), (3, zI (i1 : Int)), (11, zI x10), (10, .rp (zI x10) 0), (9, zI (i1 : Int)), (8, zB (decide ((i1 : Int) < (a0.length : Int)))), (7, zI (i1 : Int)), (6, zI (a0.length : Int)), (5, .sl 0 (List.map encInt a0)), (0, .sl 0 (List.map encInt a0))], []⟩ ?_
   refine sqr cv hn ?_
   refine ro 0 1 1 ⟨[(12, zI x10), (4, zI x10), (3, zI (i1 : Int)), (11, zI x10), (10, .rp (zI x10) 0), (9, zI (i1 : Int)), (8, zB (decide ((i1 : Int) < (a0.length : Int)))), (7, zI (i1 : Int)), (6, zI (a0.length : Int)), (5, .sl 0 (List.map encInt a0)), (0, .sl 0 (List.map encInt a0))], []⟩ ?_
   obtain ⟨v26, hv27, h⟩ := bindO h
   refine rc 1 ⟨[(13, zB v26), (12, zI x10), (4, zI x10), (3, zI (i1 : Int)), (11, zI x10), (10, .rp (zI x10) 0), (9, zI (i1 : Int)), (8, zB (decide ((i1 : Int) < (a0.length : Int)))), (7, zI (i1 : Int)), (6, zI (a0.length : Int)), (5, .sl 0 (List.map encInt a0)), (0, .sl 0 (List.map encInt a0))], []⟩ (spec_l07Node_spec x10 v26 hv27) ?_
   refine ro 2 2 2 ⟨[(15, zB (!v26)), (14, zB (!v26)), (13, zB v26), (12, zI x10), (4, zI x10), (3, zI (i1 : Int)), (11, zI x10), (10, .rp (zI x10) 0), (9, zI (i1 : Int)), (8, zB (decide ((i1 : Int) < (a0.length : Int)))), (7, zI (i1 : Int)), (6, zI (a0.length : Int)), (5, .sl 0 (List.map encInt a0)), (0, .sl 0 (List.map encInt a0))], []⟩ ?_
   rcases dich (!v26) with hb28 | hb28
   · replace h := cond_t hb28 h
     refine rl 15 true hb28 ?_
     refine ro9 4 12 1 ⟨[(27, zB true), (26, .tup []), (25, .tup []), (24, .tup []), (23, .tup []), (22, .tup []), (21, .tup []), (20, .tup []), (19, .tup []), (18, .tup []), (17, .tup []), (16, .tup []), (15, zB true), (14, zB (!v26)), (13, zB v26), (12, zI x10), (4, zI x10), (3, zI (i1 : Int)), (11, zI x10), (10, .rp (zI x10) 0), (9, zI (i1 : Int)), (8, zB (decide ((i1 : Int) < (a0.length : Int)))), (7, zI (i1 : Int)), (6, zI (a0.length : Int)), (5, .sl 0 (List.map encInt a0)), (0, .sl 0 (List.map encInt a0))], []⟩ ?_
     refine cT ?_
     refine sqr cv hn ?_
     refine ro9 0 1 1 ⟨[(2, zB false), (27, zB true), (26, .tup []), (25, .tup []), (24, .tup []), (23, .tup []), (22, .tup []), (21, .tup []), (20, .tup []), (19, .tup []), (18, .tup []), (17, .tup []), (16, .tup []), (15, zB true), (14, zB (!v26)), (13, zB v26), (12, zI x10), (4, zI x10), (3, zI (i1 : Int)), (11, zI x10), (10, .rp (zI x10) 0), (9, zI (i1 : Int)), (8, zB (decide ((i1 : Int) < (a0.length : Int)))), (7, zI (i1 : Int)), (6, zI (a0.length : Int)), (5, .sl 0 (List.map encInt a0)), (0, .sl 0 (List.map encInt a0))], []⟩ ?_
     refine runs_ret ?_
     exact fin _ _ h (by kernel_rfl)
   · replace h := cond_f hb28 h
     refine rl 15 false hb28 ?_
     refine ro 4 3 3 ⟨[(18, zB (decide ((i1 : Int) > 0))), (17, zB (decide ((i1 : Int) > 0))), (16, zI (i1 : Int)), (15, zB false), (14, zB (!v26)), (13, zB v26), (12, zI x10), (4, zI x10), (3, zI (i1 : Int)), (11, zI x10), (10, .rp (zI x10) 0), (9, zI (i1 : Int)), (8, zB (decide ((i1 : Int) < (a0.length : Int)))), (7, zI (i1 : Int)), (6, zI (a0.length : Int)), (5, .sl 0 (List.map encInt a0)), (0, .sl 0 (List.map encInt a0))], []⟩ ?_
     rcases dich (decide ((i1 : Int) > 0)) with hb29 | hb29
     · replace h := cond_t hb29 h
       refine rl 18 true hb29 ?_
       refine ro 7 3 3 ⟨[(21, zI (w64 ((i1 : Int) - 1))), (20, zI (i1 : Int)), (19, .sl 0 (List.map encInt a0)), (18, zB true), (17, zB (decide ((i1 : Int) > 0))), (16, zI (i1 : Int)), (15, zB false), (14, zB (!v26)), (13, zB v26), (12, zI x10), (4, zI x10), (3, zI (i1 : Int)), (11, zI x10), (10, .rp (zI x10) 0), (9, zI (i1 : Int)), (8, zB (decide ((i1 : Int) < (a0.length : Int)))), (7, zI (i1 : Int)), (6, zI (a0.length : Int)), (5, .sl 0 (List.map encInt a0)), (0, .sl 0 (List.map encInt a0))], []⟩ ?_
       obtain ⟨x30, hx31, h⟩ := bindO h
       refine rix 10 encInt 3 hx31 (ix_nn hx31) ⟨[(22, .rp (zI x30) 0), (21, zI (w64 ((i1 : Int) - 1))), (20, zI (i1 : Int)), (19, .sl 0 (List.map encInt a0)), (18, zB true), (17, zB (decide ((i1 : Int) > 0))), (16, zI (i1 : Int)), (15, zB false), (14, zB (!v26)), (13, zB v26), (12, zI x10), (4, zI x10), (3, zI (i1 : Int)), (11, zI x10), (10, .rp (zI x10) 0), (9, zI (i1 : Int)), (8, zB (decide ((i1 : Int) < (a0.length : Int)))), (7, zI (i1 : Int)), (6, zI (a0.length : Int)), (5, .sl 0 (List.map encInt a0)), (0, .sl 0 (List.map encInt a0))], []⟩ ?_
       refine ro9 11 5 5 ⟨[(27, zB (decide (x30 ≥ x10))), (26, zB (decide (x30 ≥ x10))), (25, zB (decide (x30 ≥ x10))), (24, zI x10), (23, zI x30), (22, .rp (zI x30) 0), (21, zI (w64 ((i1 : Int) - 1))), (20, zI (i1 : Int)), (19, .sl 0 (List.map encInt a0)), (18, zB true), (17, zB (decide ((i1 : Int) > 0))), (16, zI (i1 : Int)), (15, zB false), (14, zB (!v26)), (13, zB v26), (12, zI x10), (4, zI x10), (3, zI (i1 : Int)), (11, zI x10), (10, .rp (zI x10) 0), (9, zI (i1 : Int)), (8, zB (decide ((i1 : Int) < (a0.length : Int)))), (7, zI (i1 : Int)), (6, zI (a0.length : Int)), (5, .sl 0 (List.map encInt a0)), (0, .sl 0 (List.map encInt a0))], []⟩ ?_
       rcases dich (decide (x30 ≥ x10)) with hb32 | hb32
       · replace h := cond_t hb32 h
         refine ct hb32 ?_
         refine sqr cv hn ?_
         refine ro9 0 1 1 ⟨[(2, zB false), (27, zB (decide (x30 ≥ x10))), (26, zB (decide (x30 ≥ x10))), (25, zB (decide (x30 ≥ x10))), (24, zI x10), (23, zI x30), (22, .rp (zI x30) 0), (21, zI (w64 ((i1 : Int) - 1))), (20, zI (i1 : Int)), (19, .sl 0 (List.map encInt a0)), (18, zB true), (17, zB (decide ((i1 : Int) > 0))), (16, zI (i1 : Int)), (15, zB false), (14, zB (!v26)), (13, zB v26), (12, zI x10), (4, zI x10), (3, zI (i1 : Int)), (11, zI x10), (10, .rp (zI x10) 0), (9, zI (i1 : Int)), (8, zB (decide ((i1 : Int) < (a0.length : Int)))), (7, zI (i1 : Int)), (6, zI (a0.length : Int)), (5, .sl 0 (List.map encInt a0)), (0, .sl 0 (List.map encInt a0))], []⟩ ?_
         refine runs_ret ?_
         exact fin _ _ h (by kernel_rfl)
       · replace h := cond_f hb32 h
         refine cf hb32 ?_
         refine runs_skip ?_
         refine rg cv hn ?_
         refine ro9 0 2 2 ⟨[(7, zI ((i1 + 1 : Nat) : Int)), (28, zI ((i1 + 1 : Nat) : Int)), (27, zB (decide (x30 ≥ x10))), (26, zB (decide (x30 ≥ x10))), (25, zB (decide (x30 ≥ x10))), (24, zI x10), (23, zI x30), (22, .rp (zI x30) 0), (21, zI (w64 ((i1 : Int) - 1))), (20, zI (i1 : Int)), (19, .sl 0 (List.map encInt a0)), (18, zB true), (17, zB (decide ((i1 : Int) > 0))), (16, zI (i1 : Int)), (15, zB false), (14, zB (!v26)), (13, zB v26), (12, zI x10), (4, zI x10), (3, zI (i1 : Int)), (11, zI x10), (10, .rp (zI x10) 0), (9, zI (i1 : Int)), (8, zB (decide ((i1 : Int) < (a0.length : Int)))), (7, zI (i1 : Int)), (6, zI (a0.length : Int)), (5, .sl 0 (List.map encInt a0)), (0, .sl 0 (List.map encInt a0))], []⟩ ?_ (he := by rw [← hi1]; kernel_rfl)
         exact ⟨(t1, i1 + 1), Nat.lt_succ_self _, ⟨dnext hd1, h⟩, wre [7, 6, 5, 0] []⟩
     · replace h := cond_f hb29 h
       refine rl 18 false hb29 ?_
       refine ro9 7 9 2 ⟨[(27, zB false), (26, zB false), (25, .tup []), (24, .tup []), (23, .tup []), (22, .tup []), (21, .tup []), (20, .tup []), (19, .tup []), (18, zB false), (17, zB (decide ((i1 : Int) > 0))), (16, zI (i1 : Int)), (15, zB false), (14, zB (!v26)), (13, zB v26), (12, zI x10), (4, zI x10), (3, zI (i1 : Int)), (11, zI x10), (10, .rp (zI x10) 0), (9, zI (i1 : Int)), (8, zB (decide ((i1 : Int) < (a0.length : Int)))), (7, zI (i1 : Int)), (6, zI (a0.length : Int)), (5, .sl 0 (List.map encInt a0)), (0, .sl 0 (List.map encInt a0))], []⟩ ?_
       refine cF ?_
       refine runs_skip ?_
       refine rg cv hn ?_
       refine ro9 0 2 2 ⟨[(7, zI ((i1 + 1 : Nat) : Int)), (28, zI ((i1 + 1 : Nat) : Int)), (27, zB false), (26, zB false), (25, .tup []), (24, .tup []), (23, .tup []), (22, .tup []), (21, .tup []), (20, .tup []), (19, .tup []), (18, zB false), (17, zB (decide ((i1 : Int) > 0))), (16, zI (i1 : Int)), (15, zB false), (14, zB (!v26)), (13, zB v26), (12, zI x10), (4, zI x10), (3, zI (i1 : Int)), (11, zI x10), (10, .rp (zI x10) 0), (9, zI (i1 : Int)), (8, zB (decide ((i1 : Int) < (a0.length : Int)))), (7, zI (i1 : Int)), (6, zI (a0.length : Int)), (5, .sl 0 (List.map encInt a0)), (0, .sl 0 (List.map encInt a0))], []⟩ ?_ (he := by rw [← hi1]; kernel_rfl)
       exact ⟨(t1, i1 + 1), Nat.lt_succ_self _, ⟨dnext hd1, h⟩, wre [7, 6, 5, 0] []⟩

set_option maxRecDepth 100000 in
set_option maxHeartbeats 2000000 in
theorem spec_PropOk_spec (a0 : SProp) (v0 : Bool) (h : spec_PropOk a0 = some v0) : Ax.Spec Try.prog 89 none [encProp0 a0] (zB v0 : X) (.junk : X) := by
 refine walk0 (fn := Try.f89) (fun q0 : Bool => (zB q0 : X)) (fun q0 : Bool => (.junk : X)) v0 ⟨[(0, encProp0 a0)], []⟩ Try.func89 rfl (by decide +kernel) fun Γ hn fin => ?_
 rw [spec_PropOk] at h
 refine sqr cv hn ?_
 refine ro9 0 2 2 ⟨[(2, zB false), (1, .ptr 1 1 0), (0, encProp0 a0)], [(1, ⟨1, 1, true, some (encProp0 a0)⟩)]⟩ ?_
 refine sqr cv hn ?_
 refine ro 0 2 2 ⟨[(4, zI a0.fBal), (3, .ptr 1 1 0), (2, zB false), (1, .ptr 1 1 0), (0, encProp0 a0)], [(1, ⟨1, 1, true, some (encProp0 a0)⟩)]⟩ ?_
 obtain ⟨v1, hv2, h⟩ := bindO h
 refine rc 2 ⟨[(5, zB v1), (4, zI a0.fBal), (3, .ptr 1 1 0), (2, zB false), (1, .ptr 1 1 0), (0, encProp0 a0)], [(1, ⟨1, 1, true, some (encProp0 a0)⟩)]⟩ (spec_l01In_spec a0.fBal 1 1125899906842624 v1 hv2) ?_
 refine ro 3 1 1 ⟨[(6, zB v1), (5, zB v1), (4, zI a0.fBal), (3, .ptr 1 1 0), (2, zB false), (1, .ptr 1 1 0), (0, encProp0 a0)], [(1, ⟨1, 1, true, some (encProp0 a0)⟩)]⟩ ?_
 rcases dich v1 with hb3 | hb3
 · replace h := cond_t hb3 h
   refine rl 6 true hb3 ?_
   refine ro 4 2 2 ⟨[(8, zI a0.fVal), (7, .ptr 1 1 1), (6, zB true), (5, zB v1), (4, zI a0.fBal), (3, .ptr 1 1 0), (2, zB false), (1, .ptr 1 1 0), (0, encProp0 a0)], [(1, ⟨1, 1, true, some (encProp0 a0)⟩)]⟩ ?_
   obtain ⟨v4, hv5, h⟩ := bindO h
   refine rc 6 ⟨[(9, zB v4), (8, zI a0.fVal), (7, .ptr 1 1 1), (6, zB true), (5, zB v1), (4, zI a0.fBal), (3, .ptr 1 1 0), (2, zB false), (1, .ptr 1 1 0), (0, encProp0 a0)], [(1, ⟨1, 1, true, some (encProp0 a0)⟩)]⟩ (spec_l07Val_spec a0.fVal v4 hv5) ?_
   refine ro 7 2 2 ⟨[(11, zB v4), (10, zB v4), (9, zB v4), (8, zI a0.fVal), (7, .ptr 1 1 1), (6, zB true), (5, zB v1), (4, zI a0.fBal), (3, .ptr 1 1 0), (2, zB false), (1, .ptr 1 1 0), (0, encProp0 a0)], [(1, ⟨1, 1, true, some (encProp0 a0)⟩)]⟩ ?_
   rcases dich v4 with hb6 | hb6
   · replace h := cond_t hb6 h
     refine rl 11 true hb6 ?_
     refine ro 9 2 2 ⟨[(13, .sl 0 (List.map encInt a0.fFrom)), (12, .ptr 1 1 2), (11, zB true), (10, zB v4), (9, zB v4), (8, zI a0.fVal), (7, .ptr 1 1 1), (6, zB true), (5, zB v1), (4, zI a0.fBal), (3, .ptr 1 1 0), (2, zB false), (1, .ptr 1 1 0), (0, encProp0 a0)], [(1, ⟨1, 1, true, some (encProp0 a0)⟩)]⟩ ?_
     obtain ⟨v7, hv8, h⟩ := bindO h
     refine rc 11 ⟨[(14, zB v7), (13, .sl 0 (List.map encInt a0.fFrom)), (12, .ptr 1 1 2), (11, zB true), (10, zB v4), (9, zB v4), (8, zI a0.fVal), (7, .ptr 1 1 1), (6, zB true), (5, zB v1), (4, zI a0.fBal), (3, .ptr 1 1 0), (2, zB false), (1, .ptr 1 1 0), (0, encProp0 a0)], [(1, ⟨1, 1, true, some (encProp0 a0)⟩)]⟩ (spec_l07Rise_spec a0.fFrom v7 hv8) ?_
     refine ro 12 2 2 ⟨[(16, zB v7), (15, zB v7), (14, zB v7), (13, .sl 0 (List.map encInt a0.fFrom)), (12, .ptr 1 1 2), (11, zB true), (10, zB v4), (9, zB v4), (8, zI a0.fVal), (7, .ptr 1 1 1), (6, zB true), (5, zB v1), (4, zI a0.fBal), (3, .ptr 1 1 0), (2, zB false), (1, .ptr 1 1 0), (0, encProp0 a0)], [(1, ⟨1, 1, true, some (encProp0 a0)⟩)]⟩ ?_
     rcases dich v7 with hb9 | hb9
     · replace h := cond_t hb9 h
       refine rl 16 true hb9 ?_
       refine ro 14 2 2 ⟨[(18, .sl 0 (List.map encInt a0.fGot)), (17, .ptr 1 1 4), (16, zB true), (15, zB v7), (14, zB v7), (13, .sl 0 (List.map encInt a0.fFrom)), (12, .ptr 1 1 2), (11, zB true), (10, zB v4), (9, zB v4), (8, zI a0.fVal), (7, .ptr 1 1 1), (6, zB true), (5, zB v1), (4, zI a0.fBal), (3, .ptr 1 1 0), (2, zB false), (1, .ptr 1 1 0), (0, encProp0 a0)], [(1, ⟨1, 1, true, some (encProp0 a0)⟩)]⟩ ?_
       obtain ⟨v10, hv11, h⟩ := bindO h
       refine rc 16 ⟨[(19, zB v10), (18, .sl 0 (List.map encInt a0.fGot)), (17, .ptr 1 1 4), (16, zB true), (15, zB v7), (14, zB v7), (13, .sl 0 (List.map encInt a0.fFrom)), (12, .ptr 1 1 2), (11, zB true), (10, zB v4), (9, zB v4), (8, zI a0.fVal), (7, .ptr 1 1 1), (6, zB true), (5, zB v1), (4, zI a0.fBal), (3, .ptr 1 1 0), (2, zB false), (1, .ptr 1 1 0), (0, encProp0 a0)], [(1, ⟨1, 1, true, some (encProp0 a0)⟩)]⟩ (spec_l07Rise_spec a0.fGot v10 hv11) ?_
       refine ro 17 2 2 ⟨[(21, zB v10), (20, zB v10), (19, zB v10), (18, .sl 0 (List.map encInt a0.fGot)), (17, .ptr 1 1 4), (16, zB true), (15, zB v7), (14, zB v7), (13, .sl 0 (List.map encInt a0.fFrom)), (12, .ptr 1 1 2), (11, zB true), (10, zB v4), (9, zB v4), (8, zI a0.fVal), (7, .ptr 1 1 1), (6, zB true), (5, zB v1), (4, zI a0.fBal), (3, .ptr 1 1 0), (2, zB false), (1, .ptr 1 1 0), (0, encProp0 a0)], [(1, ⟨1, 1, true, some (encProp0 a0)⟩)]⟩ ?_
       rcases dich v10 with hb12 | hb12
       · replace h := cond_t hb12 h
         refine rl 21 true hb12 ?_
         refine ro 19 5 5 ⟨[(26, zI (w64 (a0.fBal - 1))), (25, zI a0.fBal), (24, .ptr 1 1 0), (23, zI a0.fBest), (22, .ptr 1 1 3), (21, zB true), (20, zB v10), (19, zB v10), (18, .sl 0 (List.map encInt a0.fGot)), (17, .ptr 1 1 4), (16, zB true), (15, zB v7), (14, zB v7), (13, .sl 0 (List.map encInt a0.fFrom)), (12, .ptr 1 1 2), (11, zB true), (10, zB v4), (9, zB v4), (8, zI a0.fVal), (7, .ptr 1 1 1), (6, zB true), (5, zB v1), (4, zI a0.fBal), (3, .ptr 1 1 0), (2, zB false), (1, .ptr 1 1 0), (0, encProp0 a0)], [(1, ⟨1, 1, true, some (encProp0 a0)⟩)]⟩ ?_
         obtain ⟨v13, hv14, h⟩ := bindO h
         refine rc 24 ⟨[(27, zB v13), (26, zI (w64 (a0.fBal - 1))), (25, zI a0.fBal), (24, .ptr 1 1 0), (23, zI a0.fBest), (22, .ptr 1 1 3), (21, zB true), (20, zB v10), (19, zB v10), (18, .sl 0 (List.map encInt a0.fGot)), (17, .ptr 1 1 4), (16, zB true), (15, zB v7), (14, zB v7), (13, .sl 0 (List.map encInt a0.fFrom)), (12, .ptr 1 1 2), (11, zB true), (10, zB v4), (9, zB v4), (8, zI a0.fVal), (7, .ptr 1 1 1), (6, zB true), (5, zB v1), (4, zI a0.fBal), (3, .ptr 1 1 0), (2, zB false), (1, .ptr 1 1 0), (0, encProp0 a0)], [(1, ⟨1, 1, true, some (encProp0 a0)⟩)]⟩ (spec_l01In_spec a0.fBest 0 (w64 (a0.fBal - 1)) v13 hv14) ?_
         refine ro9 25 2 2 ⟨[(2, zB v13), (28, zB v13), (27, zB v13), (26, zI (w64 (a0.fBal - 1))), (25, zI a0.fBal), (24, .ptr 1 1 0), (23, zI a0.fBest), (22, .ptr 1 1 3), (21, zB true), (20, zB v10), (19, zB v10), (18, .sl 0 (List.map encInt a0.fGot)), (17, .ptr 1 1 4), (16, zB true), (15, zB v7), (14, zB v7), (13, .sl 0 (List.map encInt a0.fFrom)), (12, .ptr 1 1 2), (11, zB true), (10, zB v4), (9, zB v4), (8, zI a0.fVal), (7, .ptr 1 1 1), (6, zB true), (5, zB v1), (4, zI a0.fBal), (3, .ptr 1 1 0), (2, zB false), (1, .ptr 1 1 0), (0, encProp0 a0)], [(1, ⟨1, 1, true, some (encProp0 a0)⟩)]⟩ ?_
         refine runs_ret ?_
         exact fin _ _ h (by kernel_rfl)
       · replace h := cond_f hb12 h
         refine rl 21 false hb12 ?_
         refine ro9 19 8 2 ⟨[(2, zB false), (28, zB false), (27, .tup []), (26, .tup []), (25, .tup []), (24, .tup []), (23, .tup []), (22, .tup []), (21, zB false), (20, zB v10), (19, zB v10), (18, .sl 0 (List.map encInt a0.fGot)), (17, .ptr 1 1 4), (16, zB true), (15, zB v7), (14, zB v7), (13, .sl 0 (List.map encInt a0.fFrom)), (12, .ptr 1 1 2), (11, zB true), (10, zB v4), (9, zB v4), (8, zI a0.fVal), (7, .ptr 1 1 1), (6, zB true), (5, zB v1), (4, zI a0.fBal), (3, .ptr 1 1 0), (2, zB false), (1, .ptr 1 1 0), (0, encProp0 a0)], [(1, ⟨1, 1, true, some (encProp0 a0)⟩)]⟩ ?_
         refine runs_ret ?_
         exact fin _ _ h (by kernel_rfl)
     · replace h := cond_f hb9 h
       refine rl 16 false hb9 ?_
       refine ro9 14 13 4 ⟨[(2, zB false), (28, zB false), (27, .tup []), (26, .tup []), (25, .tup []), (24, .tup []), (23, .tup []), (22, .tup []), (21, zB false), (20, zB false), (19, .tup []), (18, .tup []), (17, .tup []), (16, zB false), (15, zB v7), (14, zB v7), (13, .sl 0 (List.map encInt a0.fFrom)), (12, .ptr 1 1 2), (11, zB true), (10, zB v4), (9, zB v4), (8, zI a0.fVal), (7, .ptr 1 1 1), (6, zB true), (5, zB v1), (4, zI a0.fBal), (3, .ptr 1 1 0), (2, zB false), (1, .ptr 1 1 0), (0, encProp0 a0)], [(1, ⟨1, 1, true, some (encProp0 a0)⟩)]⟩ ?_
       refine runs_ret ?_
       exact fin _ _ h (by kernel_rfl)
   · replace h := cond_f hb6 h
     refine rl 11 false hb6 ?_
     refine ro9 9 18 6 ⟨[(2, zB false), (28, zB false), (27, .tup []), (26, .tup []), (25, .tup []), (24, .tup []), (23, .tup []), (22, .tup []), (21, zB false), (20, zB false), (19, .tup []), (18, .tup []), (17, .tup []), (16, zB false), (15, zB false), (14, .tup []), (13, .tup []), (12, .tup []), (11, zB false), (10, zB v4), (9, zB v4), (8, zI a0.fVal), (7, .ptr 1 1 1), (6, zB true), (5, zB v1), (4, zI a0.fBal), (3, .ptr 1 1 0), (2, zB false), (1, .ptr 1 1 0), (0, encProp0 a0)], [(1, ⟨1, 1, true, some (encProp0 a0)⟩)]⟩ ?_
     refine runs_ret ?_
     exact fin _ _ h (by kernel_rfl)
 · replace h := cond_f hb3 h
   refine rl 6 false hb3 ?_
   refine ro9 4 23 8 ⟨[(2, zB false), (28, zB false), (27, .tup []), (26, .tup []), (25, .tup []), (24, .tup []), (23, .tup []), (22, .tup []), (21, zB false), (20, zB false), (19, .tup []), (18, .tup []), (17, .tup []), (16, zB false), (15, zB false), (14, .tup []), (13, .tup []), (12, .tup []), (11, zB false), (10, zB false), (9, .tup []), (8, .tup []), (7, .tup []), (6, zB false), (5, zB v1), (4, zI a0.fBal), (3, .ptr 1 1 0), (2, zB false), (1, .ptr 1 1 0), (0, encProp0 a0)], [(1, ⟨1, 1, true, some (encProp0 a0)⟩)]⟩ ?_
   refine runs_ret ?_
   exact fin _ _ h (by kernel_rfl)

set_option maxRecDepth 100000 in
set_option maxHeartbeats 2000000 in
theorem spec_l01Has_spec (a0 : (List Int)) (a1 : Int) (v0 : Bool) (h : spec_l01Has a0 a1 = some v0) : Ax.Spec Try.prog 90 none [.sl 0 (List.map encInt a0), zI a1] (zB v0 : X) (.junk : X) := by
 let T1 : List (Nat × X) := [(0, .sl 0 (List.map encInt a0)), (1, zI a1)]
 refine walk0 (fn := Try.f90) (fun q0 : Bool => (zB q0 : X)) (fun q0 : Bool => (.junk : X)) v0 ⟨T1, []⟩ Try.func90 rfl (by decide +kernel) fun Γ hn fin => ?_
 rw [spec_l01Has] at h
 refine sqr cv hn ?_
 refine ro9 0 1 1 ⟨(4, zB false) :: T1, []⟩ ?_
 refine runs_seq ?_
 refine sqr cv hn ?_
 refine ro9 0 3 3 ⟨(9, zI 0) :: (8, zI (a0.length : Int)) :: (7, .sl 0 (List.map encInt a0)) :: (4, zB false) :: T1, []⟩ ?_ (he := by rw [show (a0.length : Int) = ((List.map encInt a0).length : Int) from by rw [List.length_map]]; kernel_rfl)
 refine runs_block ?_
 refine runs_loopM (σ := List Int × Nat) (fun s => ⟨[(9, zI (s.2 : Int)), (8, zI (a0.length : Int)), (7, .sl 0 (List.map encInt a0)), (1, zI a1)], []⟩) (fun s => s.1 = List.drop s.2 a0 ∧ spec_l01Has_l1 a1 s.1 s.2 = some v0) (fun s => s.1.length) (a0, 0) ⟨rfl, h⟩ (wre [9, 8, 7, 1] []) ?_
 rintro ⟨t1, i1⟩ ⟨hd1, h⟩
 refine seq0 ⟨[(9, zI (i1 : Int)), (8, zI (a0.length : Int)), (7, .sl 0 (List.map encInt a0)), (1, zI a1)], []⟩ ?_
 refine runs_len 7 (es := List.map encInt a0) (by kernel_rfl) fun hl1 => ?_
 replace hl1 := len_of_map hl1
 cases t1 with
 | nil =>
   rw [spec_l01Has_l1] at h
   have hLn1 := dnil hd1
   refine sqr cv hn ?_
   refine ro9 0 1 1 ⟨[(10, zB (decide ((i1 : Int) < (a0.length : Int)))), (9, zI (i1 : Int)), (8, zI (a0.length : Int)), (7, .sl 0 (List.map encInt a0)), (1, zI a1)], []⟩ ?_
   refine runs_seq ?_
   refine cf hLn1 ?_
   refine runs_exit ?_
   repeat refine thenX_exit ?_
   refine block_here ?_
   refine wkr [] [] ⟨[], []⟩ ?_
   refine sqr cv hn ?_
   refine ro9 0 1 1 ⟨[(4, zB false)], []⟩ ?_
   refine runs_ret ?_
   exact fin _ _ h (by kernel_rfl)
 | cons x10 t1 =>
   rw [spec_l01Has_l1] at h
   have hLc1 := dcons hd1
   have hx10 := dget hd1
   have hi1 := dinc hd1 hl1
   refine sqr cv hn ?_
   refine ro9 0 1 1 ⟨[(10, zB (decide ((i1 : Int) < (a0.length : Int)))), (9, zI (i1 : Int)), (8, zI (a0.length : Int)), (7, .sl 0 (List.map encInt a0)), (1, zI a1)], []⟩ ?_
   refine runs_seq ?_
   refine ct hLc1 ?_
   refine runs_skip ?_
   refine runs_seq ?_
   refine runs_block ?_
   refine sqr cv hn ?_
   refine rix 0 encInt 3 hx10 (ix_nn hx10) ⟨[(11, .rp (zI x10) 0), (10, zB (decide ((i1 : Int) < (a0.length : Int)))), (9, zI (i1 : Int)), (8, zI (a0.length : Int)), (7, .sl 0 (List.map encInt a0)), (1, zI a1)], []⟩ ?_
   refine ro9 1 2 2 ⟨[(6, zI x10), (12, zI x10), (11, .rp (zI x10) 0), (10, zB (decide ((i1 : Int) < (a0.length : Int)))), (9, zI (i1 : Int)), (8, zI (a0.length : Int)), (7, .sl 0 (List.map encInt a0)), (1, zI a1)], []⟩ ?_
   refine sqr cv hn ?_
   refine ro9 0 3 3 ⟨[(15, zB (x10 == a1)), (14, zI a1), (13, zI x10), (6, zI x10), (12, zI x10), (11, .rp (zI x10) 0), (10, zB (decide ((i1 : Int) < (a0.length : Int)))), (9, zI (i1 : Int)), (8, zI (a0.length : Int)), (7, .sl 0 (List.map encInt a0)), (1, zI a1)], []⟩ ?_
   rcases dich (x10 == a1) with hb18 | hb18
   · replace h := cond_t hb18 h
     refine ct hb18 ?_
     refine sqr cv hn ?_
     refine ro9 0 1 1 ⟨[(4, zB true), (15, zB (x10 == a1)), (14, zI a1), (13, zI x10), (6, zI x10), (12, zI x10), (11, .rp (zI x10) 0), (10, zB (decide ((i1 : Int) < (a0.length : Int)))), (9, zI (i1 : Int)), (8, zI (a0.length : Int)), (7, .sl 0 (List.map encInt a0)), (1, zI a1)], []⟩ ?_
     refine runs_ret ?_
     exact fin _ _ h (by kernel_rfl)
   · replace h := cond_f hb18 h
     refine cf hb18 ?_
     refine runs_skip ?_
     refine rg cv hn ?_
     refine ro9 0 2 2 ⟨[(9, zI ((i1 + 1 : Nat) : Int)), (16, zI ((i1 + 1 : Nat) : Int)), (15, zB (x10 == a1)), (14, zI a1), (13, zI x10), (6, zI x10), (12, zI x10), (11, .rp (zI x10) 0), (10, zB (decide ((i1 : Int) < (a0.length : Int)))), (9, zI (i1 : Int)), (8, zI (a0.length : Int)), (7, .sl 0 (List.map encInt a0)), (1, zI a1)], []⟩ ?_ (he := by rw [← hi1]; kernel_rfl)
     exact ⟨(t1, i1 + 1), Nat.lt_succ_self _, ⟨dnext hd1, h⟩, wre [9, 8, 7, 1] []⟩

set_option maxRecDepth 100000 in
set_option maxHeartbeats 2000000 in
theorem spec_l07Add_spec (a0 : (List Int)) (a1 : Int) (v0 : (List Int)) (h : spec_l07Add a0 a1 = some v0) : Ax.Spec Try.prog 91 none [.sl 0 (List.map encInt a0), zI a1] (.sl 1 (List.map encInt v0) : X) (.junk : X) := by
 let T1 : List (Nat × X) := [(0, .sl 0 (List.map encInt a0)), (1, zI a1)]
 refine walk0 (fn := Try.f91) (fun q0 : (List Int) => (.sl 1 (List.map encInt q0) : X)) (fun q0 : (List Int) => (.junk : X)) v0 ⟨T1, []⟩ Try.func91 rfl (by decide +kernel) fun Γ hn fin => ?_
 rw [spec_l07Add] at h
 refine sqr cv hn ?_
 refine ro9 0 1 1 ⟨(4, .sc (.slice none 0 0)) :: T1, []⟩ ?_
 refine sqr cv hn ?_
 refine rs 0 ⟨(10, .view 10 1 [] 0) :: (4, .sc (.slice none 0 0)) :: T1, [(10, ⟨1, 1, false, some (.sl 1 (List.map encInt []))⟩)]⟩ [∀ y ∈ (List.map encInt [] : List X), (X.cells y).length = tSize Try.prog 3] ⟨fmap fun _ => by kernel_rfl, trivial⟩ ?_
 refine ro9 1 1 1 ⟨(5, .view 10 1 [] 0) :: (10, .view 10 1 [] 0) :: (4, .sc (.slice none 0 0)) :: T1, [(10, ⟨1, 1, false, some (.sl 1 (List.map encInt []))⟩)]⟩ ?_
 refine runs_seq ?_
 refine sqr cv hn ?_
 refine ro9 0 3 3 ⟨(13, zI 0) :: (12, zI (a0.length : Int)) :: (11, .sl 0 (List.map encInt a0)) :: (5, .view 10 1 [] 0) :: (10, .view 10 1 [] 0) :: (4, .sc (.slice none 0 0)) :: T1, [(10, ⟨1, 1, false, some (.sl 1 (List.map encInt []))⟩)]⟩ ?_ (he := by rw [show (a0.length : Int) = ((List.map encInt a0).length : Int) from by rw [List.length_map]]; kernel_rfl)
 refine runs_block ?_
 refine runs_loopM (σ := List Int × Nat × (List Int)) (fun s => ⟨[(13, zI (s.2.1 : Int)), (12, zI (a0.length : Int)), (11, .sl 0 (List.map encInt a0)), (5, .view 5000005 0 [] 0), (0, .sl 0 (List.map encInt a0)), (1, zI a1)], [(5000005, ⟨0, 0, false, some (.sl 1 (List.map encInt s.2.2))⟩)]⟩) (fun s => s.1 = List.drop s.2.1 a0 ∧ spec_l07Add_l1 a0 a1 s.1 s.2.1 s.2.2 = some v0) (fun s => s.1.length) (a0, 0, []) ⟨rfl, h⟩ (wre [13, 12, 11, 5, 0, 1] [(5000005, 10, false)]) ?_
 rintro ⟨t1, i1, y36⟩ ⟨hd1, h⟩
 refine seq0 ⟨[(13, zI (i1 : Int)), (12, zI (a0.length : Int)), (11, .sl 0 (List.map encInt a0)), (5, .view 5000005 0 [] 0), (0, .sl 0 (List.map encInt a0)), (1, zI a1)], [(5000005, ⟨0, 0, false, some (.sl 1 (List.map encInt y36))⟩)]⟩ ?_
 refine runs_len 11 (es := List.map encInt a0) (by kernel_rfl) fun hl1 => ?_
 replace hl1 := len_of_map hl1
 cases t1 with
 | nil =>
   rw [spec_l07Add_l1] at h
   have hLn1 := dnil hd1
   refine sqr cv hn ?_
   refine ro9 0 1 1 ⟨[(14, zB (decide ((i1 : Int) < (a0.length : Int)))), (13, zI (i1 : Int)), (12, zI (a0.length : Int)), (11, .sl 0 (List.map encInt a0)), (5, .view 5000005 0 [] 0), (0, .sl 0 (List.map encInt a0)), (1, zI a1)], [(5000005, ⟨0, 0, false, some (.sl 1 (List.map encInt y36))⟩)]⟩ ?_
   refine runs_seq ?_
   refine cf hLn1 ?_
   refine runs_exit ?_
   repeat refine thenX_exit ?_
   refine block_here ?_
   refine sqr cv hn ?_
   refine ro 0 2 2 ⟨[(26, zI a1), (25, .view 5000005 0 [] 0), (14, zB (decide ((i1 : Int) < (a0.length : Int)))), (13, zI (i1 : Int)), (12, zI (a0.length : Int)), (11, .sl 0 (List.map encInt a0)), (5, .view 5000005 0 [] 0), (0, .sl 0 (List.map encInt a0)), (1, zI a1)], [(5000005, ⟨0, 0, false, some (.sl 1 (List.map encInt y36))⟩)]⟩ ?_
   refine rs 2 ⟨[(27, .view 27 1 [] 0), (26, zI a1), (25, .view 5000005 0 [] 0), (14, zB (decide ((i1 : Int) < (a0.length : Int)))), (13, zI (i1 : Int)), (12, zI (a0.length : Int)), (11, .sl 0 (List.map encInt a0)), (5, .view 5000005 0 [] 0), (0, .sl 0 (List.map encInt a0)), (1, zI a1)], [(27, ⟨1, 1, false, some (.sl 1 (List.map encInt [a1]))⟩), (5000005, ⟨0, 0, false, some (.sl 1 (List.map encInt y36))⟩)]⟩ [∀ y ∈ (List.map encInt [a1] : List X), (X.cells y).length = tSize Try.prog 3] ⟨fmap fun _ => by kernel_rfl, trivial⟩ ?_
   obtain ⟨hg48, h⟩ := gO_some h
   refine rs 3 ⟨[(28, .view 28 1 [] 0), (27, .view 27 1 [] 0), (26, zI a1), (25, .view 5000005 0 [] 0), (14, zB (decide ((i1 : Int) < (a0.length : Int)))), (13, zI (i1 : Int)), (12, zI (a0.length : Int)), (11, .sl 0 (List.map encInt a0)), (5, .view 5000005 0 [] 0), (0, .sl 0 (List.map encInt a0)), (1, zI a1)], [(28, ⟨1, 1, false, some (.sl 1 (List.map encInt (y36 ++ [a1])))⟩), (5000005, ⟨0, 1, false, some (.junk)⟩), (27, ⟨1, 1, false, some (.sl 1 (List.map encInt [a1]))⟩), (5000005, ⟨0, 0, false, some (.sl 1 (List.map encInt y36))⟩)]⟩ [((List.map encInt y36 : List X).length + (List.map encInt [a1] : List X).length) * tBytes Try.prog 3 ≤ 140737488355328 ∧ (List.map encInt y36 : List X).length + (List.map encInt [a1] : List X).length ≤ 140737488355328 ∧ (∀ y ∈ (List.map encInt y36 : List X), (X.cells y).length = tSize Try.prog 3) ∧ ∀ y ∈ (List.map encInt [a1] : List X), (X.cells y).length = tSize Try.prog 3] ⟨⟨(app_side (b := 8) (b2 := tBytes Try.prog 3) (f := encInt) (A := y36) (B := [a1]) (by kernel_rfl) hg48).1, (app_side (b := 8) (b2 := 8) (f := encInt) (A := y36) (B := [a1]) rfl hg48).2, fmap fun _ => by kernel_rfl, fmap fun _ => by kernel_rfl⟩, trivial⟩ ?_ (he := by rw [show List.map encInt (y36 ++ [a1]) = List.map encInt y36 ++ List.map encInt [a1] from List.map_append]; kernel_rfl)
   refine ro9 4 1 1 ⟨[(5, .view 28 1 [] 0), (28, .view 28 1 [] 0), (27, .view 27 1 [] 0), (26, zI a1), (25, .view 5000005 0 [] 0), (14, zB (decide ((i1 : Int) < (a0.length : Int)))), (13, zI (i1 : Int)), (12, zI (a0.length : Int)), (11, .sl 0 (List.map encInt a0)), (5, .view 5000005 0 [] 0), (0, .sl 0 (List.map encInt a0)), (1, zI a1)], [(28, ⟨1, 1, false, some (.sl 1 (List.map encInt (y36 ++ [a1])))⟩), (5000005, ⟨0, 1, false, some (.junk)⟩), (27, ⟨1, 1, false, some (.sl 1 (List.map encInt [a1]))⟩), (5000005, ⟨0, 0, false, some (.sl 1 (List.map encInt y36))⟩)]⟩ ?_
   refine runs_seq ?_
   let T3 : List (Nat × X) := [(5, .view 5000005 0 [] 0), (0, .sl 0 (List.map encInt a0)), (1, zI a1)]
   let B3 : List (Nat × Bx) := [(5000005, ⟨0, 0, false, some (.sl 1 (List.map encInt (y36 ++ [a1])))⟩)]
   refine wkr [5, 0, 1] [(5000005, 28, false)] ⟨T3, B3⟩ ?_
   refine sqr cv hn ?_
   refine ro9 0 3 3 ⟨(31, zI 0) :: (30, zI (a0.length : Int)) :: (29, .sl 0 (List.map encInt a0)) :: T3, B3⟩ ?_ (he := by rw [show (a0.length : Int) = ((List.map encInt a0).length : Int) from by rw [List.length_map]]; kernel_rfl)
   refine runs_block ?_
   refine runs_loopM (σ := List Int × Nat × (List Int)) (fun s => ⟨[(31, zI (s.2.1 : Int)), (30, zI (a0.length : Int)), (29, .sl 0 (List.map encInt a0)), (5, .view 5000005 0 [] 0), (1, zI a1)], [(5000005, ⟨0, 0, false, some (.sl 1 (List.map encInt s.2.2))⟩)]⟩) (fun s => s.1 = List.drop s.2.1 a0 ∧ spec_l07Add_l2 a1 s.1 s.2.1 s.2.2 = some v0) (fun s => s.1.length) (a0, 0, y36 ++ [a1]) ⟨rfl, h⟩ (wre [31, 30, 29, 5, 1] [(5000005, 5000005, false)]) ?_
   rintro ⟨t2, i2, y60⟩ ⟨hd2, h⟩
   refine seq0 ⟨[(31, zI (i2 : Int)), (30, zI (a0.length : Int)), (29, .sl 0 (List.map encInt a0)), (5, .view 5000005 0 [] 0), (1, zI a1)], [(5000005, ⟨0, 0, false, some (.sl 1 (List.map encInt y60))⟩)]⟩ ?_
   refine runs_len 29 (es := List.map encInt a0) (by kernel_rfl) fun hl2 => ?_
   replace hl2 := len_of_map hl2
   cases t2 with
   | nil =>
     rw [spec_l07Add_l2] at h
     have hLn2 := dnil hd2
     refine sqr cv hn ?_
     refine ro9 0 1 1 ⟨[(32, zB (decide ((i2 : Int) < (a0.length : Int)))), (31, zI (i2 : Int)), (30, zI (a0.length : Int)), (29, .sl 0 (List.map encInt a0)), (5, .view 5000005 0 [] 0), (1, zI a1)], [(5000005, ⟨0, 0, false, some (.sl 1 (List.map encInt y60))⟩)]⟩ ?_
     refine runs_seq ?_
     refine cf hLn2 ?_
     refine runs_exit ?_
     repeat refine thenX_exit ?_
     refine block_here ?_
     let B4 : List (Nat × Bx) := [(5000005, ⟨0, 0, false, some (.sl 1 (List.map encInt y60))⟩)]
     refine wkr [5] [(5000005, 5000005, false)] ⟨[(5, .view 5000005 0 [] 0)], B4⟩ ?_
     refine sqr cv hn ?_
     refine ro9 0 2 2 ⟨[(4, .view 5000005 0 [] 0), (43, .view 5000005 0 [] 0), (5, .view 5000005 0 [] 0)], B4⟩ ?_
     refine runs_ret ?_
     exact fin _ _ h (by kernel_rfl)
   | cons x20 t2 =>
     rw [spec_l07Add_l2] at h
     have hLc2 := dcons hd2
     have hx20 := dget hd2
     have hi2 := dinc hd2 hl2
     refine sqr cv hn ?_
     refine ro9 0 1 1 ⟨[(32, zB (decide ((i2 : Int) < (a0.length : Int)))), (31, zI (i2 : Int)), (30, zI (a0.length : Int)), (29, .sl 0 (List.map encInt a0)), (5, .view 5000005 0 [] 0), (1, zI a1)], [(5000005, ⟨0, 0, false, some (.sl 1 (List.map encInt y60))⟩)]⟩ ?_
     refine runs_seq ?_
     refine ct hLc2 ?_
     refine runs_skip ?_
     refine runs_seq ?_
     refine runs_block ?_
     refine sqr cv hn ?_
     refine rix 0 encInt 3 hx20 (ix_nn hx20) ⟨[(33, .rp (zI x20) 0), (32, zB (decide ((i2 : Int) < (a0.length : Int)))), (31, zI (i2 : Int)), (30, zI (a0.length : Int)), (29, .sl 0 (List.map encInt a0)), (5, .view 5000005 0 [] 0), (1, zI a1)], [(5000005, ⟨0, 0, false, some (.sl 1 (List.map encInt y60))⟩)]⟩ ?_
     refine ro9 1 2 2 ⟨[(9, zI x20), (34, zI x20), (33, .rp (zI x20) 0), (32, zB (decide ((i2 : Int) < (a0.length : Int)))), (31, zI (i2 : Int)), (30, zI (a0.length : Int)), (29, .sl 0 (List.map encInt a0)), (5, .view 5000005 0 [] 0), (1, zI a1)], [(5000005, ⟨0, 0, false, some (.sl 1 (List.map encInt y60))⟩)]⟩ ?_
     refine sqr cv hn ?_
     refine ro9 0 3 3 ⟨[(37, zB (decide (x20 > a1))), (36, zI a1), (35, zI x20), (9, zI x20), (34, zI x20), (33, .rp (zI x20) 0), (32, zB (decide ((i2 : Int) < (a0.length : Int)))), (31, zI (i2 : Int)), (30, zI (a0.length : Int)), (29, .sl 0 (List.map encInt a0)), (5, .view 5000005 0 [] 0), (1, zI a1)], [(5000005, ⟨0, 0, false, some (.sl 1 (List.map encInt y60))⟩)]⟩ ?_
     rcases dich (decide (x20 > a1)) with hb71 | hb71
     · replace h := cond_t hb71 h
       refine ct hb71 ?_
       refine rg cv hn ?_
       refine ro 0 2 2 ⟨[(39, zI x20), (38, .view 5000005 0 [] 0), (37, zB (decide (x20 > a1))), (36, zI a1), (35, zI x20), (9, zI x20), (34, zI x20), (33, .rp (zI x20) 0), (32, zB (decide ((i2 : Int) < (a0.length : Int)))), (31, zI (i2 : Int)), (30, zI (a0.length : Int)), (29, .sl 0 (List.map encInt a0)), (5, .view 5000005 0 [] 0), (1, zI a1)], [(5000005, ⟨0, 0, false, some (.sl 1 (List.map encInt y60))⟩)]⟩ ?_
       refine rs 2 ⟨[(40, .view 40 1 [] 0), (39, zI x20), (38, .view 5000005 0 [] 0), (37, zB (decide (x20 > a1))), (36, zI a1), (35, zI x20), (9, zI x20), (34, zI x20), (33, .rp (zI x20) 0), (32, zB (decide ((i2 : Int) < (a0.length : Int)))), (31, zI (i2 : Int)), (30, zI (a0.length : Int)), (29, .sl 0 (List.map encInt a0)), (5, .view 5000005 0 [] 0), (1, zI a1)], [(40, ⟨1, 1, false, some (.sl 1 (List.map encInt [x20]))⟩), (5000005, ⟨0, 0, false, some (.sl 1 (List.map encInt y60))⟩)]⟩ [∀ y ∈ (List.map encInt [x20] : List X), (X.cells y).length = tSize Try.prog 3] ⟨fmap fun _ => by kernel_rfl, trivial⟩ ?_
       obtain ⟨hg72, h⟩ := gO_some h
       refine rs 3 ⟨[(41, .view 41 1 [] 0), (40, .view 40 1 [] 0), (39, zI x20), (38, .view 5000005 0 [] 0), (37, zB (decide (x20 > a1))), (36, zI a1), (35, zI x20), (9, zI x20), (34, zI x20), (33, .rp (zI x20) 0), (32, zB (decide ((i2 : Int) < (a0.length : Int)))), (31, zI (i2 : Int)), (30, zI (a0.length : Int)), (29, .sl 0 (List.map encInt a0)), (5, .view 5000005 0 [] 0), (1, zI a1)], [(41, ⟨1, 1, false, some (.sl 1 (List.map encInt (y60 ++ [x20])))⟩), (5000005, ⟨0, 1, false, some (.junk)⟩), (40, ⟨1, 1, false, some (.sl 1 (List.map encInt [x20]))⟩), (5000005, ⟨0, 0, false, some (.sl 1 (List.map encInt y60))⟩)]⟩ [((List.map encInt y60 : List X).length + (List.map encInt [x20] : List X).length) * tBytes Try.prog 3 ≤ 140737488355328 ∧ (List.map encInt y60 : List X).length + (List.map encInt [x20] : List X).length ≤ 140737488355328 ∧ (∀ y ∈ (List.map encInt y60 : List X), (X.cells y).length = tSize Try.prog 3) ∧ ∀ y ∈ (List.map encInt [x20] : List X), (X.cells y).length = tSize Try.prog 3] ⟨⟨(app_side (b := 8) (b2 := tBytes Try.prog 3) (f := encInt) (A := y60) (B := [x20]) (by kernel_rfl) hg72).1, (app_side (b := 8) (b2 := 8) (f := encInt) (A := y60) (B := [x20]) rfl hg72).2, fmap fun _ => by kernel_rfl, fmap fun _ => by kernel_rfl⟩, trivial⟩ ?_ (he := by rw [show List.map encInt (y60 ++ [x20]) = List.map encInt y60 ++ List.map encInt [x20] from List.map_append]; kernel_rfl)
       refine ro9 4 1 1 ⟨[(5, .view 41 1 [] 0), (41, .view 41 1 [] 0), (40, .view 40 1 [] 0), (39, zI x20), (38, .view 5000005 0 [] 0), (37, zB (decide (x20 > a1))), (36, zI a1), (35, zI x20), (9, zI x20), (34, zI x20), (33, .rp (zI x20) 0), (32, zB (decide ((i2 : Int) < (a0.length : Int)))), (31, zI (i2 : Int)), (30, zI (a0.length : Int)), (29, .sl 0 (List.map encInt a0)), (5, .view 5000005 0 [] 0), (1, zI a1)], [(41, ⟨1, 1, false, some (.sl 1 (List.map encInt (y60 ++ [x20])))⟩), (5000005, ⟨0, 1, false, some (.junk)⟩), (40, ⟨1, 1, false, some (.sl 1 (List.map encInt [x20]))⟩), (5000005, ⟨0, 0, false, some (.sl 1 (List.map encInt y60))⟩)]⟩ ?_
       refine rg cv hn ?_
       refine ro9 0 2 2 ⟨[(31, zI ((i2 + 1 : Nat) : Int)), (42, zI ((i2 + 1 : Nat) : Int)), (5, .view 41 1 [] 0), (41, .view 41 1 [] 0), (40, .view 40 1 [] 0), (39, zI x20), (38, .view 5000005 0 [] 0), (37, zB (decide (x20 > a1))), (36, zI a1), (35, zI x20), (9, zI x20), (34, zI x20), (33, .rp (zI x20) 0), (32, zB (decide ((i2 : Int) < (a0.length : Int)))), (31, zI (i2 : Int)), (30, zI (a0.length : Int)), (29, .sl 0 (List.map encInt a0)), (5, .view 5000005 0 [] 0), (1, zI a1)], [(41, ⟨1, 1, false, some (.sl 1 (List.map encInt (y60 ++ [x20])))⟩), (5000005, ⟨0, 1, false, some (.junk)⟩), (40, ⟨1, 1, false, some (.sl 1 (List.map encInt [x20]))⟩), (5000005, ⟨0, 0, false, some (.sl 1 (List.map encInt y60))⟩)]⟩ ?_ (he := by rw [← hi2]; kernel_rfl)
       exact ⟨(t2, i2 + 1, y60 ++ [x20]), Nat.lt_succ_self _, ⟨dnext hd2, h⟩, wre [31, 30, 29, 5, 1] [(5000005, 41, false)]⟩
     · replace h := cond_f hb71 h
       refine cf hb71 ?_
       refine runs_skip ?_
       refine rg cv hn ?_
       refine ro9 0 2 2 ⟨[(31, zI ((i2 + 1 : Nat) : Int)), (42, zI ((i2 + 1 : Nat) : Int)), (37, zB (decide (x20 > a1))), (36, zI a1), (35, zI x20), (9, zI x20), (34, zI x20), (33, .rp (zI x20) 0), (32, zB (decide ((i2 : Int) < (a0.length : Int)))), (31, zI (i2 : Int)), (30, zI (a0.length : Int)), (29, .sl 0 (List.map encInt a0)), (5, .view 5000005 0 [] 0), (1, zI a1)], [(5000005, ⟨0, 0, false, some (.sl 1 (List.map encInt y60))⟩)]⟩ ?_ (he := by rw [← hi2]; kernel_rfl)
       exact ⟨(t2, i2 + 1, y60), Nat.lt_succ_self _, ⟨dnext hd2, h⟩, wre [31, 30, 29, 5, 1] [(5000005, 5000005, false)]⟩
 | cons x10 t1 =>
   rw [spec_l07Add_l1] at h
   have hLc1 := dcons hd1
   have hx10 := dget hd1
   have hi1 := dinc hd1 hl1
   refine sqr cv hn ?_
   refine ro9 0 1 1 ⟨[(14, zB (decide ((i1 : Int) < (a0.length : Int)))), (13, zI (i1 : Int)), (12, zI (a0.length : Int)), (11, .sl 0 (List.map encInt a0)), (5, .view 5000005 0 [] 0), (0, .sl 0 (List.map encInt a0)), (1, zI a1)], [(5000005, ⟨0, 0, false, some (.sl 1 (List.map encInt y36))⟩)]⟩ ?_
   refine runs_seq ?_
   refine ct hLc1 ?_
   refine runs_skip ?_
   refine runs_seq ?_
   refine runs_block ?_
   refine sqr cv hn ?_
   refine rix 0 encInt 3 hx10 (ix_nn hx10) ⟨[(15, .rp (zI x10) 0), (14, zB (decide ((i1 : Int) < (a0.length : Int)))), (13, zI (i1 : Int)), (12, zI (a0.length : Int)), (11, .sl 0 (List.map encInt a0)), (5, .view 5000005 0 [] 0), (0, .sl 0 (List.map encInt a0)), (1, zI a1)], [(5000005, ⟨0, 0, false, some (.sl 1 (List.map encInt y36))⟩)]⟩ ?_
   refine ro9 1 2 2 ⟨[(7, zI x10), (16, zI x10), (15, .rp (zI x10) 0), (14, zB (decide ((i1 : Int) < (a0.length : Int)))), (13, zI (i1 : Int)), (12, zI (a0.length : Int)), (11, .sl 0 (List.map encInt a0)), (5, .view 5000005 0 [] 0), (0, .sl 0 (List.map encInt a0)), (1, zI a1)], [(5000005, ⟨0, 0, false, some (.sl 1 (List.map encInt y36))⟩)]⟩ ?_
   refine sqr cv hn ?_
   refine ro9 0 3 3 ⟨[(19, zB (decide (x10 < a1))), (18, zI a1), (17, zI x10), (7, zI x10), (16, zI x10), (15, .rp (zI x10) 0), (14, zB (decide ((i1 : Int) < (a0.length : Int)))), (13, zI (i1 : Int)), (12, zI (a0.length : Int)), (11, .sl 0 (List.map encInt a0)), (5, .view 5000005 0 [] 0), (0, .sl 0 (List.map encInt a0)), (1, zI a1)], [(5000005, ⟨0, 0, false, some (.sl 1 (List.map encInt y36))⟩)]⟩ ?_
   rcases dich (decide (x10 < a1)) with hb73 | hb73
   · replace h := cond_t hb73 h
     refine ct hb73 ?_
     refine rg cv hn ?_
     refine ro 0 2 2 ⟨[(21, zI x10), (20, .view 5000005 0 [] 0), (19, zB (decide (x10 < a1))), (18, zI a1), (17, zI x10), (7, zI x10), (16, zI x10), (15, .rp (zI x10) 0), (14, zB (decide ((i1 : Int) < (a0.length : Int)))), (13, zI (i1 : Int)), (12, zI (a0.length : Int)), (11, .sl 0 (List.map encInt a0)), (5, .view 5000005 0 [] 0), (0, .sl 0 (List.map encInt a0)), (1, zI a1)], [(5000005, ⟨0, 0, false, some (.sl 1 (List.map encInt y36))⟩)]⟩ ?_
     refine rs 2 ⟨[(22, .view 22 1 [] 0), (21, zI x10), (20, .view 5000005 0 [] 0), (19, zB (decide (x10 < a1))), (18, zI a1), (17, zI x10), (7, zI x10), (16, zI x10), (15, .rp (zI x10) 0), (14, zB (decide ((i1 : Int) < (a0.length : Int)))), (13, zI (i1 : Int)), (12, zI (a0.length : Int)), (11, .sl 0 (List.map encInt a0)), (5, .view 5000005 0 [] 0), (0, .sl 0 (List.map encInt a0)), (1, zI a1)], [(22, ⟨1, 1, false, some (.sl 1 (List.map encInt [x10]))⟩), (5000005, ⟨0, 0, false, some (.sl 1 (List.map encInt y36))⟩)]⟩ [∀ y ∈ (List.map encInt [x10] : List X), (X.cells y).length = tSize Try.prog 3] ⟨fmap fun _ => by kernel_rfl, trivial⟩ ?_
     obtain ⟨hg74, h⟩ := gO_some h
     refine rs 3 ⟨[(23, .view 23 1 [] 0), (22, .view 22 1 [] 0), (21, zI x10), (20, .view 5000005 0 [] 0), (19, zB (decide (x10 < a1))), (18, zI a1), (17, zI x10), (7, zI x10), (16, zI x10), (15, .rp (zI x10) 0), (14, zB (decide ((i1 : Int) < (a0.length : Int)))), (13, zI (i1 : Int)), (12, zI (a0.length : Int)), (11, .sl 0 (List.map encInt a0)), (5, .view 5000005 0 [] 0), (0, .sl 0 (List.map encInt a0)), (1, zI a1)], [(23, ⟨1, 1, false, some (.sl 1 (List.map encInt (y36 ++ [x10])))⟩), (5000005, ⟨0, 1, false, some (.junk)⟩), (22, ⟨1, 1, false, some (.sl 1 (List.map encInt [x10]))⟩), (5000005, ⟨0, 0, false, some (.sl 1 (List.map encInt y36))⟩)]⟩ [((List.map encInt y36 : List X).length + (List.map encInt [x10] : List X).length) * tBytes Try.prog 3 ≤ 140737488355328 ∧ (List.map encInt y36 : List X).length + (List.map encInt [x10] : List X).length ≤ 140737488355328 ∧ (∀ y ∈ (List.map encInt y36 : List X), (X.cells y).length = tSize Try.prog 3) ∧ ∀ y ∈ (List.map encInt [x10] : List X), (X.cells y).length = tSize Try.prog 3] ⟨⟨(app_side (b := 8) (b2 := tBytes Try.prog 3) (f := encInt) (A := y36) (B := [x10]) (by kernel_rfl) hg74).1, (app_side (b := 8) (b2 := 8) (f := encInt) (A := y36) (B := [x10]) rfl hg74).2, fmap fun _ => by kernel_rfl, fmap fun _ => by kernel_rfl⟩, trivial⟩ ?_ (he := by rw [show List.map encInt (y36 ++ [x10]) = List.map encInt y36 ++ List.map encInt [x10] from List.map_append]; kernel_rfl)
     refine ro9 4 1 1 ⟨[(5, .view 23 1 [] 0), (23, .view 23 1 [] 0), (22, .view 22 1 [] 0), (21, zI x10), (20, .view 5000005 0 [] 0), (19, zB (decide (x10 < a1))), (18, zI a1), (17, zI x10), (7, zI x10), (16, zI x10), (15, .rp (zI x10) 0), (14, zB (decide ((i1 : Int) < (a0.length : Int)))), (13, zI (i1 : Int)), (12, zI (a0.length : Int)), (11, .sl 0 (List.map encInt a0)), (5, .view 5000005 0 [] 0), (0, .sl 0 (List.map encInt a0)), (1, zI a1)], [(23, ⟨1, 1, false, some (.sl 1 (List.map encInt (y36 ++ [x10])))⟩), (5000005, ⟨0, 1, false, some (.junk)⟩), (22, ⟨1, 1, false, some (.sl 1 (List.map encInt [x10]))⟩), (5000005, ⟨0, 0, false, some (.sl 1 (List.map encInt y36))⟩)]⟩ ?_
     refine rg cv hn ?_
     refine ro9 0 2 2 ⟨[(13, zI ((i1 + 1 : Nat) : Int)), (24, zI ((i1 + 1 : Nat) : Int)), (5, .view 23 1 [] 0), (23, .view 23 1 [] 0), (22, .view 22 1 [] 0), (21, zI x10), (20, .view 5000005 0 [] 0), (19, zB (decide (x10 < a1))), (18, zI a1), (17, zI x10), (7, zI x10), (16, zI x10), (15, .rp (zI x10) 0), (14, zB (decide ((i1 : Int) < (a0.length : Int)))), (13, zI (i1 : Int)), (12, zI (a0.length : Int)), (11, .sl 0 (List.map encInt a0)), (5, .view 5000005 0 [] 0), (0, .sl 0 (List.map encInt a0)), (1, zI a1)], [(23, ⟨1, 1, false, some (.sl 1 (List.map encInt (y36 ++ [x10])))⟩), (5000005, ⟨0, 1, false, some (.junk)⟩), (22, ⟨1, 1, false, some (.sl 1 (List.map encInt [x10]))⟩), (5000005, ⟨0, 0, false, some (.sl 1 (List.map encInt y36))⟩)]⟩ ?_ (he := by rw [← hi1]; kernel_rfl)
     exact ⟨(t1, i1 + 1, y36 ++ [x10]), Nat.lt_succ_self _, ⟨dnext hd1, h⟩, wre [13, 12, 11, 5, 0, 1] [(5000005, 23, false)]⟩
   · replace h := cond_f hb73 h
     refine cf hb73 ?_
     refine runs_skip ?_
     refine rg cv hn ?_
     refine ro9 0 2 2 ⟨[(13, zI ((i1 + 1 : Nat) : Int)), (24, zI ((i1 + 1 : Nat) : Int)), (19, zB (decide (x10 < a1))), (18, zI a1), (17, zI x10), (7, zI x10), (16, zI x10), (15, .rp (zI x10) 0), (14, zB (decide ((i1 : Int) < (a0.length : Int)))), (13, zI (i1 : Int)), (12, zI (a0.length : Int)), (11, .sl 0 (List.map encInt a0)), (5, .view 5000005 0 [] 0), (0, .sl 0 (List.map encInt a0)), (1, zI a1)], [(5000005, ⟨0, 0, false, some (.sl 1 (List.map encInt y36))⟩)]⟩ ?_ (he := by rw [← hi1]; kernel_rfl)
     exact ⟨(t1, i1 + 1, y36), Nat.lt_succ_self _, ⟨dnext hd1, h⟩, wre [13, 12, 11, 5, 0, 1] [(5000005, 5000005, false)]⟩

set_option maxRecDepth 100000 in
set_option maxHeartbeats 2000000 in
theorem spec_PropHear_spec (a0 : SProp) (a1 : Int) (a2 : Int) (a3 : Int) (v0 : SProp) (h : spec_PropHear a0 a1 a2 a3 = some v0) : Ax.Spec Try.prog 48 none [encProp0 a0, zI a1, zI a2, zI a3] (encProp1 v0 : X) (.junk : X) := by
 let T1 : List (Nat × X) := [(0, encProp0 a0), (1, zI a1), (2, zI a2), (3, zI a3)]
 refine walk0 (fn := Try.f48) (fun q0 : SProp => (encProp1 q0 : X)) (fun q0 : SProp => (.junk : X)) v0 ⟨T1, []⟩ Try.func48 rfl (by decide +kernel) fun Γ hn fin => ?_
 rw [spec_PropHear] at h
 refine sqr cv hn ?_
 refine ro9 0 2 2 ⟨(8, .ptr 8 1 0) :: (4, .ptr 4 1 0) :: T1, [(8, ⟨1, 1, true, some (.agg [zI 0, zI 0, .sl 1 (List.map encInt []), zI 0, .sl 1 (List.map encInt [])])⟩), (4, ⟨1, 1, true, some (encProp0 a0)⟩)]⟩ ?_
 refine sqr cv hn ?_
 refine ro 0 1 1 ⟨(10, encProp0 a0) :: (8, .ptr 8 1 0) :: (4, .ptr 4 1 0) :: T1, [(8, ⟨1, 1, true, some (.agg [zI 0, zI 0, .sl 1 (List.map encInt []), zI 0, .sl 1 (List.map encInt [])])⟩), (4, ⟨1, 1, true, some (encProp0 a0)⟩)]⟩ ?_
 obtain ⟨v3, hv4, h⟩ := bindO h
 refine rc 1 ⟨(11, .agg [zI v3.fBal, zI v3.fVal, .view 11 1 [] 0, zI v3.fBest, .view 10011 1 [] 0]) :: (10, encProp0 a0) :: (8, .ptr 8 1 0) :: (4, .ptr 4 1 0) :: T1, [(10011, ⟨1, 1, false, some (.sl 1 (List.map encInt v3.fGot))⟩), (11, ⟨1, 1, false, some (.sl 1 (List.map encInt v3.fFrom))⟩), (8, ⟨1, 1, true, some (.agg [zI 0, zI 0, .sl 1 (List.map encInt []), zI 0, .sl 1 (List.map encInt [])])⟩), (4, ⟨1, 1, true, some (encProp0 a0)⟩)]⟩ (spec_l07Copy_spec a0 v3 hv4) ?_
 refine ro9 2 2 2 ⟨(9, .ptr 9 1 0) :: (11, .agg [zI v3.fBal, zI v3.fVal, .view 11 1 [] 0, zI v3.fBest, .view 10011 1 [] 0]) :: (10, encProp0 a0) :: (8, .ptr 8 1 0) :: (4, .ptr 4 1 0) :: T1, [(9, ⟨1, 2, true, some (encProp1 v3)⟩), (10011, ⟨1, 2, false, some (.junk)⟩), (11, ⟨1, 2, false, some (.junk)⟩), (9, ⟨1, 1, true, some (.agg [zI 0, zI 0, .sl 1 (List.map encInt []), zI 0, .sl 1 (List.map encInt [])])⟩), (10011, ⟨1, 1, false, some (.sl 1 (List.map encInt v3.fGot))⟩), (11, ⟨1, 1, false, some (.sl 1 (List.map encInt v3.fFrom))⟩), (8, ⟨1, 1, true, some (.agg [zI 0, zI 0, .sl 1 (List.map encInt []), zI 0, .sl 1 (List.map encInt [])])⟩), (4, ⟨1, 1, true, some (encProp0 a0)⟩)]⟩ ?_
 refine runs_seqJ (σ := Unit) (fun s => ⟨[(1, zI a1), (2, zI a2), (3, zI a3), (4, .ptr 4 0 0), (8, .ptr 8 0 0), (9, .ptr 9 0 0)], [(4, ⟨0, 0, true, some (encProp0 a0)⟩), (8, ⟨0, 0, true, some (.agg [zI 0, zI 0, .sl 1 (List.map encInt []), zI 0, .sl 1 (List.map encInt [])])⟩), (9, ⟨0, 0, true, some (encProp1 v3)⟩)]⟩) (fun s => spec_PropHear_j1 a0 a1 a2 a3 v3 = some v0) ?_ ?_
 · rintro _ h
   rw [spec_PropHear_j1] at h
   let T8 : List (Nat × X) := [(1, zI a1), (2, zI a2), (3, zI a3), (4, .ptr 4 0 0), (8, .ptr 8 0 0), (9, .ptr 9 0 0)]
   let B8 : List (Nat × Bx) := [(4, ⟨0, 0, true, some (encProp0 a0)⟩), (8, ⟨0, 0, true, some (.agg [zI 0, zI 0, .sl 1 (List.map encInt []), zI 0, .sl 1 (List.map encInt [])])⟩), (9, ⟨0, 0, true, some (encProp1 v3)⟩)]
   refine seq0 ⟨T8, B8⟩ ?_
   refine sqr cv hn ?_
   refine ro 0 3 3 ⟨(46, zI a1) :: (45, .sl 0 (List.map encInt a0.fFrom)) :: (44, .ptr 4 0 2) :: T8, B8⟩ ?_
   obtain ⟨v23, hv24, h⟩ := bindO h
   refine rc 3 ⟨(47, .view 47 1 [] 0) :: (46, zI a1) :: (45, .sl 0 (List.map encInt a0.fFrom)) :: (44, .ptr 4 0 2) :: T8, (47, ⟨1, 1, false, some (.sl 1 (List.map encInt v23))⟩) :: B8⟩ (spec_l07Add_spec a0.fFrom a1 v23 hv24) ?_
   refine ro9 4 2 2 ⟨(48, .ptr 9 0 2) :: (47, .view 47 1 [] 0) :: (46, zI a1) :: (45, .sl 0 (List.map encInt a0.fFrom)) :: (44, .ptr 4 0 2) :: T8, (9, ⟨0, 1, true, some (.agg [zI v3.fBal, zI v3.fVal, .sl 1 (List.map encInt v23), zI v3.fBest, .sl 1 (List.map encInt v3.fGot)])⟩) :: (47, ⟨1, 2, false, some (.junk)⟩) :: (47, ⟨1, 1, false, some (.sl 1 (List.map encInt v23))⟩) :: B8⟩ ?_
   refine runs_seq ?_
   let T10 : List (Nat × X) := [(2, zI a2), (3, zI a3), (4, .ptr 4 0 0), (8, .ptr 8 0 0), (9, .ptr 9 0 0)]
   let B10 : List (Nat × Bx) := [(4, ⟨0, 0, true, some (encProp0 a0)⟩), (8, ⟨0, 0, true, some (.agg [zI 0, zI 0, .sl 1 (List.map encInt []), zI 0, .sl 1 (List.map encInt [])])⟩), (9, ⟨0, 0, true, some (.agg [zI v3.fBal, zI v3.fVal, .sl 1 (List.map encInt v23), zI v3.fBest, .sl 1 (List.map encInt v3.fGot)])⟩)]
   refine wkr [2, 3, 4, 8, 9] [(4, 4, false), (8, 8, false), (9, 9, false)] ⟨T10, B10⟩ ?_
   refine sqr cv hn ?_
   refine ro9 0 4 4 ⟨(52, zB (decide (a2 > a0.fBest))) :: (51, zI a0.fBest) :: (50, .ptr 4 0 3) :: (49, zI a2) :: T10, B10⟩ ?_
   rcases dich (decide (a2 > a0.fBest)) with hb25 | hb25
   · replace h := cond_t hb25 h
     refine ct hb25 ?_
     let T11 : List (Nat × X) := [(2, zI a2), (3, zI a3), (8, .ptr 8 0 0), (9, .ptr 9 0 0)]
     let B11 : List (Nat × Bx) := [(8, ⟨0, 0, true, some (.agg [zI 0, zI 0, .sl 1 (List.map encInt []), zI 0, .sl 1 (List.map encInt [])])⟩), (9, ⟨0, 0, true, some (.agg [zI v3.fBal, zI v3.fVal, .sl 1 (List.map encInt v23), zI v3.fBest, .sl 1 (List.map encInt v3.fGot)])⟩)]
     refine wkr [2, 3, 8, 9] [(8, 8, false), (9, 9, false)] ⟨T11, B11⟩ ?_
     refine sqr cv hn ?_
     refine ro9 0 3 3 ⟨(54, .ptr 9 0 3) :: (53, zI a2) :: T11, (9, ⟨0, 0, true, some (.agg [zI v3.fBal, zI v3.fVal, .sl 1 (List.map encInt v23), zI a2, .sl 1 (List.map encInt v3.fGot)])⟩) :: B11⟩ ?_
     refine rg cv hn ?_
     refine ro9 0 3 3 ⟨(56, .ptr 9 0 1) :: (55, zI a3) :: (54, .ptr 9 0 3) :: (53, zI a2) :: T11, (9, ⟨0, 0, true, some (.agg [zI v3.fBal, zI a3, .sl 1 (List.map encInt v23), zI a2, .sl 1 (List.map encInt v3.fGot)])⟩) :: (9, ⟨0, 0, true, some (.agg [zI v3.fBal, zI v3.fVal, .sl 1 (List.map encInt v23), zI a2, .sl 1 (List.map encInt v3.fGot)])⟩) :: B11⟩ ?_
     let T12 : List (Nat × X) := [(8, .ptr 8 0 0), (9, .ptr 9 0 0)]
     let B12 : List (Nat × Bx) := [(8, ⟨0, 0, true, some (.agg [zI 0, zI 0, .sl 1 (List.map encInt []), zI 0, .sl 1 (List.map encInt [])])⟩), (9, ⟨0, 0, true, some (.agg [zI v3.fBal, zI a3, .sl 1 (List.map encInt v23), zI a2, .sl 1 (List.map encInt v3.fGot)])⟩)]
     refine wkr [8, 9] [(8, 8, false), (9, 9, false)] ⟨T12, B12⟩ ?_
     refine sqr cv hn ?_
     refine ro9 0 2 2 ⟨(57, .agg [zI v3.fBal, zI a3, .view 9 0 [] 2, zI a2, .view 9 0 [] 4]) :: T12, (8, ⟨0, 1, true, some (.agg [zI v3.fBal, zI a3, .sl 1 (List.map encInt v23), zI a2, .sl 1 (List.map encInt v3.fGot)])⟩) :: (9, ⟨0, 2, true, some (.agg [zI v3.fBal, zI a3, .junk, zI a2, .junk])⟩) :: (9, ⟨0, 1, true, some (.agg [zI v3.fBal, zI a3, .junk, zI a2, .sl 1 (List.map encInt v3.fGot)])⟩) :: B12⟩ ?_
     refine runs_ret ?_
     exact fin _ _ h (by kernel_rfl)
   · replace h := cond_f hb25 h
     refine cf hb25 ?_
     refine runs_skip ?_
     let T13 : List (Nat × X) := [(8, .ptr 8 0 0), (9, .ptr 9 0 0)]
     let B13 : List (Nat × Bx) := [(8, ⟨0, 0, true, some (.agg [zI 0, zI 0, .sl 1 (List.map encInt []), zI 0, .sl 1 (List.map encInt [])])⟩), (9, ⟨0, 0, true, some (.agg [zI v3.fBal, zI v3.fVal, .sl 1 (List.map encInt v23), zI v3.fBest, .sl 1 (List.map encInt v3.fGot)])⟩)]
     refine wkr [8, 9] [(8, 8, false), (9, 9, false)] ⟨T13, B13⟩ ?_
     refine sqr cv hn ?_
     refine ro9 0 2 2 ⟨(57, .agg [zI v3.fBal, zI v3.fVal, .view 9 0 [] 2, zI v3.fBest, .view 9 0 [] 4]) :: T13, (8, ⟨0, 1, true, some (.agg [zI v3.fBal, zI v3.fVal, .sl 1 (List.map encInt v23), zI v3.fBest, .sl 1 (List.map encInt v3.fGot)])⟩) :: (9, ⟨0, 2, true, some (.agg [zI v3.fBal, zI v3.fVal, .junk, zI v3.fBest, .junk])⟩) :: (9, ⟨0, 1, true, some (.agg [zI v3.fBal, zI v3.fVal, .junk, zI v3.fBest, .sl 1 (List.map encInt v3.fGot)])⟩) :: B13⟩ ?_
     refine runs_ret ?_
     exact fin _ _ h (by kernel_rfl)
 · skip
   let T14 : List (Nat × X) := [(9, .ptr 9 0 0), (8, .ptr 8 0 0), (4, .ptr 4 0 0), (1, zI a1), (2, zI a2), (3, zI a3)]
   let B14 : List (Nat × Bx) := [(9, ⟨0, 0, true, some (encProp1 v3)⟩), (8, ⟨0, 0, true, some (.agg [zI 0, zI 0, .sl 1 (List.map encInt []), zI 0, .sl 1 (List.map encInt [])])⟩), (4, ⟨0, 0, true, some (encProp0 a0)⟩)]
   refine wkr [9, 8, 4, 1, 2, 3] [(9, 9, false), (8, 8, false), (4, 4, false)] ⟨T14, B14⟩ ?_
   refine sqr cv hn ?_
   refine ro 0 1 1 ⟨(12, encProp0 a0) :: T14, B14⟩ ?_
   obtain ⟨v26, hv27, h⟩ := bindO h
   refine rc 1 ⟨(13, zB v26) :: (12, encProp0 a0) :: T14, B14⟩ (spec_PropOk_spec a0 v26 hv27) ?_
   refine ro 2 2 2 ⟨(15, zB (!v26)) :: (14, zB (!v26)) :: (13, zB v26) :: (12, encProp0 a0) :: T14, B14⟩ ?_
   rcases dich (!v26) with hb28 | hb28
   · replace h := cond_t hb28 h
     refine rl 15 true hb28 ?_
     refine ro9 4 27 7 ⟨(42, zB true) :: (41, .tup []) :: (40, .tup []) :: (39, .tup []) :: (38, .tup []) :: (37, .tup []) :: (36, .tup []) :: (35, .tup []) :: (34, zB true) :: (33, zB true) :: (32, .tup []) :: (31, .tup []) :: (30, .tup []) :: (29, .tup []) :: (28, .tup []) :: (27, .tup []) :: (26, zB true) :: (25, zB true) :: (24, .tup []) :: (23, .tup []) :: (22, .tup []) :: (21, .tup []) :: (20, zB true) :: (19, zB true) :: (18, .tup []) :: (17, .tup []) :: (16, .tup []) :: (15, zB true) :: (14, zB (!v26)) :: (13, zB v26) :: (12, encProp0 a0) :: T14, B14⟩ ?_
     refine cT ?_
     let T15 : List (Nat × X) := [(9, .ptr 9 0 0), (8, .ptr 8 0 0), (4, .ptr 4 0 0), (1, zI a1), (2, zI a2), (3, zI a3)]
     let B15 : List (Nat × Bx) := [(9, ⟨0, 0, true, some (encProp1 v3)⟩), (8, ⟨0, 0, true, some (.agg [zI 0, zI 0, .sl 1 (List.map encInt []), zI 0, .sl 1 (List.map encInt [])])⟩), (4, ⟨0, 0, true, some (encProp0 a0)⟩)]
     refine wkr [9, 8, 4, 1, 2, 3] [(9, 9, false), (8, 8, false), (4, 4, false)] ⟨T15, B15⟩ ?_
     refine sqr cv hn ?_
     refine ro9 0 2 2 ⟨(43, .agg [zI v3.fBal, zI v3.fVal, .view 9 0 [] 2, zI v3.fBest, .view 9 0 [] 4]) :: T15, (8, ⟨0, 1, true, some (encProp1 v3)⟩) :: (9, ⟨0, 2, true, some (.agg [zI v3.fBal, zI v3.fVal, .junk, zI v3.fBest, .junk])⟩) :: (9, ⟨0, 1, true, some (.agg [zI v3.fBal, zI v3.fVal, .junk, zI v3.fBest, .sl 1 (List.map encInt v3.fGot)])⟩) :: B15⟩ ?_
     refine runs_ret ?_
     exact fin _ _ h (by kernel_rfl)
   · replace h := cond_f hb28 h
     refine rl 15 false hb28 ?_
     refine ro 4 1 1 ⟨(16, zI a1) :: (15, zB false) :: (14, zB (!v26)) :: (13, zB v26) :: (12, encProp0 a0) :: T14, B14⟩ ?_
     obtain ⟨v29, hv30, h⟩ := bindO h
     refine rc 5 ⟨(17, zB v29) :: (16, zI a1) :: (15, zB false) :: (14, zB (!v26)) :: (13, zB v26) :: (12, encProp0 a0) :: T14, B14⟩ (spec_l07Node_spec a1 v29 hv30) ?_
     refine ro 6 3 3 ⟨(20, zB (!v29)) :: (19, zB (!v29)) :: (18, zB (!v29)) :: (17, zB v29) :: (16, zI a1) :: (15, zB false) :: (14, zB (!v26)) :: (13, zB v26) :: (12, encProp0 a0) :: T14, B14⟩ ?_
     rcases dich (!v29) with hb31 | hb31
     · replace h := cond_t hb31 h
       refine rl 20 true hb31 ?_
       refine ro9 9 22 5 ⟨(42, zB true) :: (41, .tup []) :: (40, .tup []) :: (39, .tup []) :: (38, .tup []) :: (37, .tup []) :: (36, .tup []) :: (35, .tup []) :: (34, zB true) :: (33, zB true) :: (32, .tup []) :: (31, .tup []) :: (30, .tup []) :: (29, .tup []) :: (28, .tup []) :: (27, .tup []) :: (26, zB true) :: (25, zB true) :: (24, .tup []) :: (23, .tup []) :: (22, .tup []) :: (21, .tup []) :: (20, zB true) :: (19, zB (!v29)) :: (18, zB (!v29)) :: (17, zB v29) :: (16, zI a1) :: (15, zB false) :: (14, zB (!v26)) :: (13, zB v26) :: (12, encProp0 a0) :: T14, B14⟩ ?_
       refine cT ?_
       let T16 : List (Nat × X) := [(9, .ptr 9 0 0), (8, .ptr 8 0 0), (4, .ptr 4 0 0), (1, zI a1), (2, zI a2), (3, zI a3)]
       let B16 : List (Nat × Bx) := [(9, ⟨0, 0, true, some (encProp1 v3)⟩), (8, ⟨0, 0, true, some (.agg [zI 0, zI 0, .sl 1 (List.map encInt []), zI 0, .sl 1 (List.map encInt [])])⟩), (4, ⟨0, 0, true, some (encProp0 a0)⟩)]
       refine wkr [9, 8, 4, 1, 2, 3] [(9, 9, false), (8, 8, false), (4, 4, false)] ⟨T16, B16⟩ ?_
       refine sqr cv hn ?_
       refine ro9 0 2 2 ⟨(43, .agg [zI v3.fBal, zI v3.fVal, .view 9 0 [] 2, zI v3.fBest, .view 9 0 [] 4]) :: T16, (8, ⟨0, 1, true, some (encProp1 v3)⟩) :: (9, ⟨0, 2, true, some (.agg [zI v3.fBal, zI v3.fVal, .junk, zI v3.fBest, .junk])⟩) :: (9, ⟨0, 1, true, some (.agg [zI v3.fBal, zI v3.fVal, .junk, zI v3.fBest, .sl 1 (List.map encInt v3.fGot)])⟩) :: B16⟩ ?_
       refine runs_ret ?_
       exact fin _ _ h (by kernel_rfl)
     · replace h := cond_f hb31 h
       refine rl 20 false hb31 ?_
       refine ro 9 3 3 ⟨(23, zI a1) :: (22, .sl 0 (List.map encInt a0.fFrom)) :: (21, .ptr 4 0 2) :: (20, zB false) :: (19, zB (!v29)) :: (18, zB (!v29)) :: (17, zB v29) :: (16, zI a1) :: (15, zB false) :: (14, zB (!v26)) :: (13, zB v26) :: (12, encProp0 a0) :: T14, B14⟩ ?_
       obtain ⟨v32, hv33, h⟩ := bindO h
       refine rc 12 ⟨(24, zB v32) :: (23, zI a1) :: (22, .sl 0 (List.map encInt a0.fFrom)) :: (21, .ptr 4 0 2) :: (20, zB false) :: (19, zB (!v29)) :: (18, zB (!v29)) :: (17, zB v29) :: (16, zI a1) :: (15, zB false) :: (14, zB (!v26)) :: (13, zB v26) :: (12, encProp0 a0) :: T14, B14⟩ (spec_l01Has_spec a0.fFrom a1 v32 hv33) ?_
       refine ro 13 2 2 ⟨(26, zB v32) :: (25, zB v32) :: (24, zB v32) :: (23, zI a1) :: (22, .sl 0 (List.map encInt a0.fFrom)) :: (21, .ptr 4 0 2) :: (20, zB false) :: (19, zB (!v29)) :: (18, zB (!v29)) :: (17, zB v29) :: (16, zI a1) :: (15, zB false) :: (14, zB (!v26)) :: (13, zB v26) :: (12, encProp0 a0) :: T14, B14⟩ ?_
       rcases dich v32 with hb34 | hb34
       · replace h := cond_t hb34 h
         refine rl 26 true hb34 ?_
         refine ro9 15 16 3 ⟨(42, zB true) :: (41, .tup []) :: (40, .tup []) :: (39, .tup []) :: (38, .tup []) :: (37, .tup []) :: (36, .tup []) :: (35, .tup []) :: (34, zB true) :: (33, zB true) :: (32, .tup []) :: (31, .tup []) :: (30, .tup []) :: (29, .tup []) :: (28, .tup []) :: (27, .tup []) :: (26, zB true) :: (25, zB v32) :: (24, zB v32) :: (23, zI a1) :: (22, .sl 0 (List.map encInt a0.fFrom)) :: (21, .ptr 4 0 2) :: (20, zB false) :: (19, zB (!v29)) :: (18, zB (!v29)) :: (17, zB v29) :: (16, zI a1) :: (15, zB false) :: (14, zB (!v26)) :: (13, zB v26) :: (12, encProp0 a0) :: T14, B14⟩ ?_
         refine cT ?_
         let T17 : List (Nat × X) := [(9, .ptr 9 0 0), (8, .ptr 8 0 0), (4, .ptr 4 0 0), (1, zI a1), (2, zI a2), (3, zI a3)]
         let B17 : List (Nat × Bx) := [(9, ⟨0, 0, true, some (encProp1 v3)⟩), (8, ⟨0, 0, true, some (.agg [zI 0, zI 0, .sl 1 (List.map encInt []), zI 0, .sl 1 (List.map encInt [])])⟩), (4, ⟨0, 0, true, some (encProp0 a0)⟩)]
         refine wkr [9, 8, 4, 1, 2, 3] [(9, 9, false), (8, 8, false), (4, 4, false)] ⟨T17, B17⟩ ?_
         refine sqr cv hn ?_
         refine ro9 0 2 2 ⟨(43, .agg [zI v3.fBal, zI v3.fVal, .view 9 0 [] 2, zI v3.fBest, .view 9 0 [] 4]) :: T17, (8, ⟨0, 1, true, some (encProp1 v3)⟩) :: (9, ⟨0, 2, true, some (.agg [zI v3.fBal, zI v3.fVal, .junk, zI v3.fBest, .junk])⟩) :: (9, ⟨0, 1, true, some (.agg [zI v3.fBal, zI v3.fVal, .junk, zI v3.fBest, .sl 1 (List.map encInt v3.fGot)])⟩) :: B17⟩ ?_
         refine runs_ret ?_
         exact fin _ _ h (by kernel_rfl)
       · replace h := cond_f hb34 h
         refine rl 26 false hb34 ?_
         refine ro 15 4 4 ⟨(30, zI (w64 (a0.fBal - 1))) :: (29, zI a0.fBal) :: (28, .ptr 4 0 0) :: (27, zI a2) :: (26, zB false) :: (25, zB v32) :: (24, zB v32) :: (23, zI a1) :: (22, .sl 0 (List.map encInt a0.fFrom)) :: (21, .ptr 4 0 2) :: (20, zB false) :: (19, zB (!v29)) :: (18, zB (!v29)) :: (17, zB v29) :: (16, zI a1) :: (15, zB false) :: (14, zB (!v26)) :: (13, zB v26) :: (12, encProp0 a0) :: T14, B14⟩ ?_
         obtain ⟨v35, hv36, h⟩ := bindO h
         refine rc 19 ⟨(31, zB v35) :: (30, zI (w64 (a0.fBal - 1))) :: (29, zI a0.fBal) :: (28, .ptr 4 0 0) :: (27, zI a2) :: (26, zB false) :: (25, zB v32) :: (24, zB v32) :: (23, zI a1) :: (22, .sl 0 (List.map encInt a0.fFrom)) :: (21, .ptr 4 0 2) :: (20, zB false) :: (19, zB (!v29)) :: (18, zB (!v29)) :: (17, zB v29) :: (16, zI a1) :: (15, zB false) :: (14, zB (!v26)) :: (13, zB v26) :: (12, encProp0 a0) :: T14, B14⟩ (spec_l01In_spec a2 0 (w64 (a0.fBal - 1)) v35 hv36) ?_
         refine ro 20 3 3 ⟨(34, zB (!v35)) :: (33, zB (!v35)) :: (32, zB (!v35)) :: (31, zB v35) :: (30, zI (w64 (a0.fBal - 1))) :: (29, zI a0.fBal) :: (28, .ptr 4 0 0) :: (27, zI a2) :: (26, zB false) :: (25, zB v32) :: (24, zB v32) :: (23, zI a1) :: (22, .sl 0 (List.map encInt a0.fFrom)) :: (21, .ptr 4 0 2) :: (20, zB false) :: (19, zB (!v29)) :: (18, zB (!v29)) :: (17, zB v29) :: (16, zI a1) :: (15, zB false) :: (14, zB (!v26)) :: (13, zB v26) :: (12, encProp0 a0) :: T14, B14⟩ ?_
         rcases dich (!v35) with hb37 | hb37
         · replace h := cond_t hb37 h
           refine rl 34 true hb37 ?_
           refine ro9 23 8 1 ⟨(42, zB true) :: (41, .tup []) :: (40, .tup []) :: (39, .tup []) :: (38, .tup []) :: (37, .tup []) :: (36, .tup []) :: (35, .tup []) :: (34, zB true) :: (33, zB (!v35)) :: (32, zB (!v35)) :: (31, zB v35) :: (30, zI (w64 (a0.fBal - 1))) :: (29, zI a0.fBal) :: (28, .ptr 4 0 0) :: (27, zI a2) :: (26, zB false) :: (25, zB v32) :: (24, zB v32) :: (23, zI a1) :: (22, .sl 0 (List.map encInt a0.fFrom)) :: (21, .ptr 4 0 2) :: (20, zB false) :: (19, zB (!v29)) :: (18, zB (!v29)) :: (17, zB v29) :: (16, zI a1) :: (15, zB false) :: (14, zB (!v26)) :: (13, zB v26) :: (12, encProp0 a0) :: T14, B14⟩ ?_
           refine cT ?_
           let T18 : List (Nat × X) := [(9, .ptr 9 0 0), (8, .ptr 8 0 0), (4, .ptr 4 0 0), (1, zI a1), (2, zI a2), (3, zI a3)]
           let B18 : List (Nat × Bx) := [(9, ⟨0, 0, true, some (encProp1 v3)⟩), (8, ⟨0, 0, true, some (.agg [zI 0, zI 0, .sl 1 (List.map encInt []), zI 0, .sl 1 (List.map encInt [])])⟩), (4, ⟨0, 0, true, some (encProp0 a0)⟩)]
           refine wkr [9, 8, 4, 1, 2, 3] [(9, 9, false), (8, 8, false), (4, 4, false)] ⟨T18, B18⟩ ?_
           refine sqr cv hn ?_
           refine ro9 0 2 2 ⟨(43, .agg [zI v3.fBal, zI v3.fVal, .view 9 0 [] 2, zI v3.fBest, .view 9 0 [] 4]) :: T18, (8, ⟨0, 1, true, some (encProp1 v3)⟩) :: (9, ⟨0, 2, true, some (.agg [zI v3.fBal, zI v3.fVal, .junk, zI v3.fBest, .junk])⟩) :: (9, ⟨0, 1, true, some (.agg [zI v3.fBal, zI v3.fVal, .junk, zI v3.fBest, .sl 1 (List.map encInt v3.fGot)])⟩) :: B18⟩ ?_
           refine runs_ret ?_
           exact fin _ _ h (by kernel_rfl)
         · replace h := cond_f hb37 h
           refine rl 34 false hb37 ?_
           refine ro 23 3 3 ⟨(37, zB (decide (a2 > 0))) :: (36, zB (decide (a2 > 0))) :: (35, zI a2) :: (34, zB false) :: (33, zB (!v35)) :: (32, zB (!v35)) :: (31, zB v35) :: (30, zI (w64 (a0.fBal - 1))) :: (29, zI a0.fBal) :: (28, .ptr 4 0 0) :: (27, zI a2) :: (26, zB false) :: (25, zB v32) :: (24, zB v32) :: (23, zI a1) :: (22, .sl 0 (List.map encInt a0.fFrom)) :: (21, .ptr 4 0 2) :: (20, zB false) :: (19, zB (!v29)) :: (18, zB (!v29)) :: (17, zB v29) :: (16, zI a1) :: (15, zB false) :: (14, zB (!v26)) :: (13, zB v26) :: (12, encProp0 a0) :: T14, B14⟩ ?_
           rcases dich (decide (a2 > 0)) with hb38 | hb38
           · replace h := cond_t hb38 h
             refine rl 37 true hb38 ?_
             refine ro 26 1 1 ⟨(38, zI a3) :: (37, zB true) :: (36, zB (decide (a2 > 0))) :: (35, zI a2) :: (34, zB false) :: (33, zB (!v35)) :: (32, zB (!v35)) :: (31, zB v35) :: (30, zI (w64 (a0.fBal - 1))) :: (29, zI a0.fBal) :: (28, .ptr 4 0 0) :: (27, zI a2) :: (26, zB false) :: (25, zB v32) :: (24, zB v32) :: (23, zI a1) :: (22, .sl 0 (List.map encInt a0.fFrom)) :: (21, .ptr 4 0 2) :: (20, zB false) :: (19, zB (!v29)) :: (18, zB (!v29)) :: (17, zB v29) :: (16, zI a1) :: (15, zB false) :: (14, zB (!v26)) :: (13, zB v26) :: (12, encProp0 a0) :: T14, B14⟩ ?_
             obtain ⟨v39, hv40, h⟩ := bindO h
             refine rc 27 ⟨(39, zB v39) :: (38, zI a3) :: (37, zB true) :: (36, zB (decide (a2 > 0))) :: (35, zI a2) :: (34, zB false) :: (33, zB (!v35)) :: (32, zB (!v35)) :: (31, zB v35) :: (30, zI (w64 (a0.fBal - 1))) :: (29, zI a0.fBal) :: (28, .ptr 4 0 0) :: (27, zI a2) :: (26, zB false) :: (25, zB v32) :: (24, zB v32) :: (23, zI a1) :: (22, .sl 0 (List.map encInt a0.fFrom)) :: (21, .ptr 4 0 2) :: (20, zB false) :: (19, zB (!v29)) :: (18, zB (!v29)) :: (17, zB v29) :: (16, zI a1) :: (15, zB false) :: (14, zB (!v26)) :: (13, zB v26) :: (12, encProp0 a0) :: T14, B14⟩ (spec_l07Val_spec a3 v39 hv40) ?_
             refine ro9 28 3 3 ⟨(42, zB (!v39)) :: (41, zB (!v39)) :: (40, zB (!v39)) :: (39, zB v39) :: (38, zI a3) :: (37, zB true) :: (36, zB (decide (a2 > 0))) :: (35, zI a2) :: (34, zB false) :: (33, zB (!v35)) :: (32, zB (!v35)) :: (31, zB v35) :: (30, zI (w64 (a0.fBal - 1))) :: (29, zI a0.fBal) :: (28, .ptr 4 0 0) :: (27, zI a2) :: (26, zB false) :: (25, zB v32) :: (24, zB v32) :: (23, zI a1) :: (22, .sl 0 (List.map encInt a0.fFrom)) :: (21, .ptr 4 0 2) :: (20, zB false) :: (19, zB (!v29)) :: (18, zB (!v29)) :: (17, zB v29) :: (16, zI a1) :: (15, zB false) :: (14, zB (!v26)) :: (13, zB v26) :: (12, encProp0 a0) :: T14, B14⟩ ?_
             rcases dich (!v39) with hb41 | hb41
             · replace h := cond_t hb41 h
               refine ct hb41 ?_
               let T19 : List (Nat × X) := [(9, .ptr 9 0 0), (8, .ptr 8 0 0), (4, .ptr 4 0 0), (1, zI a1), (2, zI a2), (3, zI a3)]
               let B19 : List (Nat × Bx) := [(9, ⟨0, 0, true, some (encProp1 v3)⟩), (8, ⟨0, 0, true, some (.agg [zI 0, zI 0, .sl 1 (List.map encInt []), zI 0, .sl 1 (List.map encInt [])])⟩), (4, ⟨0, 0, true, some (encProp0 a0)⟩)]
               refine wkr [9, 8, 4, 1, 2, 3] [(9, 9, false), (8, 8, false), (4, 4, false)] ⟨T19, B19⟩ ?_
               refine sqr cv hn ?_
               refine ro9 0 2 2 ⟨(43, .agg [zI v3.fBal, zI v3.fVal, .view 9 0 [] 2, zI v3.fBest, .view 9 0 [] 4]) :: T19, (8, ⟨0, 1, true, some (encProp1 v3)⟩) :: (9, ⟨0, 2, true, some (.agg [zI v3.fBal, zI v3.fVal, .junk, zI v3.fBest, .junk])⟩) :: (9, ⟨0, 1, true, some (.agg [zI v3.fBal, zI v3.fVal, .junk, zI v3.fBest, .sl 1 (List.map encInt v3.fGot)])⟩) :: B19⟩ ?_
               refine runs_ret ?_
               exact fin _ _ h (by kernel_rfl)
             · replace h := cond_f hb41 h
               refine cf hb41 ?_
               refine runs_skip ?_
               exact ⟨(), h, wre [1, 2, 3, 4, 8, 9] [(4, 4, false), (8, 8, false), (9, 9, false)]⟩
           · replace h := cond_f hb38 h
             refine rl 37 false hb38 ?_
             refine ro9 26 5 2 ⟨(42, zB false) :: (41, zB false) :: (40, .tup []) :: (39, .tup []) :: (38, .tup []) :: (37, zB false) :: (36, zB (decide (a2 > 0))) :: (35, zI a2) :: (34, zB false) :: (33, zB (!v35)) :: (32, zB (!v35)) :: (31, zB v35) :: (30, zI (w64 (a0.fBal - 1))) :: (29, zI a0.fBal) :: (28, .ptr 4 0 0) :: (27, zI a2) :: (26, zB false) :: (25, zB v32) :: (24, zB v32) :: (23, zI a1) :: (22, .sl 0 (List.map encInt a0.fFrom)) :: (21, .ptr 4 0 2) :: (20, zB false) :: (19, zB (!v29)) :: (18, zB (!v29)) :: (17, zB v29) :: (16, zI a1) :: (15, zB false) :: (14, zB (!v26)) :: (13, zB v26) :: (12, encProp0 a0) :: T14, B14⟩ ?_
             refine cF ?_
             refine runs_skip ?_
             exact ⟨(), h, wre [1, 2, 3, 4, 8, 9] [(4, 4, false), (8, 8, false), (9, 9, false)]⟩

set_option maxRecDepth 100000 in
set_option maxHeartbeats 2000000 in
theorem laws_FnExactPropHear_spec (a0 : SProp) (a1 : Int) (a2 : Int) (a3 : Int) (v0 : Bool) (h : laws_FnExactPropHear a0 a1 a2 a3 = some v0) : Ax.Spec Try.prog 9 none [encProp0 a0, zI a1, zI a2, zI a3] (zB v0 : X) (.junk : X) := by
 let T1 : List (Nat × X) := [(0, encProp0 a0), (1, zI a1), (2, zI a2), (3, zI a3)]
 refine walk0 (fn := Try.f9) (fun q0 : Bool => (zB q0 : X)) (fun q0 : Bool => (.junk : X)) v0 ⟨T1, []⟩ Try.func9 rfl (by decide +kernel) fun Γ hn fin => ?_
 rw [laws_FnExactPropHear] at h
 refine sqr cv hn ?_
 refine ro9 0 2 2 ⟨(8, zB false) :: (4, .ptr 4 1 0) :: T1, [(4, ⟨1, 1, true, some (encProp0 a0)⟩)]⟩ ?_
 refine sqr cv hn ?_
 refine ro9 0 1 1 ⟨(9, zI 1048576) :: (8, zB false) :: (4, .ptr 4 1 0) :: T1, [(4, ⟨1, 1, true, some (encProp0 a0)⟩)]⟩ ?_
 refine sqr cv hn ?_
 refine ro 0 2 2 ⟨(18, zI 1048576) :: (17, encProp0 a0) :: (9, zI 1048576) :: (8, zB false) :: (4, .ptr 4 1 0) :: T1, [(4, ⟨1, 1, true, some (encProp0 a0)⟩)]⟩ ?_
 obtain ⟨v3, hv4, h⟩ := bindO h
 refine rc 2 ⟨(19, zI v3) :: (18, zI 1048576) :: (17, encProp0 a0) :: (9, zI 1048576) :: (8, zB false) :: (4, .ptr 4 1 0) :: T1, [(4, ⟨1, 1, true, some (encProp0 a0)⟩)]⟩ (laws_szProp_spec a0 1048576 v3 hv4) ?_
 refine ro9 3 1 1 ⟨(9, zI v3) :: (19, zI v3) :: (18, zI 1048576) :: (17, encProp0 a0) :: (9, zI 1048576) :: (8, zB false) :: (4, .ptr 4 1 0) :: T1, [(4, ⟨1, 1, true, some (encProp0 a0)⟩)]⟩ ?_
 refine runs_seq ?_
 let T3 : List (Nat × X) := [(9, zI v3), (4, .ptr 4 0 0), (1, zI a1), (2, zI a2), (3, zI a3)]
 let B3 : List (Nat × Bx) := [(4, ⟨0, 0, true, some (encProp0 a0)⟩)]
 refine wkr [9, 4, 1, 2, 3] [(4, 4, false)] ⟨T3, B3⟩ ?_
 refine sqr cv hn ?_
 refine ro9 0 2 2 ⟨(21, zB (decide (v3 < 0))) :: (20, zI v3) :: T3, B3⟩ ?_
 rcases dich (decide (v3 < 0)) with hb6 | hb6
 · replace h := cond_t hb6 h
   refine ct hb6 ?_
   refine sqr cv hn ?_
   refine ro9 0 1 1 ⟨(8, zB true) :: (21, zB (decide (v3 < 0))) :: (20, zI v3) :: T3, B3⟩ ?_
   refine runs_ret ?_
   exact fin _ _ h (by kernel_rfl)
 · replace h := cond_f hb6 h
   refine cf hb6 ?_
   refine runs_skip ?_
   refine sqr cv hn ?_
   refine ro 0 1 1 ⟨(22, encProp0 a0) :: (21, zB (decide (v3 < 0))) :: (20, zI v3) :: T3, B3⟩ ?_
   obtain ⟨v11, hv12, h⟩ := bindO h
   refine rc 1 ⟨(23, .agg [zI v11.fBal, zI v11.fVal, .view 23 1 [] 0, zI v11.fBest, .view 10023 1 [] 0]) :: (22, encProp0 a0) :: (21, zB (decide (v3 < 0))) :: (20, zI v3) :: T3, (10023, ⟨1, 1, false, some (.sl 1 (List.map encInt v11.fGot))⟩) :: (23, ⟨1, 1, false, some (.sl 1 (List.map encInt v11.fFrom))⟩) :: B3⟩ (laws_toProp_spec a0 v11 hv12) ?_
   refine ro 2 3 3 ⟨(26, zI a3) :: (25, zI a2) :: (24, zI a1) :: (23, .agg [zI v11.fBal, zI v11.fVal, .view 23 1 [] 0, zI v11.fBest, .view 10023 1 [] 0]) :: (22, encProp0 a0) :: (21, zB (decide (v3 < 0))) :: (20, zI v3) :: T3, (10023, ⟨1, 1, false, some (.sl 1 (List.map encInt v11.fGot))⟩) :: (23, ⟨1, 1, false, some (.sl 1 (List.map encInt v11.fFrom))⟩) :: B3⟩ ?_
   obtain ⟨v13, hv14, h⟩ := bindO h
   refine rcH 5 [List.map encInt v11.fFrom, List.map encInt v11.fGot] ⟨(27, .agg [zI v13.fBal, zI v13.fVal, .view 27 1 [] 0, zI v13.fBest, .view 10027 1 [] 0]) :: (26, zI a3) :: (25, zI a2) :: (24, zI a1) :: (23, .agg [zI v11.fBal, zI v11.fVal, .view 23 1 [] 0, zI v11.fBest, .view 10023 1 [] 0]) :: (22, encProp0 a0) :: (21, zB (decide (v3 < 0))) :: (20, zI v3) :: T3, (10027, ⟨1, 1, false, some (.sl 1 (List.map encInt v13.fGot))⟩) :: (27, ⟨1, 1, false, some (.sl 1 (List.map encInt v13.fFrom))⟩) :: (10023, ⟨1, 1, false, some (.sl 1 (List.map encInt v11.fGot))⟩) :: (23, ⟨1, 1, false, some (.sl 1 (List.map encInt v11.fFrom))⟩) :: B3⟩ [X.rds (List.map encInt v11.fFrom) = true, X.roifys (List.map encInt v11.fFrom) = List.map encInt v11.fFrom, X.rds (List.map encInt v11.fGot) = true, X.roifys (List.map encInt v11.fGot) = List.map encInt v11.fGot, rootsBut (cv 48) 0 [.agg [zI v11.fBal, zI v11.fVal, .view 23 1 [] 0, zI v11.fBest, .view 10023 1 [] 0], zI a1, zI a2, zI a3] = false ∨ (X.noRo (encProp1 v13 : X) = true ∧ X.noRo (.junk : X) = true)] (spec_PropHear_spec v11 a1 a2 a3 v13 hv14) ⟨rds_map rde_Int _, ro_map ro_Int _, rds_map rde_Int _, ro_map ro_Int _, .inr ⟨(nr_agg (nr_cons rfl (nr_cons rfl (nr_cons (nr_sl (nr_map nr_Int _)) (nr_cons rfl (nr_cons (nr_sl (nr_map nr_Int _)) nr_nil)))))), rfl⟩, trivial⟩ ?_
   refine ro9 6 2 2 ⟨(10, .ptr 10 1 0) :: (27, .agg [zI v13.fBal, zI v13.fVal, .view 27 1 [] 0, zI v13.fBest, .view 10027 1 [] 0]) :: (26, zI a3) :: (25, zI a2) :: (24, zI a1) :: (23, .agg [zI v11.fBal, zI v11.fVal, .view 23 1 [] 0, zI v11.fBest, .view 10023 1 [] 0]) :: (22, encProp0 a0) :: (21, zB (decide (v3 < 0))) :: (20, zI v3) :: T3, (10, ⟨1, 2, true, some (encProp1 v13)⟩) :: (10027, ⟨1, 2, false, some (.junk)⟩) :: (27, ⟨1, 2, false, some (.junk)⟩) :: (10, ⟨1, 1, true, some (.agg [zI 0, zI 0, .sl 1 (List.map encInt []), zI 0, .sl 1 (List.map encInt [])])⟩) :: (10027, ⟨1, 1, false, some (.sl 1 (List.map encInt v13.fGot))⟩) :: (27, ⟨1, 1, false, some (.sl 1 (List.map encInt v13.fFrom))⟩) :: (10023, ⟨1, 1, false, some (.sl 1 (List.map encInt v11.fGot))⟩) :: (23, ⟨1, 1, false, some (.sl 1 (List.map encInt v11.fFrom))⟩) :: B3⟩ ?_
   let T5 : List (Nat × X) := [(10, .ptr 10 0 0), (4, .ptr 4 0 0), (1, zI a1), (2, zI a2), (3, zI a3)]
   let B5 : List (Nat × Bx) := [(10, ⟨0, 0, true, some (encProp1 v13)⟩), (4, ⟨0, 0, true, some (encProp0 a0)⟩)]
   refine wkr [10, 4, 1, 2, 3] [(10, 10, false), (4, 4, false)] ⟨T5, B5⟩ ?_
   refine sqr cv hn ?_
   refine ro 0 1 1 ⟨(28, encProp0 a0) :: T5, B5⟩ ?_
   obtain ⟨v17, hv18, h⟩ := bindO h
   refine rc 1 ⟨(29, .agg [zI v17.fBal, zI v17.fVal, .view 29 1 [] 0, zI v17.fBest, .view 10029 1 [] 0]) :: (28, encProp0 a0) :: T5, (10029, ⟨1, 1, false, some (.sl 1 (List.map encInt v17.fGot))⟩) :: (29, ⟨1, 1, false, some (.sl 1 (List.map encInt v17.fFrom))⟩) :: B5⟩ (laws_toProp_spec a0 v17 hv18) ?_
   refine ro9 2 2 2 ⟨(11, .ptr 11 1 0) :: (29, .agg [zI v17.fBal, zI v17.fVal, .view 29 1 [] 0, zI v17.fBest, .view 10029 1 [] 0]) :: (28, encProp0 a0) :: T5, (11, ⟨1, 2, true, some (encProp1 v17)⟩) :: (10029, ⟨1, 2, false, some (.junk)⟩) :: (29, ⟨1, 2, false, some (.junk)⟩) :: (11, ⟨1, 1, true, some (.agg [zI 0, zI 0, .sl 1 (List.map encInt []), zI 0, .sl 1 (List.map encInt [])])⟩) :: (10029, ⟨1, 1, false, some (.sl 1 (List.map encInt v17.fGot))⟩) :: (29, ⟨1, 1, false, some (.sl 1 (List.map encInt v17.fFrom))⟩) :: B5⟩ ?_
   let T7 : List (Nat × X) := [(11, .ptr 11 0 0), (10, .ptr 10 0 0), (4, .ptr 4 0 0), (1, zI a1), (2, zI a2), (3, zI a3)]
   let B7 : List (Nat × Bx) := [(11, ⟨0, 0, true, some (encProp1 v17)⟩), (10, ⟨0, 0, true, some (encProp1 v13)⟩), (4, ⟨0, 0, true, some (encProp0 a0)⟩)]
   refine wkr [11, 10, 4, 1, 2, 3] [(11, 11, false), (10, 10, false), (4, 4, false)] ⟨T7, B7⟩ ?_
   refine sqr cv hn ?_
   refine ro 0 4 4 ⟨(33, zI a3) :: (32, zI a2) :: (31, zI a1) :: (30, .agg [zI v17.fBal, zI v17.fVal, .view 11 0 [] 2, zI v17.fBest, .view 11 0 [] 4]) :: T7, B7⟩ ?_
   obtain ⟨v21, hv22, h⟩ := bindO h
   refine rcH 4 [List.map encInt v17.fFrom, List.map encInt v17.fGot] ⟨(34, .agg [zI v21.fBal, zI v21.fVal, .view 34 1 [] 0, zI v21.fBest, .view 10034 1 [] 0]) :: (33, zI a3) :: (32, zI a2) :: (31, zI a1) :: (30, .agg [zI v17.fBal, zI v17.fVal, .view 11 0 [] 2, zI v17.fBest, .view 11 0 [] 4]) :: T7, (10034, ⟨1, 1, false, some (.sl 1 (List.map encInt v21.fGot))⟩) :: (34, ⟨1, 1, false, some (.sl 1 (List.map encInt v21.fFrom))⟩) :: B7⟩ [X.rds (List.map encInt v17.fFrom) = true, X.roifys (List.map encInt v17.fFrom) = List.map encInt v17.fFrom, X.rds (List.map encInt v17.fGot) = true, X.roifys (List.map encInt v17.fGot) = List.map encInt v17.fGot, rootsBut (cv 19) 0 [.agg [zI v17.fBal, zI v17.fVal, .view 11 0 [] 2, zI v17.fBest, .view 11 0 [] 4], zI a1, zI a2, zI a3] = false ∨ (X.noRo (encProp1 v21 : X) = true ∧ X.noRo (.junk : X) = true)] (impl_PropHear_spec v17 a1 a2 a3 v21 hv22) ⟨rds_map rde_Int _, ro_map ro_Int _, rds_map rde_Int _, ro_map ro_Int _, .inr ⟨(nr_agg (nr_cons rfl (nr_cons rfl (nr_cons (nr_sl (nr_map nr_Int _)) (nr_cons rfl (nr_cons (nr_sl (nr_map nr_Int _)) nr_nil)))))), rfl⟩, trivial⟩ ?_
   refine ro9 5 2 2 ⟨(12, .ptr 12 1 0) :: (34, .agg [zI v21.fBal, zI v21.fVal, .view 34 1 [] 0, zI v21.fBest, .view 10034 1 [] 0]) :: (33, zI a3) :: (32, zI a2) :: (31, zI a1) :: (30, .agg [zI v17.fBal, zI v17.fVal, .view 11 0 [] 2, zI v17.fBest, .view 11 0 [] 4]) :: T7, (12, ⟨1, 2, true, some (encProp1 v21)⟩) :: (10034, ⟨1, 2, false, some (.junk)⟩) :: (34, ⟨1, 2, false, some (.junk)⟩) :: (12, ⟨1, 1, true, some (.agg [zI 0, zI 0, .sl 1 (List.map encInt []), zI 0, .sl 1 (List.map encInt [])])⟩) :: (10034, ⟨1, 1, false, some (.sl 1 (List.map encInt v21.fGot))⟩) :: (34, ⟨1, 1, false, some (.sl 1 (List.map encInt v21.fFrom))⟩) :: B7⟩ ?_
   refine runs_seq ?_
   let T9 : List (Nat × X) := [(12, .ptr 12 0 0), (11, .ptr 11 0 0), (10, .ptr 10 0 0), (4, .ptr 4 0 0), (1, zI a1), (2, zI a2), (3, zI a3)]
   let B9 : List (Nat × Bx) := [(12, ⟨0, 0, true, some (encProp1 v21)⟩), (11, ⟨0, 0, true, some (encProp1 v17)⟩), (10, ⟨0, 0, true, some (encProp1 v13)⟩), (4, ⟨0, 0, true, some (encProp0 a0)⟩)]
   refine wkr [12, 11, 10, 4, 1, 2, 3] [(12, 12, false), (11, 11, false), (10, 10, false), (4, 4, false)] ⟨T9, B9⟩ ?_
   refine sqr cv hn ?_
   refine ro 0 2 2 ⟨(36, .agg [zI v13.fBal, zI v13.fVal, .view 10 0 [] 2, zI v13.fBest, .view 10 0 [] 4]) :: (35, .agg [zI v21.fBal, zI v21.fVal, .view 12 0 [] 2, zI v21.fBest, .view 12 0 [] 4]) :: T9, B9⟩ ?_
   obtain ⟨v26, hv27, h⟩ := bindO h
   refine rcH 2 [List.map encInt v21.fFrom, List.map encInt v21.fGot, List.map encInt v13.fFrom, List.map encInt v13.fGot] ⟨(37, zB v26) :: (36, .agg [zI v13.fBal, zI v13.fVal, .view 10 0 [] 2, zI v13.fBest, .view 10 0 [] 4]) :: (35, .agg [zI v21.fBal, zI v21.fVal, .view 12 0 [] 2, zI v21.fBest, .view 12 0 [] 4]) :: T9, B9⟩ [X.rds (List.map encInt v21.fFrom) = true, X.roifys (List.map encInt v21.fFrom) = List.map encInt v21.fFrom, X.rds (List.map encInt v21.fGot) = true, X.roifys (List.map encInt v21.fGot) = List.map encInt v21.fGot, X.rds (List.map encInt v13.fFrom) = true, X.roifys (List.map encInt v13.fFrom) = List.map encInt v13.fFrom, X.rds (List.map encInt v13.fGot) = true, X.roifys (List.map encInt v13.fGot) = List.map encInt v13.fGot, rootsBut (cv 39) 0 [.agg [zI v21.fBal, zI v21.fVal, .view 12 0 [] 2, zI v21.fBest, .view 12 0 [] 4], .agg [zI v13.fBal, zI v13.fVal, .view 10 0 [] 2, zI v13.fBest, .view 10 0 [] 4]] = false ∨ (X.noRo (zB v26 : X) = true ∧ X.noRo (.junk : X) = true)] (laws_eqProp_spec v21 v13 v26 hv27) ⟨rds_map rde_Int _, ro_map ro_Int _, rds_map rde_Int _, ro_map ro_Int _, rds_map rde_Int _, ro_map ro_Int _, rds_map rde_Int _, ro_map ro_Int _, .inr ⟨rfl, rfl⟩, trivial⟩ ?_
   refine ro9 3 1 1 ⟨(38, zB (!v26)) :: (37, zB v26) :: (36, .agg [zI v13.fBal, zI v13.fVal, .view 10 0 [] 2, zI v13.fBest, .view 10 0 [] 4]) :: (35, .agg [zI v21.fBal, zI v21.fVal, .view 12 0 [] 2, zI v21.fBest, .view 12 0 [] 4]) :: T9, B9⟩ ?_
   rcases dich (!v26) with hb28 | hb28
   · replace h := cond_t hb28 h
     refine ct hb28 ?_
     refine sqr cv hn ?_
     refine ro9 0 1 1 ⟨(8, zB false) :: (38, zB (!v26)) :: (37, zB v26) :: (36, .agg [zI v13.fBal, zI v13.fVal, .view 10 0 [] 2, zI v13.fBest, .view 10 0 [] 4]) :: (35, .agg [zI v21.fBal, zI v21.fVal, .view 12 0 [] 2, zI v21.fBest, .view 12 0 [] 4]) :: T9, B9⟩ ?_
     refine runs_ret ?_
     exact fin _ _ h (by kernel_rfl)
   · replace h := cond_f hb28 h
     refine cf hb28 ?_
     refine runs_skip ?_
     refine runs_seq ?_
     refine runs_seq ?_
     refine rgT cv mixed hn ?_
     refine roT 0 2 2 ⟨(40, encProp0 a0) :: (39, .agg [zI v17.fBal, zI v17.fVal, .view 11 0 [] 2, zI v17.fBest, .view 11 0 [] 4]) :: (38, zB (!v26)) :: (37, zB v26) :: (36, .agg [zI v13.fBal, zI v13.fVal, .view 10 0 [] 2, zI v13.fBest, .view 10 0 [] 4]) :: (35, .agg [zI v21.fBal, zI v21.fVal, .view 12 0 [] 2, zI v21.fBest, .view 12 0 [] 4]) :: T9, B9⟩ ?_
     obtain ⟨v34, hv35, h⟩ := bindO h
     refine rcT 2 ⟨(41, .agg [zI v34.fBal, zI v34.fVal, .view 41 1 [] 0, zI v34.fBest, .view 10041 1 [] 0]) :: (40, encProp0 a0) :: (39, .agg [zI v17.fBal, zI v17.fVal, .view 11 0 [] 2, zI v17.fBest, .view 11 0 [] 4]) :: (38, zB (!v26)) :: (37, zB v26) :: (36, .agg [zI v13.fBal, zI v13.fVal, .view 10 0 [] 2, zI v13.fBest, .view 10 0 [] 4]) :: (35, .agg [zI v21.fBal, zI v21.fVal, .view 12 0 [] 2, zI v21.fBest, .view 12 0 [] 4]) :: T9, (10041, ⟨1, 1, false, some (.sl 1 (List.map encInt v34.fGot))⟩) :: (41, ⟨1, 1, false, some (.sl 1 (List.map encInt v34.fFrom))⟩) :: B9⟩ (laws_toProp_spec a0 v34 hv35) ?_
     obtain ⟨v36, hv37, h⟩ := bindO h
     refine rcHT 3 [List.map encInt v17.fFrom, List.map encInt v17.fGot, List.map encInt v34.fFrom, List.map encInt v34.fGot] ⟨(42, zB v36) :: (41, .agg [zI v34.fBal, zI v34.fVal, .view 41 1 [] 0, zI v34.fBest, .view 10041 1 [] 0]) :: (40, encProp0 a0) :: (39, .agg [zI v17.fBal, zI v17.fVal, .view 11 0 [] 2, zI v17.fBest, .view 11 0 [] 4]) :: (38, zB (!v26)) :: (37, zB v26) :: (36, .agg [zI v13.fBal, zI v13.fVal, .view 10 0 [] 2, zI v13.fBest, .view 10 0 [] 4]) :: (35, .agg [zI v21.fBal, zI v21.fVal, .view 12 0 [] 2, zI v21.fBest, .view 12 0 [] 4]) :: T9, (10041, ⟨1, 1, false, some (.sl 1 (List.map encInt v34.fGot))⟩) :: (41, ⟨1, 1, false, some (.sl 1 (List.map encInt v34.fFrom))⟩) :: B9⟩ [X.rds (List.map encInt v17.fFrom) = true, X.roifys (List.map encInt v17.fFrom) = List.map encInt v17.fFrom, X.rds (List.map encInt v17.fGot) = true, X.roifys (List.map encInt v17.fGot) = List.map encInt v17.fGot, X.rds (List.map encInt v34.fFrom) = true, X.roifys (List.map encInt v34.fFrom) = List.map encInt v34.fFrom, X.rds (List.map encInt v34.fGot) = true, X.roifys (List.map encInt v34.fGot) = List.map encInt v34.fGot, rootsBut (cv 39) 0 [.agg [zI v17.fBal, zI v17.fVal, .view 11 0 [] 2, zI v17.fBest, .view 11 0 [] 4], .agg [zI v34.fBal, zI v34.fVal, .view 41 1 [] 0, zI v34.fBest, .view 10041 1 [] 0]] = false ∨ (X.noRo (zB v36 : X) = true ∧ X.noRo (.junk : X) = true)] (laws_eqProp_spec v17 v34 v36 hv37) ⟨rds_map rde_Int _, ro_map ro_Int _, rds_map rde_Int _, ro_map ro_Int _, rds_map rde_Int _, ro_map ro_Int _, rds_map rde_Int _, ro_map ro_Int _, .inr ⟨rfl, rfl⟩, trivial⟩ ?_
     refine roT9 4 1 1 ⟨(43, zB (!v36)) :: (42, zB v36) :: (41, .agg [zI v34.fBal, zI v34.fVal, .view 41 1 [] 0, zI v34.fBest, .view 10041 1 [] 0]) :: (40, encProp0 a0) :: (39, .agg [zI v17.fBal, zI v17.fVal, .view 11 0 [] 2, zI v17.fBest, .view 11 0 [] 4]) :: (38, zB (!v26)) :: (37, zB v26) :: (36, .agg [zI v13.fBal, zI v13.fVal, .view 10 0 [] 2, zI v13.fBest, .view 10 0 [] 4]) :: (35, .agg [zI v21.fBal, zI v21.fVal, .view 12 0 [] 2, zI v21.fBest, .view 12 0 [] 4]) :: T9, (10041, ⟨1, 1, false, some (.sl 1 (List.map encInt v34.fGot))⟩) :: (41, ⟨1, 1, false, some (.sl 1 (List.map encInt v34.fFrom))⟩) :: B9⟩ ?_
     rcases dich (!v36) with hb38 | hb38
     · replace h := cond_t hb38 h
       refine ct hb38 ?_
       let T11 : List (Nat × X) := [(12, .ptr 12 0 0), (11, .ptr 11 0 0), (10, .ptr 10 0 0), (4, .ptr 4 0 0), (1, zI a1), (2, zI a2), (3, zI a3)]
       let B11 : List (Nat × Bx) := [(12, ⟨0, 0, true, some (encProp1 v21)⟩), (11, ⟨0, 0, true, some (encProp1 v17)⟩), (10, ⟨0, 0, true, some (encProp1 v13)⟩), (4, ⟨0, 0, true, some (encProp0 a0)⟩)]
       refine wkr [12, 11, 10, 4, 1, 2, 3] [(12, 12, false), (11, 11, false), (10, 10, false), (4, 4, false)] ⟨T11, B11⟩ ?_
       refine sqr cv hn ?_
       refine ro9 0 1 1 ⟨(8, zB false) :: T11, B11⟩ ?_
       refine runs_ret ?_
       exact fin _ _ h (by kernel_rfl)
     · replace h := cond_f hb38 h
       refine cf hb38 ?_
       refine runs_skip ?_
       let T13 : List (Nat × X) := [(12, .ptr 12 0 0), (11, .ptr 11 0 0), (10, .ptr 10 0 0), (4, .ptr 4 0 0), (1, zI a1), (2, zI a2), (3, zI a3)]
       let B13 : List (Nat × Bx) := [(12, ⟨0, 0, true, some (encProp1 v21)⟩), (11, ⟨0, 0, true, some (encProp1 v17)⟩), (10, ⟨0, 0, true, some (encProp1 v13)⟩), (4, ⟨0, 0, true, some (encProp0 a0)⟩)]
       refine wkr [12, 11, 10, 4, 1, 2, 3] [(12, 12, false), (11, 11, false), (10, 10, false), (4, 4, false)] ⟨T13, B13⟩ ?_
       refine sqr cv hn ?_
       refine ro9 0 1 1 ⟨(13, zI 1) :: T13, B13⟩ ?_
       refine sqr cv hn ?_
       refine ro 0 2 2 ⟨(45, zI 1) :: (44, .agg [zI v17.fBal, zI v17.fVal, .view 11 0 [] 2, zI v17.fBest, .view 11 0 [] 4]) :: (13, zI 1) :: T13, B13⟩ ?_
       obtain ⟨v41, hv42, h⟩ := bindO h
       refine rc 2 ⟨(46, zI v41.1) :: (45, zI 1) :: (44, .agg [zI v17.fBal, zI v17.fVal, .view 11 0 [] 2, zI v17.fBest, .view 11 0 [] 4]) :: (13, zI 1) :: T13, (11, ⟨0, 1, true, some (.agg [zI v17.fBal, zI v17.fVal, .sl 1 (List.map encInt v41.2.fFrom), zI v17.fBest, .sl 1 (List.map encInt v41.2.fGot)])⟩) :: B13⟩ (laws_markProp_spec v17 1 v41 hv42) ?_
       refine ro9 3 1 1 ⟨(13, zI v41.1) :: (46, zI v41.1) :: (45, zI 1) :: (44, .agg [zI v17.fBal, zI v17.fVal, .view 11 0 [] 2, zI v17.fBest, .view 11 0 [] 4]) :: (13, zI 1) :: T13, (11, ⟨0, 1, true, some (.agg [zI v17.fBal, zI v17.fVal, .sl 1 (List.map encInt v41.2.fFrom), zI v17.fBest, .sl 1 (List.map encInt v41.2.fGot)])⟩) :: B13⟩ ?_
       refine runs_seq ?_
       let T17 : List (Nat × X) := [(13, zI v41.1), (12, .ptr 12 0 0), (10, .ptr 10 0 0), (4, .ptr 4 0 0), (1, zI a1), (2, zI a2), (3, zI a3)]
       let B17 : List (Nat × Bx) := [(12, ⟨0, 0, true, some (encProp1 v21)⟩), (10, ⟨0, 0, true, some (encProp1 v13)⟩), (4, ⟨0, 0, true, some (encProp0 a0)⟩)]
       refine wkr [13, 12, 10, 4, 1, 2, 3] [(12, 12, false), (10, 10, false), (4, 4, false)] ⟨T17, B17⟩ ?_
       refine sqr cv hn ?_
       refine ro 0 3 3 ⟨(49, zB (decide (v41.1 < 0))) :: (48, zB (decide (v41.1 < 0))) :: (47, zI v41.1) :: T17, B17⟩ ?_
       rcases dich (decide (v41.1 < 0)) with hb47 | hb47
       · replace h := cond_t hb47 h
         refine rl 49 true hb47 ?_
         refine ro9 3 5 1 ⟨(54, zB true) :: (53, .tup []) :: (52, .tup []) :: (51, .tup []) :: (50, .tup []) :: (49, zB true) :: (48, zB (decide (v41.1 < 0))) :: (47, zI v41.1) :: T17, B17⟩ ?_
         refine cT ?_
         let T18 : List (Nat × X) := [(12, .ptr 12 0 0), (10, .ptr 10 0 0), (4, .ptr 4 0 0), (1, zI a1), (2, zI a2), (3, zI a3)]
         let B18 : List (Nat × Bx) := [(12, ⟨0, 0, true, some (encProp1 v21)⟩), (10, ⟨0, 0, true, some (encProp1 v13)⟩), (4, ⟨0, 0, true, some (encProp0 a0)⟩)]
         refine wkr [12, 10, 4, 1, 2, 3] [(12, 12, false), (10, 10, false), (4, 4, false)] ⟨T18, B18⟩ ?_
         refine sqr cv hn ?_
         refine ro9 0 1 1 ⟨(8, zB false) :: T18, B18⟩ ?_
         refine runs_ret ?_
         exact fin _ _ h (by kernel_rfl)
       · replace h := cond_f hb47 h
         refine rl 49 false hb47 ?_
         refine ro 3 2 2 ⟨(51, .agg [zI v13.fBal, zI v13.fVal, .view 10 0 [] 2, zI v13.fBest, .view 10 0 [] 4]) :: (50, .agg [zI v21.fBal, zI v21.fVal, .view 12 0 [] 2, zI v21.fBest, .view 12 0 [] 4]) :: (49, zB false) :: (48, zB (decide (v41.1 < 0))) :: (47, zI v41.1) :: T17, B17⟩ ?_
         obtain ⟨v48, hv49, h⟩ := bindO h
         refine rcH 5 [List.map encInt v21.fFrom, List.map encInt v21.fGot, List.map encInt v13.fFrom, List.map encInt v13.fGot] ⟨(52, zB v48) :: (51, .agg [zI v13.fBal, zI v13.fVal, .view 10 0 [] 2, zI v13.fBest, .view 10 0 [] 4]) :: (50, .agg [zI v21.fBal, zI v21.fVal, .view 12 0 [] 2, zI v21.fBest, .view 12 0 [] 4]) :: (49, zB false) :: (48, zB (decide (v41.1 < 0))) :: (47, zI v41.1) :: T17, B17⟩ [X.rds (List.map encInt v21.fFrom) = true, X.roifys (List.map encInt v21.fFrom) = List.map encInt v21.fFrom, X.rds (List.map encInt v21.fGot) = true, X.roifys (List.map encInt v21.fGot) = List.map encInt v21.fGot, X.rds (List.map encInt v13.fFrom) = true, X.roifys (List.map encInt v13.fFrom) = List.map encInt v13.fFrom, X.rds (List.map encInt v13.fGot) = true, X.roifys (List.map encInt v13.fGot) = List.map encInt v13.fGot, rootsBut (cv 39) 0 [.agg [zI v21.fBal, zI v21.fVal, .view 12 0 [] 2, zI v21.fBest, .view 12 0 [] 4], .agg [zI v13.fBal, zI v13.fVal, .view 10 0 [] 2, zI v13.fBest, .view 10 0 [] 4]] = false ∨ (X.noRo (zB v48 : X) = true ∧ X.noRo (.junk : X) = true)] (laws_eqProp_spec v21 v13 v48 hv49) ⟨rds_map rde_Int _, ro_map ro_Int _, rds_map rde_Int _, ro_map ro_Int _, rds_map rde_Int _, ro_map ro_Int _, rds_map rde_Int _, ro_map ro_Int _, .inr ⟨rfl, rfl⟩, trivial⟩ ?_
         refine ro9 6 2 2 ⟨(54, zB (!v48)) :: (53, zB (!v48)) :: (52, zB v48) :: (51, .agg [zI v13.fBal, zI v13.fVal, .view 10 0 [] 2, zI v13.fBest, .view 10 0 [] 4]) :: (50, .agg [zI v21.fBal, zI v21.fVal, .view 12 0 [] 2, zI v21.fBest, .view 12 0 [] 4]) :: (49, zB false) :: (48, zB (decide (v41.1 < 0))) :: (47, zI v41.1) :: T17, B17⟩ ?_
         rcases dich (!v48) with hb50 | hb50
         · replace h := cond_t hb50 h
           refine ct hb50 ?_
           let T19 : List (Nat × X) := [(12, .ptr 12 0 0), (10, .ptr 10 0 0), (4, .ptr 4 0 0), (1, zI a1), (2, zI a2), (3, zI a3)]
           let B19 : List (Nat × Bx) := [(12, ⟨0, 0, true, some (encProp1 v21)⟩), (10, ⟨0, 0, true, some (encProp1 v13)⟩), (4, ⟨0, 0, true, some (encProp0 a0)⟩)]
           refine wkr [12, 10, 4, 1, 2, 3] [(12, 12, false), (10, 10, false), (4, 4, false)] ⟨T19, B19⟩ ?_
           refine sqr cv hn ?_
           refine ro9 0 1 1 ⟨(8, zB false) :: T19, B19⟩ ?_
           refine runs_ret ?_
           exact fin _ _ h (by kernel_rfl)
         · replace h := cond_f hb50 h
           refine cf hb50 ?_
           refine runs_skip ?_
           let T21 : List (Nat × X) := [(12, .ptr 12 0 0), (10, .ptr 10 0 0), (4, .ptr 4 0 0), (1, zI a1), (2, zI a2), (3, zI a3)]
           let B21 : List (Nat × Bx) := [(12, ⟨0, 0, true, some (encProp1 v21)⟩), (10, ⟨0, 0, true, some (encProp1 v13)⟩), (4, ⟨0, 0, true, some (encProp0 a0)⟩)]
           refine wkr [12, 10, 4, 1, 2, 3] [(12, 12, false), (10, 10, false), (4, 4, false)] ⟨T21, B21⟩ ?_
           refine sqr cv hn ?_
           refine ro9 0 1 1 ⟨(14, zI 1) :: T21, B21⟩ ?_
           refine sqr cv hn ?_
           refine ro 0 2 2 ⟨(56, zI 1) :: (55, .agg [zI v21.fBal, zI v21.fVal, .view 12 0 [] 2, zI v21.fBest, .view 12 0 [] 4]) :: (14, zI 1) :: T21, B21⟩ ?_
           obtain ⟨v53, hv54, h⟩ := bindO h
           refine rc 2 ⟨(57, zI v53.1) :: (56, zI 1) :: (55, .agg [zI v21.fBal, zI v21.fVal, .view 12 0 [] 2, zI v21.fBest, .view 12 0 [] 4]) :: (14, zI 1) :: T21, (12, ⟨0, 1, true, some (.agg [zI v21.fBal, zI v21.fVal, .sl 1 (List.map encInt v53.2.fFrom), zI v21.fBest, .sl 1 (List.map encInt v53.2.fGot)])⟩) :: B21⟩ (laws_markProp_spec v21 1 v53 hv54) ?_
           refine ro9 3 1 1 ⟨(14, zI v53.1) :: (57, zI v53.1) :: (56, zI 1) :: (55, .agg [zI v21.fBal, zI v21.fVal, .view 12 0 [] 2, zI v21.fBest, .view 12 0 [] 4]) :: (14, zI 1) :: T21, (12, ⟨0, 1, true, some (.agg [zI v21.fBal, zI v21.fVal, .sl 1 (List.map encInt v53.2.fFrom), zI v21.fBest, .sl 1 (List.map encInt v53.2.fGot)])⟩) :: B21⟩ ?_
           refine sqr cv hn ?_
           refine ro9 0 1 1 ⟨(15, zI 1) :: (14, zI v53.1) :: (57, zI v53.1) :: (56, zI 1) :: (55, .agg [zI v21.fBal, zI v21.fVal, .view 12 0 [] 2, zI v21.fBest, .view 12 0 [] 4]) :: (14, zI 1) :: T21, (12, ⟨0, 1, true, some (.agg [zI v21.fBal, zI v21.fVal, .sl 1 (List.map encInt v53.2.fFrom), zI v21.fBest, .sl 1 (List.map encInt v53.2.fGot)])⟩) :: B21⟩ ?_
           refine sqr cv hn ?_
           refine ro 0 2 2 ⟨(59, zI 1) :: (58, .agg [zI v21.fBal, zI v21.fVal, .view 12 1 [] 2, zI v21.fBest, .view 12 1 [] 4]) :: (15, zI 1) :: (14, zI v53.1) :: (57, zI v53.1) :: (56, zI 1) :: (55, .agg [zI v21.fBal, zI v21.fVal, .view 12 0 [] 2, zI v21.fBest, .view 12 0 [] 4]) :: (14, zI 1) :: T21, (12, ⟨0, 1, true, some (.agg [zI v21.fBal, zI v21.fVal, .sl 1 (List.map encInt v53.2.fFrom), zI v21.fBest, .sl 1 (List.map encInt v53.2.fGot)])⟩) :: B21⟩ ?_
           obtain ⟨v57, hv58, h⟩ := bindO h
           refine rcH 2 [List.map encInt v53.2.fFrom, List.map encInt v53.2.fGot] ⟨(60, zI v57) :: (59, zI 1) :: (58, .agg [zI v21.fBal, zI v21.fVal, .view 12 1 [] 2, zI v21.fBest, .view 12 1 [] 4]) :: (15, zI 1) :: (14, zI v53.1) :: (57, zI v53.1) :: (56, zI 1) :: (55, .agg [zI v21.fBal, zI v21.fVal, .view 12 0 [] 2, zI v21.fBest, .view 12 0 [] 4]) :: (14, zI 1) :: T21, (12, ⟨0, 1, true, some (.agg [zI v21.fBal, zI v21.fVal, .sl 1 (List.map encInt v53.2.fFrom), zI v21.fBest, .sl 1 (List.map encInt v53.2.fGot)])⟩) :: B21⟩ [X.rds (List.map encInt v53.2.fFrom) = true, X.roifys (List.map encInt v53.2.fFrom) = List.map encInt v53.2.fFrom, X.rds (List.map encInt v53.2.fGot) = true, X.roifys (List.map encInt v53.2.fGot) = List.map encInt v53.2.fGot, rootsBut (cv 41) 0 [.agg [zI v21.fBal, zI v21.fVal, .view 12 1 [] 2, zI v21.fBest, .view 12 1 [] 4], zI 1] = false ∨ (X.noRo (zI v57 : X) = true ∧ X.noRo (.junk : X) = true)] (laws_heldProp_spec { v21 with fFrom := v53.2.fFrom, fGot := v53.2.fGot } 1 v57 hv58) ⟨rds_map rde_Int _, ro_map ro_Int _, rds_map rde_Int _, ro_map ro_Int _, .inr ⟨rfl, rfl⟩, trivial⟩ ?_
           refine ro9 3 1 1 ⟨(15, zI v57) :: (60, zI v57) :: (59, zI 1) :: (58, .agg [zI v21.fBal, zI v21.fVal, .view 12 1 [] 2, zI v21.fBest, .view 12 1 [] 4]) :: (15, zI 1) :: (14, zI v53.1) :: (57, zI v53.1) :: (56, zI 1) :: (55, .agg [zI v21.fBal, zI v21.fVal, .view 12 0 [] 2, zI v21.fBest, .view 12 0 [] 4]) :: (14, zI 1) :: T21, (12, ⟨0, 1, true, some (.agg [zI v21.fBal, zI v21.fVal, .sl 1 (List.map encInt v53.2.fFrom), zI v21.fBest, .sl 1 (List.map encInt v53.2.fGot)])⟩) :: B21⟩ ?_
           refine runs_seq ?_
           let T23 : List (Nat × X) := [(15, zI v57), (14, zI v53.1), (12, .ptr 12 0 0), (10, .ptr 10 0 0), (4, .ptr 4 0 0), (1, zI a1), (2, zI a2), (3, zI a3)]
           let B23 : List (Nat × Bx) := [(12, ⟨0, 0, true, some (.agg [zI v21.fBal, zI v21.fVal, .sl 1 (List.map encInt v53.2.fFrom), zI v21.fBest, .sl 1 (List.map encInt v53.2.fGot)])⟩), (10, ⟨0, 0, true, some (encProp1 v13)⟩), (4, ⟨0, 0, true, some (encProp0 a0)⟩)]
           refine wkr [15, 14, 12, 10, 4, 1, 2, 3] [(12, 12, false), (10, 10, false), (4, 4, false)] ⟨T23, B23⟩ ?_
           refine sqr cv hn ?_
           refine ro9 0 2 2 ⟨(62, zB (decide (v57 < 0))) :: (61, zI v57) :: T23, B23⟩ ?_
           rcases dich (decide (v57 < 0)) with hb60 | hb60
           · replace h := cond_t hb60 h
             refine ct hb60 ?_
             refine sqr cv hn ?_
             refine ro9 0 1 1 ⟨(8, zB false) :: (62, zB (decide (v57 < 0))) :: (61, zI v57) :: T23, B23⟩ ?_
             refine runs_ret ?_
             exact fin _ _ h (by kernel_rfl)
           · replace h := cond_f hb60 h
             refine cf hb60 ?_
             refine runs_skip ?_
             refine runs_seq ?_
             refine sqr cv hn ?_
             refine ro9 0 3 3 ⟨(65, zB (v57 != v53.1)) :: (64, zI v53.1) :: (63, zI v57) :: (62, zB (decide (v57 < 0))) :: (61, zI v57) :: T23, B23⟩ ?_
             rcases dich (v57 != v53.1) with hb62 | hb62
             · replace h := cond_t hb62 h
               refine ct hb62 ?_
               let T25 : List (Nat × X) := [(15, zI v57), (14, zI v53.1), (12, .ptr 12 0 0), (10, .ptr 10 0 0), (4, .ptr 4 0 0), (1, zI a1), (2, zI a2), (3, zI a3)]
               let B25 : List (Nat × Bx) := [(12, ⟨0, 0, true, some (.agg [zI v21.fBal, zI v21.fVal, .sl 1 (List.map encInt v53.2.fFrom), zI v21.fBest, .sl 1 (List.map encInt v53.2.fGot)])⟩), (10, ⟨0, 0, true, some (encProp1 v13)⟩), (4, ⟨0, 0, true, some (encProp0 a0)⟩)]
               refine wkr [15, 14, 12, 10, 4, 1, 2, 3] [(12, 12, false), (10, 10, false), (4, 4, false)] ⟨T25, B25⟩ ?_
               refine sqr cv hn ?_
               refine ro9 0 1 1 ⟨(8, zB false) :: T25, B25⟩ ?_
               refine runs_ret ?_
               exact fin _ _ h (by kernel_rfl)
             · replace h := cond_f hb62 h
               refine cf hb62 ?_
               refine runs_skip ?_
               let T27 : List (Nat × X) := [(15, zI v57), (14, zI v53.1), (12, .ptr 12 0 0), (10, .ptr 10 0 0), (4, .ptr 4 0 0), (1, zI a1), (2, zI a2), (3, zI a3)]
               let B27 : List (Nat × Bx) := [(12, ⟨0, 0, true, some (.agg [zI v21.fBal, zI v21.fVal, .sl 1 (List.map encInt v53.2.fFrom), zI v21.fBest, .sl 1 (List.map encInt v53.2.fGot)])⟩), (10, ⟨0, 0, true, some (encProp1 v13)⟩), (4, ⟨0, 0, true, some (encProp0 a0)⟩)]
               refine wkr [15, 14, 12, 10, 4, 1, 2, 3] [(12, 12, false), (10, 10, false), (4, 4, false)] ⟨T27, B27⟩ ?_
               refine sqr cv hn ?_
               refine ro 0 1 1 ⟨(66, encProp0 a0) :: T27, B27⟩ ?_
               obtain ⟨v67, hv68, h⟩ := bindO h
               refine rc 1 ⟨(67, .agg [zI v67.fBal, zI v67.fVal, .view 67 1 [] 0, zI v67.fBest, .view 10067 1 [] 0]) :: (66, encProp0 a0) :: T27, (10067, ⟨1, 1, false, some (.sl 1 (List.map encInt v67.fGot))⟩) :: (67, ⟨1, 1, false, some (.sl 1 (List.map encInt v67.fFrom))⟩) :: B27⟩ (laws_toProp_spec a0 v67 hv68) ?_
               refine ro 2 3 3 ⟨(70, zI a3) :: (69, zI a2) :: (68, zI a1) :: (67, .agg [zI v67.fBal, zI v67.fVal, .view 67 1 [] 0, zI v67.fBest, .view 10067 1 [] 0]) :: (66, encProp0 a0) :: T27, (10067, ⟨1, 1, false, some (.sl 1 (List.map encInt v67.fGot))⟩) :: (67, ⟨1, 1, false, some (.sl 1 (List.map encInt v67.fFrom))⟩) :: B27⟩ ?_
               obtain ⟨v69, hv70, h⟩ := bindO h
               refine rcH 5 [List.map encInt v67.fFrom, List.map encInt v67.fGot] ⟨(71, .agg [zI v69.fBal, zI v69.fVal, .view 71 1 [] 0, zI v69.fBest, .view 10071 1 [] 0]) :: (70, zI a3) :: (69, zI a2) :: (68, zI a1) :: (67, .agg [zI v67.fBal, zI v67.fVal, .view 67 1 [] 0, zI v67.fBest, .view 10067 1 [] 0]) :: (66, encProp0 a0) :: T27, (10071, ⟨1, 1, false, some (.sl 1 (List.map encInt v69.fGot))⟩) :: (71, ⟨1, 1, false, some (.sl 1 (List.map encInt v69.fFrom))⟩) :: (10067, ⟨1, 1, false, some (.sl 1 (List.map encInt v67.fGot))⟩) :: (67, ⟨1, 1, false, some (.sl 1 (List.map encInt v67.fFrom))⟩) :: B27⟩ [X.rds (List.map encInt v67.fFrom) = true, X.roifys (List.map encInt v67.fFrom) = List.map encInt v67.fFrom, X.rds (List.map encInt v67.fGot) = true, X.roifys (List.map encInt v67.fGot) = List.map encInt v67.fGot, rootsBut (cv 19) 0 [.agg [zI v67.fBal, zI v67.fVal, .view 67 1 [] 0, zI v67.fBest, .view 10067 1 [] 0], zI a1, zI a2, zI a3] = false ∨ (X.noRo (encProp1 v69 : X) = true ∧ X.noRo (.junk : X) = true)] (impl_PropHear_spec v67 a1 a2 a3 v69 hv70) ⟨rds_map rde_Int _, ro_map ro_Int _, rds_map rde_Int _, ro_map ro_Int _, .inr ⟨(nr_agg (nr_cons rfl (nr_cons rfl (nr_cons (nr_sl (nr_map nr_Int _)) (nr_cons rfl (nr_cons (nr_sl (nr_map nr_Int _)) nr_nil)))))), rfl⟩, trivial⟩ ?_
               refine ro9 6 2 2 ⟨(16, .ptr 16 1 0) :: (71, .agg [zI v69.fBal, zI v69.fVal, .view 71 1 [] 0, zI v69.fBest, .view 10071 1 [] 0]) :: (70, zI a3) :: (69, zI a2) :: (68, zI a1) :: (67, .agg [zI v67.fBal, zI v67.fVal, .view 67 1 [] 0, zI v67.fBest, .view 10067 1 [] 0]) :: (66, encProp0 a0) :: T27, (16, ⟨1, 2, true, some (encProp1 v69)⟩) :: (10071, ⟨1, 2, false, some (.junk)⟩) :: (71, ⟨1, 2, false, some (.junk)⟩) :: (16, ⟨1, 1, true, some (.agg [zI 0, zI 0, .sl 1 (List.map encInt []), zI 0, .sl 1 (List.map encInt [])])⟩) :: (10071, ⟨1, 1, false, some (.sl 1 (List.map encInt v69.fGot))⟩) :: (71, ⟨1, 1, false, some (.sl 1 (List.map encInt v69.fFrom))⟩) :: (10067, ⟨1, 1, false, some (.sl 1 (List.map encInt v67.fGot))⟩) :: (67, ⟨1, 1, false, some (.sl 1 (List.map encInt v67.fFrom))⟩) :: B27⟩ ?_
               refine runs_seq ?_
               let T30 : List (Nat × X) := [(16, .ptr 16 0 0), (15, zI v57), (14, zI v53.1), (12, .ptr 12 0 0), (10, .ptr 10 0 0)]
               let B30 : List (Nat × Bx) := [(16, ⟨0, 0, true, some (encProp1 v69)⟩), (12, ⟨0, 0, true, some (.agg [zI v21.fBal, zI v21.fVal, .sl 1 (List.map encInt v53.2.fFrom), zI v21.fBest, .sl 1 (List.map encInt v53.2.fGot)])⟩), (10, ⟨0, 0, true, some (encProp1 v13)⟩)]
               refine wkr [16, 15, 14, 12, 10] [(16, 16, false), (12, 12, false), (10, 10, false)] ⟨T30, B30⟩ ?_
               refine sqr cv hn ?_
               refine ro 0 2 2 ⟨(73, .agg [zI v13.fBal, zI v13.fVal, .view 10 0 [] 2, zI v13.fBest, .view 10 0 [] 4]) :: (72, .agg [zI v69.fBal, zI v69.fVal, .view 16 0 [] 2, zI v69.fBest, .view 16 0 [] 4]) :: T30, B30⟩ ?_
               obtain ⟨v74, hv75, h⟩ := bindO h
               refine rcH 2 [List.map encInt v69.fFrom, List.map encInt v69.fGot, List.map encInt v13.fFrom, List.map encInt v13.fGot] ⟨(74, zB v74) :: (73, .agg [zI v13.fBal, zI v13.fVal, .view 10 0 [] 2, zI v13.fBest, .view 10 0 [] 4]) :: (72, .agg [zI v69.fBal, zI v69.fVal, .view 16 0 [] 2, zI v69.fBest, .view 16 0 [] 4]) :: T30, B30⟩ [X.rds (List.map encInt v69.fFrom) = true, X.roifys (List.map encInt v69.fFrom) = List.map encInt v69.fFrom, X.rds (List.map encInt v69.fGot) = true, X.roifys (List.map encInt v69.fGot) = List.map encInt v69.fGot, X.rds (List.map encInt v13.fFrom) = true, X.roifys (List.map encInt v13.fFrom) = List.map encInt v13.fFrom, X.rds (List.map encInt v13.fGot) = true, X.roifys (List.map encInt v13.fGot) = List.map encInt v13.fGot, rootsBut (cv 39) 0 [.agg [zI v69.fBal, zI v69.fVal, .view 16 0 [] 2, zI v69.fBest, .view 16 0 [] 4], .agg [zI v13.fBal, zI v13.fVal, .view 10 0 [] 2, zI v13.fBest, .view 10 0 [] 4]] = false ∨ (X.noRo (zB v74 : X) = true ∧ X.noRo (.junk : X) = true)] (laws_eqProp_spec v69 v13 v74 hv75) ⟨rds_map rde_Int _, ro_map ro_Int _, rds_map rde_Int _, ro_map ro_Int _, rds_map rde_Int _, ro_map ro_Int _, rds_map rde_Int _, ro_map ro_Int _, .inr ⟨rfl, rfl⟩, trivial⟩ ?_
               refine ro9 3 1 1 ⟨(75, zB (!v74)) :: (74, zB v74) :: (73, .agg [zI v13.fBal, zI v13.fVal, .view 10 0 [] 2, zI v13.fBest, .view 10 0 [] 4]) :: (72, .agg [zI v69.fBal, zI v69.fVal, .view 16 0 [] 2, zI v69.fBest, .view 16 0 [] 4]) :: T30, B30⟩ ?_
               rcases dich (!v74) with hb76 | hb76
               · replace h := cond_t hb76 h
                 refine ct hb76 ?_
                 let T31 : List (Nat × X) := [(15, zI v57), (14, zI v53.1), (12, .ptr 12 0 0)]
                 let B31 : List (Nat × Bx) := [(12, ⟨0, 0, true, some (.agg [zI v21.fBal, zI v21.fVal, .sl 1 (List.map encInt v53.2.fFrom), zI v21.fBest, .sl 1 (List.map encInt v53.2.fGot)])⟩)]
                 refine wkr [15, 14, 12] [(12, 12, false)] ⟨T31, B31⟩ ?_
                 refine sqr cv hn ?_
                 refine ro9 0 1 1 ⟨(8, zB false) :: T31, B31⟩ ?_
                 refine runs_ret ?_
                 exact fin _ _ h (by kernel_rfl)
               · replace h := cond_f hb76 h
                 refine cf hb76 ?_
                 refine runs_skip ?_
                 let T33 : List (Nat × X) := [(15, zI v57), (14, zI v53.1), (12, .ptr 12 0 0)]
                 let B33 : List (Nat × Bx) := [(12, ⟨0, 0, true, some (.agg [zI v21.fBal, zI v21.fVal, .sl 1 (List.map encInt v53.2.fFrom), zI v21.fBest, .sl 1 (List.map encInt v53.2.fGot)])⟩)]
                 refine wkr [15, 14, 12] [(12, 12, false)] ⟨T33, B33⟩ ?_
                 refine sqr cv hn ?_
                 refine ro9 0 1 1 ⟨(15, zI 1) :: T33, B33⟩ ?_
                 refine sqr cv hn ?_
                 refine ro 0 2 2 ⟨(77, zI 1) :: (76, .agg [zI v21.fBal, zI v21.fVal, .view 12 0 [] 2, zI v21.fBest, .view 12 0 [] 4]) :: (15, zI 1) :: T33, B33⟩ ?_
                 obtain ⟨v79, hv80, h⟩ := bindO h
                 refine rcH 2 [List.map encInt v53.2.fFrom, List.map encInt v53.2.fGot] ⟨(78, zI v79) :: (77, zI 1) :: (76, .agg [zI v21.fBal, zI v21.fVal, .view 12 0 [] 2, zI v21.fBest, .view 12 0 [] 4]) :: (15, zI 1) :: T33, B33⟩ [X.rds (List.map encInt v53.2.fFrom) = true, X.roifys (List.map encInt v53.2.fFrom) = List.map encInt v53.2.fFrom, X.rds (List.map encInt v53.2.fGot) = true, X.roifys (List.map encInt v53.2.fGot) = List.map encInt v53.2.fGot, rootsBut (cv 41) 0 [.agg [zI v21.fBal, zI v21.fVal, .view 12 0 [] 2, zI v21.fBest, .view 12 0 [] 4], zI 1] = false ∨ (X.noRo (zI v79 : X) = true ∧ X.noRo (.junk : X) = true)] (laws_heldProp_spec { v21 with fFrom := v53.2.fFrom, fGot := v53.2.fGot } 1 v79 hv80) ⟨rds_map rde_Int _, ro_map ro_Int _, rds_map rde_Int _, ro_map ro_Int _, .inr ⟨rfl, rfl⟩, trivial⟩ ?_
                 refine ro9 3 1 1 ⟨(15, zI v79) :: (78, zI v79) :: (77, zI 1) :: (76, .agg [zI v21.fBal, zI v21.fVal, .view 12 0 [] 2, zI v21.fBest, .view 12 0 [] 4]) :: (15, zI 1) :: T33, B33⟩ ?_
                 refine runs_seq ?_
                 refine wkr [15, 14] [] ⟨[(15, zI v79), (14, zI v53.1)], []⟩ ?_
                 refine sqr cv hn ?_
                 refine ro9 0 2 2 ⟨[(80, zB (decide (v79 < 0))), (79, zI v79), (15, zI v79), (14, zI v53.1)], []⟩ ?_
                 rcases dich (decide (v79 < 0)) with hb82 | hb82
                 · replace h := cond_t hb82 h
                   refine ct hb82 ?_
                   refine sqr cv hn ?_
                   refine ro9 0 1 1 ⟨[(8, zB false), (80, zB (decide (v79 < 0))), (79, zI v79), (15, zI v79), (14, zI v53.1)], []⟩ ?_
                   refine runs_ret ?_
                   exact fin _ _ h (by kernel_rfl)
                 · replace h := cond_f hb82 h
                   refine cf hb82 ?_
                   refine runs_skip ?_
                   refine runs_seq ?_
                   refine sqr cv hn ?_
                   refine ro9 0 3 3 ⟨[(83, zB (v79 != v53.1)), (82, zI v53.1), (81, zI v79), (80, zB (decide (v79 < 0))), (79, zI v79), (15, zI v79), (14, zI v53.1)], []⟩ ?_
                   rcases dich (v79 != v53.1) with hb83 | hb83
                   · replace h := cond_t hb83 h
                     refine ct hb83 ?_
                     refine wkr [] [] ⟨[], []⟩ ?_
                     refine sqr cv hn ?_
                     refine ro9 0 1 1 ⟨[(8, zB false)], []⟩ ?_
                     refine runs_ret ?_
                     exact fin _ _ h (by kernel_rfl)
                   · replace h := cond_f hb83 h
                     refine cf hb83 ?_
                     refine runs_skip ?_
                     refine wkr [] [] ⟨[], []⟩ ?_
                     refine sqr cv hn ?_
                     refine ro9 0 1 1 ⟨[(8, zB true)], []⟩ ?_
                     refine runs_ret ?_
                     exact fin _ _ h (by kernel_rfl)

end Go.Proofs.Ytncjcbdbdocjaaa
