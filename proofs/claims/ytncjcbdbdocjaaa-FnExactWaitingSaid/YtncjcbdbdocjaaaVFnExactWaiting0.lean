/- The walks: each Go function answers what its plain function says. -/
import Derived.Test.YtncjcbdbdocjaaaUFnExactWaiting
import Derived.Test.YtncjcbdbdocjaaaProg
set_option linter.unusedVariables false
namespace Go.Proofs.Ytncjcbdbdocjaaa
open Go Ax
abbrev cv : Nat → Option Nat := fun g => bif g == 82 then some 0 else bif g == 46 then some 0 else bif g == 83 then some 0 else bif g == 40 then some 0 else bif g == 30 then some 0 else bif g == 97 then some 0 else bif g == 98 then some 0 else bif g == 113 then some 0 else bif g == 63 then some 0 else none
theorem mixed : Try.prog.follows .mixedOrders = true := by decide +kernel

set_option maxRecDepth 100000 in
set_option maxHeartbeats 2000000 in
theorem laws_szIntS_spec (a0 : (List Int)) (a1 : Int) (v0 : Int) (h : laws_szIntS a0 a1 = some v0) : Ax.Spec Try.prog 72 none [.sl 0 (List.map encInt a0), zI a1] (zI v0 : X) (.junk : X) := by
 let T1 : List (Nat × X) := [(0, .sl 0 (List.map encInt a0)), (1, zI a1)]
 refine walk0 (fn := Try.f72) (fun q0 : Int => (zI q0 : X)) (fun q0 : Int => (.junk : X)) v0 ⟨T1, []⟩ Try.func72 rfl (by decide +kernel) fun Γ hn fin => ?_
 rw [laws_szIntS] at h
 refine sqr cv hn ?_
 refine ro9 0 1 1 ⟨(4, zI 0) :: T1, []⟩ ?_
 refine sqr cv hn ?_
 refine ro9 0 5 5 ⟨(1, zI (w64 (a1 - (a0.length : Int)))) :: (8, zI (w64 (a1 - (a0.length : Int)))) :: (7, zI (a0.length : Int)) :: (6, .sl 0 (List.map encInt a0)) :: (5, zI a1) :: (4, zI 0) :: T1, []⟩ ?_ (he := by rw [show (a0.length : Int) = ((List.map encInt a0).length : Int) from by rw [List.length_map]]; kernel_rfl)
 refine runs_seq ?_
 let T2 : List (Nat × X) := [(1, zI (w64 (a1 - (a0.length : Int))))]
 refine wkr [1] [] ⟨T2, []⟩ ?_
 refine sqr cv hn ?_
 refine ro9 0 2 2 ⟨(10, zB (decide ((w64 (a1 - (a0.length : Int))) < 0))) :: (9, zI (w64 (a1 - (a0.length : Int)))) :: T2, []⟩ ?_
 rcases dich (decide ((w64 (a1 - (a0.length : Int))) < 0)) with hb1 | hb1
 · replace h := cond_t hb1 h
   refine ct hb1 ?_
   refine sqr cv hn ?_
   refine ro9 0 1 1 ⟨(4, zI (-1)) :: (10, zB (decide ((w64 (a1 - (a0.length : Int))) < 0))) :: (9, zI (w64 (a1 - (a0.length : Int)))) :: T2, []⟩ ?_
   refine runs_ret ?_
   exact fin _ _ h (by kernel_rfl)
 · replace h := cond_f hb1 h
   refine cf hb1 ?_
   refine runs_skip ?_
   refine sqr cv hn ?_
   refine ro9 0 2 2 ⟨(4, zI (w64 (a1 - (a0.length : Int)))) :: (11, zI (w64 (a1 - (a0.length : Int)))) :: (10, zB (decide ((w64 (a1 - (a0.length : Int))) < 0))) :: (9, zI (w64 (a1 - (a0.length : Int)))) :: T2, []⟩ ?_
   refine runs_ret ?_
   exact fin _ _ h (by kernel_rfl)

set_option maxRecDepth 100000 in
set_option maxHeartbeats 2000000 in
theorem laws_szRepS_spec (a0 : (List SRep)) (a1 : Int) (v0 : Int) (h : laws_szRepS a0 a1 = some v0) : Ax.Spec Try.prog 73 none [.sl 0 (List.map encRep a0), zI a1] (zI v0 : X) (.junk : X) := by
 let T1 : List (Nat × X) := [(0, .sl 0 (List.map encRep a0)), (1, zI a1)]
 refine walk0 (fn := Try.f73) (fun q0 : Int => (zI q0 : X)) (fun q0 : Int => (.junk : X)) v0 ⟨T1, []⟩ Try.func73 rfl (by decide +kernel) fun Γ hn fin => ?_
 rw [laws_szRepS] at h
 refine sqr cv hn ?_
 refine ro9 0 1 1 ⟨(4, zI 0) :: T1, []⟩ ?_
 refine sqr cv hn ?_
 refine ro9 0 5 5 ⟨(1, zI (w64 (a1 - (a0.length : Int)))) :: (8, zI (w64 (a1 - (a0.length : Int)))) :: (7, zI (a0.length : Int)) :: (6, .sl 0 (List.map encRep a0)) :: (5, zI a1) :: (4, zI 0) :: T1, []⟩ ?_ (he := by rw [show (a0.length : Int) = ((List.map encRep a0).length : Int) from by rw [List.length_map]]; kernel_rfl)
 refine runs_seq ?_
 let T2 : List (Nat × X) := [(1, zI (w64 (a1 - (a0.length : Int))))]
 refine wkr [1] [] ⟨T2, []⟩ ?_
 refine sqr cv hn ?_
 refine ro9 0 2 2 ⟨(10, zB (decide ((w64 (a1 - (a0.length : Int))) < 0))) :: (9, zI (w64 (a1 - (a0.length : Int)))) :: T2, []⟩ ?_
 rcases dich (decide ((w64 (a1 - (a0.length : Int))) < 0)) with hb1 | hb1
 · replace h := cond_t hb1 h
   refine ct hb1 ?_
   refine sqr cv hn ?_
   refine ro9 0 1 1 ⟨(4, zI (-1)) :: (10, zB (decide ((w64 (a1 - (a0.length : Int))) < 0))) :: (9, zI (w64 (a1 - (a0.length : Int)))) :: T2, []⟩ ?_
   refine runs_ret ?_
   exact fin _ _ h (by kernel_rfl)
 · replace h := cond_f hb1 h
   refine cf hb1 ?_
   refine runs_skip ?_
   refine sqr cv hn ?_
   refine ro9 0 2 2 ⟨(4, zI (w64 (a1 - (a0.length : Int)))) :: (11, zI (w64 (a1 - (a0.length : Int)))) :: (10, zB (decide ((w64 (a1 - (a0.length : Int))) < 0))) :: (9, zI (w64 (a1 - (a0.length : Int)))) :: T2, []⟩ ?_
   refine runs_ret ?_
   exact fin _ _ h (by kernel_rfl)

set_option maxRecDepth 100000 in
set_option maxHeartbeats 2000000 in
theorem laws_szAcct_spec (a0 : SAcct) (a1 : Int) (v0 : Int) (h : laws_szAcct a0 a1 = some v0) : Ax.Spec Try.prog 25 none [encAcct0 a0, zI a1] (zI v0 : X) (.junk : X) := by
 refine walk0 (fn := Try.f25) (fun q0 : Int => (zI q0 : X)) (fun q0 : Int => (.junk : X)) v0 ⟨[(0, encAcct0 a0), (1, zI a1)], []⟩ Try.func25 rfl (by decide +kernel) fun Γ hn fin => ?_
 rw [laws_szAcct] at h
 refine sqr cv hn ?_
 refine ro9 0 2 2 ⟨[(4, zI 0), (2, .ptr 2 1 0), (0, encAcct0 a0), (1, zI a1)], [(2, ⟨1, 1, true, some (encAcct0 a0)⟩)]⟩ ?_
 refine sqr cv hn ?_
 refine ro 0 3 3 ⟨[(7, zI a1), (6, .sl 0 (List.map encInt a0.fMarks)), (5, .ptr 2 1 3), (4, zI 0), (2, .ptr 2 1 0), (0, encAcct0 a0), (1, zI a1)], [(2, ⟨1, 1, true, some (encAcct0 a0)⟩)]⟩ ?_
 obtain ⟨v3, hv4, h⟩ := bindO h
 refine rc 3 ⟨[(8, zI v3), (7, zI a1), (6, .sl 0 (List.map encInt a0.fMarks)), (5, .ptr 2 1 3), (4, zI 0), (2, .ptr 2 1 0), (0, encAcct0 a0), (1, zI a1)], [(2, ⟨1, 1, true, some (encAcct0 a0)⟩)]⟩ (laws_szIntS_spec a0.fMarks a1 v3 hv4) ?_
 refine ro9 4 1 1 ⟨[(1, zI v3), (8, zI v3), (7, zI a1), (6, .sl 0 (List.map encInt a0.fMarks)), (5, .ptr 2 1 3), (4, zI 0), (2, .ptr 2 1 0), (0, encAcct0 a0), (1, zI a1)], [(2, ⟨1, 1, true, some (encAcct0 a0)⟩)]⟩ ?_
 refine runs_seq ?_
 let B3 : List (Nat × Bx) := [(2, ⟨0, 0, true, some (encAcct0 a0)⟩)]
 refine wkr [1, 2] [(2, 2, false)] ⟨[(1, zI v3), (2, .ptr 2 0 0)], B3⟩ ?_
 refine sqr cv hn ?_
 refine ro9 0 2 2 ⟨[(10, zB (decide (v3 < 0))), (9, zI v3), (1, zI v3), (2, .ptr 2 0 0)], B3⟩ ?_
 rcases dich (decide (v3 < 0)) with hb6 | hb6
 · replace h := cond_t hb6 h
   refine ct hb6 ?_
   refine sqr cv hn ?_
   refine ro9 0 1 1 ⟨[(4, zI (-1)), (10, zB (decide (v3 < 0))), (9, zI v3), (1, zI v3), (2, .ptr 2 0 0)], B3⟩ ?_
   refine runs_ret ?_
   exact fin _ _ h (by kernel_rfl)
 · replace h := cond_f hb6 h
   refine cf hb6 ?_
   refine runs_skip ?_
   refine sqr cv hn ?_
   refine ro 0 3 3 ⟨[(13, zI v3), (12, .sl 0 (List.map encRep a0.fReps)), (11, .ptr 2 0 4), (10, zB (decide (v3 < 0))), (9, zI v3), (1, zI v3), (2, .ptr 2 0 0)], B3⟩ ?_
   obtain ⟨v9, hv10, h⟩ := bindO h
   refine rc 3 ⟨[(14, zI v9), (13, zI v3), (12, .sl 0 (List.map encRep a0.fReps)), (11, .ptr 2 0 4), (10, zB (decide (v3 < 0))), (9, zI v3), (1, zI v3), (2, .ptr 2 0 0)], B3⟩ (laws_szRepS_spec a0.fReps v3 v9 hv10) ?_
   refine ro9 4 1 1 ⟨[(1, zI v9), (14, zI v9), (13, zI v3), (12, .sl 0 (List.map encRep a0.fReps)), (11, .ptr 2 0 4), (10, zB (decide (v3 < 0))), (9, zI v3), (1, zI v3), (2, .ptr 2 0 0)], B3⟩ ?_
   refine runs_seq ?_
   refine wkr [1] [] ⟨[(1, zI v9)], []⟩ ?_
   refine sqr cv hn ?_
   refine ro9 0 2 2 ⟨[(16, zB (decide (v9 < 0))), (15, zI v9), (1, zI v9)], []⟩ ?_
   rcases dich (decide (v9 < 0)) with hb11 | hb11
   · replace h := cond_t hb11 h
     refine ct hb11 ?_
     refine sqr cv hn ?_
     refine ro9 0 1 1 ⟨[(4, zI (-1)), (16, zB (decide (v9 < 0))), (15, zI v9), (1, zI v9)], []⟩ ?_
     refine runs_ret ?_
     exact fin _ _ h (by kernel_rfl)
   · replace h := cond_f hb11 h
     refine cf hb11 ?_
     refine runs_skip ?_
     refine sqr cv hn ?_
     refine ro9 0 2 2 ⟨[(4, zI v9), (17, zI v9), (16, zB (decide (v9 < 0))), (15, zI v9), (1, zI v9)], []⟩ ?_
     refine runs_ret ?_
     exact fin _ _ h (by kernel_rfl)

set_option maxRecDepth 100000 in
set_option maxHeartbeats 2000000 in
theorem laws_szAcctS_spec (a0 : (List SAcct)) (a1 : Int) (v0 : Int) (h : laws_szAcctS a0 a1 = some v0) : Ax.Spec Try.prog 104 none [.sl 0 (List.map encAcct0 a0), zI a1] (zI v0 : X) (.junk : X) := by
 let T1 : List (Nat × X) := [(0, .sl 0 (List.map encAcct0 a0)), (1, zI a1)]
 refine walk0 (fn := Try.f104) (fun q0 : Int => (zI q0 : X)) (fun q0 : Int => (.junk : X)) v0 ⟨T1, []⟩ Try.func104 rfl (by decide +kernel) fun Γ hn fin => ?_
 rw [laws_szAcctS] at h
 refine sqr cv hn ?_
 refine ro9 0 1 1 ⟨(4, zI 0) :: T1, []⟩ ?_
 refine sqr cv hn ?_
 refine ro9 0 5 5 ⟨(1, zI (w64 (a1 - (a0.length : Int)))) :: (9, zI (w64 (a1 - (a0.length : Int)))) :: (8, zI (a0.length : Int)) :: (7, .sl 0 (List.map encAcct0 a0)) :: (6, zI a1) :: (4, zI 0) :: T1, []⟩ ?_ (he := by rw [show (a0.length : Int) = ((List.map encAcct0 a0).length : Int) from by rw [List.length_map]]; kernel_rfl)
 refine runs_seq ?_
 let T3 : List (Nat × X) := [(1, zI (w64 (a1 - (a0.length : Int)))), (0, .sl 0 (List.map encAcct0 a0))]
 refine wkr [1, 0] [] ⟨T3, []⟩ ?_
 refine sqr cv hn ?_
 refine ro9 0 2 2 ⟨(11, zB (decide ((w64 (a1 - (a0.length : Int))) < 0))) :: (10, zI (w64 (a1 - (a0.length : Int)))) :: T3, []⟩ ?_
 rcases dich (decide ((w64 (a1 - (a0.length : Int))) < 0)) with hb2 | hb2
 · replace h := cond_t hb2 h
   refine ct hb2 ?_
   refine sqr cv hn ?_
   refine ro9 0 1 1 ⟨(4, zI (-1)) :: (11, zB (decide ((w64 (a1 - (a0.length : Int))) < 0))) :: (10, zI (w64 (a1 - (a0.length : Int)))) :: T3, []⟩ ?_
   refine runs_ret ?_
   exact fin _ _ h (by kernel_rfl)
 · replace h := cond_f hb2 h
   refine cf hb2 ?_
   refine runs_skip ?_
   refine runs_seq ?_
   refine sqr cv hn ?_
   refine ro9 0 1 1 ⟨(5, zI 0) :: (11, zB (decide ((w64 (a1 - (a0.length : Int))) < 0))) :: (10, zI (w64 (a1 - (a0.length : Int)))) :: T3, []⟩ ?_
   refine runs_block ?_
   refine runs_loopM (σ := List SAcct × Nat × Int) (fun s => ⟨[(5, zI (s.2.1 : Int)), (1, zI s.2.2), (0, .sl 0 (List.map encAcct0 a0))], []⟩) (fun s => s.1 = List.drop s.2.1 a0 ∧ laws_szAcctS_l1 s.1 s.2.1 s.2.2 = some v0) (fun s => s.1.length) (a0, 0, w64 (a1 - (a0.length : Int))) ⟨rfl, h⟩ (wre [5, 1, 0] []) ?_
   rintro ⟨t1, i1, y17⟩ ⟨hd1, h⟩
   refine seq0 ⟨[(5, zI (i1 : Int)), (1, zI y17), (0, .sl 0 (List.map encAcct0 a0))], []⟩ ?_
   refine runs_len 0 (es := List.map encAcct0 a0) (by kernel_rfl) fun hl1 => ?_
   replace hl1 := len_of_map hl1
   cases t1 with
   | nil =>
     rw [laws_szAcctS_l1] at h
     have hLn1 := dnil hd1
     refine runs_seq ?_
     refine sqr cv hn ?_
     refine ro9 0 4 4 ⟨[(15, zB (decide ((i1 : Int) < (a0.length : Int)))), (14, zI (a0.length : Int)), (13, .sl 0 (List.map encAcct0 a0)), (12, zI (i1 : Int)), (5, zI (i1 : Int)), (1, zI y17), (0, .sl 0 (List.map encAcct0 a0))], []⟩ ?_ (he := by rw [show (a0.length : Int) = ((List.map encAcct0 a0).length : Int) from by rw [List.length_map]]; kernel_rfl)
     refine cf hLn1 ?_
     refine runs_exit ?_
     repeat refine thenX_exit ?_
     refine block_here ?_
     refine wkr [1] [] ⟨[(1, zI y17)], []⟩ ?_
     refine sqr cv hn ?_
     refine ro9 0 2 2 ⟨[(4, zI y17), (26, zI y17), (1, zI y17)], []⟩ ?_
     refine runs_ret ?_
     exact fin _ _ h (by kernel_rfl)
   | cons x10 t1 =>
     rw [laws_szAcctS_l1] at h
     have hLc1 := dcons hd1
     have hx10 := dget hd1
     have hi1 := dinc hd1 hl1
     refine runs_seq ?_
     refine sqr cv hn ?_
     refine ro9 0 4 4 ⟨[(15, zB (decide ((i1 : Int) < (a0.length : Int)))), (14, zI (a0.length : Int)), (13, .sl 0 (List.map encAcct0 a0)), (12, zI (i1 : Int)), (5, zI (i1 : Int)), (1, zI y17), (0, .sl 0 (List.map encAcct0 a0))], []⟩ ?_ (he := by rw [show (a0.length : Int) = ((List.map encAcct0 a0).length : Int) from by rw [List.length_map]]; kernel_rfl)
     refine ct hLc1 ?_
     refine runs_skip ?_
     refine runs_seq ?_
     refine runs_block ?_
     refine sqr cv hn ?_
     refine ro 0 2 2 ⟨[(19, zI (i1 : Int)), (18, .sl 0 (List.map encAcct0 a0)), (15, zB (decide ((i1 : Int) < (a0.length : Int)))), (14, zI (a0.length : Int)), (13, .sl 0 (List.map encAcct0 a0)), (12, zI (i1 : Int)), (5, zI (i1 : Int)), (1, zI y17), (0, .sl 0 (List.map encAcct0 a0))], []⟩ ?_
     refine rix 2 encAcct0 44 hx10 (ix_nn hx10) ⟨[(20, .rp (encAcct0 x10) 0), (19, zI (i1 : Int)), (18, .sl 0 (List.map encAcct0 a0)), (15, zB (decide ((i1 : Int) < (a0.length : Int)))), (14, zI (a0.length : Int)), (13, .sl 0 (List.map encAcct0 a0)), (12, zI (i1 : Int)), (5, zI (i1 : Int)), (1, zI y17), (0, .sl 0 (List.map encAcct0 a0))], []⟩ ?_
     refine ro 3 2 2 ⟨[(22, zI y17), (21, encAcct0 x10), (20, .rp (encAcct0 x10) 0), (19, zI (i1 : Int)), (18, .sl 0 (List.map encAcct0 a0)), (15, zB (decide ((i1 : Int) < (a0.length : Int)))), (14, zI (a0.length : Int)), (13, .sl 0 (List.map encAcct0 a0)), (12, zI (i1 : Int)), (5, zI (i1 : Int)), (1, zI y17), (0, .sl 0 (List.map encAcct0 a0))], []⟩ ?_
     obtain ⟨v33, hv34, h⟩ := bindO h
     refine rc 5 ⟨[(23, zI v33), (22, zI y17), (21, encAcct0 x10), (20, .rp (encAcct0 x10) 0), (19, zI (i1 : Int)), (18, .sl 0 (List.map encAcct0 a0)), (15, zB (decide ((i1 : Int) < (a0.length : Int)))), (14, zI (a0.length : Int)), (13, .sl 0 (List.map encAcct0 a0)), (12, zI (i1 : Int)), (5, zI (i1 : Int)), (1, zI y17), (0, .sl 0 (List.map encAcct0 a0))], []⟩ (laws_szAcct_spec x10 y17 v33 hv34) ?_
     refine ro9 6 1 1 ⟨[(1, zI v33), (23, zI v33), (22, zI y17), (21, encAcct0 x10), (20, .rp (encAcct0 x10) 0), (19, zI (i1 : Int)), (18, .sl 0 (List.map encAcct0 a0)), (15, zB (decide ((i1 : Int) < (a0.length : Int)))), (14, zI (a0.length : Int)), (13, .sl 0 (List.map encAcct0 a0)), (12, zI (i1 : Int)), (5, zI (i1 : Int)), (1, zI y17), (0, .sl 0 (List.map encAcct0 a0))], []⟩ ?_
     refine sqr cv hn ?_
     refine ro9 0 2 2 ⟨[(25, zB (decide (v33 < 0))), (24, zI v33), (1, zI v33), (23, zI v33), (22, zI y17), (21, encAcct0 x10), (20, .rp (encAcct0 x10) 0), (19, zI (i1 : Int)), (18, .sl 0 (List.map encAcct0 a0)), (15, zB (decide ((i1 : Int) < (a0.length : Int)))), (14, zI (a0.length : Int)), (13, .sl 0 (List.map encAcct0 a0)), (12, zI (i1 : Int)), (5, zI (i1 : Int)), (1, zI y17), (0, .sl 0 (List.map encAcct0 a0))], []⟩ ?_
     rcases dich (decide (v33 < 0)) with hb35 | hb35
     · replace h := cond_t hb35 h
       refine ct hb35 ?_
       refine sqr cv hn ?_
       refine ro9 0 1 1 ⟨[(4, zI (-1)), (25, zB (decide (v33 < 0))), (24, zI v33), (1, zI v33), (23, zI v33), (22, zI y17), (21, encAcct0 x10), (20, .rp (encAcct0 x10) 0), (19, zI (i1 : Int)), (18, .sl 0 (List.map encAcct0 a0)), (15, zB (decide ((i1 : Int) < (a0.length : Int)))), (14, zI (a0.length : Int)), (13, .sl 0 (List.map encAcct0 a0)), (12, zI (i1 : Int)), (5, zI (i1 : Int)), (1, zI y17), (0, .sl 0 (List.map encAcct0 a0))], []⟩ ?_
       refine runs_ret ?_
       exact fin _ _ h (by kernel_rfl)
     · replace h := cond_f hb35 h
       refine cf hb35 ?_
       refine runs_skip ?_
       refine rg cv hn ?_
       refine ro9 0 3 3 ⟨[(5, zI ((i1 + 1 : Nat) : Int)), (17, zI ((i1 + 1 : Nat) : Int)), (16, zI (i1 : Int)), (25, zB (decide (v33 < 0))), (24, zI v33), (1, zI v33), (23, zI v33), (22, zI y17), (21, encAcct0 x10), (20, .rp (encAcct0 x10) 0), (19, zI (i1 : Int)), (18, .sl 0 (List.map encAcct0 a0)), (15, zB (decide ((i1 : Int) < (a0.length : Int)))), (14, zI (a0.length : Int)), (13, .sl 0 (List.map encAcct0 a0)), (12, zI (i1 : Int)), (5, zI (i1 : Int)), (1, zI y17), (0, .sl 0 (List.map encAcct0 a0))], []⟩ ?_ (he := by rw [← hi1]; kernel_rfl)
       exact ⟨(t1, i1 + 1, v33), Nat.lt_succ_self _, ⟨dnext hd1, h⟩, wre [5, 1, 0] []⟩

set_option maxRecDepth 100000 in
set_option maxHeartbeats 2000000 in
theorem laws_szMsgS_spec (a0 : (List SMsg)) (a1 : Int) (v0 : Int) (h : laws_szMsgS a0 a1 = some v0) : Ax.Spec Try.prog 126 none [.sl 0 (List.map encMsg a0), zI a1] (zI v0 : X) (.junk : X) := by
 let T1 : List (Nat × X) := [(0, .sl 0 (List.map encMsg a0)), (1, zI a1)]
 refine walk0 (fn := Try.f126) (fun q0 : Int => (zI q0 : X)) (fun q0 : Int => (.junk : X)) v0 ⟨T1, []⟩ Try.func126 rfl (by decide +kernel) fun Γ hn fin => ?_
 rw [laws_szMsgS] at h
 refine sqr cv hn ?_
 refine ro9 0 1 1 ⟨(4, zI 0) :: T1, []⟩ ?_
 refine sqr cv hn ?_
 refine ro9 0 5 5 ⟨(1, zI (w64 (a1 - (a0.length : Int)))) :: (8, zI (w64 (a1 - (a0.length : Int)))) :: (7, zI (a0.length : Int)) :: (6, .sl 0 (List.map encMsg a0)) :: (5, zI a1) :: (4, zI 0) :: T1, []⟩ ?_ (he := by rw [show (a0.length : Int) = ((List.map encMsg a0).length : Int) from by rw [List.length_map]]; kernel_rfl)
 refine runs_seq ?_
 let T2 : List (Nat × X) := [(1, zI (w64 (a1 - (a0.length : Int))))]
 refine wkr [1] [] ⟨T2, []⟩ ?_
 refine sqr cv hn ?_
 refine ro9 0 2 2 ⟨(10, zB (decide ((w64 (a1 - (a0.length : Int))) < 0))) :: (9, zI (w64 (a1 - (a0.length : Int)))) :: T2, []⟩ ?_
 rcases dich (decide ((w64 (a1 - (a0.length : Int))) < 0)) with hb1 | hb1
 · replace h := cond_t hb1 h
   refine ct hb1 ?_
   refine sqr cv hn ?_
   refine ro9 0 1 1 ⟨(4, zI (-1)) :: (10, zB (decide ((w64 (a1 - (a0.length : Int))) < 0))) :: (9, zI (w64 (a1 - (a0.length : Int)))) :: T2, []⟩ ?_
   refine runs_ret ?_
   exact fin _ _ h (by kernel_rfl)
 · replace h := cond_f hb1 h
   refine cf hb1 ?_
   refine runs_skip ?_
   refine sqr cv hn ?_
   refine ro9 0 2 2 ⟨(4, zI (w64 (a1 - (a0.length : Int)))) :: (11, zI (w64 (a1 - (a0.length : Int)))) :: (10, zB (decide ((w64 (a1 - (a0.length : Int))) < 0))) :: (9, zI (w64 (a1 - (a0.length : Int)))) :: T2, []⟩ ?_
   refine runs_ret ?_
   exact fin _ _ h (by kernel_rfl)

set_option maxRecDepth 100000 in
set_option maxHeartbeats 2000000 in
theorem laws_szOut_spec (a0 : SOut) (a1 : Int) (v0 : Int) (h : laws_szOut a0 a1 = some v0) : Ax.Spec Try.prog 121 none [encOut0 a0, zI a1] (zI v0 : X) (.junk : X) := by
 refine walk0 (fn := Try.f121) (fun q0 : Int => (zI q0 : X)) (fun q0 : Int => (.junk : X)) v0 ⟨[(0, encOut0 a0), (1, zI a1)], []⟩ Try.func121 rfl (by decide +kernel) fun Γ hn fin => ?_
 rw [laws_szOut] at h
 refine sqr cv hn ?_
 refine ro9 0 2 2 ⟨[(4, zI 0), (2, .ptr 2 1 0), (0, encOut0 a0), (1, zI a1)], [(2, ⟨1, 1, true, some (encOut0 a0)⟩)]⟩ ?_
 refine sqr cv hn ?_
 refine ro 0 3 3 ⟨[(7, zI a1), (6, .sl 0 (List.map encMsg a0.fList)), (5, .ptr 2 1 1), (4, zI 0), (2, .ptr 2 1 0), (0, encOut0 a0), (1, zI a1)], [(2, ⟨1, 1, true, some (encOut0 a0)⟩)]⟩ ?_
 obtain ⟨v3, hv4, h⟩ := bindO h
 refine rc 3 ⟨[(8, zI v3), (7, zI a1), (6, .sl 0 (List.map encMsg a0.fList)), (5, .ptr 2 1 1), (4, zI 0), (2, .ptr 2 1 0), (0, encOut0 a0), (1, zI a1)], [(2, ⟨1, 1, true, some (encOut0 a0)⟩)]⟩ (laws_szMsgS_spec a0.fList a1 v3 hv4) ?_
 refine ro9 4 1 1 ⟨[(1, zI v3), (8, zI v3), (7, zI a1), (6, .sl 0 (List.map encMsg a0.fList)), (5, .ptr 2 1 1), (4, zI 0), (2, .ptr 2 1 0), (0, encOut0 a0), (1, zI a1)], [(2, ⟨1, 1, true, some (encOut0 a0)⟩)]⟩ ?_
 refine runs_seq ?_
 refine wkr [1] [] ⟨[(1, zI v3)], []⟩ ?_
 refine sqr cv hn ?_
 refine ro9 0 2 2 ⟨[(10, zB (decide (v3 < 0))), (9, zI v3), (1, zI v3)], []⟩ ?_
 rcases dich (decide (v3 < 0)) with hb5 | hb5
 · replace h := cond_t hb5 h
   refine ct hb5 ?_
   refine sqr cv hn ?_
   refine ro9 0 1 1 ⟨[(4, zI (-1)), (10, zB (decide (v3 < 0))), (9, zI v3), (1, zI v3)], []⟩ ?_
   refine runs_ret ?_
   exact fin _ _ h (by kernel_rfl)
 · replace h := cond_f hb5 h
   refine cf hb5 ?_
   refine runs_skip ?_
   refine sqr cv hn ?_
   refine ro9 0 2 2 ⟨[(4, zI v3), (11, zI v3), (10, zB (decide (v3 < 0))), (9, zI v3), (1, zI v3)], []⟩ ?_
   refine runs_ret ?_
   exact fin _ _ h (by kernel_rfl)

set_option maxRecDepth 100000 in
set_option maxHeartbeats 2000000 in
theorem laws_szOutS_spec (a0 : (List SOut)) (a1 : Int) (v0 : Int) (h : laws_szOutS a0 a1 = some v0) : Ax.Spec Try.prog 105 none [.sl 0 (List.map encOut0 a0), zI a1] (zI v0 : X) (.junk : X) := by
 let T1 : List (Nat × X) := [(0, .sl 0 (List.map encOut0 a0)), (1, zI a1)]
 refine walk0 (fn := Try.f105) (fun q0 : Int => (zI q0 : X)) (fun q0 : Int => (.junk : X)) v0 ⟨T1, []⟩ Try.func105 rfl (by decide +kernel) fun Γ hn fin => ?_
 rw [laws_szOutS] at h
 refine sqr cv hn ?_
 refine ro9 0 1 1 ⟨(4, zI 0) :: T1, []⟩ ?_
 refine sqr cv hn ?_
 refine ro9 0 5 5 ⟨(1, zI (w64 (a1 - (a0.length : Int)))) :: (9, zI (w64 (a1 - (a0.length : Int)))) :: (8, zI (a0.length : Int)) :: (7, .sl 0 (List.map encOut0 a0)) :: (6, zI a1) :: (4, zI 0) :: T1, []⟩ ?_ (he := by rw [show (a0.length : Int) = ((List.map encOut0 a0).length : Int) from by rw [List.length_map]]; kernel_rfl)
 refine runs_seq ?_
 let T3 : List (Nat × X) := [(1, zI (w64 (a1 - (a0.length : Int)))), (0, .sl 0 (List.map encOut0 a0))]
 refine wkr [1, 0] [] ⟨T3, []⟩ ?_
 refine sqr cv hn ?_
 refine ro9 0 2 2 ⟨(11, zB (decide ((w64 (a1 - (a0.length : Int))) < 0))) :: (10, zI (w64 (a1 - (a0.length : Int)))) :: T3, []⟩ ?_
 rcases dich (decide ((w64 (a1 - (a0.length : Int))) < 0)) with hb2 | hb2
 · replace h := cond_t hb2 h
   refine ct hb2 ?_
   refine sqr cv hn ?_
   refine ro9 0 1 1 ⟨(4, zI (-1)) :: (11, zB (decide ((w64 (a1 - (a0.length : Int))) < 0))) :: (10, zI (w64 (a1 - (a0.length : Int)))) :: T3, []⟩ ?_
   refine runs_ret ?_
   exact fin _ _ h (by kernel_rfl)
 · replace h := cond_f hb2 h
   refine cf hb2 ?_
   refine runs_skip ?_
   refine runs_seq ?_
   refine sqr cv hn ?_
   refine ro9 0 1 1 ⟨(5, zI 0) :: (11, zB (decide ((w64 (a1 - (a0.length : Int))) < 0))) :: (10, zI (w64 (a1 - (a0.length : Int)))) :: T3, []⟩ ?_
   refine runs_block ?_
   refine runs_loopM (σ := List SOut × Nat × Int) (fun s => ⟨[(5, zI (s.2.1 : Int)), (1, zI s.2.2), (0, .sl 0 (List.map encOut0 a0))], []⟩) (fun s => s.1 = List.drop s.2.1 a0 ∧ laws_szOutS_l1 s.1 s.2.1 s.2.2 = some v0) (fun s => s.1.length) (a0, 0, w64 (a1 - (a0.length : Int))) ⟨rfl, h⟩ (wre [5, 1, 0] []) ?_
   rintro ⟨t1, i1, y17⟩ ⟨hd1, h⟩
   refine seq0 ⟨[(5, zI (i1 : Int)), (1, zI y17), (0, .sl 0 (List.map encOut0 a0))], []⟩ ?_
   refine runs_len 0 (es := List.map encOut0 a0) (by kernel_rfl) fun hl1 => ?_
   replace hl1 := len_of_map hl1
   cases t1 with
   | nil =>
     rw [laws_szOutS_l1] at h
     have hLn1 := dnil hd1
     refine runs_seq ?_
     refine sqr cv hn ?_
     refine ro9 0 4 4 ⟨[(15, zB (decide ((i1 : Int) < (a0.length : Int)))), (14, zI (a0.length : Int)), (13, .sl 0 (List.map encOut0 a0)), (12, zI (i1 : Int)), (5, zI (i1 : Int)), (1, zI y17), (0, .sl 0 (List.map encOut0 a0))], []⟩ ?_ (he := by rw [show (a0.length : Int) = ((List.map encOut0 a0).length : Int) from by rw [List.length_map]]; kernel_rfl)
     refine cf hLn1 ?_
     refine runs_exit ?_
     repeat refine thenX_exit ?_
     refine block_here ?_
     refine wkr [1] [] ⟨[(1, zI y17)], []⟩ ?_
     refine sqr cv hn ?_
     refine ro9 0 2 2 ⟨[(4, zI y17), (26, zI y17), (1, zI y17)], []⟩ ?_
     refine runs_ret ?_
     exact fin _ _ h (by kernel_rfl)
   | cons x10 t1 =>
     rw [laws_szOutS_l1] at h
     have hLc1 := dcons hd1
     have hx10 := dget hd1
     have hi1 := dinc hd1 hl1
     refine runs_seq ?_
     refine sqr cv hn ?_
     refine ro9 0 4 4 ⟨[(15, zB (decide ((i1 : Int) < (a0.length : Int)))), (14, zI (a0.length : Int)), (13, .sl 0 (List.map encOut0 a0)), (12, zI (i1 : Int)), (5, zI (i1 : Int)), (1, zI y17), (0, .sl 0 (List.map encOut0 a0))], []⟩ ?_ (he := by rw [show (a0.length : Int) = ((List.map encOut0 a0).length : Int) from by rw [List.length_map]]; kernel_rfl)
     refine ct hLc1 ?_
     refine runs_skip ?_
     refine runs_seq ?_
     refine runs_block ?_
     refine sqr cv hn ?_
     refine ro 0 2 2 ⟨[(19, zI (i1 : Int)), (18, .sl 0 (List.map encOut0 a0)), (15, zB (decide ((i1 : Int) < (a0.length : Int)))), (14, zI (a0.length : Int)), (13, .sl 0 (List.map encOut0 a0)), (12, zI (i1 : Int)), (5, zI (i1 : Int)), (1, zI y17), (0, .sl 0 (List.map encOut0 a0))], []⟩ ?_
     refine rix 2 encOut0 145 hx10 (ix_nn hx10) ⟨[(20, .rp (encOut0 x10) 0), (19, zI (i1 : Int)), (18, .sl 0 (List.map encOut0 a0)), (15, zB (decide ((i1 : Int) < (a0.length : Int)))), (14, zI (a0.length : Int)), (13, .sl 0 (List.map encOut0 a0)), (12, zI (i1 : Int)), (5, zI (i1 : Int)), (1, zI y17), (0, .sl 0 (List.map encOut0 a0))], []⟩ ?_
     refine ro 3 2 2 ⟨[(22, zI y17), (21, encOut0 x10), (20, .rp (encOut0 x10) 0), (19, zI (i1 : Int)), (18, .sl 0 (List.map encOut0 a0)), (15, zB (decide ((i1 : Int) < (a0.length : Int)))), (14, zI (a0.length : Int)), (13, .sl 0 (List.map encOut0 a0)), (12, zI (i1 : Int)), (5, zI (i1 : Int)), (1, zI y17), (0, .sl 0 (List.map encOut0 a0))], []⟩ ?_
     obtain ⟨v33, hv34, h⟩ := bindO h
     refine rc 5 ⟨[(23, zI v33), (22, zI y17), (21, encOut0 x10), (20, .rp (encOut0 x10) 0), (19, zI (i1 : Int)), (18, .sl 0 (List.map encOut0 a0)), (15, zB (decide ((i1 : Int) < (a0.length : Int)))), (14, zI (a0.length : Int)), (13, .sl 0 (List.map encOut0 a0)), (12, zI (i1 : Int)), (5, zI (i1 : Int)), (1, zI y17), (0, .sl 0 (List.map encOut0 a0))], []⟩ (laws_szOut_spec x10 y17 v33 hv34) ?_
     refine ro9 6 1 1 ⟨[(1, zI v33), (23, zI v33), (22, zI y17), (21, encOut0 x10), (20, .rp (encOut0 x10) 0), (19, zI (i1 : Int)), (18, .sl 0 (List.map encOut0 a0)), (15, zB (decide ((i1 : Int) < (a0.length : Int)))), (14, zI (a0.length : Int)), (13, .sl 0 (List.map encOut0 a0)), (12, zI (i1 : Int)), (5, zI (i1 : Int)), (1, zI y17), (0, .sl 0 (List.map encOut0 a0))], []⟩ ?_
     refine sqr cv hn ?_
     refine ro9 0 2 2 ⟨[(25, zB (decide (v33 < 0))), (24, zI v33), (1, zI v33), (23, zI v33), (22, zI y17), (21, encOut0 x10), (20, .rp (encOut0 x10) 0), (19, zI (i1 : Int)), (18, .sl 0 (List.map encOut0 a0)), (15, zB (decide ((i1 : Int) < (a0.length : Int)))), (14, zI (a0.length : Int)), (13, .sl 0 (List.map encOut0 a0)), (12, zI (i1 : Int)), (5, zI (i1 : Int)), (1, zI y17), (0, .sl 0 (List.map encOut0 a0))], []⟩ ?_
     rcases dich (decide (v33 < 0)) with hb35 | hb35
     · replace h := cond_t hb35 h
       refine ct hb35 ?_
       refine sqr cv hn ?_
       refine ro9 0 1 1 ⟨[(4, zI (-1)), (25, zB (decide (v33 < 0))), (24, zI v33), (1, zI v33), (23, zI v33), (22, zI y17), (21, encOut0 x10), (20, .rp (encOut0 x10) 0), (19, zI (i1 : Int)), (18, .sl 0 (List.map encOut0 a0)), (15, zB (decide ((i1 : Int) < (a0.length : Int)))), (14, zI (a0.length : Int)), (13, .sl 0 (List.map encOut0 a0)), (12, zI (i1 : Int)), (5, zI (i1 : Int)), (1, zI y17), (0, .sl 0 (List.map encOut0 a0))], []⟩ ?_
       refine runs_ret ?_
       exact fin _ _ h (by kernel_rfl)
     · replace h := cond_f hb35 h
       refine cf hb35 ?_
       refine runs_skip ?_
       refine rg cv hn ?_
       refine ro9 0 3 3 ⟨[(5, zI ((i1 + 1 : Nat) : Int)), (17, zI ((i1 + 1 : Nat) : Int)), (16, zI (i1 : Int)), (25, zB (decide (v33 < 0))), (24, zI v33), (1, zI v33), (23, zI v33), (22, zI y17), (21, encOut0 x10), (20, .rp (encOut0 x10) 0), (19, zI (i1 : Int)), (18, .sl 0 (List.map encOut0 a0)), (15, zB (decide ((i1 : Int) < (a0.length : Int)))), (14, zI (a0.length : Int)), (13, .sl 0 (List.map encOut0 a0)), (12, zI (i1 : Int)), (5, zI (i1 : Int)), (1, zI y17), (0, .sl 0 (List.map encOut0 a0))], []⟩ ?_ (he := by rw [← hi1]; kernel_rfl)
       exact ⟨(t1, i1 + 1, v33), Nat.lt_succ_self _, ⟨dnext hd1, h⟩, wre [5, 1, 0] []⟩

set_option maxRecDepth 100000 in
set_option maxHeartbeats 2000000 in
theorem laws_szAccS_spec (a0 : (List SAcc)) (a1 : Int) (v0 : Int) (h : laws_szAccS a0 a1 = some v0) : Ax.Spec Try.prog 106 none [.sl 0 (List.map encAcc a0), zI a1] (zI v0 : X) (.junk : X) := by
 let T1 : List (Nat × X) := [(0, .sl 0 (List.map encAcc a0)), (1, zI a1)]
 refine walk0 (fn := Try.f106) (fun q0 : Int => (zI q0 : X)) (fun q0 : Int => (.junk : X)) v0 ⟨T1, []⟩ Try.func106 rfl (by decide +kernel) fun Γ hn fin => ?_
 rw [laws_szAccS] at h
 refine sqr cv hn ?_
 refine ro9 0 1 1 ⟨(4, zI 0) :: T1, []⟩ ?_
 refine sqr cv hn ?_
 refine ro9 0 5 5 ⟨(1, zI (w64 (a1 - (a0.length : Int)))) :: (8, zI (w64 (a1 - (a0.length : Int)))) :: (7, zI (a0.length : Int)) :: (6, .sl 0 (List.map encAcc a0)) :: (5, zI a1) :: (4, zI 0) :: T1, []⟩ ?_ (he := by rw [show (a0.length : Int) = ((List.map encAcc a0).length : Int) from by rw [List.length_map]]; kernel_rfl)
 refine runs_seq ?_
 let T2 : List (Nat × X) := [(1, zI (w64 (a1 - (a0.length : Int))))]
 refine wkr [1] [] ⟨T2, []⟩ ?_
 refine sqr cv hn ?_
 refine ro9 0 2 2 ⟨(10, zB (decide ((w64 (a1 - (a0.length : Int))) < 0))) :: (9, zI (w64 (a1 - (a0.length : Int)))) :: T2, []⟩ ?_
 rcases dich (decide ((w64 (a1 - (a0.length : Int))) < 0)) with hb1 | hb1
 · replace h := cond_t hb1 h
   refine ct hb1 ?_
   refine sqr cv hn ?_
   refine ro9 0 1 1 ⟨(4, zI (-1)) :: (10, zB (decide ((w64 (a1 - (a0.length : Int))) < 0))) :: (9, zI (w64 (a1 - (a0.length : Int)))) :: T2, []⟩ ?_
   refine runs_ret ?_
   exact fin _ _ h (by kernel_rfl)
 · replace h := cond_f hb1 h
   refine cf hb1 ?_
   refine runs_skip ?_
   refine sqr cv hn ?_
   refine ro9 0 2 2 ⟨(4, zI (w64 (a1 - (a0.length : Int)))) :: (11, zI (w64 (a1 - (a0.length : Int)))) :: (10, zB (decide ((w64 (a1 - (a0.length : Int))) < 0))) :: (9, zI (w64 (a1 - (a0.length : Int)))) :: T2, []⟩ ?_
   refine runs_ret ?_
   exact fin _ _ h (by kernel_rfl)

set_option maxRecDepth 100000 in
set_option maxHeartbeats 2000000 in
theorem laws_szNode_spec (a0 : SNode) (a1 : Int) (v0 : Int) (h : laws_szNode a0 a1 = some v0) : Ax.Spec Try.prog 55 none [encNode0 a0, zI a1] (zI v0 : X) (.junk : X) := by
 refine walk0 (fn := Try.f55) (fun q0 : Int => (zI q0 : X)) (fun q0 : Int => (.junk : X)) v0 ⟨[(0, encNode0 a0), (1, zI a1)], []⟩ Try.func55 rfl (by decide +kernel) fun Γ hn fin => ?_
 rw [laws_szNode] at h
 refine sqr cv hn ?_
 refine ro9 0 2 2 ⟨[(4, zI 0), (2, .ptr 2 1 0), (0, encNode0 a0), (1, zI a1)], [(2, ⟨1, 1, true, some (encNode0 a0)⟩)]⟩ ?_
 refine sqr cv hn ?_
 refine ro 0 3 3 ⟨[(7, zI a1), (6, .sl 0 (List.map encAcct0 a0.fAccts)), (5, .ptr 2 1 2), (4, zI 0), (2, .ptr 2 1 0), (0, encNode0 a0), (1, zI a1)], [(2, ⟨1, 1, true, some (encNode0 a0)⟩)]⟩ ?_
 obtain ⟨v3, hv4, h⟩ := bindO h
 refine rc 3 ⟨[(8, zI v3), (7, zI a1), (6, .sl 0 (List.map encAcct0 a0.fAccts)), (5, .ptr 2 1 2), (4, zI 0), (2, .ptr 2 1 0), (0, encNode0 a0), (1, zI a1)], [(2, ⟨1, 1, true, some (encNode0 a0)⟩)]⟩ (laws_szAcctS_spec a0.fAccts a1 v3 hv4) ?_
 refine ro9 4 1 1 ⟨[(1, zI v3), (8, zI v3), (7, zI a1), (6, .sl 0 (List.map encAcct0 a0.fAccts)), (5, .ptr 2 1 2), (4, zI 0), (2, .ptr 2 1 0), (0, encNode0 a0), (1, zI a1)], [(2, ⟨1, 1, true, some (encNode0 a0)⟩)]⟩ ?_
 refine runs_seq ?_
 let B3 : List (Nat × Bx) := [(2, ⟨0, 0, true, some (encNode0 a0)⟩)]
 refine wkr [1, 2] [(2, 2, false)] ⟨[(1, zI v3), (2, .ptr 2 0 0)], B3⟩ ?_
 refine sqr cv hn ?_
 refine ro9 0 2 2 ⟨[(10, zB (decide (v3 < 0))), (9, zI v3), (1, zI v3), (2, .ptr 2 0 0)], B3⟩ ?_
 rcases dich (decide (v3 < 0)) with hb6 | hb6
 · replace h := cond_t hb6 h
   refine ct hb6 ?_
   refine sqr cv hn ?_
   refine ro9 0 1 1 ⟨[(4, zI (-1)), (10, zB (decide (v3 < 0))), (9, zI v3), (1, zI v3), (2, .ptr 2 0 0)], B3⟩ ?_
   refine runs_ret ?_
   exact fin _ _ h (by kernel_rfl)
 · replace h := cond_f hb6 h
   refine cf hb6 ?_
   refine runs_skip ?_
   refine sqr cv hn ?_
   refine ro 0 3 3 ⟨[(13, zI v3), (12, .sl 0 (List.map encOut0 a0.fOuts)), (11, .ptr 2 0 3), (10, zB (decide (v3 < 0))), (9, zI v3), (1, zI v3), (2, .ptr 2 0 0)], B3⟩ ?_
   obtain ⟨v9, hv10, h⟩ := bindO h
   refine rc 3 ⟨[(14, zI v9), (13, zI v3), (12, .sl 0 (List.map encOut0 a0.fOuts)), (11, .ptr 2 0 3), (10, zB (decide (v3 < 0))), (9, zI v3), (1, zI v3), (2, .ptr 2 0 0)], B3⟩ (laws_szOutS_spec a0.fOuts v3 v9 hv10) ?_
   refine ro9 4 1 1 ⟨[(1, zI v9), (14, zI v9), (13, zI v3), (12, .sl 0 (List.map encOut0 a0.fOuts)), (11, .ptr 2 0 3), (10, zB (decide (v3 < 0))), (9, zI v3), (1, zI v3), (2, .ptr 2 0 0)], B3⟩ ?_
   refine runs_seq ?_
   let B5 : List (Nat × Bx) := [(2, ⟨0, 0, true, some (encNode0 a0)⟩)]
   refine wkr [1, 2] [(2, 2, false)] ⟨[(1, zI v9), (2, .ptr 2 0 0)], B5⟩ ?_
   refine sqr cv hn ?_
   refine ro9 0 2 2 ⟨[(16, zB (decide (v9 < 0))), (15, zI v9), (1, zI v9), (2, .ptr 2 0 0)], B5⟩ ?_
   rcases dich (decide (v9 < 0)) with hb12 | hb12
   · replace h := cond_t hb12 h
     refine ct hb12 ?_
     refine sqr cv hn ?_
     refine ro9 0 1 1 ⟨[(4, zI (-1)), (16, zB (decide (v9 < 0))), (15, zI v9), (1, zI v9), (2, .ptr 2 0 0)], B5⟩ ?_
     refine runs_ret ?_
     exact fin _ _ h (by kernel_rfl)
   · replace h := cond_f hb12 h
     refine cf hb12 ?_
     refine runs_skip ?_
     refine sqr cv hn ?_
     refine ro 0 3 3 ⟨[(19, zI v9), (18, .sl 0 (List.map encInt a0.fIns)), (17, .ptr 2 0 4), (16, zB (decide (v9 < 0))), (15, zI v9), (1, zI v9), (2, .ptr 2 0 0)], B5⟩ ?_
     obtain ⟨v15, hv16, h⟩ := bindO h
     refine rc 3 ⟨[(20, zI v15), (19, zI v9), (18, .sl 0 (List.map encInt a0.fIns)), (17, .ptr 2 0 4), (16, zB (decide (v9 < 0))), (15, zI v9), (1, zI v9), (2, .ptr 2 0 0)], B5⟩ (laws_szIntS_spec a0.fIns v9 v15 hv16) ?_
     refine ro9 4 1 1 ⟨[(1, zI v15), (20, zI v15), (19, zI v9), (18, .sl 0 (List.map encInt a0.fIns)), (17, .ptr 2 0 4), (16, zB (decide (v9 < 0))), (15, zI v9), (1, zI v9), (2, .ptr 2 0 0)], B5⟩ ?_
     refine runs_seq ?_
     let B7 : List (Nat × Bx) := [(2, ⟨0, 0, true, some (encNode0 a0)⟩)]
     refine wkr [1, 2] [(2, 2, false)] ⟨[(1, zI v15), (2, .ptr 2 0 0)], B7⟩ ?_
     refine sqr cv hn ?_
     refine ro9 0 2 2 ⟨[(22, zB (decide (v15 < 0))), (21, zI v15), (1, zI v15), (2, .ptr 2 0 0)], B7⟩ ?_
     rcases dich (decide (v15 < 0)) with hb18 | hb18
     · replace h := cond_t hb18 h
       refine ct hb18 ?_
       refine sqr cv hn ?_
       refine ro9 0 1 1 ⟨[(4, zI (-1)), (22, zB (decide (v15 < 0))), (21, zI v15), (1, zI v15), (2, .ptr 2 0 0)], B7⟩ ?_
       refine runs_ret ?_
       exact fin _ _ h (by kernel_rfl)
     · replace h := cond_f hb18 h
       refine cf hb18 ?_
       refine runs_skip ?_
       refine sqr cv hn ?_
       refine ro 0 3 3 ⟨[(25, zI v15), (24, .sl 0 (List.map encAcc a0.fAccs)), (23, .ptr 2 0 5), (22, zB (decide (v15 < 0))), (21, zI v15), (1, zI v15), (2, .ptr 2 0 0)], B7⟩ ?_
       obtain ⟨v21, hv22, h⟩ := bindO h
       refine rc 3 ⟨[(26, zI v21), (25, zI v15), (24, .sl 0 (List.map encAcc a0.fAccs)), (23, .ptr 2 0 5), (22, zB (decide (v15 < 0))), (21, zI v15), (1, zI v15), (2, .ptr 2 0 0)], B7⟩ (laws_szAccS_spec a0.fAccs v15 v21 hv22) ?_
       refine ro9 4 1 1 ⟨[(1, zI v21), (26, zI v21), (25, zI v15), (24, .sl 0 (List.map encAcc a0.fAccs)), (23, .ptr 2 0 5), (22, zB (decide (v15 < 0))), (21, zI v15), (1, zI v15), (2, .ptr 2 0 0)], B7⟩ ?_
       refine runs_seq ?_
       refine wkr [1] [] ⟨[(1, zI v21)], []⟩ ?_
       refine sqr cv hn ?_
       refine ro9 0 2 2 ⟨[(28, zB (decide (v21 < 0))), (27, zI v21), (1, zI v21)], []⟩ ?_
       rcases dich (decide (v21 < 0)) with hb23 | hb23
       · replace h := cond_t hb23 h
         refine ct hb23 ?_
         refine sqr cv hn ?_
         refine ro9 0 1 1 ⟨[(4, zI (-1)), (28, zB (decide (v21 < 0))), (27, zI v21), (1, zI v21)], []⟩ ?_
         refine runs_ret ?_
         exact fin _ _ h (by kernel_rfl)
       · replace h := cond_f hb23 h
         refine cf hb23 ?_
         refine runs_skip ?_
         refine sqr cv hn ?_
         refine ro9 0 2 2 ⟨[(4, zI v21), (29, zI v21), (28, zB (decide (v21 < 0))), (27, zI v21), (1, zI v21)], []⟩ ?_
         refine runs_ret ?_
         exact fin _ _ h (by kernel_rfl)

set_option maxRecDepth 100000 in
set_option maxHeartbeats 2000000 in
theorem spec_Waiting_spec (a0 : SNode) (v0 : Int) (h : spec_Waiting a0 = some v0) : Ax.Spec Try.prog 56 none [encNode0 a0] (zI v0 : X) (.junk : X) := by
 refine walk0 (fn := Try.f56) (fun q0 : Int => (zI q0 : X)) (fun q0 : Int => (.junk : X)) v0 ⟨[(0, encNode0 a0)], []⟩ Try.func56 rfl (by decide +kernel) fun Γ hn fin => ?_
 rw [spec_Waiting] at h
 refine sqr cv hn ?_
 refine ro9 0 2 2 ⟨[(2, zI 0), (1, .ptr 1 1 0), (0, encNode0 a0)], [(1, ⟨1, 1, true, some (encNode0 a0)⟩)]⟩ ?_
 refine sqr cv hn ?_
 refine ro9 0 1 1 ⟨[(3, zI 0), (2, zI 0), (1, .ptr 1 1 0), (0, encNode0 a0)], [(1, ⟨1, 1, true, some (encNode0 a0)⟩)]⟩ ?_
 refine runs_seq ?_
 refine sqr cv hn ?_
 refine ro9 0 4 4 ⟨[(9, zI 0), (8, zI (a0.fOuts.length : Int)), (7, .sl 0 (List.map encOut0 a0.fOuts)), (6, .ptr 1 1 3), (3, zI 0), (2, zI 0), (1, .ptr 1 1 0), (0, encNode0 a0)], [(1, ⟨1, 1, true, some (encNode0 a0)⟩)]⟩ ?_ (he := by rw [show (a0.fOuts.length : Int) = ((List.map encOut0 a0.fOuts).length : Int) from by rw [List.length_map]]; kernel_rfl)
 refine runs_block ?_
 refine runs_loopM (σ := List SOut × Nat × Int) (fun s => ⟨[(9, zI (s.2.1 : Int)), (8, zI (a0.fOuts.length : Int)), (7, .sl 0 (List.map encOut0 a0.fOuts)), (3, zI s.2.2)], []⟩) (fun s => s.1 = List.drop s.2.1 a0.fOuts ∧ spec_Waiting_l1 s.1 s.2.1 s.2.2 = some v0) (fun s => s.1.length) (a0.fOuts, 0, 0) ⟨rfl, h⟩ (wre [9, 8, 7, 3] []) ?_
 rintro ⟨t1, i1, y10⟩ ⟨hd1, h⟩
 refine seq0 ⟨[(9, zI (i1 : Int)), (8, zI (a0.fOuts.length : Int)), (7, .sl 0 (List.map encOut0 a0.fOuts)), (3, zI y10)], []⟩ ?_
 refine runs_len 7 (es := List.map encOut0 a0.fOuts) (by kernel_rfl) fun hl1 => ?_
 replace hl1 := len_of_map hl1
 cases t1 with
 | nil =>
   rw [spec_Waiting_l1] at h
   have hLn1 := dnil hd1
   refine sqr cv hn ?_
   refine ro9 0 1 1 ⟨[(10, zB (decide ((i1 : Int) < (a0.fOuts.length : Int)))), (9, zI (i1 : Int)), (8, zI (a0.fOuts.length : Int)), (7, .sl 0 (List.map encOut0 a0.fOuts)), (3, zI y10)], []⟩ ?_
   refine runs_seq ?_
   refine cf hLn1 ?_
   refine runs_exit ?_
   repeat refine thenX_exit ?_
   refine block_here ?_
   refine sqr cv hn ?_
   refine ro9 0 2 2 ⟨[(2, zI y10), (19, zI y10), (10, zB (decide ((i1 : Int) < (a0.fOuts.length : Int)))), (9, zI (i1 : Int)), (8, zI (a0.fOuts.length : Int)), (7, .sl 0 (List.map encOut0 a0.fOuts)), (3, zI y10)], []⟩ ?_
   refine runs_ret ?_
   exact fin _ _ h (by kernel_rfl)
 | cons x10 t1 =>
   rw [spec_Waiting_l1] at h
   have hLc1 := dcons hd1
   have hx10 := dget hd1
   have hi1 := dinc hd1 hl1
   refine sqr cv hn ?_
   refine ro9 0 1 1 ⟨[(10, zB (decide ((i1 : Int) < (a0.fOuts.length : Int)))), (9, zI (i1 : Int)), (8, zI (a0.fOuts.length : Int)), (7, .sl 0 (List.map encOut0 a0.fOuts)), (3, zI y10)], []⟩ ?_
   refine runs_seq ?_
   refine ct hLc1 ?_
   refine runs_skip ?_
   refine runs_seq ?_
   refine runs_block ?_
   refine sqr cv hn ?_
   refine rix 0 encOut0 126 hx10 (ix_nn hx10) ⟨[(11, .rp (encOut0 x10) 0), (10, zB (decide ((i1 : Int) < (a0.fOuts.length : Int)))), (9, zI (i1 : Int)), (8, zI (a0.fOuts.length : Int)), (7, .sl 0 (List.map encOut0 a0.fOuts)), (3, zI y10)], []⟩ ?_
   refine ro9 1 3 3 ⟨[(5, .ptr 5 1 0), (12, encOut0 x10), (11, .rp (encOut0 x10) 0), (10, zB (decide ((i1 : Int) < (a0.fOuts.length : Int)))), (9, zI (i1 : Int)), (8, zI (a0.fOuts.length : Int)), (7, .sl 0 (List.map encOut0 a0.fOuts)), (3, zI y10)], [(5, ⟨1, 2, true, some (encOut0 x10)⟩), (5, ⟨1, 1, true, some (.agg [zI 0, .sl 1 (List.map encMsg [])])⟩)]⟩ ?_
   refine rg cv hn ?_
   refine ro9 0 6 6 ⟨[(3, zI (w64 (y10 + (x10.fList.length : Int)))), (17, zI (w64 (y10 + (x10.fList.length : Int)))), (16, zI (x10.fList.length : Int)), (15, .sl 0 (List.map encMsg x10.fList)), (14, .ptr 5 1 1), (13, zI y10), (5, .ptr 5 1 0), (12, encOut0 x10), (11, .rp (encOut0 x10) 0), (10, zB (decide ((i1 : Int) < (a0.fOuts.length : Int)))), (9, zI (i1 : Int)), (8, zI (a0.fOuts.length : Int)), (7, .sl 0 (List.map encOut0 a0.fOuts)), (3, zI y10)], [(5, ⟨1, 2, true, some (encOut0 x10)⟩), (5, ⟨1, 1, true, some (.agg [zI 0, .sl 1 (List.map encMsg [])])⟩)]⟩ ?_ (he := by rw [show (x10.fList.length : Int) = ((List.map encMsg x10.fList).length : Int) from by rw [List.length_map]]; kernel_rfl)
   refine rg cv hn ?_
   refine ro9 0 2 2 ⟨[(9, zI ((i1 + 1 : Nat) : Int)), (18, zI ((i1 + 1 : Nat) : Int)), (3, zI (w64 (y10 + (x10.fList.length : Int)))), (17, zI (w64 (y10 + (x10.fList.length : Int)))), (16, zI (x10.fList.length : Int)), (15, .sl 0 (List.map encMsg x10.fList)), (14, .ptr 5 1 1), (13, zI y10), (5, .ptr 5 1 0), (12, encOut0 x10), (11, .rp (encOut0 x10) 0), (10, zB (decide ((i1 : Int) < (a0.fOuts.length : Int)))), (9, zI (i1 : Int)), (8, zI (a0.fOuts.length : Int)), (7, .sl 0 (List.map encOut0 a0.fOuts)), (3, zI y10)], [(5, ⟨1, 2, true, some (encOut0 x10)⟩), (5, ⟨1, 1, true, some (.agg [zI 0, .sl 1 (List.map encMsg [])])⟩)]⟩ ?_ (he := by rw [← hi1]; kernel_rfl)
   exact ⟨(t1, i1 + 1, w64 (y10 + (x10.fList.length : Int))), Nat.lt_succ_self _, ⟨dnext hd1, h⟩, wre [9, 8, 7, 3] []⟩

set_option maxRecDepth 100000 in
set_option maxHeartbeats 2000000 in
theorem laws_toIntS_spec (a0 : (List Int)) (v0 : (List Int)) (h : laws_toIntS a0 = some v0) : Ax.Spec Try.prog 76 none [.sl 0 (List.map encInt a0)] (.sl 1 (List.map encInt v0) : X) (.junk : X) := by
 let T1 : List (Nat × X) := [(0, .sl 0 (List.map encInt a0))]
 refine walk0 (fn := Try.f76) (fun q0 : (List Int) => (.sl 1 (List.map encInt q0) : X)) (fun q0 : (List Int) => (.junk : X)) v0 ⟨T1, []⟩ Try.func76 rfl (by decide +kernel) fun Γ hn fin => ?_
 rw [laws_toIntS] at h
 refine sqr cv hn ?_
 refine ro9 0 1 1 ⟨(2, .sc (.slice none 0 0)) :: T1, []⟩ ?_
 refine sqr cv hn ?_
 refine ro 0 2 2 ⟨(6, zI (a0.length : Int)) :: (5, .sl 0 (List.map encInt a0)) :: (2, .sc (.slice none 0 0)) :: T1, []⟩ ?_ (he := by rw [show (a0.length : Int) = ((List.map encInt a0).length : Int) from by rw [List.length_map]]; kernel_rfl)
 obtain ⟨hg2, h⟩ := gO_some h
 refine rs 2 ⟨(7, .view 7 1 [] 0) :: (6, zI (a0.length : Int)) :: (5, .sl 0 (List.map encInt a0)) :: (2, .sc (.slice none 0 0)) :: T1, [(7, ⟨1, 1, false, some (.sl 1 (List.map encInt (List.replicate (Int.toNat (a0.length : Int)) 0)))⟩)]⟩ [((a0.length : Int) : Int) = (a0.length : Int) ∧ 0 ≤ ((a0.length : Int) : Int) ∧ tBytes Try.prog 3 * (Int.toNat (a0.length : Int)) ≤ 140737488355328 ∧ (Int.toNat (a0.length : Int)) ≤ 140737488355328] ⟨⟨rfl, hg2.1, mk_side (by kernel_rfl) hg2.2, hg2.2.2⟩, trivial⟩ ?_ (he := by rw [show List.map encInt (List.replicate (Int.toNat (a0.length : Int)) 0) = List.replicate (Int.toNat (a0.length : Int)) (encInt 0) from List.map_replicate]; kernel_rfl)
 refine ro9 3 1 1 ⟨(3, .view 7 1 [] 0) :: (7, .view 7 1 [] 0) :: (6, zI (a0.length : Int)) :: (5, .sl 0 (List.map encInt a0)) :: (2, .sc (.slice none 0 0)) :: T1, [(7, ⟨1, 1, false, some (.sl 1 (List.map encInt (List.replicate (Int.toNat (a0.length : Int)) 0)))⟩)]⟩ ?_
 refine runs_seq ?_
 refine sqr cv hn ?_
 refine ro9 0 1 1 ⟨(4, zI 0) :: (3, .view 7 1 [] 0) :: (7, .view 7 1 [] 0) :: (6, zI (a0.length : Int)) :: (5, .sl 0 (List.map encInt a0)) :: (2, .sc (.slice none 0 0)) :: T1, [(7, ⟨1, 1, false, some (.sl 1 (List.map encInt (List.replicate (Int.toNat (a0.length : Int)) 0)))⟩)]⟩ ?_
 refine runs_block ?_
 refine runs_loopM (σ := List Int × Nat × (List Int)) (fun s => ⟨[(4, zI (s.2.1 : Int)), (3, .view 5000003 0 [] 0), (0, .sl 0 (List.map encInt a0))], [(5000003, ⟨0, 0, false, some (.sl 1 (List.map encInt s.2.2))⟩)]⟩) (fun s => s.1 = List.drop s.2.1 a0 ∧ laws_toIntS_l1 s.1 s.2.1 s.2.2 = some v0) (fun s => s.1.length) (a0, 0, List.replicate (Int.toNat (a0.length : Int)) 0) ⟨rfl, h⟩ (wre [4, 3, 0] [(5000003, 7, false)]) ?_
 rintro ⟨t1, i1, y12⟩ ⟨hd1, h⟩
 refine seq0 ⟨[(4, zI (i1 : Int)), (3, .view 5000003 0 [] 0), (0, .sl 0 (List.map encInt a0))], [(5000003, ⟨0, 0, false, some (.sl 1 (List.map encInt y12))⟩)]⟩ ?_
 refine runs_len 0 (es := List.map encInt a0) (by kernel_rfl) fun hl1 => ?_
 replace hl1 := len_of_map hl1
 cases t1 with
 | nil =>
   rw [laws_toIntS_l1] at h
   have hLn1 := dnil hd1
   refine runs_seq ?_
   refine sqr cv hn ?_
   refine ro9 0 4 4 ⟨[(11, zB (decide ((i1 : Int) < (a0.length : Int)))), (10, zI (a0.length : Int)), (9, .sl 0 (List.map encInt a0)), (8, zI (i1 : Int)), (4, zI (i1 : Int)), (3, .view 5000003 0 [] 0), (0, .sl 0 (List.map encInt a0))], [(5000003, ⟨0, 0, false, some (.sl 1 (List.map encInt y12))⟩)]⟩ ?_ (he := by rw [show (a0.length : Int) = ((List.map encInt a0).length : Int) from by rw [List.length_map]]; kernel_rfl)
   refine cf hLn1 ?_
   refine runs_exit ?_
   repeat refine thenX_exit ?_
   refine block_here ?_
   let B2 : List (Nat × Bx) := [(5000003, ⟨0, 0, false, some (.sl 1 (List.map encInt y12))⟩)]
   refine wkr [3] [(5000003, 5000003, false)] ⟨[(3, .view 5000003 0 [] 0)], B2⟩ ?_
   refine sqr cv hn ?_
   refine ro9 0 2 2 ⟨[(2, .view 5000003 0 [] 0), (21, .view 5000003 0 [] 0), (3, .view 5000003 0 [] 0)], B2⟩ ?_
   refine runs_ret ?_
   exact fin _ _ h (by kernel_rfl)
 | cons x10 t1 =>
   rw [laws_toIntS_l1] at h
   have hLc1 := dcons hd1
   have hx10 := dget hd1
   have hi1 := dinc hd1 hl1
   refine runs_seq ?_
   refine sqr cv hn ?_
   refine ro9 0 4 4 ⟨[(11, zB (decide ((i1 : Int) < (a0.length : Int)))), (10, zI (a0.length : Int)), (9, .sl 0 (List.map encInt a0)), (8, zI (i1 : Int)), (4, zI (i1 : Int)), (3, .view 5000003 0 [] 0), (0, .sl 0 (List.map encInt a0))], [(5000003, ⟨0, 0, false, some (.sl 1 (List.map encInt y12))⟩)]⟩ ?_ (he := by rw [show (a0.length : Int) = ((List.map encInt a0).length : Int) from by rw [List.length_map]]; kernel_rfl)
   refine ct hLc1 ?_
   refine runs_skip ?_
   refine runs_seq ?_
   refine runs_block ?_
   refine rg cv hn ?_
   refine ro 0 4 4 ⟨[(17, zI (i1 : Int)), (16, .sl 0 (List.map encInt a0)), (15, zI (i1 : Int)), (14, .view 5000003 0 [] 0), (11, zB (decide ((i1 : Int) < (a0.length : Int)))), (10, zI (a0.length : Int)), (9, .sl 0 (List.map encInt a0)), (8, zI (i1 : Int)), (4, zI (i1 : Int)), (3, .view 5000003 0 [] 0), (0, .sl 0 (List.map encInt a0))], [(5000003, ⟨0, 0, false, some (.sl 1 (List.map encInt y12))⟩)]⟩ ?_
   refine rix 4 encInt 3 hx10 (ix_nn hx10) ⟨[(18, .rp (zI x10) 0), (17, zI (i1 : Int)), (16, .sl 0 (List.map encInt a0)), (15, zI (i1 : Int)), (14, .view 5000003 0 [] 0), (11, zB (decide ((i1 : Int) < (a0.length : Int)))), (10, zI (a0.length : Int)), (9, .sl 0 (List.map encInt a0)), (8, zI (i1 : Int)), (4, zI (i1 : Int)), (3, .view 5000003 0 [] 0), (0, .sl 0 (List.map encInt a0))], [(5000003, ⟨0, 0, false, some (.sl 1 (List.map encInt y12))⟩)]⟩ ?_
   refine ro 5 1 1 ⟨[(19, zI x10), (18, .rp (zI x10) 0), (17, zI (i1 : Int)), (16, .sl 0 (List.map encInt a0)), (15, zI (i1 : Int)), (14, .view 5000003 0 [] 0), (11, zB (decide ((i1 : Int) < (a0.length : Int)))), (10, zI (a0.length : Int)), (9, .sl 0 (List.map encInt a0)), (8, zI (i1 : Int)), (4, zI (i1 : Int)), (3, .view 5000003 0 [] 0), (0, .sl 0 (List.map encInt a0))], [(5000003, ⟨0, 0, false, some (.sl 1 (List.map encInt y12))⟩)]⟩ ?_
   obtain ⟨x21, hx22, h⟩ := bindO h
   refine rix 6 encInt 3 hx22 (ix_nn hx22) ⟨[(20, .ep 5000003 0 [(0, (Int.toNat (i1 : Int)))] 0), (19, zI x10), (18, .rp (zI x10) 0), (17, zI (i1 : Int)), (16, .sl 0 (List.map encInt a0)), (15, zI (i1 : Int)), (14, .view 5000003 0 [] 0), (11, zB (decide ((i1 : Int) < (a0.length : Int)))), (10, zI (a0.length : Int)), (9, .sl 0 (List.map encInt a0)), (8, zI (i1 : Int)), (4, zI (i1 : Int)), (3, .view 5000003 0 [] 0), (0, .sl 0 (List.map encInt a0))], [(5000003, ⟨0, 0, false, some (.sl 1 (List.map encInt y12))⟩)]⟩ ?_
   refine ra 7 (zI x21 : X) (.sl 1 (List.map encInt (List.set y12 (Int.toNat (i1 : Int)) x10)) : X) ⟨[(20, .ep 5000003 0 [(0, (Int.toNat (i1 : Int)))] 0), (19, zI x10), (18, .rp (zI x10) 0), (17, zI (i1 : Int)), (16, .sl 0 (List.map encInt a0)), (15, zI (i1 : Int)), (14, .view 5000003 0 [] 0), (11, zB (decide ((i1 : Int) < (a0.length : Int)))), (10, zI (a0.length : Int)), (9, .sl 0 (List.map encInt a0)), (8, zI (i1 : Int)), (4, zI (i1 : Int)), (3, .view 5000003 0 [] 0), (0, .sl 0 (List.map encInt a0))], [(5000003, ⟨0, 0, false, some (.sl 1 (List.map encInt (List.set y12 (Int.toNat (i1 : Int)) x10)))⟩), (5000003, ⟨0, 0, false, some (.sl 1 (List.map encInt y12))⟩)]⟩ [X.nav (.sl 1 (List.map encInt y12) : X) [(0, (Int.toNat (i1 : Int)))] = some (zI x21 : X), X.upd false (.sl 1 (List.map encInt y12) : X) [(0, (Int.toNat (i1 : Int)))] (X.puts · 0 [zI x10]) = (.sl 1 (List.map encInt (List.set y12 (Int.toNat (i1 : Int)) x10)) : X)] ⟨nav_one (f := encInt) (t := 0) (by kernel_rfl) hx22, Eq.trans (upd_one (f := encInt) (v := x10) (t := 0) (by kernel_rfl) hx22 (by kernel_rfl)) (by kernel_rfl), trivial⟩ ?_
   refine re0 8 ?_
   refine rg cv hn ?_
   refine ro9 0 3 3 ⟨[(4, zI ((i1 + 1 : Nat) : Int)), (13, zI ((i1 + 1 : Nat) : Int)), (12, zI (i1 : Int)), (20, .ep 5000003 0 [(0, (Int.toNat (i1 : Int)))] 0), (19, zI x10), (18, .rp (zI x10) 0), (17, zI (i1 : Int)), (16, .sl 0 (List.map encInt a0)), (15, zI (i1 : Int)), (14, .view 5000003 0 [] 0), (11, zB (decide ((i1 : Int) < (a0.length : Int)))), (10, zI (a0.length : Int)), (9, .sl 0 (List.map encInt a0)), (8, zI (i1 : Int)), (4, zI (i1 : Int)), (3, .view 5000003 0 [] 0), (0, .sl 0 (List.map encInt a0))], [(5000003, ⟨0, 0, false, some (.sl 1 (List.map encInt (List.set y12 (Int.toNat (i1 : Int)) x10)))⟩), (5000003, ⟨0, 0, false, some (.sl 1 (List.map encInt y12))⟩)]⟩ ?_ (he := by rw [← hi1]; kernel_rfl)
   exact ⟨(t1, i1 + 1, List.set y12 (Int.toNat (i1 : Int)) x10), Nat.lt_succ_self _, ⟨dnext hd1, h⟩, wre [4, 3, 0] [(5000003, 5000003, false)]⟩

set_option maxRecDepth 100000 in
set_option maxHeartbeats 2000000 in
theorem laws_toRep_spec (a0 : SRep) (v0 : SRep) (h : laws_toRep a0 = some v0) : Ax.Spec Try.prog 115 none [encRep a0] (encRep v0 : X) (.junk : X) := by
 refine walk0 (fn := Try.f115) (fun q0 : SRep => (encRep q0 : X)) (fun q0 : SRep => (.junk : X)) v0 ⟨[(0, encRep a0)], []⟩ Try.func115 rfl (by decide +kernel) fun Γ hn fin => ?_
 rw [laws_toRep] at h
 refine sqr cv hn ?_
 refine ro9 0 2 2 ⟨[(2, .ptr 2 1 0), (1, .ptr 1 1 0), (0, encRep a0)], [(2, ⟨1, 1, true, some (.agg [zI 0, zI 0])⟩), (1, ⟨1, 1, true, some (encRep a0)⟩)]⟩ ?_
 refine sqr cv hn ?_
 refine ro9 0 1 1 ⟨[(3, .ptr 3 1 0), (2, .ptr 2 1 0), (1, .ptr 1 1 0), (0, encRep a0)], [(3, ⟨1, 1, true, some (.agg [zI 0, zI 0])⟩), (2, ⟨1, 1, true, some (.agg [zI 0, zI 0])⟩), (1, ⟨1, 1, true, some (encRep a0)⟩)]⟩ ?_
 refine sqr cv hn ?_
 refine ro9 0 4 4 ⟨[(6, .ptr 3 1 0), (5, zI a0.fNode), (4, .ptr 1 1 0), (3, .ptr 3 1 0), (2, .ptr 2 1 0), (1, .ptr 1 1 0), (0, encRep a0)], [(3, ⟨1, 1, true, some (.agg [zI a0.fNode, zI 0])⟩), (3, ⟨1, 1, true, some (.agg [zI 0, zI 0])⟩), (2, ⟨1, 1, true, some (.agg [zI 0, zI 0])⟩), (1, ⟨1, 1, true, some (encRep a0)⟩)]⟩ ?_
 refine sqr cv hn ?_
 refine ro9 0 4 4 ⟨[(9, .ptr 3 1 1), (8, zI a0.fAmt), (7, .ptr 1 1 1), (6, .ptr 3 1 0), (5, zI a0.fNode), (4, .ptr 1 1 0), (3, .ptr 3 1 0), (2, .ptr 2 1 0), (1, .ptr 1 1 0), (0, encRep a0)], [(3, ⟨1, 1, true, some (encRep a0)⟩), (3, ⟨1, 1, true, some (.agg [zI a0.fNode, zI 0])⟩), (3, ⟨1, 1, true, some (.agg [zI 0, zI 0])⟩), (2, ⟨1, 1, true, some (.agg [zI 0, zI 0])⟩), (1, ⟨1, 1, true, some (encRep a0)⟩)]⟩ ?_
 let T2 : List (Nat × X) := [(3, .ptr 3 0 0), (2, .ptr 2 0 0)]
 let B2 : List (Nat × Bx) := [(3, ⟨0, 0, true, some (encRep a0)⟩), (2, ⟨0, 0, true, some (.agg [zI 0, zI 0])⟩)]
 refine wkr [3, 2] [(3, 3, false), (2, 2, false)] ⟨T2, B2⟩ ?_
 refine sqr cv hn ?_
 refine ro9 0 2 2 ⟨(10, encRep a0) :: T2, (2, ⟨0, 0, true, some (encRep a0)⟩) :: B2⟩ ?_
 refine runs_ret ?_
 exact fin _ _ h (by kernel_rfl)

set_option maxRecDepth 100000 in
set_option maxHeartbeats 2000000 in
theorem laws_toRepS_spec (a0 : (List SRep)) (v0 : (List SRep)) (h : laws_toRepS a0 = some v0) : Ax.Spec Try.prog 77 none [.sl 0 (List.map encRep a0)] (.sl 1 (List.map encRep v0) : X) (.junk : X) := by
 let T1 : List (Nat × X) := [(0, .sl 0 (List.map encRep a0))]
 refine walk0 (fn := Try.f77) (fun q0 : (List SRep) => (.sl 1 (List.map encRep q0) : X)) (fun q0 : (List SRep) => (.junk : X)) v0 ⟨T1, []⟩ Try.func77 rfl (by decide +kernel) fun Γ hn fin => ?_
 rw [laws_toRepS] at h
 refine sqr cv hn ?_
 refine ro9 0 1 1 ⟨(2, .sc (.slice none 0 0)) :: T1, []⟩ ?_
 refine sqr cv hn ?_
 refine ro 0 2 2 ⟨(6, zI (a0.length : Int)) :: (5, .sl 0 (List.map encRep a0)) :: (2, .sc (.slice none 0 0)) :: T1, []⟩ ?_ (he := by rw [show (a0.length : Int) = ((List.map encRep a0).length : Int) from by rw [List.length_map]]; kernel_rfl)
 obtain ⟨hg2, h⟩ := gO_some h
 refine rs 2 ⟨(7, .view 7 1 [] 0) :: (6, zI (a0.length : Int)) :: (5, .sl 0 (List.map encRep a0)) :: (2, .sc (.slice none 0 0)) :: T1, [(7, ⟨1, 1, false, some (.sl 1 (List.map encRep (List.replicate (Int.toNat (a0.length : Int)) (SRep.mk 0 0))))⟩)]⟩ [((a0.length : Int) : Int) = (a0.length : Int) ∧ 0 ≤ ((a0.length : Int) : Int) ∧ tBytes Try.prog 119 * (Int.toNat (a0.length : Int)) ≤ 140737488355328 ∧ (Int.toNat (a0.length : Int)) ≤ 140737488355328] ⟨⟨rfl, hg2.1, mk_side (by kernel_rfl) hg2.2, hg2.2.2⟩, trivial⟩ ?_ (he := by rw [show List.map encRep (List.replicate (Int.toNat (a0.length : Int)) (SRep.mk 0 0)) = List.replicate (Int.toNat (a0.length : Int)) (encRep (SRep.mk 0 0)) from List.map_replicate]; kernel_rfl)
 refine ro9 3 1 1 ⟨(3, .view 7 1 [] 0) :: (7, .view 7 1 [] 0) :: (6, zI (a0.length : Int)) :: (5, .sl 0 (List.map encRep a0)) :: (2, .sc (.slice none 0 0)) :: T1, [(7, ⟨1, 1, false, some (.sl 1 (List.map encRep (List.replicate (Int.toNat (a0.length : Int)) (SRep.mk 0 0))))⟩)]⟩ ?_
 refine runs_seq ?_
 refine sqr cv hn ?_
 refine ro9 0 1 1 ⟨(4, zI 0) :: (3, .view 7 1 [] 0) :: (7, .view 7 1 [] 0) :: (6, zI (a0.length : Int)) :: (5, .sl 0 (List.map encRep a0)) :: (2, .sc (.slice none 0 0)) :: T1, [(7, ⟨1, 1, false, some (.sl 1 (List.map encRep (List.replicate (Int.toNat (a0.length : Int)) (SRep.mk 0 0))))⟩)]⟩ ?_
 refine runs_block ?_
 refine runs_loopM (σ := List SRep × Nat × (List SRep)) (fun s => ⟨[(4, zI (s.2.1 : Int)), (3, .view 5000003 0 [] 0), (0, .sl 0 (List.map encRep a0))], [(5000003, ⟨0, 0, false, some (.sl 1 (List.map encRep s.2.2))⟩)]⟩) (fun s => s.1 = List.drop s.2.1 a0 ∧ laws_toRepS_l1 s.1 s.2.1 s.2.2 = some v0) (fun s => s.1.length) (a0, 0, List.replicate (Int.toNat (a0.length : Int)) (SRep.mk 0 0)) ⟨rfl, h⟩ (wre [4, 3, 0] [(5000003, 7, false)]) ?_
 rintro ⟨t1, i1, y14⟩ ⟨hd1, h⟩
 refine seq0 ⟨[(4, zI (i1 : Int)), (3, .view 5000003 0 [] 0), (0, .sl 0 (List.map encRep a0))], [(5000003, ⟨0, 0, false, some (.sl 1 (List.map encRep y14))⟩)]⟩ ?_
 refine runs_len 0 (es := List.map encRep a0) (by kernel_rfl) fun hl1 => ?_
 replace hl1 := len_of_map hl1
 cases t1 with
 | nil =>
   rw [laws_toRepS_l1] at h
   have hLn1 := dnil hd1
   refine runs_seq ?_
   refine sqr cv hn ?_
   refine ro9 0 4 4 ⟨[(11, zB (decide ((i1 : Int) < (a0.length : Int)))), (10, zI (a0.length : Int)), (9, .sl 0 (List.map encRep a0)), (8, zI (i1 : Int)), (4, zI (i1 : Int)), (3, .view 5000003 0 [] 0), (0, .sl 0 (List.map encRep a0))], [(5000003, ⟨0, 0, false, some (.sl 1 (List.map encRep y14))⟩)]⟩ ?_ (he := by rw [show (a0.length : Int) = ((List.map encRep a0).length : Int) from by rw [List.length_map]]; kernel_rfl)
   refine cf hLn1 ?_
   refine runs_exit ?_
   repeat refine thenX_exit ?_
   refine block_here ?_
   let B2 : List (Nat × Bx) := [(5000003, ⟨0, 0, false, some (.sl 1 (List.map encRep y14))⟩)]
   refine wkr [3] [(5000003, 5000003, false)] ⟨[(3, .view 5000003 0 [] 0)], B2⟩ ?_
   refine sqr cv hn ?_
   refine ro9 0 2 2 ⟨[(2, .view 5000003 0 [] 0), (22, .view 5000003 0 [] 0), (3, .view 5000003 0 [] 0)], B2⟩ ?_
   refine runs_ret ?_
   exact fin _ _ h (by kernel_rfl)
 | cons x10 t1 =>
   rw [laws_toRepS_l1] at h
   have hLc1 := dcons hd1
   have hx10 := dget hd1
   have hi1 := dinc hd1 hl1
   refine runs_seq ?_
   refine sqr cv hn ?_
   refine ro9 0 4 4 ⟨[(11, zB (decide ((i1 : Int) < (a0.length : Int)))), (10, zI (a0.length : Int)), (9, .sl 0 (List.map encRep a0)), (8, zI (i1 : Int)), (4, zI (i1 : Int)), (3, .view 5000003 0 [] 0), (0, .sl 0 (List.map encRep a0))], [(5000003, ⟨0, 0, false, some (.sl 1 (List.map encRep y14))⟩)]⟩ ?_ (he := by rw [show (a0.length : Int) = ((List.map encRep a0).length : Int) from by rw [List.length_map]]; kernel_rfl)
   refine ct hLc1 ?_
   refine runs_skip ?_
   refine runs_seq ?_
   refine runs_block ?_
   refine rg cv hn ?_
   refine ro 0 4 4 ⟨[(17, zI (i1 : Int)), (16, .sl 0 (List.map encRep a0)), (15, zI (i1 : Int)), (14, .view 5000003 0 [] 0), (11, zB (decide ((i1 : Int) < (a0.length : Int)))), (10, zI (a0.length : Int)), (9, .sl 0 (List.map encRep a0)), (8, zI (i1 : Int)), (4, zI (i1 : Int)), (3, .view 5000003 0 [] 0), (0, .sl 0 (List.map encRep a0))], [(5000003, ⟨0, 0, false, some (.sl 1 (List.map encRep y14))⟩)]⟩ ?_
   refine rix 4 encRep 136 hx10 (ix_nn hx10) ⟨[(18, .rp (encRep x10) 0), (17, zI (i1 : Int)), (16, .sl 0 (List.map encRep a0)), (15, zI (i1 : Int)), (14, .view 5000003 0 [] 0), (11, zB (decide ((i1 : Int) < (a0.length : Int)))), (10, zI (a0.length : Int)), (9, .sl 0 (List.map encRep a0)), (8, zI (i1 : Int)), (4, zI (i1 : Int)), (3, .view 5000003 0 [] 0), (0, .sl 0 (List.map encRep a0))], [(5000003, ⟨0, 0, false, some (.sl 1 (List.map encRep y14))⟩)]⟩ ?_
   refine ro 5 1 1 ⟨[(19, encRep x10), (18, .rp (encRep x10) 0), (17, zI (i1 : Int)), (16, .sl 0 (List.map encRep a0)), (15, zI (i1 : Int)), (14, .view 5000003 0 [] 0), (11, zB (decide ((i1 : Int) < (a0.length : Int)))), (10, zI (a0.length : Int)), (9, .sl 0 (List.map encRep a0)), (8, zI (i1 : Int)), (4, zI (i1 : Int)), (3, .view 5000003 0 [] 0), (0, .sl 0 (List.map encRep a0))], [(5000003, ⟨0, 0, false, some (.sl 1 (List.map encRep y14))⟩)]⟩ ?_
   obtain ⟨v25, hv26, h⟩ := bindO h
   refine rc 6 ⟨[(20, encRep v25), (19, encRep x10), (18, .rp (encRep x10) 0), (17, zI (i1 : Int)), (16, .sl 0 (List.map encRep a0)), (15, zI (i1 : Int)), (14, .view 5000003 0 [] 0), (11, zB (decide ((i1 : Int) < (a0.length : Int)))), (10, zI (a0.length : Int)), (9, .sl 0 (List.map encRep a0)), (8, zI (i1 : Int)), (4, zI (i1 : Int)), (3, .view 5000003 0 [] 0), (0, .sl 0 (List.map encRep a0))], [(5000003, ⟨0, 0, false, some (.sl 1 (List.map encRep y14))⟩)]⟩ (laws_toRep_spec x10 v25 hv26) ?_
   obtain ⟨x27, hx28, h⟩ := bindO h
   refine rix 7 encRep 119 hx28 (ix_nn hx28) ⟨[(21, .ep 5000003 0 [(0, (Int.toNat (i1 : Int)))] 0), (20, encRep v25), (19, encRep x10), (18, .rp (encRep x10) 0), (17, zI (i1 : Int)), (16, .sl 0 (List.map encRep a0)), (15, zI (i1 : Int)), (14, .view 5000003 0 [] 0), (11, zB (decide ((i1 : Int) < (a0.length : Int)))), (10, zI (a0.length : Int)), (9, .sl 0 (List.map encRep a0)), (8, zI (i1 : Int)), (4, zI (i1 : Int)), (3, .view 5000003 0 [] 0), (0, .sl 0 (List.map encRep a0))], [(5000003, ⟨0, 0, false, some (.sl 1 (List.map encRep y14))⟩)]⟩ ?_
   refine ra 8 (encRep x27 : X) (.sl 1 (List.map encRep (List.set y14 (Int.toNat (i1 : Int)) v25)) : X) ⟨[(21, .ep 5000003 0 [(0, (Int.toNat (i1 : Int)))] 0), (20, encRep v25), (19, encRep x10), (18, .rp (encRep x10) 0), (17, zI (i1 : Int)), (16, .sl 0 (List.map encRep a0)), (15, zI (i1 : Int)), (14, .view 5000003 0 [] 0), (11, zB (decide ((i1 : Int) < (a0.length : Int)))), (10, zI (a0.length : Int)), (9, .sl 0 (List.map encRep a0)), (8, zI (i1 : Int)), (4, zI (i1 : Int)), (3, .view 5000003 0 [] 0), (0, .sl 0 (List.map encRep a0))], [(5000003, ⟨0, 0, false, some (.sl 1 (List.map encRep (List.set y14 (Int.toNat (i1 : Int)) v25)))⟩), (5000003, ⟨0, 0, false, some (.sl 1 (List.map encRep y14))⟩)]⟩ [X.nav (.sl 1 (List.map encRep y14) : X) [(0, (Int.toNat (i1 : Int)))] = some (encRep x27 : X), X.upd false (.sl 1 (List.map encRep y14) : X) [(0, (Int.toNat (i1 : Int)))] (X.puts · 0 [zI v25.fNode, zI v25.fAmt]) = (.sl 1 (List.map encRep (List.set y14 (Int.toNat (i1 : Int)) v25)) : X)] ⟨nav_one (f := encRep) (t := 0) (by kernel_rfl) hx28, Eq.trans (upd_one (f := encRep) (v := v25) (t := 0) (by kernel_rfl) hx28 (by kernel_rfl)) (by kernel_rfl), trivial⟩ ?_
   refine re0 9 ?_
   refine rg cv hn ?_
   refine ro9 0 3 3 ⟨[(4, zI ((i1 + 1 : Nat) : Int)), (13, zI ((i1 + 1 : Nat) : Int)), (12, zI (i1 : Int)), (21, .ep 5000003 0 [(0, (Int.toNat (i1 : Int)))] 0), (20, encRep v25), (19, encRep x10), (18, .rp (encRep x10) 0), (17, zI (i1 : Int)), (16, .sl 0 (List.map encRep a0)), (15, zI (i1 : Int)), (14, .view 5000003 0 [] 0), (11, zB (decide ((i1 : Int) < (a0.length : Int)))), (10, zI (a0.length : Int)), (9, .sl 0 (List.map encRep a0)), (8, zI (i1 : Int)), (4, zI (i1 : Int)), (3, .view 5000003 0 [] 0), (0, .sl 0 (List.map encRep a0))], [(5000003, ⟨0, 0, false, some (.sl 1 (List.map encRep (List.set y14 (Int.toNat (i1 : Int)) v25)))⟩), (5000003, ⟨0, 0, false, some (.sl 1 (List.map encRep y14))⟩)]⟩ ?_ (he := by rw [← hi1]; kernel_rfl)
   exact ⟨(t1, i1 + 1, List.set y14 (Int.toNat (i1 : Int)) v25), Nat.lt_succ_self _, ⟨dnext hd1, h⟩, wre [4, 3, 0] [(5000003, 5000003, false)]⟩

set_option maxRecDepth 100000 in
set_option maxHeartbeats 2000000 in
theorem laws_toAcct_spec (a0 : SAcct) (v0 : SAcct) (h : laws_toAcct a0 = some v0) : Ax.Spec Try.prog 27 none [encAcct0 a0] (encAcct1 v0 : X) (.junk : X) := by
 refine walk0 (fn := Try.f27) (fun q0 : SAcct => (encAcct1 q0 : X)) (fun q0 : SAcct => (.junk : X)) v0 ⟨[(0, encAcct0 a0)], []⟩ Try.func27 rfl (by decide +kernel) fun Γ hn fin => ?_
 rw [laws_toAcct] at h
 refine sqr cv hn ?_
 refine ro9 0 2 2 ⟨[(2, .ptr 2 1 0), (1, .ptr 1 1 0), (0, encAcct0 a0)], [(2, ⟨1, 1, true, some (.agg [zI 0, zI 0, zI 0, .sl 1 (List.map encInt []), .sl 1 (List.map encRep [])])⟩), (1, ⟨1, 1, true, some (encAcct0 a0)⟩)]⟩ ?_
 refine sqr cv hn ?_
 refine ro9 0 1 1 ⟨[(3, .ptr 3 1 0), (2, .ptr 2 1 0), (1, .ptr 1 1 0), (0, encAcct0 a0)], [(3, ⟨1, 1, true, some (.agg [zI 0, zI 0, zI 0, .sl 1 (List.map encInt []), .sl 1 (List.map encRep [])])⟩), (2, ⟨1, 1, true, some (.agg [zI 0, zI 0, zI 0, .sl 1 (List.map encInt []), .sl 1 (List.map encRep [])])⟩), (1, ⟨1, 1, true, some (encAcct0 a0)⟩)]⟩ ?_
 refine sqr cv hn ?_
 refine ro9 0 4 4 ⟨[(6, .ptr 3 1 0), (5, zI a0.fHave), (4, .ptr 1 1 0), (3, .ptr 3 1 0), (2, .ptr 2 1 0), (1, .ptr 1 1 0), (0, encAcct0 a0)], [(3, ⟨1, 1, true, some (.agg [zI a0.fHave, zI 0, zI 0, .sl 1 (List.map encInt []), .sl 1 (List.map encRep [])])⟩), (3, ⟨1, 1, true, some (.agg [zI 0, zI 0, zI 0, .sl 1 (List.map encInt []), .sl 1 (List.map encRep [])])⟩), (2, ⟨1, 1, true, some (.agg [zI 0, zI 0, zI 0, .sl 1 (List.map encInt []), .sl 1 (List.map encRep [])])⟩), (1, ⟨1, 1, true, some (encAcct0 a0)⟩)]⟩ ?_
 refine sqr cv hn ?_
 refine ro9 0 4 4 ⟨[(9, .ptr 3 1 1), (8, zI a0.fState), (7, .ptr 1 1 1), (6, .ptr 3 1 0), (5, zI a0.fHave), (4, .ptr 1 1 0), (3, .ptr 3 1 0), (2, .ptr 2 1 0), (1, .ptr 1 1 0), (0, encAcct0 a0)], [(3, ⟨1, 1, true, some (.agg [zI a0.fHave, zI a0.fState, zI 0, .sl 1 (List.map encInt []), .sl 1 (List.map encRep [])])⟩), (3, ⟨1, 1, true, some (.agg [zI a0.fHave, zI 0, zI 0, .sl 1 (List.map encInt []), .sl 1 (List.map encRep [])])⟩), (3, ⟨1, 1, true, some (.agg [zI 0, zI 0, zI 0, .sl 1 (List.map encInt []), .sl 1 (List.map encRep [])])⟩), (2, ⟨1, 1, true, some (.agg [zI 0, zI 0, zI 0, .sl 1 (List.map encInt []), .sl 1 (List.map encRep [])])⟩), (1, ⟨1, 1, true, some (encAcct0 a0)⟩)]⟩ ?_
 let T3 : List (Nat × X) := [(3, .ptr 3 0 0), (2, .ptr 2 0 0), (1, .ptr 1 0 0)]
 let B3 : List (Nat × Bx) := [(3, ⟨0, 0, true, some (.agg [zI a0.fHave, zI a0.fState, zI 0, .sl 1 (List.map encInt []), .sl 1 (List.map encRep [])])⟩), (2, ⟨0, 0, true, some (.agg [zI 0, zI 0, zI 0, .sl 1 (List.map encInt []), .sl 1 (List.map encRep [])])⟩), (1, ⟨0, 0, true, some (encAcct0 a0)⟩)]
 refine wkr [3, 2, 1] [(3, 3, false), (2, 2, false), (1, 1, false)] ⟨T3, B3⟩ ?_
 refine sqr cv hn ?_
 refine ro9 0 4 4 ⟨(12, .ptr 3 0 2) :: (11, zI a0.fBy) :: (10, .ptr 1 0 2) :: T3, (3, ⟨0, 0, true, some (.agg [zI a0.fHave, zI a0.fState, zI a0.fBy, .sl 1 (List.map encInt []), .sl 1 (List.map encRep [])])⟩) :: B3⟩ ?_
 refine sqr cv hn ?_
 refine ro 0 2 2 ⟨(14, .sl 0 (List.map encInt a0.fMarks)) :: (13, .ptr 1 0 3) :: (12, .ptr 3 0 2) :: (11, zI a0.fBy) :: (10, .ptr 1 0 2) :: T3, (3, ⟨0, 0, true, some (.agg [zI a0.fHave, zI a0.fState, zI a0.fBy, .sl 1 (List.map encInt []), .sl 1 (List.map encRep [])])⟩) :: B3⟩ ?_
 obtain ⟨v3, hv4, h⟩ := bindO h
 refine rc 2 ⟨(15, .view 15 1 [] 0) :: (14, .sl 0 (List.map encInt a0.fMarks)) :: (13, .ptr 1 0 3) :: (12, .ptr 3 0 2) :: (11, zI a0.fBy) :: (10, .ptr 1 0 2) :: T3, (15, ⟨1, 1, false, some (.sl 1 (List.map encInt v3))⟩) :: (3, ⟨0, 0, true, some (.agg [zI a0.fHave, zI a0.fState, zI a0.fBy, .sl 1 (List.map encInt []), .sl 1 (List.map encRep [])])⟩) :: B3⟩ (laws_toIntS_spec a0.fMarks v3 hv4) ?_
 refine ro9 3 2 2 ⟨(16, .ptr 3 0 3) :: (15, .view 15 1 [] 0) :: (14, .sl 0 (List.map encInt a0.fMarks)) :: (13, .ptr 1 0 3) :: (12, .ptr 3 0 2) :: (11, zI a0.fBy) :: (10, .ptr 1 0 2) :: T3, (3, ⟨0, 1, true, some (.agg [zI a0.fHave, zI a0.fState, zI a0.fBy, .sl 1 (List.map encInt v3), .sl 1 (List.map encRep [])])⟩) :: (15, ⟨1, 2, false, some (.junk)⟩) :: (15, ⟨1, 1, false, some (.sl 1 (List.map encInt v3))⟩) :: (3, ⟨0, 0, true, some (.agg [zI a0.fHave, zI a0.fState, zI a0.fBy, .sl 1 (List.map encInt []), .sl 1 (List.map encRep [])])⟩) :: B3⟩ ?_
 let T4 : List (Nat × X) := [(3, .ptr 3 0 0), (2, .ptr 2 0 0), (1, .ptr 1 0 0)]
 let B4 : List (Nat × Bx) := [(3, ⟨0, 0, true, some (.agg [zI a0.fHave, zI a0.fState, zI a0.fBy, .sl 1 (List.map encInt v3), .sl 1 (List.map encRep [])])⟩), (2, ⟨0, 0, true, some (.agg [zI 0, zI 0, zI 0, .sl 1 (List.map encInt []), .sl 1 (List.map encRep [])])⟩), (1, ⟨0, 0, true, some (encAcct0 a0)⟩)]
 refine wkr [3, 2, 1] [(3, 3, false), (2, 2, false), (1, 1, false)] ⟨T4, B4⟩ ?_
 refine sqr cv hn ?_
 refine ro 0 2 2 ⟨(18, .sl 0 (List.map encRep a0.fReps)) :: (17, .ptr 1 0 4) :: T4, B4⟩ ?_
 obtain ⟨v5, hv6, h⟩ := bindO h
 refine rc 2 ⟨(19, .view 19 1 [] 0) :: (18, .sl 0 (List.map encRep a0.fReps)) :: (17, .ptr 1 0 4) :: T4, (19, ⟨1, 1, false, some (.sl 1 (List.map encRep v5))⟩) :: B4⟩ (laws_toRepS_spec a0.fReps v5 hv6) ?_
 refine ro9 3 2 2 ⟨(20, .ptr 3 0 4) :: (19, .view 19 1 [] 0) :: (18, .sl 0 (List.map encRep a0.fReps)) :: (17, .ptr 1 0 4) :: T4, (3, ⟨0, 1, true, some (.agg [zI a0.fHave, zI a0.fState, zI a0.fBy, .sl 1 (List.map encInt v3), .sl 1 (List.map encRep v5)])⟩) :: (19, ⟨1, 2, false, some (.junk)⟩) :: (19, ⟨1, 1, false, some (.sl 1 (List.map encRep v5))⟩) :: B4⟩ ?_
 let T5 : List (Nat × X) := [(3, .ptr 3 0 0), (2, .ptr 2 0 0)]
 let B5 : List (Nat × Bx) := [(3, ⟨0, 0, true, some (.agg [zI a0.fHave, zI a0.fState, zI a0.fBy, .sl 1 (List.map encInt v3), .sl 1 (List.map encRep v5)])⟩), (2, ⟨0, 0, true, some (.agg [zI 0, zI 0, zI 0, .sl 1 (List.map encInt []), .sl 1 (List.map encRep [])])⟩)]
 refine wkr [3, 2] [(3, 3, false), (2, 2, false)] ⟨T5, B5⟩ ?_
 refine sqr cv hn ?_
 refine ro9 0 2 2 ⟨(21, .agg [zI a0.fHave, zI a0.fState, zI a0.fBy, .view 3 0 [] 3, .view 3 0 [] 4]) :: T5, (2, ⟨0, 1, true, some (.agg [zI a0.fHave, zI a0.fState, zI a0.fBy, .sl 1 (List.map encInt v3), .sl 1 (List.map encRep v5)])⟩) :: (3, ⟨0, 2, true, some (.agg [zI a0.fHave, zI a0.fState, zI a0.fBy, .junk, .junk])⟩) :: (3, ⟨0, 1, true, some (.agg [zI a0.fHave, zI a0.fState, zI a0.fBy, .junk, .sl 1 (List.map encRep v5)])⟩) :: B5⟩ ?_
 refine runs_ret ?_
 exact fin _ _ h (by kernel_rfl)

set_option maxRecDepth 100000 in
set_option maxHeartbeats 2000000 in
theorem laws_toAcctS_spec (a0 : (List SAcct)) (v0 : (List SAcct)) (h : laws_toAcctS a0 = some v0) : Ax.Spec Try.prog 107 none [.sl 0 (List.map encAcct0 a0)] (.sl 1 (List.map encAcct1 v0) : X) (.junk : X) := by
 let T1 : List (Nat × X) := [(0, .sl 0 (List.map encAcct0 a0))]
 refine walk0 (fn := Try.f107) (fun q0 : (List SAcct) => (.sl 1 (List.map encAcct1 q0) : X)) (fun q0 : (List SAcct) => (.junk : X)) v0 ⟨T1, []⟩ Try.func107 rfl (by decide +kernel) fun Γ hn fin => ?_
 rw [laws_toAcctS] at h
 refine sqr cv hn ?_
 refine ro9 0 1 1 ⟨(2, .sc (.slice none 0 0)) :: T1, []⟩ ?_
 refine sqr cv hn ?_
 refine ro 0 2 2 ⟨(6, zI (a0.length : Int)) :: (5, .sl 0 (List.map encAcct0 a0)) :: (2, .sc (.slice none 0 0)) :: T1, []⟩ ?_ (he := by rw [show (a0.length : Int) = ((List.map encAcct0 a0).length : Int) from by rw [List.length_map]]; kernel_rfl)
 obtain ⟨hg2, h⟩ := gO_some h
 refine rs 2 ⟨(7, .view 7 1 [] 0) :: (6, zI (a0.length : Int)) :: (5, .sl 0 (List.map encAcct0 a0)) :: (2, .sc (.slice none 0 0)) :: T1, [(7, ⟨1, 1, false, some (.sl 1 (List.map encAcct1 (List.replicate (Int.toNat (a0.length : Int)) (SAcct.mk 0 0 0 [] []))))⟩)]⟩ [((a0.length : Int) : Int) = (a0.length : Int) ∧ 0 ≤ ((a0.length : Int) : Int) ∧ tBytes Try.prog 48 * (Int.toNat (a0.length : Int)) ≤ 140737488355328 ∧ (Int.toNat (a0.length : Int)) ≤ 140737488355328] ⟨⟨rfl, hg2.1, mk_side (by kernel_rfl) hg2.2, hg2.2.2⟩, trivial⟩ ?_ (he := by rw [show List.map encAcct1 (List.replicate (Int.toNat (a0.length : Int)) (SAcct.mk 0 0 0 [] [])) = List.replicate (Int.toNat (a0.length : Int)) (encAcct1 (SAcct.mk 0 0 0 [] [])) from List.map_replicate]; kernel_rfl)
 refine ro9 3 1 1 ⟨(3, .view 7 1 [] 0) :: (7, .view 7 1 [] 0) :: (6, zI (a0.length : Int)) :: (5, .sl 0 (List.map encAcct0 a0)) :: (2, .sc (.slice none 0 0)) :: T1, [(7, ⟨1, 1, false, some (.sl 1 (List.map encAcct1 (List.replicate (Int.toNat (a0.length : Int)) (SAcct.mk 0 0 0 [] []))))⟩)]⟩ ?_
 refine runs_seq ?_
 refine sqr cv hn ?_
 refine ro9 0 1 1 ⟨(4, zI 0) :: (3, .view 7 1 [] 0) :: (7, .view 7 1 [] 0) :: (6, zI (a0.length : Int)) :: (5, .sl 0 (List.map encAcct0 a0)) :: (2, .sc (.slice none 0 0)) :: T1, [(7, ⟨1, 1, false, some (.sl 1 (List.map encAcct1 (List.replicate (Int.toNat (a0.length : Int)) (SAcct.mk 0 0 0 [] []))))⟩)]⟩ ?_
 refine runs_block ?_
 refine runs_loopM (σ := List SAcct × Nat × (List SAcct)) (fun s => ⟨[(4, zI (s.2.1 : Int)), (3, .view 5000003 0 [] 0), (0, .sl 0 (List.map encAcct0 a0))], [(5000003, ⟨0, 0, false, some (.sl 1 (List.map encAcct1 s.2.2))⟩)]⟩) (fun s => s.1 = List.drop s.2.1 a0 ∧ laws_toAcctS_l1 s.1 s.2.1 s.2.2 = some v0) (fun s => s.1.length) (a0, 0, List.replicate (Int.toNat (a0.length : Int)) (SAcct.mk 0 0 0 [] [])) ⟨rfl, h⟩ (wre [4, 3, 0] [(5000003, 7, false)]) ?_
 rintro ⟨t1, i1, y14⟩ ⟨hd1, h⟩
 refine seq0 ⟨[(4, zI (i1 : Int)), (3, .view 5000003 0 [] 0), (0, .sl 0 (List.map encAcct0 a0))], [(5000003, ⟨0, 0, false, some (.sl 1 (List.map encAcct1 y14))⟩)]⟩ ?_
 refine runs_len 0 (es := List.map encAcct0 a0) (by kernel_rfl) fun hl1 => ?_
 replace hl1 := len_of_map hl1
 cases t1 with
 | nil =>
   rw [laws_toAcctS_l1] at h
   have hLn1 := dnil hd1
   refine runs_seq ?_
   refine sqr cv hn ?_
   refine ro9 0 4 4 ⟨[(11, zB (decide ((i1 : Int) < (a0.length : Int)))), (10, zI (a0.length : Int)), (9, .sl 0 (List.map encAcct0 a0)), (8, zI (i1 : Int)), (4, zI (i1 : Int)), (3, .view 5000003 0 [] 0), (0, .sl 0 (List.map encAcct0 a0))], [(5000003, ⟨0, 0, false, some (.sl 1 (List.map encAcct1 y14))⟩)]⟩ ?_ (he := by rw [show (a0.length : Int) = ((List.map encAcct0 a0).length : Int) from by rw [List.length_map]]; kernel_rfl)
   refine cf hLn1 ?_
   refine runs_exit ?_
   repeat refine thenX_exit ?_
   refine block_here ?_
   let B4 : List (Nat × Bx) := [(5000003, ⟨0, 0, false, some (.sl 1 (List.map encAcct1 y14))⟩)]
   refine wkr [3] [(5000003, 5000003, false)] ⟨[(3, .view 5000003 0 [] 0)], B4⟩ ?_
   refine sqr cv hn ?_
   refine ro9 0 2 2 ⟨[(2, .view 5000003 0 [] 0), (22, .view 5000003 0 [] 0), (3, .view 5000003 0 [] 0)], B4⟩ ?_
   refine runs_ret ?_
   exact fin _ _ h (by kernel_rfl)
 | cons x10 t1 =>
   rw [laws_toAcctS_l1] at h
   have hLc1 := dcons hd1
   have hx10 := dget hd1
   have hi1 := dinc hd1 hl1
   refine runs_seq ?_
   refine sqr cv hn ?_
   refine ro9 0 4 4 ⟨[(11, zB (decide ((i1 : Int) < (a0.length : Int)))), (10, zI (a0.length : Int)), (9, .sl 0 (List.map encAcct0 a0)), (8, zI (i1 : Int)), (4, zI (i1 : Int)), (3, .view 5000003 0 [] 0), (0, .sl 0 (List.map encAcct0 a0))], [(5000003, ⟨0, 0, false, some (.sl 1 (List.map encAcct1 y14))⟩)]⟩ ?_ (he := by rw [show (a0.length : Int) = ((List.map encAcct0 a0).length : Int) from by rw [List.length_map]]; kernel_rfl)
   refine ct hLc1 ?_
   refine runs_skip ?_
   refine runs_seq ?_
   refine runs_block ?_
   refine rgk cv hn 8 ?_
   refine ro 0 4 4 ⟨[(17, zI (i1 : Int)), (16, .sl 0 (List.map encAcct0 a0)), (15, zI (i1 : Int)), (14, .view 5000003 0 [] 0), (11, zB (decide ((i1 : Int) < (a0.length : Int)))), (10, zI (a0.length : Int)), (9, .sl 0 (List.map encAcct0 a0)), (8, zI (i1 : Int)), (4, zI (i1 : Int)), (3, .view 5000003 0 [] 0), (0, .sl 0 (List.map encAcct0 a0))], [(5000003, ⟨0, 0, false, some (.sl 1 (List.map encAcct1 y14))⟩)]⟩ ?_
   refine rix 4 encAcct0 44 hx10 (ix_nn hx10) ⟨[(18, .rp (encAcct0 x10) 0), (17, zI (i1 : Int)), (16, .sl 0 (List.map encAcct0 a0)), (15, zI (i1 : Int)), (14, .view 5000003 0 [] 0), (11, zB (decide ((i1 : Int) < (a0.length : Int)))), (10, zI (a0.length : Int)), (9, .sl 0 (List.map encAcct0 a0)), (8, zI (i1 : Int)), (4, zI (i1 : Int)), (3, .view 5000003 0 [] 0), (0, .sl 0 (List.map encAcct0 a0))], [(5000003, ⟨0, 0, false, some (.sl 1 (List.map encAcct1 y14))⟩)]⟩ ?_
   refine ro 5 1 1 ⟨[(19, encAcct0 x10), (18, .rp (encAcct0 x10) 0), (17, zI (i1 : Int)), (16, .sl 0 (List.map encAcct0 a0)), (15, zI (i1 : Int)), (14, .view 5000003 0 [] 0), (11, zB (decide ((i1 : Int) < (a0.length : Int)))), (10, zI (a0.length : Int)), (9, .sl 0 (List.map encAcct0 a0)), (8, zI (i1 : Int)), (4, zI (i1 : Int)), (3, .view 5000003 0 [] 0), (0, .sl 0 (List.map encAcct0 a0))], [(5000003, ⟨0, 0, false, some (.sl 1 (List.map encAcct1 y14))⟩)]⟩ ?_
   obtain ⟨v25, hv26, h⟩ := bindO h
   refine rc 6 ⟨[(20, .agg [zI v25.fHave, zI v25.fState, zI v25.fBy, .view 20 1 [] 0, .view 10020 1 [] 0]), (19, encAcct0 x10), (18, .rp (encAcct0 x10) 0), (17, zI (i1 : Int)), (16, .sl 0 (List.map encAcct0 a0)), (15, zI (i1 : Int)), (14, .view 5000003 0 [] 0), (11, zB (decide ((i1 : Int) < (a0.length : Int)))), (10, zI (a0.length : Int)), (9, .sl 0 (List.map encAcct0 a0)), (8, zI (i1 : Int)), (4, zI (i1 : Int)), (3, .view 5000003 0 [] 0), (0, .sl 0 (List.map encAcct0 a0))], [(10020, ⟨1, 1, false, some (.sl 1 (List.map encRep v25.fReps))⟩), (20, ⟨1, 1, false, some (.sl 1 (List.map encInt v25.fMarks))⟩), (5000003, ⟨0, 0, false, some (.sl 1 (List.map encAcct1 y14))⟩)]⟩ (laws_toAcct_spec x10 v25 hv26) ?_
   obtain ⟨x27, hx28, h⟩ := bindO h
   refine rix 7 encAcct1 48 hx28 (ix_nn hx28) ⟨[(21, .ep 5000003 0 [(0, (Int.toNat (i1 : Int)))] 0), (20, .agg [zI v25.fHave, zI v25.fState, zI v25.fBy, .view 20 1 [] 0, .view 10020 1 [] 0]), (19, encAcct0 x10), (18, .rp (encAcct0 x10) 0), (17, zI (i1 : Int)), (16, .sl 0 (List.map encAcct0 a0)), (15, zI (i1 : Int)), (14, .view 5000003 0 [] 0), (11, zB (decide ((i1 : Int) < (a0.length : Int)))), (10, zI (a0.length : Int)), (9, .sl 0 (List.map encAcct0 a0)), (8, zI (i1 : Int)), (4, zI (i1 : Int)), (3, .view 5000003 0 [] 0), (0, .sl 0 (List.map encAcct0 a0))], [(10020, ⟨1, 1, false, some (.sl 1 (List.map encRep v25.fReps))⟩), (20, ⟨1, 1, false, some (.sl 1 (List.map encInt v25.fMarks))⟩), (5000003, ⟨0, 0, false, some (.sl 1 (List.map encAcct1 y14))⟩)]⟩ ?_
   refine re0 8 ?_
   refine rkp (encAcct1 x27 : X) (.sl 1 (List.map encAcct1 (List.set y14 (Int.toNat (i1 : Int)) v25)) : X) [(14, 0), (3, 0)] ⟨[(14, .view 5000003 1 [] 0), (3, .view 5000003 1 [] 0), (21, .ep 5000003 0 [(0, (Int.toNat (i1 : Int)))] 0), (20, .agg [zI v25.fHave, zI v25.fState, zI v25.fBy, .view 20 1 [] 0, .view 10020 1 [] 0]), (19, encAcct0 x10), (18, .rp (encAcct0 x10) 0), (17, zI (i1 : Int)), (16, .sl 0 (List.map encAcct0 a0)), (15, zI (i1 : Int)), (14, .view 5000003 0 [] 0), (11, zB (decide ((i1 : Int) < (a0.length : Int)))), (10, zI (a0.length : Int)), (9, .sl 0 (List.map encAcct0 a0)), (8, zI (i1 : Int)), (4, zI (i1 : Int)), (3, .view 5000003 0 [] 0), (0, .sl 0 (List.map encAcct0 a0))], [(5000003, ⟨0, 1, false, some (.sl 1 (List.map encAcct1 (List.set y14 (Int.toNat (i1 : Int)) v25)))⟩), (10020, ⟨1, 2, false, some (.junk)⟩), (20, ⟨1, 2, false, some (.junk)⟩), (10020, ⟨1, 1, false, some (.sl 1 (List.map encRep v25.fReps))⟩), (20, ⟨1, 1, false, some (.sl 1 (List.map encInt v25.fMarks))⟩), (5000003, ⟨0, 0, false, some (.sl 1 (List.map encAcct1 y14))⟩)]⟩ [X.nav (.sl 1 (List.map encAcct1 y14) : X) [(0, (Int.toNat (i1 : Int)))] = some (encAcct1 x27 : X), X.upd true (.sl 1 (List.map encAcct1 y14) : X) [(0, (Int.toNat (i1 : Int)))] (X.puts · 0 [zI v25.fHave, zI v25.fState, zI v25.fBy, .sl 1 (List.map encInt v25.fMarks), .sl 1 (List.map encRep v25.fReps)]) = (.sl 1 (List.map encAcct1 (List.set y14 (Int.toNat (i1 : Int)) v25)) : X)] ⟨nav_one (f := encAcct1) (t := 0) (by kernel_rfl) hx28, Eq.trans (upd_one (f := encAcct1) (v := v25) (t := 0) (by kernel_rfl) hx28 (by kernel_rfl)) (by kernel_rfl), trivial⟩ ?_
   let T5 : List (Nat × X) := [(14, .view 5000014 0 [] 0), (3, .view 5000014 0 [] 0), (19, encAcct0 x10), (18, .rp (encAcct0 x10) 0), (17, zI (i1 : Int)), (16, .sl 0 (List.map encAcct0 a0)), (15, zI (i1 : Int)), (11, zB (decide ((i1 : Int) < (a0.length : Int)))), (10, zI (a0.length : Int)), (9, .sl 0 (List.map encAcct0 a0)), (8, zI (i1 : Int)), (4, zI (i1 : Int)), (0, .sl 0 (List.map encAcct0 a0))]
   let B5 : List (Nat × Bx) := [(5000014, ⟨0, 0, false, some (.sl 1 (List.map encAcct1 (List.set y14 (Int.toNat (i1 : Int)) v25)))⟩)]
   refine wkr [14, 3, 19, 18, 17, 16, 15, 11, 10, 9, 8, 4, 0] [(5000014, 5000003, false)] ⟨T5, B5⟩ ?_
   refine rg cv hn ?_
   refine ro9 0 3 3 ⟨(4, zI ((i1 + 1 : Nat) : Int)) :: (13, zI ((i1 + 1 : Nat) : Int)) :: (12, zI (i1 : Int)) :: T5, B5⟩ ?_ (he := by rw [← hi1]; kernel_rfl)
   exact ⟨(t1, i1 + 1, List.set y14 (Int.toNat (i1 : Int)) v25), Nat.lt_succ_self _, ⟨dnext hd1, h⟩, wre [4, 3, 0] [(5000003, 5000014, false)]⟩

set_option maxRecDepth 100000 in
set_option maxHeartbeats 2000000 in
theorem laws_toMsg_spec (a0 : SMsg) (v0 : SMsg) (h : laws_toMsg a0 = some v0) : Ax.Spec Try.prog 95 none [encMsg a0] (encMsg v0 : X) (.junk : X) := by
 refine walk0 (fn := Try.f95) (fun q0 : SMsg => (encMsg q0 : X)) (fun q0 : SMsg => (.junk : X)) v0 ⟨[(0, encMsg a0)], []⟩ Try.func95 rfl (by decide +kernel) fun Γ hn fin => ?_
 rw [laws_toMsg] at h
 refine sqr cv hn ?_
 refine ro9 0 2 2 ⟨[(2, .ptr 2 1 0), (1, .ptr 1 1 0), (0, encMsg a0)], [(2, ⟨1, 1, true, some (.agg [zI 0, zI 0, zI 0, zI 0])⟩), (1, ⟨1, 1, true, some (encMsg a0)⟩)]⟩ ?_
 refine sqr cv hn ?_
 refine ro9 0 1 1 ⟨[(3, .ptr 3 1 0), (2, .ptr 2 1 0), (1, .ptr 1 1 0), (0, encMsg a0)], [(3, ⟨1, 1, true, some (.agg [zI 0, zI 0, zI 0, zI 0])⟩), (2, ⟨1, 1, true, some (.agg [zI 0, zI 0, zI 0, zI 0])⟩), (1, ⟨1, 1, true, some (encMsg a0)⟩)]⟩ ?_
 refine sqr cv hn ?_
 refine ro9 0 4 4 ⟨[(6, .ptr 3 1 0), (5, zI a0.fKind), (4, .ptr 1 1 0), (3, .ptr 3 1 0), (2, .ptr 2 1 0), (1, .ptr 1 1 0), (0, encMsg a0)], [(3, ⟨1, 1, true, some (.agg [zI a0.fKind, zI 0, zI 0, zI 0])⟩), (3, ⟨1, 1, true, some (.agg [zI 0, zI 0, zI 0, zI 0])⟩), (2, ⟨1, 1, true, some (.agg [zI 0, zI 0, zI 0, zI 0])⟩), (1, ⟨1, 1, true, some (encMsg a0)⟩)]⟩ ?_
 refine sqr cv hn ?_
 refine ro9 0 4 4 ⟨[(9, .ptr 3 1 1), (8, zI a0.fAcct), (7, .ptr 1 1 1), (6, .ptr 3 1 0), (5, zI a0.fKind), (4, .ptr 1 1 0), (3, .ptr 3 1 0), (2, .ptr 2 1 0), (1, .ptr 1 1 0), (0, encMsg a0)], [(3, ⟨1, 1, true, some (.agg [zI a0.fKind, zI a0.fAcct, zI 0, zI 0])⟩), (3, ⟨1, 1, true, some (.agg [zI a0.fKind, zI 0, zI 0, zI 0])⟩), (3, ⟨1, 1, true, some (.agg [zI 0, zI 0, zI 0, zI 0])⟩), (2, ⟨1, 1, true, some (.agg [zI 0, zI 0, zI 0, zI 0])⟩), (1, ⟨1, 1, true, some (encMsg a0)⟩)]⟩ ?_
 let T3 : List (Nat × X) := [(3, .ptr 3 0 0), (2, .ptr 2 0 0), (1, .ptr 1 0 0)]
 let B3 : List (Nat × Bx) := [(3, ⟨0, 0, true, some (.agg [zI a0.fKind, zI a0.fAcct, zI 0, zI 0])⟩), (2, ⟨0, 0, true, some (.agg [zI 0, zI 0, zI 0, zI 0])⟩), (1, ⟨0, 0, true, some (encMsg a0)⟩)]
 refine wkr [3, 2, 1] [(3, 3, false), (2, 2, false), (1, 1, false)] ⟨T3, B3⟩ ?_
 refine sqr cv hn ?_
 refine ro9 0 4 4 ⟨(12, .ptr 3 0 2) :: (11, zI a0.fAmt) :: (10, .ptr 1 0 2) :: T3, (3, ⟨0, 0, true, some (.agg [zI a0.fKind, zI a0.fAcct, zI a0.fAmt, zI 0])⟩) :: B3⟩ ?_
 refine sqr cv hn ?_
 refine ro9 0 4 4 ⟨(15, .ptr 3 0 3) :: (14, zI a0.fSrc) :: (13, .ptr 1 0 3) :: (12, .ptr 3 0 2) :: (11, zI a0.fAmt) :: (10, .ptr 1 0 2) :: T3, (3, ⟨0, 0, true, some (encMsg a0)⟩) :: (3, ⟨0, 0, true, some (.agg [zI a0.fKind, zI a0.fAcct, zI a0.fAmt, zI 0])⟩) :: B3⟩ ?_
 let T4 : List (Nat × X) := [(3, .ptr 3 0 0), (2, .ptr 2 0 0)]
 let B4 : List (Nat × Bx) := [(3, ⟨0, 0, true, some (encMsg a0)⟩), (2, ⟨0, 0, true, some (.agg [zI 0, zI 0, zI 0, zI 0])⟩)]
 refine wkr [3, 2] [(3, 3, false), (2, 2, false)] ⟨T4, B4⟩ ?_
 refine sqr cv hn ?_
 refine ro9 0 2 2 ⟨(16, encMsg a0) :: T4, (2, ⟨0, 0, true, some (encMsg a0)⟩) :: B4⟩ ?_
 refine runs_ret ?_
 exact fin _ _ h (by kernel_rfl)

set_option maxRecDepth 100000 in
set_option maxHeartbeats 2000000 in
theorem laws_toMsgS_spec (a0 : (List SMsg)) (v0 : (List SMsg)) (h : laws_toMsgS a0 = some v0) : Ax.Spec Try.prog 127 none [.sl 0 (List.map encMsg a0)] (.sl 1 (List.map encMsg v0) : X) (.junk : X) := by
 let T1 : List (Nat × X) := [(0, .sl 0 (List.map encMsg a0))]
 refine walk0 (fn := Try.f127) (fun q0 : (List SMsg) => (.sl 1 (List.map encMsg q0) : X)) (fun q0 : (List SMsg) => (.junk : X)) v0 ⟨T1, []⟩ Try.func127 rfl (by decide +kernel) fun Γ hn fin => ?_
 rw [laws_toMsgS] at h
 refine sqr cv hn ?_
 refine ro9 0 1 1 ⟨(2, .sc (.slice none 0 0)) :: T1, []⟩ ?_
 refine sqr cv hn ?_
 refine ro 0 2 2 ⟨(6, zI (a0.length : Int)) :: (5, .sl 0 (List.map encMsg a0)) :: (2, .sc (.slice none 0 0)) :: T1, []⟩ ?_ (he := by rw [show (a0.length : Int) = ((List.map encMsg a0).length : Int) from by rw [List.length_map]]; kernel_rfl)
 obtain ⟨hg2, h⟩ := gO_some h
 refine rs 2 ⟨(7, .view 7 1 [] 0) :: (6, zI (a0.length : Int)) :: (5, .sl 0 (List.map encMsg a0)) :: (2, .sc (.slice none 0 0)) :: T1, [(7, ⟨1, 1, false, some (.sl 1 (List.map encMsg (List.replicate (Int.toNat (a0.length : Int)) (SMsg.mk 0 0 0 0))))⟩)]⟩ [((a0.length : Int) : Int) = (a0.length : Int) ∧ 0 ≤ ((a0.length : Int) : Int) ∧ tBytes Try.prog 67 * (Int.toNat (a0.length : Int)) ≤ 140737488355328 ∧ (Int.toNat (a0.length : Int)) ≤ 140737488355328] ⟨⟨rfl, hg2.1, mk_side (by kernel_rfl) hg2.2, hg2.2.2⟩, trivial⟩ ?_ (he := by rw [show List.map encMsg (List.replicate (Int.toNat (a0.length : Int)) (SMsg.mk 0 0 0 0)) = List.replicate (Int.toNat (a0.length : Int)) (encMsg (SMsg.mk 0 0 0 0)) from List.map_replicate]; kernel_rfl)
 refine ro9 3 1 1 ⟨(3, .view 7 1 [] 0) :: (7, .view 7 1 [] 0) :: (6, zI (a0.length : Int)) :: (5, .sl 0 (List.map encMsg a0)) :: (2, .sc (.slice none 0 0)) :: T1, [(7, ⟨1, 1, false, some (.sl 1 (List.map encMsg (List.replicate (Int.toNat (a0.length : Int)) (SMsg.mk 0 0 0 0))))⟩)]⟩ ?_
 refine runs_seq ?_
 refine sqr cv hn ?_
 refine ro9 0 1 1 ⟨(4, zI 0) :: (3, .view 7 1 [] 0) :: (7, .view 7 1 [] 0) :: (6, zI (a0.length : Int)) :: (5, .sl 0 (List.map encMsg a0)) :: (2, .sc (.slice none 0 0)) :: T1, [(7, ⟨1, 1, false, some (.sl 1 (List.map encMsg (List.replicate (Int.toNat (a0.length : Int)) (SMsg.mk 0 0 0 0))))⟩)]⟩ ?_
 refine runs_block ?_
 refine runs_loopM (σ := List SMsg × Nat × (List SMsg)) (fun s => ⟨[(4, zI (s.2.1 : Int)), (3, .view 5000003 0 [] 0), (0, .sl 0 (List.map encMsg a0))], [(5000003, ⟨0, 0, false, some (.sl 1 (List.map encMsg s.2.2))⟩)]⟩) (fun s => s.1 = List.drop s.2.1 a0 ∧ laws_toMsgS_l1 s.1 s.2.1 s.2.2 = some v0) (fun s => s.1.length) (a0, 0, List.replicate (Int.toNat (a0.length : Int)) (SMsg.mk 0 0 0 0)) ⟨rfl, h⟩ (wre [4, 3, 0] [(5000003, 7, false)]) ?_
 rintro ⟨t1, i1, y14⟩ ⟨hd1, h⟩
 refine seq0 ⟨[(4, zI (i1 : Int)), (3, .view 5000003 0 [] 0), (0, .sl 0 (List.map encMsg a0))], [(5000003, ⟨0, 0, false, some (.sl 1 (List.map encMsg y14))⟩)]⟩ ?_
 refine runs_len 0 (es := List.map encMsg a0) (by kernel_rfl) fun hl1 => ?_
 replace hl1 := len_of_map hl1
 cases t1 with
 | nil =>
   rw [laws_toMsgS_l1] at h
   have hLn1 := dnil hd1
   refine runs_seq ?_
   refine sqr cv hn ?_
   refine ro9 0 4 4 ⟨[(11, zB (decide ((i1 : Int) < (a0.length : Int)))), (10, zI (a0.length : Int)), (9, .sl 0 (List.map encMsg a0)), (8, zI (i1 : Int)), (4, zI (i1 : Int)), (3, .view 5000003 0 [] 0), (0, .sl 0 (List.map encMsg a0))], [(5000003, ⟨0, 0, false, some (.sl 1 (List.map encMsg y14))⟩)]⟩ ?_ (he := by rw [show (a0.length : Int) = ((List.map encMsg a0).length : Int) from by rw [List.length_map]]; kernel_rfl)
   refine cf hLn1 ?_
   refine runs_exit ?_
   repeat refine thenX_exit ?_
   refine block_here ?_
   let B2 : List (Nat × Bx) := [(5000003, ⟨0, 0, false, some (.sl 1 (List.map encMsg y14))⟩)]
   refine wkr [3] [(5000003, 5000003, false)] ⟨[(3, .view 5000003 0 [] 0)], B2⟩ ?_
   refine sqr cv hn ?_
   refine ro9 0 2 2 ⟨[(2, .view 5000003 0 [] 0), (22, .view 5000003 0 [] 0), (3, .view 5000003 0 [] 0)], B2⟩ ?_
   refine runs_ret ?_
   exact fin _ _ h (by kernel_rfl)
 | cons x10 t1 =>
   rw [laws_toMsgS_l1] at h
   have hLc1 := dcons hd1
   have hx10 := dget hd1
   have hi1 := dinc hd1 hl1
   refine runs_seq ?_
   refine sqr cv hn ?_
   refine ro9 0 4 4 ⟨[(11, zB (decide ((i1 : Int) < (a0.length : Int)))), (10, zI (a0.length : Int)), (9, .sl 0 (List.map encMsg a0)), (8, zI (i1 : Int)), (4, zI (i1 : Int)), (3, .view 5000003 0 [] 0), (0, .sl 0 (List.map encMsg a0))], [(5000003, ⟨0, 0, false, some (.sl 1 (List.map encMsg y14))⟩)]⟩ ?_ (he := by rw [show (a0.length : Int) = ((List.map encMsg a0).length : Int) from by rw [List.length_map]]; kernel_rfl)
   refine ct hLc1 ?_
   refine runs_skip ?_
   refine runs_seq ?_
   refine runs_block ?_
   refine rg cv hn ?_
   refine ro 0 4 4 ⟨[(17, zI (i1 : Int)), (16, .sl 0 (List.map encMsg a0)), (15, zI (i1 : Int)), (14, .view 5000003 0 [] 0), (11, zB (decide ((i1 : Int) < (a0.length : Int)))), (10, zI (a0.length : Int)), (9, .sl 0 (List.map encMsg a0)), (8, zI (i1 : Int)), (4, zI (i1 : Int)), (3, .view 5000003 0 [] 0), (0, .sl 0 (List.map encMsg a0))], [(5000003, ⟨0, 0, false, some (.sl 1 (List.map encMsg y14))⟩)]⟩ ?_
   refine rix 4 encMsg 62 hx10 (ix_nn hx10) ⟨[(18, .rp (encMsg x10) 0), (17, zI (i1 : Int)), (16, .sl 0 (List.map encMsg a0)), (15, zI (i1 : Int)), (14, .view 5000003 0 [] 0), (11, zB (decide ((i1 : Int) < (a0.length : Int)))), (10, zI (a0.length : Int)), (9, .sl 0 (List.map encMsg a0)), (8, zI (i1 : Int)), (4, zI (i1 : Int)), (3, .view 5000003 0 [] 0), (0, .sl 0 (List.map encMsg a0))], [(5000003, ⟨0, 0, false, some (.sl 1 (List.map encMsg y14))⟩)]⟩ ?_
   refine ro 5 1 1 ⟨[(19, encMsg x10), (18, .rp (encMsg x10) 0), (17, zI (i1 : Int)), (16, .sl 0 (List.map encMsg a0)), (15, zI (i1 : Int)), (14, .view 5000003 0 [] 0), (11, zB (decide ((i1 : Int) < (a0.length : Int)))), (10, zI (a0.length : Int)), (9, .sl 0 (List.map encMsg a0)), (8, zI (i1 : Int)), (4, zI (i1 : Int)), (3, .view 5000003 0 [] 0), (0, .sl 0 (List.map encMsg a0))], [(5000003, ⟨0, 0, false, some (.sl 1 (List.map encMsg y14))⟩)]⟩ ?_
   obtain ⟨v25, hv26, h⟩ := bindO h
   refine rc 6 ⟨[(20, encMsg v25), (19, encMsg x10), (18, .rp (encMsg x10) 0), (17, zI (i1 : Int)), (16, .sl 0 (List.map encMsg a0)), (15, zI (i1 : Int)), (14, .view 5000003 0 [] 0), (11, zB (decide ((i1 : Int) < (a0.length : Int)))), (10, zI (a0.length : Int)), (9, .sl 0 (List.map encMsg a0)), (8, zI (i1 : Int)), (4, zI (i1 : Int)), (3, .view 5000003 0 [] 0), (0, .sl 0 (List.map encMsg a0))], [(5000003, ⟨0, 0, false, some (.sl 1 (List.map encMsg y14))⟩)]⟩ (laws_toMsg_spec x10 v25 hv26) ?_
   obtain ⟨x27, hx28, h⟩ := bindO h
   refine rix 7 encMsg 67 hx28 (ix_nn hx28) ⟨[(21, .ep 5000003 0 [(0, (Int.toNat (i1 : Int)))] 0), (20, encMsg v25), (19, encMsg x10), (18, .rp (encMsg x10) 0), (17, zI (i1 : Int)), (16, .sl 0 (List.map encMsg a0)), (15, zI (i1 : Int)), (14, .view 5000003 0 [] 0), (11, zB (decide ((i1 : Int) < (a0.length : Int)))), (10, zI (a0.length : Int)), (9, .sl 0 (List.map encMsg a0)), (8, zI (i1 : Int)), (4, zI (i1 : Int)), (3, .view 5000003 0 [] 0), (0, .sl 0 (List.map encMsg a0))], [(5000003, ⟨0, 0, false, some (.sl 1 (List.map encMsg y14))⟩)]⟩ ?_
   refine ra 8 (encMsg x27 : X) (.sl 1 (List.map encMsg (List.set y14 (Int.toNat (i1 : Int)) v25)) : X) ⟨[(21, .ep 5000003 0 [(0, (Int.toNat (i1 : Int)))] 0), (20, encMsg v25), (19, encMsg x10), (18, .rp (encMsg x10) 0), (17, zI (i1 : Int)), (16, .sl 0 (List.map encMsg a0)), (15, zI (i1 : Int)), (14, .view 5000003 0 [] 0), (11, zB (decide ((i1 : Int) < (a0.length : Int)))), (10, zI (a0.length : Int)), (9, .sl 0 (List.map encMsg a0)), (8, zI (i1 : Int)), (4, zI (i1 : Int)), (3, .view 5000003 0 [] 0), (0, .sl 0 (List.map encMsg a0))], [(5000003, ⟨0, 0, false, some (.sl 1 (List.map encMsg (List.set y14 (Int.toNat (i1 : Int)) v25)))⟩), (5000003, ⟨0, 0, false, some (.sl 1 (List.map encMsg y14))⟩)]⟩ [X.nav (.sl 1 (List.map encMsg y14) : X) [(0, (Int.toNat (i1 : Int)))] = some (encMsg x27 : X), X.upd false (.sl 1 (List.map encMsg y14) : X) [(0, (Int.toNat (i1 : Int)))] (X.puts · 0 [zI v25.fKind, zI v25.fAcct, zI v25.fAmt, zI v25.fSrc]) = (.sl 1 (List.map encMsg (List.set y14 (Int.toNat (i1 : Int)) v25)) : X)] ⟨nav_one (f := encMsg) (t := 0) (by kernel_rfl) hx28, Eq.trans (upd_one (f := encMsg) (v := v25) (t := 0) (by kernel_rfl) hx28 (by kernel_rfl)) (by kernel_rfl), trivial⟩ ?_
   refine re0 9 ?_
   refine rg cv hn ?_
   refine ro9 0 3 3 ⟨[(4, zI ((i1 + 1 : Nat) : Int)), (13, zI ((i1 + 1 : Nat) : Int)), (12, zI (i1 : Int)), (21, .ep 5000003 0 [(0, (Int.toNat (i1 : Int)))] 0), (20, encMsg v25), (19, encMsg x10), (18, .rp (encMsg x10) 0), (17, zI (i1 : Int)), (16, .sl 0 (List.map encMsg a0)), (15, zI (i1 : Int)), (14, .view 5000003 0 [] 0), (11, zB (decide ((i1 : Int) < (a0.length : Int)))), (10, zI (a0.length : Int)), (9, .sl 0 (List.map encMsg a0)), (8, zI (i1 : Int)), (4, zI (i1 : Int)), (3, .view 5000003 0 [] 0), (0, .sl 0 (List.map encMsg a0))], [(5000003, ⟨0, 0, false, some (.sl 1 (List.map encMsg (List.set y14 (Int.toNat (i1 : Int)) v25)))⟩), (5000003, ⟨0, 0, false, some (.sl 1 (List.map encMsg y14))⟩)]⟩ ?_ (he := by rw [← hi1]; kernel_rfl)
   exact ⟨(t1, i1 + 1, List.set y14 (Int.toNat (i1 : Int)) v25), Nat.lt_succ_self _, ⟨dnext hd1, h⟩, wre [4, 3, 0] [(5000003, 5000003, false)]⟩

set_option maxRecDepth 100000 in
set_option maxHeartbeats 2000000 in
theorem laws_toOut_spec (a0 : SOut) (v0 : SOut) (h : laws_toOut a0 = some v0) : Ax.Spec Try.prog 122 none [encOut0 a0] (encOut1 v0 : X) (.junk : X) := by
 refine walk0 (fn := Try.f122) (fun q0 : SOut => (encOut1 q0 : X)) (fun q0 : SOut => (.junk : X)) v0 ⟨[(0, encOut0 a0)], []⟩ Try.func122 rfl (by decide +kernel) fun Γ hn fin => ?_
 rw [laws_toOut] at h
 refine sqr cv hn ?_
 refine ro9 0 2 2 ⟨[(2, .ptr 2 1 0), (1, .ptr 1 1 0), (0, encOut0 a0)], [(2, ⟨1, 1, true, some (.agg [zI 0, .sl 1 (List.map encMsg [])])⟩), (1, ⟨1, 1, true, some (encOut0 a0)⟩)]⟩ ?_
 refine sqr cv hn ?_
 refine ro9 0 1 1 ⟨[(3, .ptr 3 1 0), (2, .ptr 2 1 0), (1, .ptr 1 1 0), (0, encOut0 a0)], [(3, ⟨1, 1, true, some (.agg [zI 0, .sl 1 (List.map encMsg [])])⟩), (2, ⟨1, 1, true, some (.agg [zI 0, .sl 1 (List.map encMsg [])])⟩), (1, ⟨1, 1, true, some (encOut0 a0)⟩)]⟩ ?_
 refine sqr cv hn ?_
 refine ro9 0 4 4 ⟨[(6, .ptr 3 1 0), (5, zI a0.fNext), (4, .ptr 1 1 0), (3, .ptr 3 1 0), (2, .ptr 2 1 0), (1, .ptr 1 1 0), (0, encOut0 a0)], [(3, ⟨1, 1, true, some (.agg [zI a0.fNext, .sl 1 (List.map encMsg [])])⟩), (3, ⟨1, 1, true, some (.agg [zI 0, .sl 1 (List.map encMsg [])])⟩), (2, ⟨1, 1, true, some (.agg [zI 0, .sl 1 (List.map encMsg [])])⟩), (1, ⟨1, 1, true, some (encOut0 a0)⟩)]⟩ ?_
 refine sqr cv hn ?_
 refine ro 0 2 2 ⟨[(8, .sl 0 (List.map encMsg a0.fList)), (7, .ptr 1 1 1), (6, .ptr 3 1 0), (5, zI a0.fNext), (4, .ptr 1 1 0), (3, .ptr 3 1 0), (2, .ptr 2 1 0), (1, .ptr 1 1 0), (0, encOut0 a0)], [(3, ⟨1, 1, true, some (.agg [zI a0.fNext, .sl 1 (List.map encMsg [])])⟩), (3, ⟨1, 1, true, some (.agg [zI 0, .sl 1 (List.map encMsg [])])⟩), (2, ⟨1, 1, true, some (.agg [zI 0, .sl 1 (List.map encMsg [])])⟩), (1, ⟨1, 1, true, some (encOut0 a0)⟩)]⟩ ?_
 obtain ⟨v1, hv2, h⟩ := bindO h
 refine rc 2 ⟨[(9, .view 9 1 [] 0), (8, .sl 0 (List.map encMsg a0.fList)), (7, .ptr 1 1 1), (6, .ptr 3 1 0), (5, zI a0.fNext), (4, .ptr 1 1 0), (3, .ptr 3 1 0), (2, .ptr 2 1 0), (1, .ptr 1 1 0), (0, encOut0 a0)], [(9, ⟨1, 1, false, some (.sl 1 (List.map encMsg v1))⟩), (3, ⟨1, 1, true, some (.agg [zI a0.fNext, .sl 1 (List.map encMsg [])])⟩), (3, ⟨1, 1, true, some (.agg [zI 0, .sl 1 (List.map encMsg [])])⟩), (2, ⟨1, 1, true, some (.agg [zI 0, .sl 1 (List.map encMsg [])])⟩), (1, ⟨1, 1, true, some (encOut0 a0)⟩)]⟩ (laws_toMsgS_spec a0.fList v1 hv2) ?_
 refine ro9 3 2 2 ⟨[(10, .ptr 3 1 1), (9, .view 9 1 [] 0), (8, .sl 0 (List.map encMsg a0.fList)), (7, .ptr 1 1 1), (6, .ptr 3 1 0), (5, zI a0.fNext), (4, .ptr 1 1 0), (3, .ptr 3 1 0), (2, .ptr 2 1 0), (1, .ptr 1 1 0), (0, encOut0 a0)], [(3, ⟨1, 2, true, some (.agg [zI a0.fNext, .sl 1 (List.map encMsg v1)])⟩), (9, ⟨1, 2, false, some (.junk)⟩), (9, ⟨1, 1, false, some (.sl 1 (List.map encMsg v1))⟩), (3, ⟨1, 1, true, some (.agg [zI a0.fNext, .sl 1 (List.map encMsg [])])⟩), (3, ⟨1, 1, true, some (.agg [zI 0, .sl 1 (List.map encMsg [])])⟩), (2, ⟨1, 1, true, some (.agg [zI 0, .sl 1 (List.map encMsg [])])⟩), (1, ⟨1, 1, true, some (encOut0 a0)⟩)]⟩ ?_
 let T2 : List (Nat × X) := [(3, .ptr 3 0 0), (2, .ptr 2 0 0)]
 let B2 : List (Nat × Bx) := [(3, ⟨0, 0, true, some (.agg [zI a0.fNext, .sl 1 (List.map encMsg v1)])⟩), (2, ⟨0, 0, true, some (.agg [zI 0, .sl 1 (List.map encMsg [])])⟩)]
 refine wkr [3, 2] [(3, 3, false), (2, 2, false)] ⟨T2, B2⟩ ?_
 refine sqr cv hn ?_
 refine ro9 0 2 2 ⟨(11, .agg [zI a0.fNext, .view 3 0 [] 1]) :: T2, (2, ⟨0, 1, true, some (.agg [zI a0.fNext, .sl 1 (List.map encMsg v1)])⟩) :: (3, ⟨0, 1, true, some (.agg [zI a0.fNext, .junk])⟩) :: B2⟩ ?_
 refine runs_ret ?_
 exact fin _ _ h (by kernel_rfl)

set_option maxRecDepth 100000 in
set_option maxHeartbeats 2000000 in
theorem laws_toOutS_spec (a0 : (List SOut)) (v0 : (List SOut)) (h : laws_toOutS a0 = some v0) : Ax.Spec Try.prog 108 none [.sl 0 (List.map encOut0 a0)] (.sl 1 (List.map encOut1 v0) : X) (.junk : X) := by
 let T1 : List (Nat × X) := [(0, .sl 0 (List.map encOut0 a0))]
 refine walk0 (fn := Try.f108) (fun q0 : (List SOut) => (.sl 1 (List.map encOut1 q0) : X)) (fun q0 : (List SOut) => (.junk : X)) v0 ⟨T1, []⟩ Try.func108 rfl (by decide +kernel) fun Γ hn fin => ?_
 rw [laws_toOutS] at h
 refine sqr cv hn ?_
 refine ro9 0 1 1 ⟨(2, .sc (.slice none 0 0)) :: T1, []⟩ ?_
 refine sqr cv hn ?_
 refine ro 0 2 2 ⟨(6, zI (a0.length : Int)) :: (5, .sl 0 (List.map encOut0 a0)) :: (2, .sc (.slice none 0 0)) :: T1, []⟩ ?_ (he := by rw [show (a0.length : Int) = ((List.map encOut0 a0).length : Int) from by rw [List.length_map]]; kernel_rfl)
 obtain ⟨hg2, h⟩ := gO_some h
 refine rs 2 ⟨(7, .view 7 1 [] 0) :: (6, zI (a0.length : Int)) :: (5, .sl 0 (List.map encOut0 a0)) :: (2, .sc (.slice none 0 0)) :: T1, [(7, ⟨1, 1, false, some (.sl 1 (List.map encOut1 (List.replicate (Int.toNat (a0.length : Int)) (SOut.mk 0 []))))⟩)]⟩ [((a0.length : Int) : Int) = (a0.length : Int) ∧ 0 ≤ ((a0.length : Int) : Int) ∧ tBytes Try.prog 126 * (Int.toNat (a0.length : Int)) ≤ 140737488355328 ∧ (Int.toNat (a0.length : Int)) ≤ 140737488355328] ⟨⟨rfl, hg2.1, mk_side (by kernel_rfl) hg2.2, hg2.2.2⟩, trivial⟩ ?_ (he := by rw [show List.map encOut1 (List.replicate (Int.toNat (a0.length : Int)) (SOut.mk 0 [])) = List.replicate (Int.toNat (a0.length : Int)) (encOut1 (SOut.mk 0 [])) from List.map_replicate]; kernel_rfl)
 refine ro9 3 1 1 ⟨(3, .view 7 1 [] 0) :: (7, .view 7 1 [] 0) :: (6, zI (a0.length : Int)) :: (5, .sl 0 (List.map encOut0 a0)) :: (2, .sc (.slice none 0 0)) :: T1, [(7, ⟨1, 1, false, some (.sl 1 (List.map encOut1 (List.replicate (Int.toNat (a0.length : Int)) (SOut.mk 0 []))))⟩)]⟩ ?_
 refine runs_seq ?_
 refine sqr cv hn ?_
 refine ro9 0 1 1 ⟨(4, zI 0) :: (3, .view 7 1 [] 0) :: (7, .view 7 1 [] 0) :: (6, zI (a0.length : Int)) :: (5, .sl 0 (List.map encOut0 a0)) :: (2, .sc (.slice none 0 0)) :: T1, [(7, ⟨1, 1, false, some (.sl 1 (List.map encOut1 (List.replicate (Int.toNat (a0.length : Int)) (SOut.mk 0 []))))⟩)]⟩ ?_
 refine runs_block ?_
 refine runs_loopM (σ := List SOut × Nat × (List SOut)) (fun s => ⟨[(4, zI (s.2.1 : Int)), (3, .view 5000003 0 [] 0), (0, .sl 0 (List.map encOut0 a0))], [(5000003, ⟨0, 0, false, some (.sl 1 (List.map encOut1 s.2.2))⟩)]⟩) (fun s => s.1 = List.drop s.2.1 a0 ∧ laws_toOutS_l1 s.1 s.2.1 s.2.2 = some v0) (fun s => s.1.length) (a0, 0, List.replicate (Int.toNat (a0.length : Int)) (SOut.mk 0 [])) ⟨rfl, h⟩ (wre [4, 3, 0] [(5000003, 7, false)]) ?_
 rintro ⟨t1, i1, y14⟩ ⟨hd1, h⟩
 refine seq0 ⟨[(4, zI (i1 : Int)), (3, .view 5000003 0 [] 0), (0, .sl 0 (List.map encOut0 a0))], [(5000003, ⟨0, 0, false, some (.sl 1 (List.map encOut1 y14))⟩)]⟩ ?_
 refine runs_len 0 (es := List.map encOut0 a0) (by kernel_rfl) fun hl1 => ?_
 replace hl1 := len_of_map hl1
 cases t1 with
 | nil =>
   rw [laws_toOutS_l1] at h
   have hLn1 := dnil hd1
   refine runs_seq ?_
   refine sqr cv hn ?_
   refine ro9 0 4 4 ⟨[(11, zB (decide ((i1 : Int) < (a0.length : Int)))), (10, zI (a0.length : Int)), (9, .sl 0 (List.map encOut0 a0)), (8, zI (i1 : Int)), (4, zI (i1 : Int)), (3, .view 5000003 0 [] 0), (0, .sl 0 (List.map encOut0 a0))], [(5000003, ⟨0, 0, false, some (.sl 1 (List.map encOut1 y14))⟩)]⟩ ?_ (he := by rw [show (a0.length : Int) = ((List.map encOut0 a0).length : Int) from by rw [List.length_map]]; kernel_rfl)
   refine cf hLn1 ?_
   refine runs_exit ?_
   repeat refine thenX_exit ?_
   refine block_here ?_
   let B2 : List (Nat × Bx) := [(5000003, ⟨0, 0, false, some (.sl 1 (List.map encOut1 y14))⟩)]
   refine wkr [3] [(5000003, 5000003, false)] ⟨[(3, .view 5000003 0 [] 0)], B2⟩ ?_
   refine sqr cv hn ?_
   refine ro9 0 2 2 ⟨[(2, .view 5000003 0 [] 0), (22, .view 5000003 0 [] 0), (3, .view 5000003 0 [] 0)], B2⟩ ?_
   refine runs_ret ?_
   exact fin _ _ h (by kernel_rfl)
 | cons x10 t1 =>
   rw [laws_toOutS_l1] at h
   have hLc1 := dcons hd1
   have hx10 := dget hd1
   have hi1 := dinc hd1 hl1
   refine runs_seq ?_
   refine sqr cv hn ?_
   refine ro9 0 4 4 ⟨[(11, zB (decide ((i1 : Int) < (a0.length : Int)))), (10, zI (a0.length : Int)), (9, .sl 0 (List.map encOut0 a0)), (8, zI (i1 : Int)), (4, zI (i1 : Int)), (3, .view 5000003 0 [] 0), (0, .sl 0 (List.map encOut0 a0))], [(5000003, ⟨0, 0, false, some (.sl 1 (List.map encOut1 y14))⟩)]⟩ ?_ (he := by rw [show (a0.length : Int) = ((List.map encOut0 a0).length : Int) from by rw [List.length_map]]; kernel_rfl)
   refine ct hLc1 ?_
   refine runs_skip ?_
   refine runs_seq ?_
   refine runs_block ?_
   refine rgk cv hn 8 ?_
   refine ro 0 4 4 ⟨[(17, zI (i1 : Int)), (16, .sl 0 (List.map encOut0 a0)), (15, zI (i1 : Int)), (14, .view 5000003 0 [] 0), (11, zB (decide ((i1 : Int) < (a0.length : Int)))), (10, zI (a0.length : Int)), (9, .sl 0 (List.map encOut0 a0)), (8, zI (i1 : Int)), (4, zI (i1 : Int)), (3, .view 5000003 0 [] 0), (0, .sl 0 (List.map encOut0 a0))], [(5000003, ⟨0, 0, false, some (.sl 1 (List.map encOut1 y14))⟩)]⟩ ?_
   refine rix 4 encOut0 145 hx10 (ix_nn hx10) ⟨[(18, .rp (encOut0 x10) 0), (17, zI (i1 : Int)), (16, .sl 0 (List.map encOut0 a0)), (15, zI (i1 : Int)), (14, .view 5000003 0 [] 0), (11, zB (decide ((i1 : Int) < (a0.length : Int)))), (10, zI (a0.length : Int)), (9, .sl 0 (List.map encOut0 a0)), (8, zI (i1 : Int)), (4, zI (i1 : Int)), (3, .view 5000003 0 [] 0), (0, .sl 0 (List.map encOut0 a0))], [(5000003, ⟨0, 0, false, some (.sl 1 (List.map encOut1 y14))⟩)]⟩ ?_
   refine ro 5 1 1 ⟨[(19, encOut0 x10), (18, .rp (encOut0 x10) 0), (17, zI (i1 : Int)), (16, .sl 0 (List.map encOut0 a0)), (15, zI (i1 : Int)), (14, .view 5000003 0 [] 0), (11, zB (decide ((i1 : Int) < (a0.length : Int)))), (10, zI (a0.length : Int)), (9, .sl 0 (List.map encOut0 a0)), (8, zI (i1 : Int)), (4, zI (i1 : Int)), (3, .view 5000003 0 [] 0), (0, .sl 0 (List.map encOut0 a0))], [(5000003, ⟨0, 0, false, some (.sl 1 (List.map encOut1 y14))⟩)]⟩ ?_
   obtain ⟨v25, hv26, h⟩ := bindO h
   refine rc 6 ⟨[(20, .agg [zI v25.fNext, .view 20 1 [] 0]), (19, encOut0 x10), (18, .rp (encOut0 x10) 0), (17, zI (i1 : Int)), (16, .sl 0 (List.map encOut0 a0)), (15, zI (i1 : Int)), (14, .view 5000003 0 [] 0), (11, zB (decide ((i1 : Int) < (a0.length : Int)))), (10, zI (a0.length : Int)), (9, .sl 0 (List.map encOut0 a0)), (8, zI (i1 : Int)), (4, zI (i1 : Int)), (3, .view 5000003 0 [] 0), (0, .sl 0 (List.map encOut0 a0))], [(20, ⟨1, 1, false, some (.sl 1 (List.map encMsg v25.fList))⟩), (5000003, ⟨0, 0, false, some (.sl 1 (List.map encOut1 y14))⟩)]⟩ (laws_toOut_spec x10 v25 hv26) ?_
   obtain ⟨x27, hx28, h⟩ := bindO h
   refine rix 7 encOut1 126 hx28 (ix_nn hx28) ⟨[(21, .ep 5000003 0 [(0, (Int.toNat (i1 : Int)))] 0), (20, .agg [zI v25.fNext, .view 20 1 [] 0]), (19, encOut0 x10), (18, .rp (encOut0 x10) 0), (17, zI (i1 : Int)), (16, .sl 0 (List.map encOut0 a0)), (15, zI (i1 : Int)), (14, .view 5000003 0 [] 0), (11, zB (decide ((i1 : Int) < (a0.length : Int)))), (10, zI (a0.length : Int)), (9, .sl 0 (List.map encOut0 a0)), (8, zI (i1 : Int)), (4, zI (i1 : Int)), (3, .view 5000003 0 [] 0), (0, .sl 0 (List.map encOut0 a0))], [(20, ⟨1, 1, false, some (.sl 1 (List.map encMsg v25.fList))⟩), (5000003, ⟨0, 0, false, some (.sl 1 (List.map encOut1 y14))⟩)]⟩ ?_
   refine re0 8 ?_
   refine rkp (encOut1 x27 : X) (.sl 1 (List.map encOut1 (List.set y14 (Int.toNat (i1 : Int)) v25)) : X) [(14, 0), (3, 0)] ⟨[(14, .view 5000003 1 [] 0), (3, .view 5000003 1 [] 0), (21, .ep 5000003 0 [(0, (Int.toNat (i1 : Int)))] 0), (20, .agg [zI v25.fNext, .view 20 1 [] 0]), (19, encOut0 x10), (18, .rp (encOut0 x10) 0), (17, zI (i1 : Int)), (16, .sl 0 (List.map encOut0 a0)), (15, zI (i1 : Int)), (14, .view 5000003 0 [] 0), (11, zB (decide ((i1 : Int) < (a0.length : Int)))), (10, zI (a0.length : Int)), (9, .sl 0 (List.map encOut0 a0)), (8, zI (i1 : Int)), (4, zI (i1 : Int)), (3, .view 5000003 0 [] 0), (0, .sl 0 (List.map encOut0 a0))], [(5000003, ⟨0, 1, false, some (.sl 1 (List.map encOut1 (List.set y14 (Int.toNat (i1 : Int)) v25)))⟩), (20, ⟨1, 2, false, some (.junk)⟩), (20, ⟨1, 1, false, some (.sl 1 (List.map encMsg v25.fList))⟩), (5000003, ⟨0, 0, false, some (.sl 1 (List.map encOut1 y14))⟩)]⟩ [X.nav (.sl 1 (List.map encOut1 y14) : X) [(0, (Int.toNat (i1 : Int)))] = some (encOut1 x27 : X), X.upd true (.sl 1 (List.map encOut1 y14) : X) [(0, (Int.toNat (i1 : Int)))] (X.puts · 0 [zI v25.fNext, .sl 1 (List.map encMsg v25.fList)]) = (.sl 1 (List.map encOut1 (List.set y14 (Int.toNat (i1 : Int)) v25)) : X)] ⟨nav_one (f := encOut1) (t := 0) (by kernel_rfl) hx28, Eq.trans (upd_one (f := encOut1) (v := v25) (t := 0) (by kernel_rfl) hx28 (by kernel_rfl)) (by kernel_rfl), trivial⟩ ?_
   refine rg cv hn ?_
   refine ro9 0 3 3 ⟨[(4, zI ((i1 + 1 : Nat) : Int)), (13, zI ((i1 + 1 : Nat) : Int)), (12, zI (i1 : Int)), (14, .view 5000003 1 [] 0), (3, .view 5000003 1 [] 0), (21, .ep 5000003 0 [(0, (Int.toNat (i1 : Int)))] 0), (20, .agg [zI v25.fNext, .view 20 1 [] 0]), (19, encOut0 x10), (18, .rp (encOut0 x10) 0), (17, zI (i1 : Int)), (16, .sl 0 (List.map encOut0 a0)), (15, zI (i1 : Int)), (14, .view 5000003 0 [] 0), (11, zB (decide ((i1 : Int) < (a0.length : Int)))), (10, zI (a0.length : Int)), (9, .sl 0 (List.map encOut0 a0)), (8, zI (i1 : Int)), (4, zI (i1 : Int)), (3, .view 5000003 0 [] 0), (0, .sl 0 (List.map encOut0 a0))], [(5000003, ⟨0, 1, false, some (.sl 1 (List.map encOut1 (List.set y14 (Int.toNat (i1 : Int)) v25)))⟩), (20, ⟨1, 2, false, some (.junk)⟩), (20, ⟨1, 1, false, some (.sl 1 (List.map encMsg v25.fList))⟩), (5000003, ⟨0, 0, false, some (.sl 1 (List.map encOut1 y14))⟩)]⟩ ?_ (he := by rw [← hi1]; kernel_rfl)
   exact ⟨(t1, i1 + 1, List.set y14 (Int.toNat (i1 : Int)) v25), Nat.lt_succ_self _, ⟨dnext hd1, h⟩, wre [4, 3, 0] [(5000003, 5000003, false)]⟩

set_option maxRecDepth 100000 in
set_option maxHeartbeats 2000000 in
theorem laws_toAcc_spec (a0 : SAcc) (v0 : SAcc) (h : laws_toAcc a0 = some v0) : Ax.Spec Try.prog 123 none [encAcc a0] (encAcc v0 : X) (.junk : X) := by
 refine walk0 (fn := Try.f123) (fun q0 : SAcc => (encAcc q0 : X)) (fun q0 : SAcc => (.junk : X)) v0 ⟨[(0, encAcc a0)], []⟩ Try.func123 rfl (by decide +kernel) fun Γ hn fin => ?_
 rw [laws_toAcc] at h
 refine sqr cv hn ?_
 refine ro9 0 2 2 ⟨[(2, .ptr 2 1 0), (1, .ptr 1 1 0), (0, encAcc a0)], [(2, ⟨1, 1, true, some (.agg [zI 0, zI 0, zI 0])⟩), (1, ⟨1, 1, true, some (encAcc a0)⟩)]⟩ ?_
 refine sqr cv hn ?_
 refine ro9 0 1 1 ⟨[(3, .ptr 3 1 0), (2, .ptr 2 1 0), (1, .ptr 1 1 0), (0, encAcc a0)], [(3, ⟨1, 1, true, some (.agg [zI 0, zI 0, zI 0])⟩), (2, ⟨1, 1, true, some (.agg [zI 0, zI 0, zI 0])⟩), (1, ⟨1, 1, true, some (encAcc a0)⟩)]⟩ ?_
 refine sqr cv hn ?_
 refine ro9 0 4 4 ⟨[(6, .ptr 3 1 0), (5, zI a0.fProm), (4, .ptr 1 1 0), (3, .ptr 3 1 0), (2, .ptr 2 1 0), (1, .ptr 1 1 0), (0, encAcc a0)], [(3, ⟨1, 1, true, some (.agg [zI a0.fProm, zI 0, zI 0])⟩), (3, ⟨1, 1, true, some (.agg [zI 0, zI 0, zI 0])⟩), (2, ⟨1, 1, true, some (.agg [zI 0, zI 0, zI 0])⟩), (1, ⟨1, 1, true, some (encAcc a0)⟩)]⟩ ?_
 refine sqr cv hn ?_
 refine ro9 0 4 4 ⟨[(9, .ptr 3 1 1), (8, zI a0.fBal), (7, .ptr 1 1 1), (6, .ptr 3 1 0), (5, zI a0.fProm), (4, .ptr 1 1 0), (3, .ptr 3 1 0), (2, .ptr 2 1 0), (1, .ptr 1 1 0), (0, encAcc a0)], [(3, ⟨1, 1, true, some (.agg [zI a0.fProm, zI a0.fBal, zI 0])⟩), (3, ⟨1, 1, true, some (.agg [zI a0.fProm, zI 0, zI 0])⟩), (3, ⟨1, 1, true, some (.agg [zI 0, zI 0, zI 0])⟩), (2, ⟨1, 1, true, some (.agg [zI 0, zI 0, zI 0])⟩), (1, ⟨1, 1, true, some (encAcc a0)⟩)]⟩ ?_
 let T2 : List (Nat × X) := [(3, .ptr 3 0 0), (2, .ptr 2 0 0), (1, .ptr 1 0 0)]
 let B2 : List (Nat × Bx) := [(3, ⟨0, 0, true, some (.agg [zI a0.fProm, zI a0.fBal, zI 0])⟩), (2, ⟨0, 0, true, some (.agg [zI 0, zI 0, zI 0])⟩), (1, ⟨0, 0, true, some (encAcc a0)⟩)]
 refine wkr [3, 2, 1] [(3, 3, false), (2, 2, false), (1, 1, false)] ⟨T2, B2⟩ ?_
 refine sqr cv hn ?_
 refine ro9 0 4 4 ⟨(12, .ptr 3 0 2) :: (11, zI a0.fVal) :: (10, .ptr 1 0 2) :: T2, (3, ⟨0, 0, true, some (encAcc a0)⟩) :: B2⟩ ?_
 refine sqr cv hn ?_
 refine ro9 0 2 2 ⟨(13, encAcc a0) :: (12, .ptr 3 0 2) :: (11, zI a0.fVal) :: (10, .ptr 1 0 2) :: T2, (2, ⟨0, 0, true, some (encAcc a0)⟩) :: (3, ⟨0, 0, true, some (encAcc a0)⟩) :: B2⟩ ?_
 refine runs_ret ?_
 exact fin _ _ h (by kernel_rfl)

set_option maxRecDepth 100000 in
set_option maxHeartbeats 2000000 in
theorem laws_toAccS_spec (a0 : (List SAcc)) (v0 : (List SAcc)) (h : laws_toAccS a0 = some v0) : Ax.Spec Try.prog 109 none [.sl 0 (List.map encAcc a0)] (.sl 1 (List.map encAcc v0) : X) (.junk : X) := by
 let T1 : List (Nat × X) := [(0, .sl 0 (List.map encAcc a0))]
 refine walk0 (fn := Try.f109) (fun q0 : (List SAcc) => (.sl 1 (List.map encAcc q0) : X)) (fun q0 : (List SAcc) => (.junk : X)) v0 ⟨T1, []⟩ Try.func109 rfl (by decide +kernel) fun Γ hn fin => ?_
 rw [laws_toAccS] at h
 refine sqr cv hn ?_
 refine ro9 0 1 1 ⟨(2, .sc (.slice none 0 0)) :: T1, []⟩ ?_
 refine sqr cv hn ?_
 refine ro 0 2 2 ⟨(6, zI (a0.length : Int)) :: (5, .sl 0 (List.map encAcc a0)) :: (2, .sc (.slice none 0 0)) :: T1, []⟩ ?_ (he := by rw [show (a0.length : Int) = ((List.map encAcc a0).length : Int) from by rw [List.length_map]]; kernel_rfl)
 obtain ⟨hg2, h⟩ := gO_some h
 refine rs 2 ⟨(7, .view 7 1 [] 0) :: (6, zI (a0.length : Int)) :: (5, .sl 0 (List.map encAcc a0)) :: (2, .sc (.slice none 0 0)) :: T1, [(7, ⟨1, 1, false, some (.sl 1 (List.map encAcc (List.replicate (Int.toNat (a0.length : Int)) (SAcc.mk 0 0 0))))⟩)]⟩ [((a0.length : Int) : Int) = (a0.length : Int) ∧ 0 ≤ ((a0.length : Int) : Int) ∧ tBytes Try.prog 33 * (Int.toNat (a0.length : Int)) ≤ 140737488355328 ∧ (Int.toNat (a0.length : Int)) ≤ 140737488355328] ⟨⟨rfl, hg2.1, mk_side (by kernel_rfl) hg2.2, hg2.2.2⟩, trivial⟩ ?_ (he := by rw [show List.map encAcc (List.replicate (Int.toNat (a0.length : Int)) (SAcc.mk 0 0 0)) = List.replicate (Int.toNat (a0.length : Int)) (encAcc (SAcc.mk 0 0 0)) from List.map_replicate]; kernel_rfl)
 refine ro9 3 1 1 ⟨(3, .view 7 1 [] 0) :: (7, .view 7 1 [] 0) :: (6, zI (a0.length : Int)) :: (5, .sl 0 (List.map encAcc a0)) :: (2, .sc (.slice none 0 0)) :: T1, [(7, ⟨1, 1, false, some (.sl 1 (List.map encAcc (List.replicate (Int.toNat (a0.length : Int)) (SAcc.mk 0 0 0))))⟩)]⟩ ?_
 refine runs_seq ?_
 refine sqr cv hn ?_
 refine ro9 0 1 1 ⟨(4, zI 0) :: (3, .view 7 1 [] 0) :: (7, .view 7 1 [] 0) :: (6, zI (a0.length : Int)) :: (5, .sl 0 (List.map encAcc a0)) :: (2, .sc (.slice none 0 0)) :: T1, [(7, ⟨1, 1, false, some (.sl 1 (List.map encAcc (List.replicate (Int.toNat (a0.length : Int)) (SAcc.mk 0 0 0))))⟩)]⟩ ?_
 refine runs_block ?_
 refine runs_loopM (σ := List SAcc × Nat × (List SAcc)) (fun s => ⟨[(4, zI (s.2.1 : Int)), (3, .view 5000003 0 [] 0), (0, .sl 0 (List.map encAcc a0))], [(5000003, ⟨0, 0, false, some (.sl 1 (List.map encAcc s.2.2))⟩)]⟩) (fun s => s.1 = List.drop s.2.1 a0 ∧ laws_toAccS_l1 s.1 s.2.1 s.2.2 = some v0) (fun s => s.1.length) (a0, 0, List.replicate (Int.toNat (a0.length : Int)) (SAcc.mk 0 0 0)) ⟨rfl, h⟩ (wre [4, 3, 0] [(5000003, 7, false)]) ?_
 rintro ⟨t1, i1, y14⟩ ⟨hd1, h⟩
 refine seq0 ⟨[(4, zI (i1 : Int)), (3, .view 5000003 0 [] 0), (0, .sl 0 (List.map encAcc a0))], [(5000003, ⟨0, 0, false, some (.sl 1 (List.map encAcc y14))⟩)]⟩ ?_
 refine runs_len 0 (es := List.map encAcc a0) (by kernel_rfl) fun hl1 => ?_
 replace hl1 := len_of_map hl1
 cases t1 with
 | nil =>
   rw [laws_toAccS_l1] at h
   have hLn1 := dnil hd1
   refine runs_seq ?_
   refine sqr cv hn ?_
   refine ro9 0 4 4 ⟨[(11, zB (decide ((i1 : Int) < (a0.length : Int)))), (10, zI (a0.length : Int)), (9, .sl 0 (List.map encAcc a0)), (8, zI (i1 : Int)), (4, zI (i1 : Int)), (3, .view 5000003 0 [] 0), (0, .sl 0 (List.map encAcc a0))], [(5000003, ⟨0, 0, false, some (.sl 1 (List.map encAcc y14))⟩)]⟩ ?_ (he := by rw [show (a0.length : Int) = ((List.map encAcc a0).length : Int) from by rw [List.length_map]]; kernel_rfl)
   refine cf hLn1 ?_
   refine runs_exit ?_
   repeat refine thenX_exit ?_
   refine block_here ?_
   let B2 : List (Nat × Bx) := [(5000003, ⟨0, 0, false, some (.sl 1 (List.map encAcc y14))⟩)]
   refine wkr [3] [(5000003, 5000003, false)] ⟨[(3, .view 5000003 0 [] 0)], B2⟩ ?_
   refine sqr cv hn ?_
   refine ro9 0 2 2 ⟨[(2, .view 5000003 0 [] 0), (22, .view 5000003 0 [] 0), (3, .view 5000003 0 [] 0)], B2⟩ ?_
   refine runs_ret ?_
   exact fin _ _ h (by kernel_rfl)
 | cons x10 t1 =>
   rw [laws_toAccS_l1] at h
   have hLc1 := dcons hd1
   have hx10 := dget hd1
   have hi1 := dinc hd1 hl1
   refine runs_seq ?_
   refine sqr cv hn ?_
   refine ro9 0 4 4 ⟨[(11, zB (decide ((i1 : Int) < (a0.length : Int)))), (10, zI (a0.length : Int)), (9, .sl 0 (List.map encAcc a0)), (8, zI (i1 : Int)), (4, zI (i1 : Int)), (3, .view 5000003 0 [] 0), (0, .sl 0 (List.map encAcc a0))], [(5000003, ⟨0, 0, false, some (.sl 1 (List.map encAcc y14))⟩)]⟩ ?_ (he := by rw [show (a0.length : Int) = ((List.map encAcc a0).length : Int) from by rw [List.length_map]]; kernel_rfl)
   refine ct hLc1 ?_
   refine runs_skip ?_
   refine runs_seq ?_
   refine runs_block ?_
   refine rg cv hn ?_
   refine ro 0 4 4 ⟨[(17, zI (i1 : Int)), (16, .sl 0 (List.map encAcc a0)), (15, zI (i1 : Int)), (14, .view 5000003 0 [] 0), (11, zB (decide ((i1 : Int) < (a0.length : Int)))), (10, zI (a0.length : Int)), (9, .sl 0 (List.map encAcc a0)), (8, zI (i1 : Int)), (4, zI (i1 : Int)), (3, .view 5000003 0 [] 0), (0, .sl 0 (List.map encAcc a0))], [(5000003, ⟨0, 0, false, some (.sl 1 (List.map encAcc y14))⟩)]⟩ ?_
   refine rix 4 encAcc 148 hx10 (ix_nn hx10) ⟨[(18, .rp (encAcc x10) 0), (17, zI (i1 : Int)), (16, .sl 0 (List.map encAcc a0)), (15, zI (i1 : Int)), (14, .view 5000003 0 [] 0), (11, zB (decide ((i1 : Int) < (a0.length : Int)))), (10, zI (a0.length : Int)), (9, .sl 0 (List.map encAcc a0)), (8, zI (i1 : Int)), (4, zI (i1 : Int)), (3, .view 5000003 0 [] 0), (0, .sl 0 (List.map encAcc a0))], [(5000003, ⟨0, 0, false, some (.sl 1 (List.map encAcc y14))⟩)]⟩ ?_
   refine ro 5 1 1 ⟨[(19, encAcc x10), (18, .rp (encAcc x10) 0), (17, zI (i1 : Int)), (16, .sl 0 (List.map encAcc a0)), (15, zI (i1 : Int)), (14, .view 5000003 0 [] 0), (11, zB (decide ((i1 : Int) < (a0.length : Int)))), (10, zI (a0.length : Int)), (9, .sl 0 (List.map encAcc a0)), (8, zI (i1 : Int)), (4, zI (i1 : Int)), (3, .view 5000003 0 [] 0), (0, .sl 0 (List.map encAcc a0))], [(5000003, ⟨0, 0, false, some (.sl 1 (List.map encAcc y14))⟩)]⟩ ?_
   obtain ⟨v25, hv26, h⟩ := bindO h
   refine rc 6 ⟨[(20, encAcc v25), (19, encAcc x10), (18, .rp (encAcc x10) 0), (17, zI (i1 : Int)), (16, .sl 0 (List.map encAcc a0)), (15, zI (i1 : Int)), (14, .view 5000003 0 [] 0), (11, zB (decide ((i1 : Int) < (a0.length : Int)))), (10, zI (a0.length : Int)), (9, .sl 0 (List.map encAcc a0)), (8, zI (i1 : Int)), (4, zI (i1 : Int)), (3, .view 5000003 0 [] 0), (0, .sl 0 (List.map encAcc a0))], [(5000003, ⟨0, 0, false, some (.sl 1 (List.map encAcc y14))⟩)]⟩ (laws_toAcc_spec x10 v25 hv26) ?_
   obtain ⟨x27, hx28, h⟩ := bindO h
   refine rix 7 encAcc 33 hx28 (ix_nn hx28) ⟨[(21, .ep 5000003 0 [(0, (Int.toNat (i1 : Int)))] 0), (20, encAcc v25), (19, encAcc x10), (18, .rp (encAcc x10) 0), (17, zI (i1 : Int)), (16, .sl 0 (List.map encAcc a0)), (15, zI (i1 : Int)), (14, .view 5000003 0 [] 0), (11, zB (decide ((i1 : Int) < (a0.length : Int)))), (10, zI (a0.length : Int)), (9, .sl 0 (List.map encAcc a0)), (8, zI (i1 : Int)), (4, zI (i1 : Int)), (3, .view 5000003 0 [] 0), (0, .sl 0 (List.map encAcc a0))], [(5000003, ⟨0, 0, false, some (.sl 1 (List.map encAcc y14))⟩)]⟩ ?_
   refine ra 8 (encAcc x27 : X) (.sl 1 (List.map encAcc (List.set y14 (Int.toNat (i1 : Int)) v25)) : X) ⟨[(21, .ep 5000003 0 [(0, (Int.toNat (i1 : Int)))] 0), (20, encAcc v25), (19, encAcc x10), (18, .rp (encAcc x10) 0), (17, zI (i1 : Int)), (16, .sl 0 (List.map encAcc a0)), (15, zI (i1 : Int)), (14, .view 5000003 0 [] 0), (11, zB (decide ((i1 : Int) < (a0.length : Int)))), (10, zI (a0.length : Int)), (9, .sl 0 (List.map encAcc a0)), (8, zI (i1 : Int)), (4, zI (i1 : Int)), (3, .view 5000003 0 [] 0), (0, .sl 0 (List.map encAcc a0))], [(5000003, ⟨0, 0, false, some (.sl 1 (List.map encAcc (List.set y14 (Int.toNat (i1 : Int)) v25)))⟩), (5000003, ⟨0, 0, false, some (.sl 1 (List.map encAcc y14))⟩)]⟩ [X.nav (.sl 1 (List.map encAcc y14) : X) [(0, (Int.toNat (i1 : Int)))] = some (encAcc x27 : X), X.upd false (.sl 1 (List.map encAcc y14) : X) [(0, (Int.toNat (i1 : Int)))] (X.puts · 0 [zI v25.fProm, zI v25.fBal, zI v25.fVal]) = (.sl 1 (List.map encAcc (List.set y14 (Int.toNat (i1 : Int)) v25)) : X)] ⟨nav_one (f := encAcc) (t := 0) (by kernel_rfl) hx28, Eq.trans (upd_one (f := encAcc) (v := v25) (t := 0) (by kernel_rfl) hx28 (by kernel_rfl)) (by kernel_rfl), trivial⟩ ?_
   refine re0 9 ?_
   refine rg cv hn ?_
   refine ro9 0 3 3 ⟨[(4, zI ((i1 + 1 : Nat) : Int)), (13, zI ((i1 + 1 : Nat) : Int)), (12, zI (i1 : Int)), (21, .ep 5000003 0 [(0, (Int.toNat (i1 : Int)))] 0), (20, encAcc v25), (19, encAcc x10), (18, .rp (encAcc x10) 0), (17, zI (i1 : Int)), (16, .sl 0 (List.map encAcc a0)), (15, zI (i1 : Int)), (14, .view 5000003 0 [] 0), (11, zB (decide ((i1 : Int) < (a0.length : Int)))), (10, zI (a0.length : Int)), (9, .sl 0 (List.map encAcc a0)), (8, zI (i1 : Int)), (4, zI (i1 : Int)), (3, .view 5000003 0 [] 0), (0, .sl 0 (List.map encAcc a0))], [(5000003, ⟨0, 0, false, some (.sl 1 (List.map encAcc (List.set y14 (Int.toNat (i1 : Int)) v25)))⟩), (5000003, ⟨0, 0, false, some (.sl 1 (List.map encAcc y14))⟩)]⟩ ?_ (he := by rw [← hi1]; kernel_rfl)
   exact ⟨(t1, i1 + 1, List.set y14 (Int.toNat (i1 : Int)) v25), Nat.lt_succ_self _, ⟨dnext hd1, h⟩, wre [4, 3, 0] [(5000003, 5000003, false)]⟩

set_option maxRecDepth 100000 in
set_option maxHeartbeats 2000000 in
theorem laws_toNode_spec (a0 : SNode) (v0 : SNode) (h : laws_toNode a0 = some v0) : Ax.Spec Try.prog 57 none [encNode0 a0] (encNode1 v0 : X) (.junk : X) := by
 refine walk0 (fn := Try.f57) (fun q0 : SNode => (encNode1 q0 : X)) (fun q0 : SNode => (.junk : X)) v0 ⟨[(0, encNode0 a0)], []⟩ Try.func57 rfl (by decide +kernel) fun Γ hn fin => ?_
 rw [laws_toNode] at h
 refine sqr cv hn ?_
 refine ro9 0 2 2 ⟨[(2, .ptr 2 1 0), (1, .ptr 1 1 0), (0, encNode0 a0)], [(2, ⟨1, 1, true, some (.agg [zI 0, zI 0, .sl 1 (List.map encAcct1 []), .sl 1 (List.map encOut1 []), .sl 1 (List.map encInt []), .sl 1 (List.map encAcc []), zI 0, zI 0, zI 0])⟩), (1, ⟨1, 1, true, some (encNode0 a0)⟩)]⟩ ?_
 refine sqr cv hn ?_
 refine ro9 0 1 1 ⟨[(3, .ptr 3 1 0), (2, .ptr 2 1 0), (1, .ptr 1 1 0), (0, encNode0 a0)], [(3, ⟨1, 1, true, some (.agg [zI 0, zI 0, .sl 1 (List.map encAcct1 []), .sl 1 (List.map encOut1 []), .sl 1 (List.map encInt []), .sl 1 (List.map encAcc []), zI 0, zI 0, zI 0])⟩), (2, ⟨1, 1, true, some (.agg [zI 0, zI 0, .sl 1 (List.map encAcct1 []), .sl 1 (List.map encOut1 []), .sl 1 (List.map encInt []), .sl 1 (List.map encAcc []), zI 0, zI 0, zI 0])⟩), (1, ⟨1, 1, true, some (encNode0 a0)⟩)]⟩ ?_
 refine sqr cv hn ?_
 refine ro9 0 4 4 ⟨[(6, .ptr 3 1 0), (5, zI a0.fId), (4, .ptr 1 1 0), (3, .ptr 3 1 0), (2, .ptr 2 1 0), (1, .ptr 1 1 0), (0, encNode0 a0)], [(3, ⟨1, 1, true, some (.agg [zI a0.fId, zI 0, .sl 1 (List.map encAcct1 []), .sl 1 (List.map encOut1 []), .sl 1 (List.map encInt []), .sl 1 (List.map encAcc []), zI 0, zI 0, zI 0])⟩), (3, ⟨1, 1, true, some (.agg [zI 0, zI 0, .sl 1 (List.map encAcct1 []), .sl 1 (List.map encOut1 []), .sl 1 (List.map encInt []), .sl 1 (List.map encAcc []), zI 0, zI 0, zI 0])⟩), (2, ⟨1, 1, true, some (.agg [zI 0, zI 0, .sl 1 (List.map encAcct1 []), .sl 1 (List.map encOut1 []), .sl 1 (List.map encInt []), .sl 1 (List.map encAcc []), zI 0, zI 0, zI 0])⟩), (1, ⟨1, 1, true, some (encNode0 a0)⟩)]⟩ ?_
 refine sqr cv hn ?_
 refine ro9 0 4 4 ⟨[(9, .ptr 3 1 1), (8, zI a0.fN), (7, .ptr 1 1 1), (6, .ptr 3 1 0), (5, zI a0.fId), (4, .ptr 1 1 0), (3, .ptr 3 1 0), (2, .ptr 2 1 0), (1, .ptr 1 1 0), (0, encNode0 a0)], [(3, ⟨1, 1, true, some (.agg [zI a0.fId, zI a0.fN, .sl 1 (List.map encAcct1 []), .sl 1 (List.map encOut1 []), .sl 1 (List.map encInt []), .sl 1 (List.map encAcc []), zI 0, zI 0, zI 0])⟩), (3, ⟨1, 1, true, some (.agg [zI a0.fId, zI 0, .sl 1 (List.map encAcct1 []), .sl 1 (List.map encOut1 []), .sl 1 (List.map encInt []), .sl 1 (List.map encAcc []), zI 0, zI 0, zI 0])⟩), (3, ⟨1, 1, true, some (.agg [zI 0, zI 0, .sl 1 (List.map encAcct1 []), .sl 1 (List.map encOut1 []), .sl 1 (List.map encInt []), .sl 1 (List.map encAcc []), zI 0, zI 0, zI 0])⟩), (2, ⟨1, 1, true, some (.agg [zI 0, zI 0, .sl 1 (List.map encAcct1 []), .sl 1 (List.map encOut1 []), .sl 1 (List.map encInt []), .sl 1 (List.map encAcc []), zI 0, zI 0, zI 0])⟩), (1, ⟨1, 1, true, some (encNode0 a0)⟩)]⟩ ?_
 let T3 : List (Nat × X) := [(3, .ptr 3 0 0), (2, .ptr 2 0 0), (1, .ptr 1 0 0)]
 let B3 : List (Nat × Bx) := [(3, ⟨0, 0, true, some (.agg [zI a0.fId, zI a0.fN, .sl 1 (List.map encAcct1 []), .sl 1 (List.map encOut1 []), .sl 1 (List.map encInt []), .sl 1 (List.map encAcc []), zI 0, zI 0, zI 0])⟩), (2, ⟨0, 0, true, some (.agg [zI 0, zI 0, .sl 1 (List.map encAcct1 []), .sl 1 (List.map encOut1 []), .sl 1 (List.map encInt []), .sl 1 (List.map encAcc []), zI 0, zI 0, zI 0])⟩), (1, ⟨0, 0, true, some (encNode0 a0)⟩)]
 refine wkr [3, 2, 1] [(3, 3, false), (2, 2, false), (1, 1, false)] ⟨T3, B3⟩ ?_
 refine sqr cv hn ?_
 refine ro 0 2 2 ⟨(11, .sl 0 (List.map encAcct0 a0.fAccts)) :: (10, .ptr 1 0 2) :: T3, B3⟩ ?_
 obtain ⟨v3, hv4, h⟩ := bindO h
 refine rc 2 ⟨(12, .view 12 1 [] 0) :: (11, .sl 0 (List.map encAcct0 a0.fAccts)) :: (10, .ptr 1 0 2) :: T3, (12, ⟨1, 1, false, some (.sl 1 (List.map encAcct1 v3))⟩) :: B3⟩ (laws_toAcctS_spec a0.fAccts v3 hv4) ?_
 refine ro9 3 2 2 ⟨(13, .ptr 3 0 2) :: (12, .view 12 1 [] 0) :: (11, .sl 0 (List.map encAcct0 a0.fAccts)) :: (10, .ptr 1 0 2) :: T3, (3, ⟨0, 1, true, some (.agg [zI a0.fId, zI a0.fN, .sl 1 (List.map encAcct1 v3), .sl 1 (List.map encOut1 []), .sl 1 (List.map encInt []), .sl 1 (List.map encAcc []), zI 0, zI 0, zI 0])⟩) :: (12, ⟨1, 2, false, some (.junk)⟩) :: (12, ⟨1, 1, false, some (.sl 1 (List.map encAcct1 v3))⟩) :: B3⟩ ?_
 let T5 : List (Nat × X) := [(3, .ptr 3 0 0), (2, .ptr 2 0 0), (1, .ptr 1 0 0)]
 let B5 : List (Nat × Bx) := [(3, ⟨0, 0, true, some (.agg [zI a0.fId, zI a0.fN, .sl 1 (List.map encAcct1 v3), .sl 1 (List.map encOut1 []), .sl 1 (List.map encInt []), .sl 1 (List.map encAcc []), zI 0, zI 0, zI 0])⟩), (2, ⟨0, 0, true, some (.agg [zI 0, zI 0, .sl 1 (List.map encAcct1 []), .sl 1 (List.map encOut1 []), .sl 1 (List.map encInt []), .sl 1 (List.map encAcc []), zI 0, zI 0, zI 0])⟩), (1, ⟨0, 0, true, some (encNode0 a0)⟩)]
 refine wkr [3, 2, 1] [(3, 3, false), (2, 2, false), (1, 1, false)] ⟨T5, B5⟩ ?_
 refine sqr cv hn ?_
 refine ro 0 2 2 ⟨(15, .sl 0 (List.map encOut0 a0.fOuts)) :: (14, .ptr 1 0 3) :: T5, B5⟩ ?_
 obtain ⟨v7, hv8, h⟩ := bindO h
 refine rc 2 ⟨(16, .view 16 1 [] 0) :: (15, .sl 0 (List.map encOut0 a0.fOuts)) :: (14, .ptr 1 0 3) :: T5, (16, ⟨1, 1, false, some (.sl 1 (List.map encOut1 v7))⟩) :: B5⟩ (laws_toOutS_spec a0.fOuts v7 hv8) ?_
 refine ro9 3 2 2 ⟨(17, .ptr 3 0 3) :: (16, .view 16 1 [] 0) :: (15, .sl 0 (List.map encOut0 a0.fOuts)) :: (14, .ptr 1 0 3) :: T5, (3, ⟨0, 1, true, some (.agg [zI a0.fId, zI a0.fN, .sl 1 (List.map encAcct1 v3), .sl 1 (List.map encOut1 v7), .sl 1 (List.map encInt []), .sl 1 (List.map encAcc []), zI 0, zI 0, zI 0])⟩) :: (16, ⟨1, 2, false, some (.junk)⟩) :: (16, ⟨1, 1, false, some (.sl 1 (List.map encOut1 v7))⟩) :: B5⟩ ?_
 let T7 : List (Nat × X) := [(3, .ptr 3 0 0), (2, .ptr 2 0 0), (1, .ptr 1 0 0)]
 let B7 : List (Nat × Bx) := [(3, ⟨0, 0, true, some (.agg [zI a0.fId, zI a0.fN, .sl 1 (List.map encAcct1 v3), .sl 1 (List.map encOut1 v7), .sl 1 (List.map encInt []), .sl 1 (List.map encAcc []), zI 0, zI 0, zI 0])⟩), (2, ⟨0, 0, true, some (.agg [zI 0, zI 0, .sl 1 (List.map encAcct1 []), .sl 1 (List.map encOut1 []), .sl 1 (List.map encInt []), .sl 1 (List.map encAcc []), zI 0, zI 0, zI 0])⟩), (1, ⟨0, 0, true, some (encNode0 a0)⟩)]
 refine wkr [3, 2, 1] [(3, 3, false), (2, 2, false), (1, 1, false)] ⟨T7, B7⟩ ?_
 refine sqr cv hn ?_
 refine ro 0 2 2 ⟨(19, .sl 0 (List.map encInt a0.fIns)) :: (18, .ptr 1 0 4) :: T7, B7⟩ ?_
 obtain ⟨v11, hv12, h⟩ := bindO h
 refine rc 2 ⟨(20, .view 20 1 [] 0) :: (19, .sl 0 (List.map encInt a0.fIns)) :: (18, .ptr 1 0 4) :: T7, (20, ⟨1, 1, false, some (.sl 1 (List.map encInt v11))⟩) :: B7⟩ (laws_toIntS_spec a0.fIns v11 hv12) ?_
 refine ro9 3 2 2 ⟨(21, .ptr 3 0 4) :: (20, .view 20 1 [] 0) :: (19, .sl 0 (List.map encInt a0.fIns)) :: (18, .ptr 1 0 4) :: T7, (3, ⟨0, 1, true, some (.agg [zI a0.fId, zI a0.fN, .sl 1 (List.map encAcct1 v3), .sl 1 (List.map encOut1 v7), .sl 1 (List.map encInt v11), .sl 1 (List.map encAcc []), zI 0, zI 0, zI 0])⟩) :: (20, ⟨1, 2, false, some (.junk)⟩) :: (20, ⟨1, 1, false, some (.sl 1 (List.map encInt v11))⟩) :: B7⟩ ?_
 let T9 : List (Nat × X) := [(3, .ptr 3 0 0), (2, .ptr 2 0 0), (1, .ptr 1 0 0)]
 let B9 : List (Nat × Bx) := [(3, ⟨0, 0, true, some (.agg [zI a0.fId, zI a0.fN, .sl 1 (List.map encAcct1 v3), .sl 1 (List.map encOut1 v7), .sl 1 (List.map encInt v11), .sl 1 (List.map encAcc []), zI 0, zI 0, zI 0])⟩), (2, ⟨0, 0, true, some (.agg [zI 0, zI 0, .sl 1 (List.map encAcct1 []), .sl 1 (List.map encOut1 []), .sl 1 (List.map encInt []), .sl 1 (List.map encAcc []), zI 0, zI 0, zI 0])⟩), (1, ⟨0, 0, true, some (encNode0 a0)⟩)]
 refine wkr [3, 2, 1] [(3, 3, false), (2, 2, false), (1, 1, false)] ⟨T9, B9⟩ ?_
 refine sqr cv hn ?_
 refine ro 0 2 2 ⟨(23, .sl 0 (List.map encAcc a0.fAccs)) :: (22, .ptr 1 0 5) :: T9, B9⟩ ?_
 obtain ⟨v15, hv16, h⟩ := bindO h
 refine rc 2 ⟨(24, .view 24 1 [] 0) :: (23, .sl 0 (List.map encAcc a0.fAccs)) :: (22, .ptr 1 0 5) :: T9, (24, ⟨1, 1, false, some (.sl 1 (List.map encAcc v15))⟩) :: B9⟩ (laws_toAccS_spec a0.fAccs v15 hv16) ?_
 refine ro9 3 2 2 ⟨(25, .ptr 3 0 5) :: (24, .view 24 1 [] 0) :: (23, .sl 0 (List.map encAcc a0.fAccs)) :: (22, .ptr 1 0 5) :: T9, (3, ⟨0, 1, true, some (.agg [zI a0.fId, zI a0.fN, .sl 1 (List.map encAcct1 v3), .sl 1 (List.map encOut1 v7), .sl 1 (List.map encInt v11), .sl 1 (List.map encAcc v15), zI 0, zI 0, zI 0])⟩) :: (24, ⟨1, 2, false, some (.junk)⟩) :: (24, ⟨1, 1, false, some (.sl 1 (List.map encAcc v15))⟩) :: B9⟩ ?_
 let T11 : List (Nat × X) := [(3, .ptr 3 0 0), (2, .ptr 2 0 0), (1, .ptr 1 0 0)]
 let B11 : List (Nat × Bx) := [(3, ⟨0, 0, true, some (.agg [zI a0.fId, zI a0.fN, .sl 1 (List.map encAcct1 v3), .sl 1 (List.map encOut1 v7), .sl 1 (List.map encInt v11), .sl 1 (List.map encAcc v15), zI 0, zI 0, zI 0])⟩), (2, ⟨0, 0, true, some (.agg [zI 0, zI 0, .sl 1 (List.map encAcct1 []), .sl 1 (List.map encOut1 []), .sl 1 (List.map encInt []), .sl 1 (List.map encAcc []), zI 0, zI 0, zI 0])⟩), (1, ⟨0, 0, true, some (encNode0 a0)⟩)]
 refine wkr [3, 2, 1] [(3, 3, false), (2, 2, false), (1, 1, false)] ⟨T11, B11⟩ ?_
 refine sqr cv hn ?_
 refine ro9 0 4 4 ⟨(28, .ptr 3 0 6) :: (27, zI a0.fStray) :: (26, .ptr 1 0 6) :: T11, (3, ⟨0, 0, true, some (.agg [zI a0.fId, zI a0.fN, .sl 1 (List.map encAcct1 v3), .sl 1 (List.map encOut1 v7), .sl 1 (List.map encInt v11), .sl 1 (List.map encAcc v15), zI a0.fStray, zI 0, zI 0])⟩) :: B11⟩ ?_
 refine sqr cv hn ?_
 refine ro9 0 4 4 ⟨(31, .ptr 3 0 7) :: (30, zI a0.fCame) :: (29, .ptr 1 0 7) :: (28, .ptr 3 0 6) :: (27, zI a0.fStray) :: (26, .ptr 1 0 6) :: T11, (3, ⟨0, 0, true, some (.agg [zI a0.fId, zI a0.fN, .sl 1 (List.map encAcct1 v3), .sl 1 (List.map encOut1 v7), .sl 1 (List.map encInt v11), .sl 1 (List.map encAcc v15), zI a0.fStray, zI a0.fCame, zI 0])⟩) :: (3, ⟨0, 0, true, some (.agg [zI a0.fId, zI a0.fN, .sl 1 (List.map encAcct1 v3), .sl 1 (List.map encOut1 v7), .sl 1 (List.map encInt v11), .sl 1 (List.map encAcc v15), zI a0.fStray, zI 0, zI 0])⟩) :: B11⟩ ?_
 let T12 : List (Nat × X) := [(3, .ptr 3 0 0), (2, .ptr 2 0 0), (1, .ptr 1 0 0)]
 let B12 : List (Nat × Bx) := [(3, ⟨0, 0, true, some (.agg [zI a0.fId, zI a0.fN, .sl 1 (List.map encAcct1 v3), .sl 1 (List.map encOut1 v7), .sl 1 (List.map encInt v11), .sl 1 (List.map encAcc v15), zI a0.fStray, zI a0.fCame, zI 0])⟩), (2, ⟨0, 0, true, some (.agg [zI 0, zI 0, .sl 1 (List.map encAcct1 []), .sl 1 (List.map encOut1 []), .sl 1 (List.map encInt []), .sl 1 (List.map encAcc []), zI 0, zI 0, zI 0])⟩), (1, ⟨0, 0, true, some (encNode0 a0)⟩)]
 refine wkr [3, 2, 1] [(3, 3, false), (2, 2, false), (1, 1, false)] ⟨T12, B12⟩ ?_
 refine sqr cv hn ?_
 refine ro9 0 4 4 ⟨(34, .ptr 3 0 8) :: (33, zI a0.fWent) :: (32, .ptr 1 0 8) :: T12, (3, ⟨0, 0, true, some (.agg [zI a0.fId, zI a0.fN, .sl 1 (List.map encAcct1 v3), .sl 1 (List.map encOut1 v7), .sl 1 (List.map encInt v11), .sl 1 (List.map encAcc v15), zI a0.fStray, zI a0.fCame, zI a0.fWent])⟩) :: B12⟩ ?_
 refine sqr cv hn ?_
 refine ro9 0 2 2 ⟨(35, .agg [zI a0.fId, zI a0.fN, .view 3 0 [] 2, .view 3 0 [] 3, .view 3 0 [] 4, .view 3 0 [] 5, zI a0.fStray, zI a0.fCame, zI a0.fWent]) :: (34, .ptr 3 0 8) :: (33, zI a0.fWent) :: (32, .ptr 1 0 8) :: T12, (2, ⟨0, 1, true, some (.agg [zI a0.fId, zI a0.fN, .sl 1 (List.map encAcct1 v3), .sl 1 (List.map encOut1 v7), .sl 1 (List.map encInt v11), .sl 1 (List.map encAcc v15), zI a0.fStray, zI a0.fCame, zI a0.fWent])⟩) :: (3, ⟨0, 4, true, some (.agg [zI a0.fId, zI a0.fN, .junk, .junk, .junk, .junk, zI a0.fStray, zI a0.fCame, zI a0.fWent])⟩) :: (3, ⟨0, 3, true, some (.agg [zI a0.fId, zI a0.fN, .junk, .junk, .junk, .sl 1 (List.map encAcc v15), zI a0.fStray, zI a0.fCame, zI a0.fWent])⟩) :: (3, ⟨0, 2, true, some (.agg [zI a0.fId, zI a0.fN, .junk, .junk, .sl 1 (List.map encInt v11), .sl 1 (List.map encAcc v15), zI a0.fStray, zI a0.fCame, zI a0.fWent])⟩) :: (3, ⟨0, 1, true, some (.agg [zI a0.fId, zI a0.fN, .junk, .sl 1 (List.map encOut1 v7), .sl 1 (List.map encInt v11), .sl 1 (List.map encAcc v15), zI a0.fStray, zI a0.fCame, zI a0.fWent])⟩) :: (3, ⟨0, 0, true, some (.agg [zI a0.fId, zI a0.fN, .sl 1 (List.map encAcct1 v3), .sl 1 (List.map encOut1 v7), .sl 1 (List.map encInt v11), .sl 1 (List.map encAcc v15), zI a0.fStray, zI a0.fCame, zI a0.fWent])⟩) :: B12⟩ ?_
 refine runs_ret ?_
 exact fin _ _ h (by kernel_rfl)

set_option maxRecDepth 100000 in
set_option maxHeartbeats 2000000 in
theorem impl_Waiting_spec (a0 : SNode) (v0 : Int) (h : impl_Waiting a0 = some v0) : Ax.Spec Try.prog 58 none [encNode0 a0] (zI v0 : X) (.junk : X) := by
 refine walk0 (fn := Try.f58) (fun q0 : Int => (zI q0 : X)) (fun q0 : Int => (.junk : X)) v0 ⟨[(0, encNode0 a0)], []⟩ Try.func58 rfl (by decide +kernel) fun Γ hn fin => ?_
 rw [impl_Waiting] at h
 refine sqr cv hn ?_
 refine ro9 0 2 2 ⟨[(2, zI 0), (1, .ptr 1 1 0), (0, encNode0 a0)], [(1, ⟨1, 1, true, some (encNode0 a0)⟩)]⟩ ?_
 refine sqr cv hn ?_
 refine ro9 0 1 1 ⟨[(3, zI 0), (2, zI 0), (1, .ptr 1 1 0), (0, encNode0 a0)], [(1, ⟨1, 1, true, some (encNode0 a0)⟩)]⟩ ?_
 refine runs_seq ?_
 refine sqr cv hn ?_
 refine ro9 0 4 4 ⟨[(9, zI 0), (8, zI (a0.fOuts.length : Int)), (7, .sl 0 (List.map encOut0 a0.fOuts)), (6, .ptr 1 1 3), (3, zI 0), (2, zI 0), (1, .ptr 1 1 0), (0, encNode0 a0)], [(1, ⟨1, 1, true, some (encNode0 a0)⟩)]⟩ ?_ (he := by rw [show (a0.fOuts.length : Int) = ((List.map encOut0 a0.fOuts).length : Int) from by rw [List.length_map]]; kernel_rfl)
 refine runs_block ?_
 refine runs_loopM (σ := List SOut × Nat × Int) (fun s => ⟨[(9, zI (s.2.1 : Int)), (8, zI (a0.fOuts.length : Int)), (7, .sl 0 (List.map encOut0 a0.fOuts)), (3, zI s.2.2)], []⟩) (fun s => s.1 = List.drop s.2.1 a0.fOuts ∧ impl_Waiting_l1 s.1 s.2.1 s.2.2 = some v0) (fun s => s.1.length) (a0.fOuts, 0, 0) ⟨rfl, h⟩ (wre [9, 8, 7, 3] []) ?_
 rintro ⟨t1, i1, y10⟩ ⟨hd1, h⟩
 refine seq0 ⟨[(9, zI (i1 : Int)), (8, zI (a0.fOuts.length : Int)), (7, .sl 0 (List.map encOut0 a0.fOuts)), (3, zI y10)], []⟩ ?_
 refine runs_len 7 (es := List.map encOut0 a0.fOuts) (by kernel_rfl) fun hl1 => ?_
 replace hl1 := len_of_map hl1
 cases t1 with
 | nil =>
   rw [impl_Waiting_l1] at h
   have hLn1 := dnil hd1
   refine sqr cv hn ?_
   refine ro9 0 1 1 ⟨[(10, zB (decide ((i1 : Int) < (a0.fOuts.length : Int)))), (9, zI (i1 : Int)), (8, zI (a0.fOuts.length : Int)), (7, .sl 0 (List.map encOut0 a0.fOuts)), (3, zI y10)], []⟩ ?_
   refine runs_seq ?_
   refine cf hLn1 ?_
   refine runs_exit ?_
   repeat refine thenX_exit ?_
   refine block_here ?_
   refine sqr cv hn ?_
   refine ro9 0 2 2 ⟨[(2, zI y10), (19, zI y10), (10, zB (decide ((i1 : Int) < (a0.fOuts.length : Int)))), (9, zI (i1 : Int)), (8, zI (a0.fOuts.length : Int)), (7, .sl 0 (List.map encOut0 a0.fOuts)), (3, zI y10)], []⟩ ?_
   refine runs_ret ?_
   exact fin _ _ h (by kernel_rfl)
 | cons x10 t1 =>
   rw [impl_Waiting_l1] at h
   have hLc1 := dcons hd1
   have hx10 := dget hd1
   have hi1 := dinc hd1 hl1
   refine sqr cv hn ?_
   refine ro9 0 1 1 ⟨[(10, zB (decide ((i1 : Int) < (a0.fOuts.length : Int)))), (9, zI (i1 : Int)), (8, zI (a0.fOuts.length : Int)), (7, .sl 0 (List.map encOut0 a0.fOuts)), (3, zI y10)], []⟩ ?_
   refine runs_seq ?_
   refine ct hLc1 ?_
   refine runs_skip ?_
   refine runs_seq ?_
   refine runs_block ?_
   refine sqr cv hn ?_
   refine rix 0 encOut0 126 hx10 (ix_nn hx10) ⟨[(11, .rp (encOut0 x10) 0), (10, zB (decide ((i1 : Int) < (a0.fOuts.length : Int)))), (9, zI (i1 : Int)), (8, zI (a0.fOuts.length : Int)), (7, .sl 0 (List.map encOut0 a0.fOuts)), (3, zI y10)], []⟩ ?_
   refine ro9 1 3 3 ⟨[(5, .ptr 5 1 0), (12, encOut0 x10), (11, .rp (encOut0 x10) 0), (10, zB (decide ((i1 : Int) < (a0.fOuts.length : Int)))), (9, zI (i1 : Int)), (8, zI (a0.fOuts.length : Int)), (7, .sl 0 (List.map encOut0 a0.fOuts)), (3, zI y10)], [(5, ⟨1, 2, true, some (encOut0 x10)⟩), (5, ⟨1, 1, true, some (.agg [zI 0, .sl 1 (List.map encMsg [])])⟩)]⟩ ?_
   refine rg cv hn ?_
   refine ro9 0 6 6 ⟨[(3, zI (w64 (y10 + (x10.fList.length : Int)))), (17, zI (w64 (y10 + (x10.fList.length : Int)))), (16, zI (x10.fList.length : Int)), (15, .sl 0 (List.map encMsg x10.fList)), (14, .ptr 5 1 1), (13, zI y10), (5, .ptr 5 1 0), (12, encOut0 x10), (11, .rp (encOut0 x10) 0), (10, zB (decide ((i1 : Int) < (a0.fOuts.length : Int)))), (9, zI (i1 : Int)), (8, zI (a0.fOuts.length : Int)), (7, .sl 0 (List.map encOut0 a0.fOuts)), (3, zI y10)], [(5, ⟨1, 2, true, some (encOut0 x10)⟩), (5, ⟨1, 1, true, some (.agg [zI 0, .sl 1 (List.map encMsg [])])⟩)]⟩ ?_ (he := by rw [show (x10.fList.length : Int) = ((List.map encMsg x10.fList).length : Int) from by rw [List.length_map]]; kernel_rfl)
   refine rg cv hn ?_
   refine ro9 0 2 2 ⟨[(9, zI ((i1 + 1 : Nat) : Int)), (18, zI ((i1 + 1 : Nat) : Int)), (3, zI (w64 (y10 + (x10.fList.length : Int)))), (17, zI (w64 (y10 + (x10.fList.length : Int)))), (16, zI (x10.fList.length : Int)), (15, .sl 0 (List.map encMsg x10.fList)), (14, .ptr 5 1 1), (13, zI y10), (5, .ptr 5 1 0), (12, encOut0 x10), (11, .rp (encOut0 x10) 0), (10, zB (decide ((i1 : Int) < (a0.fOuts.length : Int)))), (9, zI (i1 : Int)), (8, zI (a0.fOuts.length : Int)), (7, .sl 0 (List.map encOut0 a0.fOuts)), (3, zI y10)], [(5, ⟨1, 2, true, some (encOut0 x10)⟩), (5, ⟨1, 1, true, some (.agg [zI 0, .sl 1 (List.map encMsg [])])⟩)]⟩ ?_ (he := by rw [← hi1]; kernel_rfl)
   exact ⟨(t1, i1 + 1, w64 (y10 + (x10.fList.length : Int))), Nat.lt_succ_self _, ⟨dnext hd1, h⟩, wre [9, 8, 7, 3] []⟩

set_option maxRecDepth 100000 in
set_option maxHeartbeats 2000000 in
theorem laws_eqIntS_spec (a0 : (List Int)) (a1 : (List Int)) (v0 : Bool) (h : laws_eqIntS a0 a1 = some v0) : Ax.Spec Try.prog 80 none [.sl 0 (List.map encInt a0), .sl 0 (List.map encInt a1)] (zB v0 : X) (.junk : X) := by
 let T1 : List (Nat × X) := [(0, .sl 0 (List.map encInt a0)), (1, .sl 0 (List.map encInt a1))]
 refine walk0 (fn := Try.f80) (fun q0 : Bool => (zB q0 : X)) (fun q0 : Bool => (.junk : X)) v0 ⟨T1, []⟩ Try.func80 rfl (by decide +kernel) fun Γ hn fin => ?_
 rw [laws_eqIntS] at h
 refine sqr cv hn ?_
 refine ro9 0 1 1 ⟨(4, zB false) :: T1, []⟩ ?_
 refine runs_seq ?_
 refine sqr cv hn ?_
 refine ro9 0 5 5 ⟨(10, zB ((a0.length : Int) != (a1.length : Int))) :: (9, zI (a1.length : Int)) :: (8, .sl 0 (List.map encInt a1)) :: (7, zI (a0.length : Int)) :: (6, .sl 0 (List.map encInt a0)) :: (4, zB false) :: T1, []⟩ ?_ (he := by rw [show (a0.length : Int) = ((List.map encInt a0).length : Int) from by rw [List.length_map]]; rw [show (a1.length : Int) = ((List.map encInt a1).length : Int) from by rw [List.length_map]]; kernel_rfl)
 rcases dich ((a0.length : Int) != (a1.length : Int)) with hb2 | hb2
 · replace h := cond_t hb2 h
   refine ct hb2 ?_
   let T3 : List (Nat × X) := [(0, .sl 0 (List.map encInt a0)), (1, .sl 0 (List.map encInt a1))]
   refine wkr [0, 1] [] ⟨T3, []⟩ ?_
   refine sqr cv hn ?_
   refine ro9 0 1 1 ⟨(4, zB false) :: T3, []⟩ ?_
   refine runs_ret ?_
   exact fin _ _ h (by kernel_rfl)
 · replace h := cond_f hb2 h
   refine cf hb2 ?_
   refine runs_skip ?_
   refine runs_seq ?_
   let T5 : List (Nat × X) := [(0, .sl 0 (List.map encInt a0)), (1, .sl 0 (List.map encInt a1))]
   refine wkr [0, 1] [] ⟨T5, []⟩ ?_
   refine sqr cv hn ?_
   refine ro9 0 1 1 ⟨(5, zI 0) :: T5, []⟩ ?_
   refine runs_block ?_
   refine runs_loopM (σ := List Int × Nat) (fun s => ⟨[(5, zI (s.2 : Int)), (0, .sl 0 (List.map encInt a0)), (1, .sl 0 (List.map encInt a1))], []⟩) (fun s => s.1 = List.drop s.2 a0 ∧ laws_eqIntS_l1 a1 s.1 s.2 = some v0) (fun s => s.1.length) (a0, 0) ⟨rfl, h⟩ (wre [5, 0, 1] []) ?_
   rintro ⟨t1, i1⟩ ⟨hd1, h⟩
   refine seq0 ⟨[(5, zI (i1 : Int)), (0, .sl 0 (List.map encInt a0)), (1, .sl 0 (List.map encInt a1))], []⟩ ?_
   refine runs_len 0 (es := List.map encInt a0) (by kernel_rfl) fun hl1 => ?_
   replace hl1 := len_of_map hl1
   cases t1 with
   | nil =>
     rw [laws_eqIntS_l1] at h
     have hLn1 := dnil hd1
     refine runs_seq ?_
     refine sqr cv hn ?_
     refine ro9 0 4 4 ⟨[(14, zB (decide ((i1 : Int) < (a0.length : Int)))), (13, zI (a0.length : Int)), (12, .sl 0 (List.map encInt a0)), (11, zI (i1 : Int)), (5, zI (i1 : Int)), (0, .sl 0 (List.map encInt a0)), (1, .sl 0 (List.map encInt a1))], []⟩ ?_ (he := by rw [show (a0.length : Int) = ((List.map encInt a0).length : Int) from by rw [List.length_map]]; kernel_rfl)
     refine cf hLn1 ?_
     refine runs_exit ?_
     repeat refine thenX_exit ?_
     refine block_here ?_
     refine wkr [] [] ⟨[], []⟩ ?_
     refine sqr cv hn ?_
     refine ro9 0 1 1 ⟨[(4, zB true)], []⟩ ?_
     refine runs_ret ?_
     exact fin _ _ h (by kernel_rfl)
   | cons x10 t1 =>
     rw [laws_eqIntS_l1] at h
     have hLc1 := dcons hd1
     have hx10 := dget hd1
     have hi1 := dinc hd1 hl1
     refine runs_seq ?_
     refine sqr cv hn ?_
     refine ro9 0 4 4 ⟨[(14, zB (decide ((i1 : Int) < (a0.length : Int)))), (13, zI (a0.length : Int)), (12, .sl 0 (List.map encInt a0)), (11, zI (i1 : Int)), (5, zI (i1 : Int)), (0, .sl 0 (List.map encInt a0)), (1, .sl 0 (List.map encInt a1))], []⟩ ?_ (he := by rw [show (a0.length : Int) = ((List.map encInt a0).length : Int) from by rw [List.length_map]]; kernel_rfl)
     refine ct hLc1 ?_
     refine runs_skip ?_
     refine runs_seq ?_
     refine runs_block ?_
     refine runs_seq ?_
     refine rgT cv mixed hn ?_
     refine roT 0 2 2 ⟨[(18, zI (i1 : Int)), (17, .sl 0 (List.map encInt a0)), (14, zB (decide ((i1 : Int) < (a0.length : Int)))), (13, zI (a0.length : Int)), (12, .sl 0 (List.map encInt a0)), (11, zI (i1 : Int)), (5, zI (i1 : Int)), (0, .sl 0 (List.map encInt a0)), (1, .sl 0 (List.map encInt a1))], []⟩ ?_
     refine rixT 2 encInt 3 hx10 (ix_nn hx10) ⟨[(19, .rp (zI x10) 0), (18, zI (i1 : Int)), (17, .sl 0 (List.map encInt a0)), (14, zB (decide ((i1 : Int) < (a0.length : Int)))), (13, zI (a0.length : Int)), (12, .sl 0 (List.map encInt a0)), (11, zI (i1 : Int)), (5, zI (i1 : Int)), (0, .sl 0 (List.map encInt a0)), (1, .sl 0 (List.map encInt a1))], []⟩ ?_
     refine roT 3 3 3 ⟨[(22, zI (i1 : Int)), (21, .sl 0 (List.map encInt a1)), (20, zI x10), (19, .rp (zI x10) 0), (18, zI (i1 : Int)), (17, .sl 0 (List.map encInt a0)), (14, zB (decide ((i1 : Int) < (a0.length : Int)))), (13, zI (a0.length : Int)), (12, .sl 0 (List.map encInt a0)), (11, zI (i1 : Int)), (5, zI (i1 : Int)), (0, .sl 0 (List.map encInt a0)), (1, .sl 0 (List.map encInt a1))], []⟩ ?_
     obtain ⟨x20, hx21, h⟩ := bindO h
     refine rixT 6 encInt 3 hx21 (ix_nn hx21) ⟨[(23, .rp (zI x20) 0), (22, zI (i1 : Int)), (21, .sl 0 (List.map encInt a1)), (20, zI x10), (19, .rp (zI x10) 0), (18, zI (i1 : Int)), (17, .sl 0 (List.map encInt a0)), (14, zB (decide ((i1 : Int) < (a0.length : Int)))), (13, zI (a0.length : Int)), (12, .sl 0 (List.map encInt a0)), (11, zI (i1 : Int)), (5, zI (i1 : Int)), (0, .sl 0 (List.map encInt a0)), (1, .sl 0 (List.map encInt a1))], []⟩ ?_
     refine roT9 7 2 2 ⟨[(25, zB (x10 != x20)), (24, zI x20), (23, .rp (zI x20) 0), (22, zI (i1 : Int)), (21, .sl 0 (List.map encInt a1)), (20, zI x10), (19, .rp (zI x10) 0), (18, zI (i1 : Int)), (17, .sl 0 (List.map encInt a0)), (14, zB (decide ((i1 : Int) < (a0.length : Int)))), (13, zI (a0.length : Int)), (12, .sl 0 (List.map encInt a0)), (11, zI (i1 : Int)), (5, zI (i1 : Int)), (0, .sl 0 (List.map encInt a0)), (1, .sl 0 (List.map encInt a1))], []⟩ ?_
     rcases dich (x10 != x20) with hb22 | hb22
     · replace h := cond_t hb22 h
       refine ct hb22 ?_
       refine sqr cv hn ?_
       refine ro9 0 1 1 ⟨[(4, zB false), (25, zB (x10 != x20)), (24, zI x20), (23, .rp (zI x20) 0), (22, zI (i1 : Int)), (21, .sl 0 (List.map encInt a1)), (20, zI x10), (19, .rp (zI x10) 0), (18, zI (i1 : Int)), (17, .sl 0 (List.map encInt a0)), (14, zB (decide ((i1 : Int) < (a0.length : Int)))), (13, zI (a0.length : Int)), (12, .sl 0 (List.map encInt a0)), (11, zI (i1 : Int)), (5, zI (i1 : Int)), (0, .sl 0 (List.map encInt a0)), (1, .sl 0 (List.map encInt a1))], []⟩ ?_
       refine runs_ret ?_
       exact fin _ _ h (by kernel_rfl)
     · replace h := cond_f hb22 h
       refine cf hb22 ?_
       refine runs_skip ?_
       refine rg cv hn ?_
       refine ro9 0 3 3 ⟨[(5, zI ((i1 + 1 : Nat) : Int)), (16, zI ((i1 + 1 : Nat) : Int)), (15, zI (i1 : Int)), (25, zB (x10 != x20)), (24, zI x20), (23, .rp (zI x20) 0), (22, zI (i1 : Int)), (21, .sl 0 (List.map encInt a1)), (20, zI x10), (19, .rp (zI x10) 0), (18, zI (i1 : Int)), (17, .sl 0 (List.map encInt a0)), (14, zB (decide ((i1 : Int) < (a0.length : Int)))), (13, zI (a0.length : Int)), (12, .sl 0 (List.map encInt a0)), (11, zI (i1 : Int)), (5, zI (i1 : Int)), (0, .sl 0 (List.map encInt a0)), (1, .sl 0 (List.map encInt a1))], []⟩ ?_ (he := by rw [← hi1]; kernel_rfl)
       exact ⟨(t1, i1 + 1), Nat.lt_succ_self _, ⟨dnext hd1, h⟩, wre [5, 0, 1] []⟩

set_option maxRecDepth 100000 in
set_option maxHeartbeats 2000000 in
theorem laws_eqRep_spec (a0 : SRep) (a1 : SRep) (v0 : Bool) (h : laws_eqRep a0 a1 = some v0) : Ax.Spec Try.prog 116 none [encRep a0, encRep a1] (zB v0 : X) (.junk : X) := by
 refine walk0 (fn := Try.f116) (fun q0 : Bool => (zB q0 : X)) (fun q0 : Bool => (.junk : X)) v0 ⟨[(0, encRep a0), (1, encRep a1)], []⟩ Try.func116 rfl (by decide +kernel) fun Γ hn fin => ?_
 rw [laws_eqRep] at h
 refine sqr cv hn ?_
 refine ro9 0 3 3 ⟨[(4, zB false), (3, .ptr 3 1 0), (2, .ptr 2 1 0), (0, encRep a0), (1, encRep a1)], [(3, ⟨1, 1, true, some (encRep a1)⟩), (2, ⟨1, 1, true, some (encRep a0)⟩)]⟩ ?_
 refine runs_seq ?_
 refine sqr cv hn ?_
 refine ro9 0 5 5 ⟨[(9, zB (a0.fNode != a1.fNode)), (8, zI a1.fNode), (7, .ptr 3 1 0), (6, zI a0.fNode), (5, .ptr 2 1 0), (4, zB false), (3, .ptr 3 1 0), (2, .ptr 2 1 0), (0, encRep a0), (1, encRep a1)], [(3, ⟨1, 1, true, some (encRep a1)⟩), (2, ⟨1, 1, true, some (encRep a0)⟩)]⟩ ?_
 rcases dich (a0.fNode != a1.fNode) with hb2 | hb2
 · replace h := cond_t hb2 h
   refine ct hb2 ?_
   let T3 : List (Nat × X) := [(3, .ptr 3 0 0), (2, .ptr 2 0 0)]
   let B3 : List (Nat × Bx) := [(3, ⟨0, 0, true, some (encRep a1)⟩), (2, ⟨0, 0, true, some (encRep a0)⟩)]
   refine wkr [3, 2] [(3, 3, false), (2, 2, false)] ⟨T3, B3⟩ ?_
   refine sqr cv hn ?_
   refine ro9 0 1 1 ⟨(4, zB false) :: T3, B3⟩ ?_
   refine runs_ret ?_
   exact fin _ _ h (by kernel_rfl)
 · replace h := cond_f hb2 h
   refine cf hb2 ?_
   refine runs_skip ?_
   refine runs_seq ?_
   let T4 : List (Nat × X) := [(3, .ptr 3 0 0), (2, .ptr 2 0 0)]
   let B4 : List (Nat × Bx) := [(3, ⟨0, 0, true, some (encRep a1)⟩), (2, ⟨0, 0, true, some (encRep a0)⟩)]
   refine wkr [3, 2] [(3, 3, false), (2, 2, false)] ⟨T4, B4⟩ ?_
   refine sqr cv hn ?_
   refine ro9 0 5 5 ⟨(14, zB (a0.fAmt != a1.fAmt)) :: (13, zI a1.fAmt) :: (12, .ptr 3 0 1) :: (11, zI a0.fAmt) :: (10, .ptr 2 0 1) :: T4, B4⟩ ?_
   rcases dich (a0.fAmt != a1.fAmt) with hb3 | hb3
   · replace h := cond_t hb3 h
     refine ct hb3 ?_
     refine wkr [] [] ⟨[], []⟩ ?_
     refine sqr cv hn ?_
     refine ro9 0 1 1 ⟨[(4, zB false)], []⟩ ?_
     refine runs_ret ?_
     exact fin _ _ h (by kernel_rfl)
   · replace h := cond_f hb3 h
     refine cf hb3 ?_
     refine runs_skip ?_
     refine wkr [] [] ⟨[], []⟩ ?_
     refine sqr cv hn ?_
     refine ro9 0 1 1 ⟨[(4, zB true)], []⟩ ?_
     refine runs_ret ?_
     exact fin _ _ h (by kernel_rfl)

set_option maxRecDepth 100000 in
set_option maxHeartbeats 2000000 in
theorem laws_eqRepS_spec (a0 : (List SRep)) (a1 : (List SRep)) (v0 : Bool) (h : laws_eqRepS a0 a1 = some v0) : Ax.Spec Try.prog 81 none [.sl 0 (List.map encRep a0), .sl 0 (List.map encRep a1)] (zB v0 : X) (.junk : X) := by
 let T1 : List (Nat × X) := [(0, .sl 0 (List.map encRep a0)), (1, .sl 0 (List.map encRep a1))]
 refine walk0 (fn := Try.f81) (fun q0 : Bool => (zB q0 : X)) (fun q0 : Bool => (.junk : X)) v0 ⟨T1, []⟩ Try.func81 rfl (by decide +kernel) fun Γ hn fin => ?_
 rw [laws_eqRepS] at h
 refine sqr cv hn ?_
 refine ro9 0 1 1 ⟨(4, zB false) :: T1, []⟩ ?_
 refine runs_seq ?_
 refine sqr cv hn ?_
 refine ro9 0 5 5 ⟨(10, zB ((a0.length : Int) != (a1.length : Int))) :: (9, zI (a1.length : Int)) :: (8, .sl 0 (List.map encRep a1)) :: (7, zI (a0.length : Int)) :: (6, .sl 0 (List.map encRep a0)) :: (4, zB false) :: T1, []⟩ ?_ (he := by rw [show (a0.length : Int) = ((List.map encRep a0).length : Int) from by rw [List.length_map]]; rw [show (a1.length : Int) = ((List.map encRep a1).length : Int) from by rw [List.length_map]]; kernel_rfl)
 rcases dich ((a0.length : Int) != (a1.length : Int)) with hb2 | hb2
 · replace h := cond_t hb2 h
   refine ct hb2 ?_
   let T3 : List (Nat × X) := [(0, .sl 0 (List.map encRep a0)), (1, .sl 0 (List.map encRep a1))]
   refine wkr [0, 1] [] ⟨T3, []⟩ ?_
   refine sqr cv hn ?_
   refine ro9 0 1 1 ⟨(4, zB false) :: T3, []⟩ ?_
   refine runs_ret ?_
   exact fin _ _ h (by kernel_rfl)
 · replace h := cond_f hb2 h
   refine cf hb2 ?_
   refine runs_skip ?_
   refine runs_seq ?_
   let T5 : List (Nat × X) := [(0, .sl 0 (List.map encRep a0)), (1, .sl 0 (List.map encRep a1))]
   refine wkr [0, 1] [] ⟨T5, []⟩ ?_
   refine sqr cv hn ?_
   refine ro9 0 1 1 ⟨(5, zI 0) :: T5, []⟩ ?_
   refine runs_block ?_
   refine runs_loopM (σ := List SRep × Nat) (fun s => ⟨[(5, zI (s.2 : Int)), (0, .sl 0 (List.map encRep a0)), (1, .sl 0 (List.map encRep a1))], []⟩) (fun s => s.1 = List.drop s.2 a0 ∧ laws_eqRepS_l1 a1 s.1 s.2 = some v0) (fun s => s.1.length) (a0, 0) ⟨rfl, h⟩ (wre [5, 0, 1] []) ?_
   rintro ⟨t1, i1⟩ ⟨hd1, h⟩
   refine seq0 ⟨[(5, zI (i1 : Int)), (0, .sl 0 (List.map encRep a0)), (1, .sl 0 (List.map encRep a1))], []⟩ ?_
   refine runs_len 0 (es := List.map encRep a0) (by kernel_rfl) fun hl1 => ?_
   replace hl1 := len_of_map hl1
   cases t1 with
   | nil =>
     rw [laws_eqRepS_l1] at h
     have hLn1 := dnil hd1
     refine runs_seq ?_
     refine sqr cv hn ?_
     refine ro9 0 4 4 ⟨[(14, zB (decide ((i1 : Int) < (a0.length : Int)))), (13, zI (a0.length : Int)), (12, .sl 0 (List.map encRep a0)), (11, zI (i1 : Int)), (5, zI (i1 : Int)), (0, .sl 0 (List.map encRep a0)), (1, .sl 0 (List.map encRep a1))], []⟩ ?_ (he := by rw [show (a0.length : Int) = ((List.map encRep a0).length : Int) from by rw [List.length_map]]; kernel_rfl)
     refine cf hLn1 ?_
     refine runs_exit ?_
     repeat refine thenX_exit ?_
     refine block_here ?_
     refine wkr [] [] ⟨[], []⟩ ?_
     refine sqr cv hn ?_
     refine ro9 0 1 1 ⟨[(4, zB true)], []⟩ ?_
     refine runs_ret ?_
     exact fin _ _ h (by kernel_rfl)
   | cons x10 t1 =>
     rw [laws_eqRepS_l1] at h
     have hLc1 := dcons hd1
     have hx10 := dget hd1
     have hi1 := dinc hd1 hl1
     refine runs_seq ?_
     refine sqr cv hn ?_
     refine ro9 0 4 4 ⟨[(14, zB (decide ((i1 : Int) < (a0.length : Int)))), (13, zI (a0.length : Int)), (12, .sl 0 (List.map encRep a0)), (11, zI (i1 : Int)), (5, zI (i1 : Int)), (0, .sl 0 (List.map encRep a0)), (1, .sl 0 (List.map encRep a1))], []⟩ ?_ (he := by rw [show (a0.length : Int) = ((List.map encRep a0).length : Int) from by rw [List.length_map]]; kernel_rfl)
     refine ct hLc1 ?_
     refine runs_skip ?_
     refine runs_seq ?_
     refine runs_block ?_
     refine runs_seq ?_
     refine rgT cv mixed hn ?_
     refine roT 0 2 2 ⟨[(18, zI (i1 : Int)), (17, .sl 0 (List.map encRep a0)), (14, zB (decide ((i1 : Int) < (a0.length : Int)))), (13, zI (a0.length : Int)), (12, .sl 0 (List.map encRep a0)), (11, zI (i1 : Int)), (5, zI (i1 : Int)), (0, .sl 0 (List.map encRep a0)), (1, .sl 0 (List.map encRep a1))], []⟩ ?_
     refine rixT 2 encRep 119 hx10 (ix_nn hx10) ⟨[(19, .rp (encRep x10) 0), (18, zI (i1 : Int)), (17, .sl 0 (List.map encRep a0)), (14, zB (decide ((i1 : Int) < (a0.length : Int)))), (13, zI (a0.length : Int)), (12, .sl 0 (List.map encRep a0)), (11, zI (i1 : Int)), (5, zI (i1 : Int)), (0, .sl 0 (List.map encRep a0)), (1, .sl 0 (List.map encRep a1))], []⟩ ?_
     refine roT 3 3 3 ⟨[(22, zI (i1 : Int)), (21, .sl 0 (List.map encRep a1)), (20, encRep x10), (19, .rp (encRep x10) 0), (18, zI (i1 : Int)), (17, .sl 0 (List.map encRep a0)), (14, zB (decide ((i1 : Int) < (a0.length : Int)))), (13, zI (a0.length : Int)), (12, .sl 0 (List.map encRep a0)), (11, zI (i1 : Int)), (5, zI (i1 : Int)), (0, .sl 0 (List.map encRep a0)), (1, .sl 0 (List.map encRep a1))], []⟩ ?_
     obtain ⟨x24, hx25, h⟩ := bindO h
     refine rixT 6 encRep 119 hx25 (ix_nn hx25) ⟨[(23, .rp (encRep x24) 0), (22, zI (i1 : Int)), (21, .sl 0 (List.map encRep a1)), (20, encRep x10), (19, .rp (encRep x10) 0), (18, zI (i1 : Int)), (17, .sl 0 (List.map encRep a0)), (14, zB (decide ((i1 : Int) < (a0.length : Int)))), (13, zI (a0.length : Int)), (12, .sl 0 (List.map encRep a0)), (11, zI (i1 : Int)), (5, zI (i1 : Int)), (0, .sl 0 (List.map encRep a0)), (1, .sl 0 (List.map encRep a1))], []⟩ ?_
     refine roT 7 1 1 ⟨[(24, encRep x24), (23, .rp (encRep x24) 0), (22, zI (i1 : Int)), (21, .sl 0 (List.map encRep a1)), (20, encRep x10), (19, .rp (encRep x10) 0), (18, zI (i1 : Int)), (17, .sl 0 (List.map encRep a0)), (14, zB (decide ((i1 : Int) < (a0.length : Int)))), (13, zI (a0.length : Int)), (12, .sl 0 (List.map encRep a0)), (11, zI (i1 : Int)), (5, zI (i1 : Int)), (0, .sl 0 (List.map encRep a0)), (1, .sl 0 (List.map encRep a1))], []⟩ ?_
     obtain ⟨v26, hv27, h⟩ := bindO h
     refine rcT 8 ⟨[(25, zB v26), (24, encRep x24), (23, .rp (encRep x24) 0), (22, zI (i1 : Int)), (21, .sl 0 (List.map encRep a1)), (20, encRep x10), (19, .rp (encRep x10) 0), (18, zI (i1 : Int)), (17, .sl 0 (List.map encRep a0)), (14, zB (decide ((i1 : Int) < (a0.length : Int)))), (13, zI (a0.length : Int)), (12, .sl 0 (List.map encRep a0)), (11, zI (i1 : Int)), (5, zI (i1 : Int)), (0, .sl 0 (List.map encRep a0)), (1, .sl 0 (List.map encRep a1))], []⟩ (laws_eqRep_spec x10 x24 v26 hv27) ?_
     refine roT9 9 1 1 ⟨[(26, zB (!v26)), (25, zB v26), (24, encRep x24), (23, .rp (encRep x24) 0), (22, zI (i1 : Int)), (21, .sl 0 (List.map encRep a1)), (20, encRep x10), (19, .rp (encRep x10) 0), (18, zI (i1 : Int)), (17, .sl 0 (List.map encRep a0)), (14, zB (decide ((i1 : Int) < (a0.length : Int)))), (13, zI (a0.length : Int)), (12, .sl 0 (List.map encRep a0)), (11, zI (i1 : Int)), (5, zI (i1 : Int)), (0, .sl 0 (List.map encRep a0)), (1, .sl 0 (List.map encRep a1))], []⟩ ?_
     rcases dich (!v26) with hb28 | hb28
     · replace h := cond_t hb28 h
       refine ct hb28 ?_
       refine sqr cv hn ?_
       refine ro9 0 1 1 ⟨[(4, zB false), (26, zB (!v26)), (25, zB v26), (24, encRep x24), (23, .rp (encRep x24) 0), (22, zI (i1 : Int)), (21, .sl 0 (List.map encRep a1)), (20, encRep x10), (19, .rp (encRep x10) 0), (18, zI (i1 : Int)), (17, .sl 0 (List.map encRep a0)), (14, zB (decide ((i1 : Int) < (a0.length : Int)))), (13, zI (a0.length : Int)), (12, .sl 0 (List.map encRep a0)), (11, zI (i1 : Int)), (5, zI (i1 : Int)), (0, .sl 0 (List.map encRep a0)), (1, .sl 0 (List.map encRep a1))], []⟩ ?_
       refine runs_ret ?_
       exact fin _ _ h (by kernel_rfl)
     · replace h := cond_f hb28 h
       refine cf hb28 ?_
       refine runs_skip ?_
       refine rg cv hn ?_
       refine ro9 0 3 3 ⟨[(5, zI ((i1 + 1 : Nat) : Int)), (16, zI ((i1 + 1 : Nat) : Int)), (15, zI (i1 : Int)), (26, zB (!v26)), (25, zB v26), (24, encRep x24), (23, .rp (encRep x24) 0), (22, zI (i1 : Int)), (21, .sl 0 (List.map encRep a1)), (20, encRep x10), (19, .rp (encRep x10) 0), (18, zI (i1 : Int)), (17, .sl 0 (List.map encRep a0)), (14, zB (decide ((i1 : Int) < (a0.length : Int)))), (13, zI (a0.length : Int)), (12, .sl 0 (List.map encRep a0)), (11, zI (i1 : Int)), (5, zI (i1 : Int)), (0, .sl 0 (List.map encRep a0)), (1, .sl 0 (List.map encRep a1))], []⟩ ?_ (he := by rw [← hi1]; kernel_rfl)
       exact ⟨(t1, i1 + 1), Nat.lt_succ_self _, ⟨dnext hd1, h⟩, wre [5, 0, 1] []⟩

set_option maxRecDepth 100000 in
set_option maxHeartbeats 2000000 in
theorem laws_eqAcct_spec (a0 : SAcct) (a1 : SAcct) (v0 : Bool) (h : laws_eqAcct a0 a1 = some v0) : Ax.Spec Try.prog 29 none [encAcct0 a0, encAcct0 a1] (zB v0 : X) (.junk : X) := by
 let T1 : List (Nat × X) := [(0, encAcct0 a0), (1, encAcct0 a1)]
 refine walk0 (fn := Try.f29) (fun q0 : Bool => (zB q0 : X)) (fun q0 : Bool => (.junk : X)) v0 ⟨T1, []⟩ Try.func29 rfl (by decide +kernel) fun Γ hn fin => ?_
 rw [laws_eqAcct] at h
 refine sqr cv hn ?_
 refine ro9 0 3 3 ⟨(4, zB false) :: (3, .ptr 3 1 0) :: (2, .ptr 2 1 0) :: T1, [(3, ⟨1, 1, true, some (encAcct0 a1)⟩), (2, ⟨1, 1, true, some (encAcct0 a0)⟩)]⟩ ?_
 refine runs_seq ?_
 refine sqr cv hn ?_
 refine ro9 0 5 5 ⟨(9, zB (a0.fHave != a1.fHave)) :: (8, zI a1.fHave) :: (7, .ptr 3 1 0) :: (6, zI a0.fHave) :: (5, .ptr 2 1 0) :: (4, zB false) :: (3, .ptr 3 1 0) :: (2, .ptr 2 1 0) :: T1, [(3, ⟨1, 1, true, some (encAcct0 a1)⟩), (2, ⟨1, 1, true, some (encAcct0 a0)⟩)]⟩ ?_
 rcases dich (a0.fHave != a1.fHave) with hb2 | hb2
 · replace h := cond_t hb2 h
   refine ct hb2 ?_
   let T3 : List (Nat × X) := [(3, .ptr 3 0 0), (2, .ptr 2 0 0)]
   let B3 : List (Nat × Bx) := [(3, ⟨0, 0, true, some (encAcct0 a1)⟩), (2, ⟨0, 0, true, some (encAcct0 a0)⟩)]
   refine wkr [3, 2] [(3, 3, false), (2, 2, false)] ⟨T3, B3⟩ ?_
   refine sqr cv hn ?_
   refine ro9 0 1 1 ⟨(4, zB false) :: T3, B3⟩ ?_
   refine runs_ret ?_
   exact fin _ _ h (by kernel_rfl)
 · replace h := cond_f hb2 h
   refine cf hb2 ?_
   refine runs_skip ?_
   refine runs_seq ?_
   let T6 : List (Nat × X) := [(3, .ptr 3 0 0), (2, .ptr 2 0 0)]
   let B6 : List (Nat × Bx) := [(3, ⟨0, 0, true, some (encAcct0 a1)⟩), (2, ⟨0, 0, true, some (encAcct0 a0)⟩)]
   refine wkr [3, 2] [(3, 3, false), (2, 2, false)] ⟨T6, B6⟩ ?_
   refine sqr cv hn ?_
   refine ro9 0 5 5 ⟨(14, zB (a0.fState != a1.fState)) :: (13, zI a1.fState) :: (12, .ptr 3 0 1) :: (11, zI a0.fState) :: (10, .ptr 2 0 1) :: T6, B6⟩ ?_
   rcases dich (a0.fState != a1.fState) with hb4 | hb4
   · replace h := cond_t hb4 h
     refine ct hb4 ?_
     let T7 : List (Nat × X) := [(3, .ptr 3 0 0), (2, .ptr 2 0 0)]
     let B7 : List (Nat × Bx) := [(3, ⟨0, 0, true, some (encAcct0 a1)⟩), (2, ⟨0, 0, true, some (encAcct0 a0)⟩)]
     refine wkr [3, 2] [(3, 3, false), (2, 2, false)] ⟨T7, B7⟩ ?_
     refine sqr cv hn ?_
     refine ro9 0 1 1 ⟨(4, zB false) :: T7, B7⟩ ?_
     refine runs_ret ?_
     exact fin _ _ h (by kernel_rfl)
   · replace h := cond_f hb4 h
     refine cf hb4 ?_
     refine runs_skip ?_
     refine runs_seq ?_
     let T10 : List (Nat × X) := [(3, .ptr 3 0 0), (2, .ptr 2 0 0)]
     let B10 : List (Nat × Bx) := [(3, ⟨0, 0, true, some (encAcct0 a1)⟩), (2, ⟨0, 0, true, some (encAcct0 a0)⟩)]
     refine wkr [3, 2] [(3, 3, false), (2, 2, false)] ⟨T10, B10⟩ ?_
     refine sqr cv hn ?_
     refine ro9 0 5 5 ⟨(19, zB (a0.fBy != a1.fBy)) :: (18, zI a1.fBy) :: (17, .ptr 3 0 2) :: (16, zI a0.fBy) :: (15, .ptr 2 0 2) :: T10, B10⟩ ?_
     rcases dich (a0.fBy != a1.fBy) with hb6 | hb6
     · replace h := cond_t hb6 h
       refine ct hb6 ?_
       let T11 : List (Nat × X) := [(3, .ptr 3 0 0), (2, .ptr 2 0 0)]
       let B11 : List (Nat × Bx) := [(3, ⟨0, 0, true, some (encAcct0 a1)⟩), (2, ⟨0, 0, true, some (encAcct0 a0)⟩)]
       refine wkr [3, 2] [(3, 3, false), (2, 2, false)] ⟨T11, B11⟩ ?_
       refine sqr cv hn ?_
       refine ro9 0 1 1 ⟨(4, zB false) :: T11, B11⟩ ?_
       refine runs_ret ?_
       exact fin _ _ h (by kernel_rfl)
     · replace h := cond_f hb6 h
       refine cf hb6 ?_
       refine runs_skip ?_
       refine runs_seq ?_
       let T14 : List (Nat × X) := [(3, .ptr 3 0 0), (2, .ptr 2 0 0)]
       let B14 : List (Nat × Bx) := [(3, ⟨0, 0, true, some (encAcct0 a1)⟩), (2, ⟨0, 0, true, some (encAcct0 a0)⟩)]
       refine wkr [3, 2] [(3, 3, false), (2, 2, false)] ⟨T14, B14⟩ ?_
       refine sqr cv hn ?_
       refine ro 0 4 4 ⟨(23, .sl 0 (List.map encInt a1.fMarks)) :: (22, .ptr 3 0 3) :: (21, .sl 0 (List.map encInt a0.fMarks)) :: (20, .ptr 2 0 3) :: T14, B14⟩ ?_
       obtain ⟨v10, hv11, h⟩ := bindO h
       refine rc 4 ⟨(24, zB v10) :: (23, .sl 0 (List.map encInt a1.fMarks)) :: (22, .ptr 3 0 3) :: (21, .sl 0 (List.map encInt a0.fMarks)) :: (20, .ptr 2 0 3) :: T14, B14⟩ (laws_eqIntS_spec a0.fMarks a1.fMarks v10 hv11) ?_
       refine ro9 5 1 1 ⟨(25, zB (!v10)) :: (24, zB v10) :: (23, .sl 0 (List.map encInt a1.fMarks)) :: (22, .ptr 3 0 3) :: (21, .sl 0 (List.map encInt a0.fMarks)) :: (20, .ptr 2 0 3) :: T14, B14⟩ ?_
       rcases dich (!v10) with hb12 | hb12
       · replace h := cond_t hb12 h
         refine ct hb12 ?_
         let T15 : List (Nat × X) := [(3, .ptr 3 0 0), (2, .ptr 2 0 0)]
         let B15 : List (Nat × Bx) := [(3, ⟨0, 0, true, some (encAcct0 a1)⟩), (2, ⟨0, 0, true, some (encAcct0 a0)⟩)]
         refine wkr [3, 2] [(3, 3, false), (2, 2, false)] ⟨T15, B15⟩ ?_
         refine sqr cv hn ?_
         refine ro9 0 1 1 ⟨(4, zB false) :: T15, B15⟩ ?_
         refine runs_ret ?_
         exact fin _ _ h (by kernel_rfl)
       · replace h := cond_f hb12 h
         refine cf hb12 ?_
         refine runs_skip ?_
         refine runs_seq ?_
         let T16 : List (Nat × X) := [(3, .ptr 3 0 0), (2, .ptr 2 0 0)]
         let B16 : List (Nat × Bx) := [(3, ⟨0, 0, true, some (encAcct0 a1)⟩), (2, ⟨0, 0, true, some (encAcct0 a0)⟩)]
         refine wkr [3, 2] [(3, 3, false), (2, 2, false)] ⟨T16, B16⟩ ?_
         refine sqr cv hn ?_
         refine ro 0 4 4 ⟨(29, .sl 0 (List.map encRep a1.fReps)) :: (28, .ptr 3 0 4) :: (27, .sl 0 (List.map encRep a0.fReps)) :: (26, .ptr 2 0 4) :: T16, B16⟩ ?_
         obtain ⟨v13, hv14, h⟩ := bindO h
         refine rc 4 ⟨(30, zB v13) :: (29, .sl 0 (List.map encRep a1.fReps)) :: (28, .ptr 3 0 4) :: (27, .sl 0 (List.map encRep a0.fReps)) :: (26, .ptr 2 0 4) :: T16, B16⟩ (laws_eqRepS_spec a0.fReps a1.fReps v13 hv14) ?_
         refine ro9 5 1 1 ⟨(31, zB (!v13)) :: (30, zB v13) :: (29, .sl 0 (List.map encRep a1.fReps)) :: (28, .ptr 3 0 4) :: (27, .sl 0 (List.map encRep a0.fReps)) :: (26, .ptr 2 0 4) :: T16, B16⟩ ?_
         rcases dich (!v13) with hb15 | hb15
         · replace h := cond_t hb15 h
           refine ct hb15 ?_
           refine wkr [] [] ⟨[], []⟩ ?_
           refine sqr cv hn ?_
           refine ro9 0 1 1 ⟨[(4, zB false)], []⟩ ?_
           refine runs_ret ?_
           exact fin _ _ h (by kernel_rfl)
         · replace h := cond_f hb15 h
           refine cf hb15 ?_
           refine runs_skip ?_
           refine wkr [] [] ⟨[], []⟩ ?_
           refine sqr cv hn ?_
           refine ro9 0 1 1 ⟨[(4, zB true)], []⟩ ?_
           refine runs_ret ?_
           exact fin _ _ h (by kernel_rfl)

set_option maxRecDepth 100000 in
set_option maxHeartbeats 2000000 in
theorem laws_eqAcctS_spec (a0 : (List SAcct)) (a1 : (List SAcct)) (v0 : Bool) (h : laws_eqAcctS a0 a1 = some v0) : Ax.Spec Try.prog 110 none [.sl 0 (List.map encAcct0 a0), .sl 0 (List.map encAcct0 a1)] (zB v0 : X) (.junk : X) := by
 let T1 : List (Nat × X) := [(0, .sl 0 (List.map encAcct0 a0)), (1, .sl 0 (List.map encAcct0 a1))]
 refine walk0 (fn := Try.f110) (fun q0 : Bool => (zB q0 : X)) (fun q0 : Bool => (.junk : X)) v0 ⟨T1, []⟩ Try.func110 rfl (by decide +kernel) fun Γ hn fin => ?_
 rw [laws_eqAcctS] at h
 refine sqr cv hn ?_
 refine ro9 0 1 1 ⟨(4, zB false) :: T1, []⟩ ?_
 refine runs_seq ?_
 refine sqr cv hn ?_
 refine ro9 0 5 5 ⟨(10, zB ((a0.length : Int) != (a1.length : Int))) :: (9, zI (a1.length : Int)) :: (8, .sl 0 (List.map encAcct0 a1)) :: (7, zI (a0.length : Int)) :: (6, .sl 0 (List.map encAcct0 a0)) :: (4, zB false) :: T1, []⟩ ?_ (he := by rw [show (a0.length : Int) = ((List.map encAcct0 a0).length : Int) from by rw [List.length_map]]; rw [show (a1.length : Int) = ((List.map encAcct0 a1).length : Int) from by rw [List.length_map]]; kernel_rfl)
 rcases dich ((a0.length : Int) != (a1.length : Int)) with hb2 | hb2
 · replace h := cond_t hb2 h
   refine ct hb2 ?_
   let T3 : List (Nat × X) := [(0, .sl 0 (List.map encAcct0 a0)), (1, .sl 0 (List.map encAcct0 a1))]
   refine wkr [0, 1] [] ⟨T3, []⟩ ?_
   refine sqr cv hn ?_
   refine ro9 0 1 1 ⟨(4, zB false) :: T3, []⟩ ?_
   refine runs_ret ?_
   exact fin _ _ h (by kernel_rfl)
 · replace h := cond_f hb2 h
   refine cf hb2 ?_
   refine runs_skip ?_
   refine runs_seq ?_
   let T5 : List (Nat × X) := [(0, .sl 0 (List.map encAcct0 a0)), (1, .sl 0 (List.map encAcct0 a1))]
   refine wkr [0, 1] [] ⟨T5, []⟩ ?_
   refine sqr cv hn ?_
   refine ro9 0 1 1 ⟨(5, zI 0) :: T5, []⟩ ?_
   refine runs_block ?_
   refine runs_loopM (σ := List SAcct × Nat) (fun s => ⟨[(5, zI (s.2 : Int)), (0, .sl 0 (List.map encAcct0 a0)), (1, .sl 0 (List.map encAcct0 a1))], []⟩) (fun s => s.1 = List.drop s.2 a0 ∧ laws_eqAcctS_l1 a1 s.1 s.2 = some v0) (fun s => s.1.length) (a0, 0) ⟨rfl, h⟩ (wre [5, 0, 1] []) ?_
   rintro ⟨t1, i1⟩ ⟨hd1, h⟩
   refine seq0 ⟨[(5, zI (i1 : Int)), (0, .sl 0 (List.map encAcct0 a0)), (1, .sl 0 (List.map encAcct0 a1))], []⟩ ?_
   refine runs_len 0 (es := List.map encAcct0 a0) (by kernel_rfl) fun hl1 => ?_
   replace hl1 := len_of_map hl1
   cases t1 with
   | nil =>
     rw [laws_eqAcctS_l1] at h
     have hLn1 := dnil hd1
     refine runs_seq ?_
     refine sqr cv hn ?_
     refine ro9 0 4 4 ⟨[(14, zB (decide ((i1 : Int) < (a0.length : Int)))), (13, zI (a0.length : Int)), (12, .sl 0 (List.map encAcct0 a0)), (11, zI (i1 : Int)), (5, zI (i1 : Int)), (0, .sl 0 (List.map encAcct0 a0)), (1, .sl 0 (List.map encAcct0 a1))], []⟩ ?_ (he := by rw [show (a0.length : Int) = ((List.map encAcct0 a0).length : Int) from by rw [List.length_map]]; kernel_rfl)
     refine cf hLn1 ?_
     refine runs_exit ?_
     repeat refine thenX_exit ?_
     refine block_here ?_
     refine wkr [] [] ⟨[], []⟩ ?_
     refine sqr cv hn ?_
     refine ro9 0 1 1 ⟨[(4, zB true)], []⟩ ?_
     refine runs_ret ?_
     exact fin _ _ h (by kernel_rfl)
   | cons x10 t1 =>
     rw [laws_eqAcctS_l1] at h
     have hLc1 := dcons hd1
     have hx10 := dget hd1
     have hi1 := dinc hd1 hl1
     refine runs_seq ?_
     refine sqr cv hn ?_
     refine ro9 0 4 4 ⟨[(14, zB (decide ((i1 : Int) < (a0.length : Int)))), (13, zI (a0.length : Int)), (12, .sl 0 (List.map encAcct0 a0)), (11, zI (i1 : Int)), (5, zI (i1 : Int)), (0, .sl 0 (List.map encAcct0 a0)), (1, .sl 0 (List.map encAcct0 a1))], []⟩ ?_ (he := by rw [show (a0.length : Int) = ((List.map encAcct0 a0).length : Int) from by rw [List.length_map]]; kernel_rfl)
     refine ct hLc1 ?_
     refine runs_skip ?_
     refine runs_seq ?_
     refine runs_block ?_
     refine runs_seq ?_
     refine rgT cv mixed hn ?_
     refine roT 0 2 2 ⟨[(18, zI (i1 : Int)), (17, .sl 0 (List.map encAcct0 a0)), (14, zB (decide ((i1 : Int) < (a0.length : Int)))), (13, zI (a0.length : Int)), (12, .sl 0 (List.map encAcct0 a0)), (11, zI (i1 : Int)), (5, zI (i1 : Int)), (0, .sl 0 (List.map encAcct0 a0)), (1, .sl 0 (List.map encAcct0 a1))], []⟩ ?_
     refine rixT 2 encAcct0 48 hx10 (ix_nn hx10) ⟨[(19, .rp (encAcct0 x10) 0), (18, zI (i1 : Int)), (17, .sl 0 (List.map encAcct0 a0)), (14, zB (decide ((i1 : Int) < (a0.length : Int)))), (13, zI (a0.length : Int)), (12, .sl 0 (List.map encAcct0 a0)), (11, zI (i1 : Int)), (5, zI (i1 : Int)), (0, .sl 0 (List.map encAcct0 a0)), (1, .sl 0 (List.map encAcct0 a1))], []⟩ ?_
     refine roT 3 3 3 ⟨[(22, zI (i1 : Int)), (21, .sl 0 (List.map encAcct0 a1)), (20, encAcct0 x10), (19, .rp (encAcct0 x10) 0), (18, zI (i1 : Int)), (17, .sl 0 (List.map encAcct0 a0)), (14, zB (decide ((i1 : Int) < (a0.length : Int)))), (13, zI (a0.length : Int)), (12, .sl 0 (List.map encAcct0 a0)), (11, zI (i1 : Int)), (5, zI (i1 : Int)), (0, .sl 0 (List.map encAcct0 a0)), (1, .sl 0 (List.map encAcct0 a1))], []⟩ ?_
     obtain ⟨x24, hx25, h⟩ := bindO h
     refine rixT 6 encAcct0 48 hx25 (ix_nn hx25) ⟨[(23, .rp (encAcct0 x24) 0), (22, zI (i1 : Int)), (21, .sl 0 (List.map encAcct0 a1)), (20, encAcct0 x10), (19, .rp (encAcct0 x10) 0), (18, zI (i1 : Int)), (17, .sl 0 (List.map encAcct0 a0)), (14, zB (decide ((i1 : Int) < (a0.length : Int)))), (13, zI (a0.length : Int)), (12, .sl 0 (List.map encAcct0 a0)), (11, zI (i1 : Int)), (5, zI (i1 : Int)), (0, .sl 0 (List.map encAcct0 a0)), (1, .sl 0 (List.map encAcct0 a1))], []⟩ ?_
     refine roT 7 1 1 ⟨[(24, encAcct0 x24), (23, .rp (encAcct0 x24) 0), (22, zI (i1 : Int)), (21, .sl 0 (List.map encAcct0 a1)), (20, encAcct0 x10), (19, .rp (encAcct0 x10) 0), (18, zI (i1 : Int)), (17, .sl 0 (List.map encAcct0 a0)), (14, zB (decide ((i1 : Int) < (a0.length : Int)))), (13, zI (a0.length : Int)), (12, .sl 0 (List.map encAcct0 a0)), (11, zI (i1 : Int)), (5, zI (i1 : Int)), (0, .sl 0 (List.map encAcct0 a0)), (1, .sl 0 (List.map encAcct0 a1))], []⟩ ?_
     obtain ⟨v26, hv27, h⟩ := bindO h
     refine rcT 8 ⟨[(25, zB v26), (24, encAcct0 x24), (23, .rp (encAcct0 x24) 0), (22, zI (i1 : Int)), (21, .sl 0 (List.map encAcct0 a1)), (20, encAcct0 x10), (19, .rp (encAcct0 x10) 0), (18, zI (i1 : Int)), (17, .sl 0 (List.map encAcct0 a0)), (14, zB (decide ((i1 : Int) < (a0.length : Int)))), (13, zI (a0.length : Int)), (12, .sl 0 (List.map encAcct0 a0)), (11, zI (i1 : Int)), (5, zI (i1 : Int)), (0, .sl 0 (List.map encAcct0 a0)), (1, .sl 0 (List.map encAcct0 a1))], []⟩ (laws_eqAcct_spec x10 x24 v26 hv27) ?_
     refine roT9 9 1 1 ⟨[(26, zB (!v26)), (25, zB v26), (24, encAcct0 x24), (23, .rp (encAcct0 x24) 0), (22, zI (i1 : Int)), (21, .sl 0 (List.map encAcct0 a1)), (20, encAcct0 x10), (19, .rp (encAcct0 x10) 0), (18, zI (i1 : Int)), (17, .sl 0 (List.map encAcct0 a0)), (14, zB (decide ((i1 : Int) < (a0.length : Int)))), (13, zI (a0.length : Int)), (12, .sl 0 (List.map encAcct0 a0)), (11, zI (i1 : Int)), (5, zI (i1 : Int)), (0, .sl 0 (List.map encAcct0 a0)), (1, .sl 0 (List.map encAcct0 a1))], []⟩ ?_
     rcases dich (!v26) with hb28 | hb28
     · replace h := cond_t hb28 h
       refine ct hb28 ?_
       refine sqr cv hn ?_
       refine ro9 0 1 1 ⟨[(4, zB false), (26, zB (!v26)), (25, zB v26), (24, encAcct0 x24), (23, .rp (encAcct0 x24) 0), (22, zI (i1 : Int)), (21, .sl 0 (List.map encAcct0 a1)), (20, encAcct0 x10), (19, .rp (encAcct0 x10) 0), (18, zI (i1 : Int)), (17, .sl 0 (List.map encAcct0 a0)), (14, zB (decide ((i1 : Int) < (a0.length : Int)))), (13, zI (a0.length : Int)), (12, .sl 0 (List.map encAcct0 a0)), (11, zI (i1 : Int)), (5, zI (i1 : Int)), (0, .sl 0 (List.map encAcct0 a0)), (1, .sl 0 (List.map encAcct0 a1))], []⟩ ?_
       refine runs_ret ?_
       exact fin _ _ h (by kernel_rfl)
     · replace h := cond_f hb28 h
       refine cf hb28 ?_
       refine runs_skip ?_
       refine rg cv hn ?_
       refine ro9 0 3 3 ⟨[(5, zI ((i1 + 1 : Nat) : Int)), (16, zI ((i1 + 1 : Nat) : Int)), (15, zI (i1 : Int)), (26, zB (!v26)), (25, zB v26), (24, encAcct0 x24), (23, .rp (encAcct0 x24) 0), (22, zI (i1 : Int)), (21, .sl 0 (List.map encAcct0 a1)), (20, encAcct0 x10), (19, .rp (encAcct0 x10) 0), (18, zI (i1 : Int)), (17, .sl 0 (List.map encAcct0 a0)), (14, zB (decide ((i1 : Int) < (a0.length : Int)))), (13, zI (a0.length : Int)), (12, .sl 0 (List.map encAcct0 a0)), (11, zI (i1 : Int)), (5, zI (i1 : Int)), (0, .sl 0 (List.map encAcct0 a0)), (1, .sl 0 (List.map encAcct0 a1))], []⟩ ?_ (he := by rw [← hi1]; kernel_rfl)
       exact ⟨(t1, i1 + 1), Nat.lt_succ_self _, ⟨dnext hd1, h⟩, wre [5, 0, 1] []⟩

set_option maxRecDepth 100000 in
set_option maxHeartbeats 2000000 in
theorem laws_eqMsg_spec (a0 : SMsg) (a1 : SMsg) (v0 : Bool) (h : laws_eqMsg a0 a1 = some v0) : Ax.Spec Try.prog 129 none [encMsg a0, encMsg a1] (zB v0 : X) (.junk : X) := by
 refine walk0 (fn := Try.f129) (fun q0 : Bool => (zB q0 : X)) (fun q0 : Bool => (.junk : X)) v0 ⟨[(0, encMsg a0), (1, encMsg a1)], []⟩ Try.func129 rfl (by decide +kernel) fun Γ hn fin => ?_
 rw [laws_eqMsg] at h
 refine sqr cv hn ?_
 refine ro9 0 3 3 ⟨[(4, zB false), (3, .ptr 3 1 0), (2, .ptr 2 1 0), (0, encMsg a0), (1, encMsg a1)], [(3, ⟨1, 1, true, some (encMsg a1)⟩), (2, ⟨1, 1, true, some (encMsg a0)⟩)]⟩ ?_
 refine runs_seq ?_
 refine sqr cv hn ?_
 refine ro9 0 5 5 ⟨[(9, zB (a0.fKind != a1.fKind)), (8, zI a1.fKind), (7, .ptr 3 1 0), (6, zI a0.fKind), (5, .ptr 2 1 0), (4, zB false), (3, .ptr 3 1 0), (2, .ptr 2 1 0), (0, encMsg a0), (1, encMsg a1)], [(3, ⟨1, 1, true, some (encMsg a1)⟩), (2, ⟨1, 1, true, some (encMsg a0)⟩)]⟩ ?_
 rcases dich (a0.fKind != a1.fKind) with hb2 | hb2
 · replace h := cond_t hb2 h
   refine ct hb2 ?_
   let T3 : List (Nat × X) := [(3, .ptr 3 0 0), (2, .ptr 2 0 0)]
   let B3 : List (Nat × Bx) := [(3, ⟨0, 0, true, some (encMsg a1)⟩), (2, ⟨0, 0, true, some (encMsg a0)⟩)]
   refine wkr [3, 2] [(3, 3, false), (2, 2, false)] ⟨T3, B3⟩ ?_
   refine sqr cv hn ?_
   refine ro9 0 1 1 ⟨(4, zB false) :: T3, B3⟩ ?_
   refine runs_ret ?_
   exact fin _ _ h (by kernel_rfl)
 · replace h := cond_f hb2 h
   refine cf hb2 ?_
   refine runs_skip ?_
   refine runs_seq ?_
   let T6 : List (Nat × X) := [(3, .ptr 3 0 0), (2, .ptr 2 0 0)]
   let B6 : List (Nat × Bx) := [(3, ⟨0, 0, true, some (encMsg a1)⟩), (2, ⟨0, 0, true, some (encMsg a0)⟩)]
   refine wkr [3, 2] [(3, 3, false), (2, 2, false)] ⟨T6, B6⟩ ?_
   refine sqr cv hn ?_
   refine ro9 0 5 5 ⟨(14, zB (a0.fAcct != a1.fAcct)) :: (13, zI a1.fAcct) :: (12, .ptr 3 0 1) :: (11, zI a0.fAcct) :: (10, .ptr 2 0 1) :: T6, B6⟩ ?_
   rcases dich (a0.fAcct != a1.fAcct) with hb4 | hb4
   · replace h := cond_t hb4 h
     refine ct hb4 ?_
     let T7 : List (Nat × X) := [(3, .ptr 3 0 0), (2, .ptr 2 0 0)]
     let B7 : List (Nat × Bx) := [(3, ⟨0, 0, true, some (encMsg a1)⟩), (2, ⟨0, 0, true, some (encMsg a0)⟩)]
     refine wkr [3, 2] [(3, 3, false), (2, 2, false)] ⟨T7, B7⟩ ?_
     refine sqr cv hn ?_
     refine ro9 0 1 1 ⟨(4, zB false) :: T7, B7⟩ ?_
     refine runs_ret ?_
     exact fin _ _ h (by kernel_rfl)
   · replace h := cond_f hb4 h
     refine cf hb4 ?_
     refine runs_skip ?_
     refine runs_seq ?_
     let T10 : List (Nat × X) := [(3, .ptr 3 0 0), (2, .ptr 2 0 0)]
     let B10 : List (Nat × Bx) := [(3, ⟨0, 0, true, some (encMsg a1)⟩), (2, ⟨0, 0, true, some (encMsg a0)⟩)]
     refine wkr [3, 2] [(3, 3, false), (2, 2, false)] ⟨T10, B10⟩ ?_
     refine sqr cv hn ?_
     refine ro9 0 5 5 ⟨(19, zB (a0.fAmt != a1.fAmt)) :: (18, zI a1.fAmt) :: (17, .ptr 3 0 2) :: (16, zI a0.fAmt) :: (15, .ptr 2 0 2) :: T10, B10⟩ ?_
     rcases dich (a0.fAmt != a1.fAmt) with hb6 | hb6
     · replace h := cond_t hb6 h
       refine ct hb6 ?_
       let T11 : List (Nat × X) := [(3, .ptr 3 0 0), (2, .ptr 2 0 0)]
       let B11 : List (Nat × Bx) := [(3, ⟨0, 0, true, some (encMsg a1)⟩), (2, ⟨0, 0, true, some (encMsg a0)⟩)]
       refine wkr [3, 2] [(3, 3, false), (2, 2, false)] ⟨T11, B11⟩ ?_
       refine sqr cv hn ?_
       refine ro9 0 1 1 ⟨(4, zB false) :: T11, B11⟩ ?_
       refine runs_ret ?_
       exact fin _ _ h (by kernel_rfl)
     · replace h := cond_f hb6 h
       refine cf hb6 ?_
       refine runs_skip ?_
       refine runs_seq ?_
       let T12 : List (Nat × X) := [(3, .ptr 3 0 0), (2, .ptr 2 0 0)]
       let B12 : List (Nat × Bx) := [(3, ⟨0, 0, true, some (encMsg a1)⟩), (2, ⟨0, 0, true, some (encMsg a0)⟩)]
       refine wkr [3, 2] [(3, 3, false), (2, 2, false)] ⟨T12, B12⟩ ?_
       refine sqr cv hn ?_
       refine ro9 0 5 5 ⟨(24, zB (a0.fSrc != a1.fSrc)) :: (23, zI a1.fSrc) :: (22, .ptr 3 0 3) :: (21, zI a0.fSrc) :: (20, .ptr 2 0 3) :: T12, B12⟩ ?_
       rcases dich (a0.fSrc != a1.fSrc) with hb7 | hb7
       · replace h := cond_t hb7 h
         refine ct hb7 ?_
         refine wkr [] [] ⟨[], []⟩ ?_
         refine sqr cv hn ?_
         refine ro9 0 1 1 ⟨[(4, zB false)], []⟩ ?_
         refine runs_ret ?_
         exact fin _ _ h (by kernel_rfl)
       · replace h := cond_f hb7 h
         refine cf hb7 ?_
         refine runs_skip ?_
         refine wkr [] [] ⟨[], []⟩ ?_
         refine sqr cv hn ?_
         refine ro9 0 1 1 ⟨[(4, zB true)], []⟩ ?_
         refine runs_ret ?_
         exact fin _ _ h (by kernel_rfl)

set_option maxRecDepth 100000 in
set_option maxHeartbeats 2000000 in
theorem laws_eqMsgS_spec (a0 : (List SMsg)) (a1 : (List SMsg)) (v0 : Bool) (h : laws_eqMsgS a0 a1 = some v0) : Ax.Spec Try.prog 128 none [.sl 0 (List.map encMsg a0), .sl 0 (List.map encMsg a1)] (zB v0 : X) (.junk : X) := by
 let T1 : List (Nat × X) := [(0, .sl 0 (List.map encMsg a0)), (1, .sl 0 (List.map encMsg a1))]
 refine walk0 (fn := Try.f128) (fun q0 : Bool => (zB q0 : X)) (fun q0 : Bool => (.junk : X)) v0 ⟨T1, []⟩ Try.func128 rfl (by decide +kernel) fun Γ hn fin => ?_
 rw [laws_eqMsgS] at h
 refine sqr cv hn ?_
 refine ro9 0 1 1 ⟨(4, zB false) :: T1, []⟩ ?_
 refine runs_seq ?_
 refine sqr cv hn ?_
 refine ro9 0 5 5 ⟨(10, zB ((a0.length : Int) != (a1.length : Int))) :: (9, zI (a1.length : Int)) :: (8, .sl 0 (List.map encMsg a1)) :: (7, zI (a0.length : Int)) :: (6, .sl 0 (List.map encMsg a0)) :: (4, zB false) :: T1, []⟩ ?_ (he := by rw [show (a0.length : Int) = ((List.map encMsg a0).length : Int) from by rw [List.length_map]]; rw [show (a1.length : Int) = ((List.map encMsg a1).length : Int) from by rw [List.length_map]]; kernel_rfl)
 rcases dich ((a0.length : Int) != (a1.length : Int)) with hb2 | hb2
 · replace h := cond_t hb2 h
   refine ct hb2 ?_
   let T3 : List (Nat × X) := [(0, .sl 0 (List.map encMsg a0)), (1, .sl 0 (List.map encMsg a1))]
   refine wkr [0, 1] [] ⟨T3, []⟩ ?_
   refine sqr cv hn ?_
   refine ro9 0 1 1 ⟨(4, zB false) :: T3, []⟩ ?_
   refine runs_ret ?_
   exact fin _ _ h (by kernel_rfl)
 · replace h := cond_f hb2 h
   refine cf hb2 ?_
   refine runs_skip ?_
   refine runs_seq ?_
   let T5 : List (Nat × X) := [(0, .sl 0 (List.map encMsg a0)), (1, .sl 0 (List.map encMsg a1))]
   refine wkr [0, 1] [] ⟨T5, []⟩ ?_
   refine sqr cv hn ?_
   refine ro9 0 1 1 ⟨(5, zI 0) :: T5, []⟩ ?_
   refine runs_block ?_
   refine runs_loopM (σ := List SMsg × Nat) (fun s => ⟨[(5, zI (s.2 : Int)), (0, .sl 0 (List.map encMsg a0)), (1, .sl 0 (List.map encMsg a1))], []⟩) (fun s => s.1 = List.drop s.2 a0 ∧ laws_eqMsgS_l1 a1 s.1 s.2 = some v0) (fun s => s.1.length) (a0, 0) ⟨rfl, h⟩ (wre [5, 0, 1] []) ?_
   rintro ⟨t1, i1⟩ ⟨hd1, h⟩
   refine seq0 ⟨[(5, zI (i1 : Int)), (0, .sl 0 (List.map encMsg a0)), (1, .sl 0 (List.map encMsg a1))], []⟩ ?_
   refine runs_len 0 (es := List.map encMsg a0) (by kernel_rfl) fun hl1 => ?_
   replace hl1 := len_of_map hl1
   cases t1 with
   | nil =>
     rw [laws_eqMsgS_l1] at h
     have hLn1 := dnil hd1
     refine runs_seq ?_
     refine sqr cv hn ?_
     refine ro9 0 4 4 ⟨[(14, zB (decide ((i1 : Int) < (a0.length : Int)))), (13, zI (a0.length : Int)), (12, .sl 0 (List.map encMsg a0)), (11, zI (i1 : Int)), (5, zI (i1 : Int)), (0, .sl 0 (List.map encMsg a0)), (1, .sl 0 (List.map encMsg a1))], []⟩ ?_ (he := by rw [show (a0.length : Int) = ((List.map encMsg a0).length : Int) from by rw [List.length_map]]; kernel_rfl)
     refine cf hLn1 ?_
     refine runs_exit ?_
     repeat refine thenX_exit ?_
     refine block_here ?_
     refine wkr [] [] ⟨[], []⟩ ?_
     refine sqr cv hn ?_
     refine ro9 0 1 1 ⟨[(4, zB true)], []⟩ ?_
     refine runs_ret ?_
     exact fin _ _ h (by kernel_rfl)
   | cons x10 t1 =>
     rw [laws_eqMsgS_l1] at h
     have hLc1 := dcons hd1
     have hx10 := dget hd1
     have hi1 := dinc hd1 hl1
     refine runs_seq ?_
     refine sqr cv hn ?_
     refine ro9 0 4 4 ⟨[(14, zB (decide ((i1 : Int) < (a0.length : Int)))), (13, zI (a0.length : Int)), (12, .sl 0 (List.map encMsg a0)), (11, zI (i1 : Int)), (5, zI (i1 : Int)), (0, .sl 0 (List.map encMsg a0)), (1, .sl 0 (List.map encMsg a1))], []⟩ ?_ (he := by rw [show (a0.length : Int) = ((List.map encMsg a0).length : Int) from by rw [List.length_map]]; kernel_rfl)
     refine ct hLc1 ?_
     refine runs_skip ?_
     refine runs_seq ?_
     refine runs_block ?_
     refine runs_seq ?_
     refine rgT cv mixed hn ?_
     refine roT 0 2 2 ⟨[(18, zI (i1 : Int)), (17, .sl 0 (List.map encMsg a0)), (14, zB (decide ((i1 : Int) < (a0.length : Int)))), (13, zI (a0.length : Int)), (12, .sl 0 (List.map encMsg a0)), (11, zI (i1 : Int)), (5, zI (i1 : Int)), (0, .sl 0 (List.map encMsg a0)), (1, .sl 0 (List.map encMsg a1))], []⟩ ?_
     refine rixT 2 encMsg 67 hx10 (ix_nn hx10) ⟨[(19, .rp (encMsg x10) 0), (18, zI (i1 : Int)), (17, .sl 0 (List.map encMsg a0)), (14, zB (decide ((i1 : Int) < (a0.length : Int)))), (13, zI (a0.length : Int)), (12, .sl 0 (List.map encMsg a0)), (11, zI (i1 : Int)), (5, zI (i1 : Int)), (0, .sl 0 (List.map encMsg a0)), (1, .sl 0 (List.map encMsg a1))], []⟩ ?_
     refine roT 3 3 3 ⟨[(22, zI (i1 : Int)), (21, .sl 0 (List.map encMsg a1)), (20, encMsg x10), (19, .rp (encMsg x10) 0), (18, zI (i1 : Int)), (17, .sl 0 (List.map encMsg a0)), (14, zB (decide ((i1 : Int) < (a0.length : Int)))), (13, zI (a0.length : Int)), (12, .sl 0 (List.map encMsg a0)), (11, zI (i1 : Int)), (5, zI (i1 : Int)), (0, .sl 0 (List.map encMsg a0)), (1, .sl 0 (List.map encMsg a1))], []⟩ ?_
     obtain ⟨x24, hx25, h⟩ := bindO h
     refine rixT 6 encMsg 67 hx25 (ix_nn hx25) ⟨[(23, .rp (encMsg x24) 0), (22, zI (i1 : Int)), (21, .sl 0 (List.map encMsg a1)), (20, encMsg x10), (19, .rp (encMsg x10) 0), (18, zI (i1 : Int)), (17, .sl 0 (List.map encMsg a0)), (14, zB (decide ((i1 : Int) < (a0.length : Int)))), (13, zI (a0.length : Int)), (12, .sl 0 (List.map encMsg a0)), (11, zI (i1 : Int)), (5, zI (i1 : Int)), (0, .sl 0 (List.map encMsg a0)), (1, .sl 0 (List.map encMsg a1))], []⟩ ?_
     refine roT 7 1 1 ⟨[(24, encMsg x24), (23, .rp (encMsg x24) 0), (22, zI (i1 : Int)), (21, .sl 0 (List.map encMsg a1)), (20, encMsg x10), (19, .rp (encMsg x10) 0), (18, zI (i1 : Int)), (17, .sl 0 (List.map encMsg a0)), (14, zB (decide ((i1 : Int) < (a0.length : Int)))), (13, zI (a0.length : Int)), (12, .sl 0 (List.map encMsg a0)), (11, zI (i1 : Int)), (5, zI (i1 : Int)), (0, .sl 0 (List.map encMsg a0)), (1, .sl 0 (List.map encMsg a1))], []⟩ ?_
     obtain ⟨v26, hv27, h⟩ := bindO h
     refine rcT 8 ⟨[(25, zB v26), (24, encMsg x24), (23, .rp (encMsg x24) 0), (22, zI (i1 : Int)), (21, .sl 0 (List.map encMsg a1)), (20, encMsg x10), (19, .rp (encMsg x10) 0), (18, zI (i1 : Int)), (17, .sl 0 (List.map encMsg a0)), (14, zB (decide ((i1 : Int) < (a0.length : Int)))), (13, zI (a0.length : Int)), (12, .sl 0 (List.map encMsg a0)), (11, zI (i1 : Int)), (5, zI (i1 : Int)), (0, .sl 0 (List.map encMsg a0)), (1, .sl 0 (List.map encMsg a1))], []⟩ (laws_eqMsg_spec x10 x24 v26 hv27) ?_
     refine roT9 9 1 1 ⟨[(26, zB (!v26)), (25, zB v26), (24, encMsg x24), (23, .rp (encMsg x24) 0), (22, zI (i1 : Int)), (21, .sl 0 (List.map encMsg a1)), (20, encMsg x10), (19, .rp (encMsg x10) 0), (18, zI (i1 : Int)), (17, .sl 0 (List.map encMsg a0)), (14, zB (decide ((i1 : Int) < (a0.length : Int)))), (13, zI (a0.length : Int)), (12, .sl 0 (List.map encMsg a0)), (11, zI (i1 : Int)), (5, zI (i1 : Int)), (0, .sl 0 (List.map encMsg a0)), (1, .sl 0 (List.map encMsg a1))], []⟩ ?_
     rcases dich (!v26) with hb28 | hb28
     · replace h := cond_t hb28 h
       refine ct hb28 ?_
       refine sqr cv hn ?_
       refine ro9 0 1 1 ⟨[(4, zB false), (26, zB (!v26)), (25, zB v26), (24, encMsg x24), (23, .rp (encMsg x24) 0), (22, zI (i1 : Int)), (21, .sl 0 (List.map encMsg a1)), (20, encMsg x10), (19, .rp (encMsg x10) 0), (18, zI (i1 : Int)), (17, .sl 0 (List.map encMsg a0)), (14, zB (decide ((i1 : Int) < (a0.length : Int)))), (13, zI (a0.length : Int)), (12, .sl 0 (List.map encMsg a0)), (11, zI (i1 : Int)), (5, zI (i1 : Int)), (0, .sl 0 (List.map encMsg a0)), (1, .sl 0 (List.map encMsg a1))], []⟩ ?_
       refine runs_ret ?_
       exact fin _ _ h (by kernel_rfl)
     · replace h := cond_f hb28 h
       refine cf hb28 ?_
       refine runs_skip ?_
       refine rg cv hn ?_
       refine ro9 0 3 3 ⟨[(5, zI ((i1 + 1 : Nat) : Int)), (16, zI ((i1 + 1 : Nat) : Int)), (15, zI (i1 : Int)), (26, zB (!v26)), (25, zB v26), (24, encMsg x24), (23, .rp (encMsg x24) 0), (22, zI (i1 : Int)), (21, .sl 0 (List.map encMsg a1)), (20, encMsg x10), (19, .rp (encMsg x10) 0), (18, zI (i1 : Int)), (17, .sl 0 (List.map encMsg a0)), (14, zB (decide ((i1 : Int) < (a0.length : Int)))), (13, zI (a0.length : Int)), (12, .sl 0 (List.map encMsg a0)), (11, zI (i1 : Int)), (5, zI (i1 : Int)), (0, .sl 0 (List.map encMsg a0)), (1, .sl 0 (List.map encMsg a1))], []⟩ ?_ (he := by rw [← hi1]; kernel_rfl)
       exact ⟨(t1, i1 + 1), Nat.lt_succ_self _, ⟨dnext hd1, h⟩, wre [5, 0, 1] []⟩

set_option maxRecDepth 100000 in
set_option maxHeartbeats 2000000 in
theorem laws_eqOut_spec (a0 : SOut) (a1 : SOut) (v0 : Bool) (h : laws_eqOut a0 a1 = some v0) : Ax.Spec Try.prog 124 none [encOut0 a0, encOut0 a1] (zB v0 : X) (.junk : X) := by
 let T1 : List (Nat × X) := [(0, encOut0 a0), (1, encOut0 a1)]
 refine walk0 (fn := Try.f124) (fun q0 : Bool => (zB q0 : X)) (fun q0 : Bool => (.junk : X)) v0 ⟨T1, []⟩ Try.func124 rfl (by decide +kernel) fun Γ hn fin => ?_
 rw [laws_eqOut] at h
 refine sqr cv hn ?_
 refine ro9 0 3 3 ⟨(4, zB false) :: (3, .ptr 3 1 0) :: (2, .ptr 2 1 0) :: T1, [(3, ⟨1, 1, true, some (encOut0 a1)⟩), (2, ⟨1, 1, true, some (encOut0 a0)⟩)]⟩ ?_
 refine runs_seq ?_
 refine sqr cv hn ?_
 refine ro9 0 5 5 ⟨(9, zB (a0.fNext != a1.fNext)) :: (8, zI a1.fNext) :: (7, .ptr 3 1 0) :: (6, zI a0.fNext) :: (5, .ptr 2 1 0) :: (4, zB false) :: (3, .ptr 3 1 0) :: (2, .ptr 2 1 0) :: T1, [(3, ⟨1, 1, true, some (encOut0 a1)⟩), (2, ⟨1, 1, true, some (encOut0 a0)⟩)]⟩ ?_
 rcases dich (a0.fNext != a1.fNext) with hb2 | hb2
 · replace h := cond_t hb2 h
   refine ct hb2 ?_
   let T3 : List (Nat × X) := [(3, .ptr 3 0 0), (2, .ptr 2 0 0)]
   let B3 : List (Nat × Bx) := [(3, ⟨0, 0, true, some (encOut0 a1)⟩), (2, ⟨0, 0, true, some (encOut0 a0)⟩)]
   refine wkr [3, 2] [(3, 3, false), (2, 2, false)] ⟨T3, B3⟩ ?_
   refine sqr cv hn ?_
   refine ro9 0 1 1 ⟨(4, zB false) :: T3, B3⟩ ?_
   refine runs_ret ?_
   exact fin _ _ h (by kernel_rfl)
 · replace h := cond_f hb2 h
   refine cf hb2 ?_
   refine runs_skip ?_
   refine runs_seq ?_
   let T4 : List (Nat × X) := [(3, .ptr 3 0 0), (2, .ptr 2 0 0)]
   let B4 : List (Nat × Bx) := [(3, ⟨0, 0, true, some (encOut0 a1)⟩), (2, ⟨0, 0, true, some (encOut0 a0)⟩)]
   refine wkr [3, 2] [(3, 3, false), (2, 2, false)] ⟨T4, B4⟩ ?_
   refine sqr cv hn ?_
   refine ro 0 4 4 ⟨(13, .sl 0 (List.map encMsg a1.fList)) :: (12, .ptr 3 0 1) :: (11, .sl 0 (List.map encMsg a0.fList)) :: (10, .ptr 2 0 1) :: T4, B4⟩ ?_
   obtain ⟨v3, hv4, h⟩ := bindO h
   refine rc 4 ⟨(14, zB v3) :: (13, .sl 0 (List.map encMsg a1.fList)) :: (12, .ptr 3 0 1) :: (11, .sl 0 (List.map encMsg a0.fList)) :: (10, .ptr 2 0 1) :: T4, B4⟩ (laws_eqMsgS_spec a0.fList a1.fList v3 hv4) ?_
   refine ro9 5 1 1 ⟨(15, zB (!v3)) :: (14, zB v3) :: (13, .sl 0 (List.map encMsg a1.fList)) :: (12, .ptr 3 0 1) :: (11, .sl 0 (List.map encMsg a0.fList)) :: (10, .ptr 2 0 1) :: T4, B4⟩ ?_
   rcases dich (!v3) with hb5 | hb5
   · replace h := cond_t hb5 h
     refine ct hb5 ?_
     refine wkr [] [] ⟨[], []⟩ ?_
     refine sqr cv hn ?_
     refine ro9 0 1 1 ⟨[(4, zB false)], []⟩ ?_
     refine runs_ret ?_
     exact fin _ _ h (by kernel_rfl)
   · replace h := cond_f hb5 h
     refine cf hb5 ?_
     refine runs_skip ?_
     refine wkr [] [] ⟨[], []⟩ ?_
     refine sqr cv hn ?_
     refine ro9 0 1 1 ⟨[(4, zB true)], []⟩ ?_
     refine runs_ret ?_
     exact fin _ _ h (by kernel_rfl)

set_option maxRecDepth 100000 in
set_option maxHeartbeats 2000000 in
theorem laws_eqOutS_spec (a0 : (List SOut)) (a1 : (List SOut)) (v0 : Bool) (h : laws_eqOutS a0 a1 = some v0) : Ax.Spec Try.prog 111 none [.sl 0 (List.map encOut0 a0), .sl 0 (List.map encOut0 a1)] (zB v0 : X) (.junk : X) := by
 let T1 : List (Nat × X) := [(0, .sl 0 (List.map encOut0 a0)), (1, .sl 0 (List.map encOut0 a1))]
 refine walk0 (fn := Try.f111) (fun q0 : Bool => (zB q0 : X)) (fun q0 : Bool => (.junk : X)) v0 ⟨T1, []⟩ Try.func111 rfl (by decide +kernel) fun Γ hn fin => ?_
 rw [laws_eqOutS] at h
 refine sqr cv hn ?_
 refine ro9 0 1 1 ⟨(4, zB false) :: T1, []⟩ ?_
 refine runs_seq ?_
 refine sqr cv hn ?_
 refine ro9 0 5 5 ⟨(10, zB ((a0.length : Int) != (a1.length : Int))) :: (9, zI (a1.length : Int)) :: (8, .sl 0 (List.map encOut0 a1)) :: (7, zI (a0.length : Int)) :: (6, .sl 0 (List.map encOut0 a0)) :: (4, zB false) :: T1, []⟩ ?_ (he := by rw [show (a0.length : Int) = ((List.map encOut0 a0).length : Int) from by rw [List.length_map]]; rw [show (a1.length : Int) = ((List.map encOut0 a1).length : Int) from by rw [List.length_map]]; kernel_rfl)
 rcases dich ((a0.length : Int) != (a1.length : Int)) with hb2 | hb2
 · replace h := cond_t hb2 h
   refine ct hb2 ?_
   let T3 : List (Nat × X) := [(0, .sl 0 (List.map encOut0 a0)), (1, .sl 0 (List.map encOut0 a1))]
   refine wkr [0, 1] [] ⟨T3, []⟩ ?_
   refine sqr cv hn ?_
   refine ro9 0 1 1 ⟨(4, zB false) :: T3, []⟩ ?_
   refine runs_ret ?_
   exact fin _ _ h (by kernel_rfl)
 · replace h := cond_f hb2 h
   refine cf hb2 ?_
   refine runs_skip ?_
   refine runs_seq ?_
   let T5 : List (Nat × X) := [(0, .sl 0 (List.map encOut0 a0)), (1, .sl 0 (List.map encOut0 a1))]
   refine wkr [0, 1] [] ⟨T5, []⟩ ?_
   refine sqr cv hn ?_
   refine ro9 0 1 1 ⟨(5, zI 0) :: T5, []⟩ ?_
   refine runs_block ?_
   refine runs_loopM (σ := List SOut × Nat) (fun s => ⟨[(5, zI (s.2 : Int)), (0, .sl 0 (List.map encOut0 a0)), (1, .sl 0 (List.map encOut0 a1))], []⟩) (fun s => s.1 = List.drop s.2 a0 ∧ laws_eqOutS_l1 a1 s.1 s.2 = some v0) (fun s => s.1.length) (a0, 0) ⟨rfl, h⟩ (wre [5, 0, 1] []) ?_
   rintro ⟨t1, i1⟩ ⟨hd1, h⟩
   refine seq0 ⟨[(5, zI (i1 : Int)), (0, .sl 0 (List.map encOut0 a0)), (1, .sl 0 (List.map encOut0 a1))], []⟩ ?_
   refine runs_len 0 (es := List.map encOut0 a0) (by kernel_rfl) fun hl1 => ?_
   replace hl1 := len_of_map hl1
   cases t1 with
   | nil =>
     rw [laws_eqOutS_l1] at h
     have hLn1 := dnil hd1
     refine runs_seq ?_
     refine sqr cv hn ?_
     refine ro9 0 4 4 ⟨[(14, zB (decide ((i1 : Int) < (a0.length : Int)))), (13, zI (a0.length : Int)), (12, .sl 0 (List.map encOut0 a0)), (11, zI (i1 : Int)), (5, zI (i1 : Int)), (0, .sl 0 (List.map encOut0 a0)), (1, .sl 0 (List.map encOut0 a1))], []⟩ ?_ (he := by rw [show (a0.length : Int) = ((List.map encOut0 a0).length : Int) from by rw [List.length_map]]; kernel_rfl)
     refine cf hLn1 ?_
     refine runs_exit ?_
     repeat refine thenX_exit ?_
     refine block_here ?_
     refine wkr [] [] ⟨[], []⟩ ?_
     refine sqr cv hn ?_
     refine ro9 0 1 1 ⟨[(4, zB true)], []⟩ ?_
     refine runs_ret ?_
     exact fin _ _ h (by kernel_rfl)
   | cons x10 t1 =>
     rw [laws_eqOutS_l1] at h
     have hLc1 := dcons hd1
     have hx10 := dget hd1
     have hi1 := dinc hd1 hl1
     refine runs_seq ?_
     refine sqr cv hn ?_
     refine ro9 0 4 4 ⟨[(14, zB (decide ((i1 : Int) < (a0.length : Int)))), (13, zI (a0.length : Int)), (12, .sl 0 (List.map encOut0 a0)), (11, zI (i1 : Int)), (5, zI (i1 : Int)), (0, .sl 0 (List.map encOut0 a0)), (1, .sl 0 (List.map encOut0 a1))], []⟩ ?_ (he := by rw [show (a0.length : Int) = ((List.map encOut0 a0).length : Int) from by rw [List.length_map]]; kernel_rfl)
     refine ct hLc1 ?_
     refine runs_skip ?_
     refine runs_seq ?_
     refine runs_block ?_
     refine runs_seq ?_
     refine rgT cv mixed hn ?_
     refine roT 0 2 2 ⟨[(18, zI (i1 : Int)), (17, .sl 0 (List.map encOut0 a0)), (14, zB (decide ((i1 : Int) < (a0.length : Int)))), (13, zI (a0.length : Int)), (12, .sl 0 (List.map encOut0 a0)), (11, zI (i1 : Int)), (5, zI (i1 : Int)), (0, .sl 0 (List.map encOut0 a0)), (1, .sl 0 (List.map encOut0 a1))], []⟩ ?_
     refine rixT 2 encOut0 126 hx10 (ix_nn hx10) ⟨[(19, .rp (encOut0 x10) 0), (18, zI (i1 : Int)), (17, .sl 0 (List.map encOut0 a0)), (14, zB (decide ((i1 : Int) < (a0.length : Int)))), (13, zI (a0.length : Int)), (12, .sl 0 (List.map encOut0 a0)), (11, zI (i1 : Int)), (5, zI (i1 : Int)), (0, .sl 0 (List.map encOut0 a0)), (1, .sl 0 (List.map encOut0 a1))], []⟩ ?_
     refine roT 3 3 3 ⟨[(22, zI (i1 : Int)), (21, .sl 0 (List.map encOut0 a1)), (20, encOut0 x10), (19, .rp (encOut0 x10) 0), (18, zI (i1 : Int)), (17, .sl 0 (List.map encOut0 a0)), (14, zB (decide ((i1 : Int) < (a0.length : Int)))), (13, zI (a0.length : Int)), (12, .sl 0 (List.map encOut0 a0)), (11, zI (i1 : Int)), (5, zI (i1 : Int)), (0, .sl 0 (List.map encOut0 a0)), (1, .sl 0 (List.map encOut0 a1))], []⟩ ?_
     obtain ⟨x24, hx25, h⟩ := bindO h
     refine rixT 6 encOut0 126 hx25 (ix_nn hx25) ⟨[(23, .rp (encOut0 x24) 0), (22, zI (i1 : Int)), (21, .sl 0 (List.map encOut0 a1)), (20, encOut0 x10), (19, .rp (encOut0 x10) 0), (18, zI (i1 : Int)), (17, .sl 0 (List.map encOut0 a0)), (14, zB (decide ((i1 : Int) < (a0.length : Int)))), (13, zI (a0.length : Int)), (12, .sl 0 (List.map encOut0 a0)), (11, zI (i1 : Int)), (5, zI (i1 : Int)), (0, .sl 0 (List.map encOut0 a0)), (1, .sl 0 (List.map encOut0 a1))], []⟩ ?_
     refine roT 7 1 1 ⟨[(24, encOut0 x24), (23, .rp (encOut0 x24) 0), (22, zI (i1 : Int)), (21, .sl 0 (List.map encOut0 a1)), (20, encOut0 x10), (19, .rp (encOut0 x10) 0), (18, zI (i1 : Int)), (17, .sl 0 (List.map encOut0 a0)), (14, zB (decide ((i1 : Int) < (a0.length : Int)))), (13, zI (a0.length : Int)), (12, .sl 0 (List.map encOut0 a0)), (11, zI (i1 : Int)), (5, zI (i1 : Int)), (0, .sl 0 (List.map encOut0 a0)), (1, .sl 0 (List.map encOut0 a1))], []⟩ ?_
     obtain ⟨v26, hv27, h⟩ := bindO h
     refine rcT 8 ⟨[(25, zB v26), (24, encOut0 x24), (23, .rp (encOut0 x24) 0), (22, zI (i1 : Int)), (21, .sl 0 (List.map encOut0 a1)), (20, encOut0 x10), (19, .rp (encOut0 x10) 0), (18, zI (i1 : Int)), (17, .sl 0 (List.map encOut0 a0)), (14, zB (decide ((i1 : Int) < (a0.length : Int)))), (13, zI (a0.length : Int)), (12, .sl 0 (List.map encOut0 a0)), (11, zI (i1 : Int)), (5, zI (i1 : Int)), (0, .sl 0 (List.map encOut0 a0)), (1, .sl 0 (List.map encOut0 a1))], []⟩ (laws_eqOut_spec x10 x24 v26 hv27) ?_
     refine roT9 9 1 1 ⟨[(26, zB (!v26)), (25, zB v26), (24, encOut0 x24), (23, .rp (encOut0 x24) 0), (22, zI (i1 : Int)), (21, .sl 0 (List.map encOut0 a1)), (20, encOut0 x10), (19, .rp (encOut0 x10) 0), (18, zI (i1 : Int)), (17, .sl 0 (List.map encOut0 a0)), (14, zB (decide ((i1 : Int) < (a0.length : Int)))), (13, zI (a0.length : Int)), (12, .sl 0 (List.map encOut0 a0)), (11, zI (i1 : Int)), (5, zI (i1 : Int)), (0, .sl 0 (List.map encOut0 a0)), (1, .sl 0 (List.map encOut0 a1))], []⟩ ?_
     rcases dich (!v26) with hb28 | hb28
     · replace h := cond_t hb28 h
       refine ct hb28 ?_
       refine sqr cv hn ?_
       refine ro9 0 1 1 ⟨[(4, zB false), (26, zB (!v26)), (25, zB v26), (24, encOut0 x24), (23, .rp (encOut0 x24) 0), (22, zI (i1 : Int)), (21, .sl 0 (List.map encOut0 a1)), (20, encOut0 x10), (19, .rp (encOut0 x10) 0), (18, zI (i1 : Int)), (17, .sl 0 (List.map encOut0 a0)), (14, zB (decide ((i1 : Int) < (a0.length : Int)))), (13, zI (a0.length : Int)), (12, .sl 0 (List.map encOut0 a0)), (11, zI (i1 : Int)), (5, zI (i1 : Int)), (0, .sl 0 (List.map encOut0 a0)), (1, .sl 0 (List.map encOut0 a1))], []⟩ ?_
       refine runs_ret ?_
       exact fin _ _ h (by kernel_rfl)
     · replace h := cond_f hb28 h
       refine cf hb28 ?_
       refine runs_skip ?_
       refine rg cv hn ?_
       refine ro9 0 3 3 ⟨[(5, zI ((i1 + 1 : Nat) : Int)), (16, zI ((i1 + 1 : Nat) : Int)), (15, zI (i1 : Int)), (26, zB (!v26)), (25, zB v26), (24, encOut0 x24), (23, .rp (encOut0 x24) 0), (22, zI (i1 : Int)), (21, .sl 0 (List.map encOut0 a1)), (20, encOut0 x10), (19, .rp (encOut0 x10) 0), (18, zI (i1 : Int)), (17, .sl 0 (List.map encOut0 a0)), (14, zB (decide ((i1 : Int) < (a0.length : Int)))), (13, zI (a0.length : Int)), (12, .sl 0 (List.map encOut0 a0)), (11, zI (i1 : Int)), (5, zI (i1 : Int)), (0, .sl 0 (List.map encOut0 a0)), (1, .sl 0 (List.map encOut0 a1))], []⟩ ?_ (he := by rw [← hi1]; kernel_rfl)
       exact ⟨(t1, i1 + 1), Nat.lt_succ_self _, ⟨dnext hd1, h⟩, wre [5, 0, 1] []⟩

set_option maxRecDepth 100000 in
set_option maxHeartbeats 2000000 in
theorem laws_eqAcc_spec (a0 : SAcc) (a1 : SAcc) (v0 : Bool) (h : laws_eqAcc a0 a1 = some v0) : Ax.Spec Try.prog 125 none [encAcc a0, encAcc a1] (zB v0 : X) (.junk : X) := by
 refine walk0 (fn := Try.f125) (fun q0 : Bool => (zB q0 : X)) (fun q0 : Bool => (.junk : X)) v0 ⟨[(0, encAcc a0), (1, encAcc a1)], []⟩ Try.func125 rfl (by decide +kernel) fun Γ hn fin => ?_
 rw [laws_eqAcc] at h
 refine sqr cv hn ?_
 refine ro9 0 3 3 ⟨[(4, zB false), (3, .ptr 3 1 0), (2, .ptr 2 1 0), (0, encAcc a0), (1, encAcc a1)], [(3, ⟨1, 1, true, some (encAcc a1)⟩), (2, ⟨1, 1, true, some (encAcc a0)⟩)]⟩ ?_
 refine runs_seq ?_
 refine sqr cv hn ?_
 refine ro9 0 5 5 ⟨[(9, zB (a0.fProm != a1.fProm)), (8, zI a1.fProm), (7, .ptr 3 1 0), (6, zI a0.fProm), (5, .ptr 2 1 0), (4, zB false), (3, .ptr 3 1 0), (2, .ptr 2 1 0), (0, encAcc a0), (1, encAcc a1)], [(3, ⟨1, 1, true, some (encAcc a1)⟩), (2, ⟨1, 1, true, some (encAcc a0)⟩)]⟩ ?_
 rcases dich (a0.fProm != a1.fProm) with hb2 | hb2
 · replace h := cond_t hb2 h
   refine ct hb2 ?_
   let T3 : List (Nat × X) := [(3, .ptr 3 0 0), (2, .ptr 2 0 0)]
   let B3 : List (Nat × Bx) := [(3, ⟨0, 0, true, some (encAcc a1)⟩), (2, ⟨0, 0, true, some (encAcc a0)⟩)]
   refine wkr [3, 2] [(3, 3, false), (2, 2, false)] ⟨T3, B3⟩ ?_
   refine sqr cv hn ?_
   refine ro9 0 1 1 ⟨(4, zB false) :: T3, B3⟩ ?_
   refine runs_ret ?_
   exact fin _ _ h (by kernel_rfl)
 · replace h := cond_f hb2 h
   refine cf hb2 ?_
   refine runs_skip ?_
   refine runs_seq ?_
   let T6 : List (Nat × X) := [(3, .ptr 3 0 0), (2, .ptr 2 0 0)]
   let B6 : List (Nat × Bx) := [(3, ⟨0, 0, true, some (encAcc a1)⟩), (2, ⟨0, 0, true, some (encAcc a0)⟩)]
   refine wkr [3, 2] [(3, 3, false), (2, 2, false)] ⟨T6, B6⟩ ?_
   refine sqr cv hn ?_
   refine ro9 0 5 5 ⟨(14, zB (a0.fBal != a1.fBal)) :: (13, zI a1.fBal) :: (12, .ptr 3 0 1) :: (11, zI a0.fBal) :: (10, .ptr 2 0 1) :: T6, B6⟩ ?_
   rcases dich (a0.fBal != a1.fBal) with hb4 | hb4
   · replace h := cond_t hb4 h
     refine ct hb4 ?_
     let T7 : List (Nat × X) := [(3, .ptr 3 0 0), (2, .ptr 2 0 0)]
     let B7 : List (Nat × Bx) := [(3, ⟨0, 0, true, some (encAcc a1)⟩), (2, ⟨0, 0, true, some (encAcc a0)⟩)]
     refine wkr [3, 2] [(3, 3, false), (2, 2, false)] ⟨T7, B7⟩ ?_
     refine sqr cv hn ?_
     refine ro9 0 1 1 ⟨(4, zB false) :: T7, B7⟩ ?_
     refine runs_ret ?_
     exact fin _ _ h (by kernel_rfl)
   · replace h := cond_f hb4 h
     refine cf hb4 ?_
     refine runs_skip ?_
     refine runs_seq ?_
     let T8 : List (Nat × X) := [(3, .ptr 3 0 0), (2, .ptr 2 0 0)]
     let B8 : List (Nat × Bx) := [(3, ⟨0, 0, true, some (encAcc a1)⟩), (2, ⟨0, 0, true, some (encAcc a0)⟩)]
     refine wkr [3, 2] [(3, 3, false), (2, 2, false)] ⟨T8, B8⟩ ?_
     refine sqr cv hn ?_
     refine ro9 0 5 5 ⟨(19, zB (a0.fVal != a1.fVal)) :: (18, zI a1.fVal) :: (17, .ptr 3 0 2) :: (16, zI a0.fVal) :: (15, .ptr 2 0 2) :: T8, B8⟩ ?_
     rcases dich (a0.fVal != a1.fVal) with hb5 | hb5
     · replace h := cond_t hb5 h
       refine ct hb5 ?_
       refine wkr [] [] ⟨[], []⟩ ?_
       refine sqr cv hn ?_
       refine ro9 0 1 1 ⟨[(4, zB false)], []⟩ ?_
       refine runs_ret ?_
       exact fin _ _ h (by kernel_rfl)
     · replace h := cond_f hb5 h
       refine cf hb5 ?_
       refine runs_skip ?_
       refine wkr [] [] ⟨[], []⟩ ?_
       refine sqr cv hn ?_
       refine ro9 0 1 1 ⟨[(4, zB true)], []⟩ ?_
       refine runs_ret ?_
       exact fin _ _ h (by kernel_rfl)

set_option maxRecDepth 100000 in
set_option maxHeartbeats 2000000 in
theorem laws_eqAccS_spec (a0 : (List SAcc)) (a1 : (List SAcc)) (v0 : Bool) (h : laws_eqAccS a0 a1 = some v0) : Ax.Spec Try.prog 112 none [.sl 0 (List.map encAcc a0), .sl 0 (List.map encAcc a1)] (zB v0 : X) (.junk : X) := by
 let T1 : List (Nat × X) := [(0, .sl 0 (List.map encAcc a0)), (1, .sl 0 (List.map encAcc a1))]
 refine walk0 (fn := Try.f112) (fun q0 : Bool => (zB q0 : X)) (fun q0 : Bool => (.junk : X)) v0 ⟨T1, []⟩ Try.func112 rfl (by decide +kernel) fun Γ hn fin => ?_
 rw [laws_eqAccS] at h
 refine sqr cv hn ?_
 refine ro9 0 1 1 ⟨(4, zB false) :: T1, []⟩ ?_
 refine runs_seq ?_
 refine sqr cv hn ?_
 refine ro9 0 5 5 ⟨(10, zB ((a0.length : Int) != (a1.length : Int))) :: (9, zI (a1.length : Int)) :: (8, .sl 0 (List.map encAcc a1)) :: (7, zI (a0.length : Int)) :: (6, .sl 0 (List.map encAcc a0)) :: (4, zB false) :: T1, []⟩ ?_ (he := by rw [show (a0.length : Int) = ((List.map encAcc a0).length : Int) from by rw [List.length_map]]; rw [show (a1.length : Int) = ((List.map encAcc a1).length : Int) from by rw [List.length_map]]; kernel_rfl)
 rcases dich ((a0.length : Int) != (a1.length : Int)) with hb2 | hb2
 · replace h := cond_t hb2 h
   refine ct hb2 ?_
   let T3 : List (Nat × X) := [(0, .sl 0 (List.map encAcc a0)), (1, .sl 0 (List.map encAcc a1))]
   refine wkr [0, 1] [] ⟨T3, []⟩ ?_
   refine sqr cv hn ?_
   refine ro9 0 1 1 ⟨(4, zB false) :: T3, []⟩ ?_
   refine runs_ret ?_
   exact fin _ _ h (by kernel_rfl)
 · replace h := cond_f hb2 h
   refine cf hb2 ?_
   refine runs_skip ?_
   refine runs_seq ?_
   let T5 : List (Nat × X) := [(0, .sl 0 (List.map encAcc a0)), (1, .sl 0 (List.map encAcc a1))]
   refine wkr [0, 1] [] ⟨T5, []⟩ ?_
   refine sqr cv hn ?_
   refine ro9 0 1 1 ⟨(5, zI 0) :: T5, []⟩ ?_
   refine runs_block ?_
   refine runs_loopM (σ := List SAcc × Nat) (fun s => ⟨[(5, zI (s.2 : Int)), (0, .sl 0 (List.map encAcc a0)), (1, .sl 0 (List.map encAcc a1))], []⟩) (fun s => s.1 = List.drop s.2 a0 ∧ laws_eqAccS_l1 a1 s.1 s.2 = some v0) (fun s => s.1.length) (a0, 0) ⟨rfl, h⟩ (wre [5, 0, 1] []) ?_
   rintro ⟨t1, i1⟩ ⟨hd1, h⟩
   refine seq0 ⟨[(5, zI (i1 : Int)), (0, .sl 0 (List.map encAcc a0)), (1, .sl 0 (List.map encAcc a1))], []⟩ ?_
   refine runs_len 0 (es := List.map encAcc a0) (by kernel_rfl) fun hl1 => ?_
   replace hl1 := len_of_map hl1
   cases t1 with
   | nil =>
     rw [laws_eqAccS_l1] at h
     have hLn1 := dnil hd1
     refine runs_seq ?_
     refine sqr cv hn ?_
     refine ro9 0 4 4 ⟨[(14, zB (decide ((i1 : Int) < (a0.length : Int)))), (13, zI (a0.length : Int)), (12, .sl 0 (List.map encAcc a0)), (11, zI (i1 : Int)), (5, zI (i1 : Int)), (0, .sl 0 (List.map encAcc a0)), (1, .sl 0 (List.map encAcc a1))], []⟩ ?_ (he := by rw [show (a0.length : Int) = ((List.map encAcc a0).length : Int) from by rw [List.length_map]]; kernel_rfl)
     refine cf hLn1 ?_
     refine runs_exit ?_
     repeat refine thenX_exit ?_
     refine block_here ?_
     refine wkr [] [] ⟨[], []⟩ ?_
     refine sqr cv hn ?_
     refine ro9 0 1 1 ⟨[(4, zB true)], []⟩ ?_
     refine runs_ret ?_
     exact fin _ _ h (by kernel_rfl)
   | cons x10 t1 =>
     rw [laws_eqAccS_l1] at h
     have hLc1 := dcons hd1
     have hx10 := dget hd1
     have hi1 := dinc hd1 hl1
     refine runs_seq ?_
     refine sqr cv hn ?_
     refine ro9 0 4 4 ⟨[(14, zB (decide ((i1 : Int) < (a0.length : Int)))), (13, zI (a0.length : Int)), (12, .sl 0 (List.map encAcc a0)), (11, zI (i1 : Int)), (5, zI (i1 : Int)), (0, .sl 0 (List.map encAcc a0)), (1, .sl 0 (List.map encAcc a1))], []⟩ ?_ (he := by rw [show (a0.length : Int) = ((List.map encAcc a0).length : Int) from by rw [List.length_map]]; kernel_rfl)
     refine ct hLc1 ?_
     refine runs_skip ?_
     refine runs_seq ?_
     refine runs_block ?_
     refine runs_seq ?_
     refine rgT cv mixed hn ?_
     refine roT 0 2 2 ⟨[(18, zI (i1 : Int)), (17, .sl 0 (List.map encAcc a0)), (14, zB (decide ((i1 : Int) < (a0.length : Int)))), (13, zI (a0.length : Int)), (12, .sl 0 (List.map encAcc a0)), (11, zI (i1 : Int)), (5, zI (i1 : Int)), (0, .sl 0 (List.map encAcc a0)), (1, .sl 0 (List.map encAcc a1))], []⟩ ?_
     refine rixT 2 encAcc 33 hx10 (ix_nn hx10) ⟨[(19, .rp (encAcc x10) 0), (18, zI (i1 : Int)), (17, .sl 0 (List.map encAcc a0)), (14, zB (decide ((i1 : Int) < (a0.length : Int)))), (13, zI (a0.length : Int)), (12, .sl 0 (List.map encAcc a0)), (11, zI (i1 : Int)), (5, zI (i1 : Int)), (0, .sl 0 (List.map encAcc a0)), (1, .sl 0 (List.map encAcc a1))], []⟩ ?_
     refine roT 3 3 3 ⟨[(22, zI (i1 : Int)), (21, .sl 0 (List.map encAcc a1)), (20, encAcc x10), (19, .rp (encAcc x10) 0), (18, zI (i1 : Int)), (17, .sl 0 (List.map encAcc a0)), (14, zB (decide ((i1 : Int) < (a0.length : Int)))), (13, zI (a0.length : Int)), (12, .sl 0 (List.map encAcc a0)), (11, zI (i1 : Int)), (5, zI (i1 : Int)), (0, .sl 0 (List.map encAcc a0)), (1, .sl 0 (List.map encAcc a1))], []⟩ ?_
     obtain ⟨x24, hx25, h⟩ := bindO h
     refine rixT 6 encAcc 33 hx25 (ix_nn hx25) ⟨[(23, .rp (encAcc x24) 0), (22, zI (i1 : Int)), (21, .sl 0 (List.map encAcc a1)), (20, encAcc x10), (19, .rp (encAcc x10) 0), (18, zI (i1 : Int)), (17, .sl 0 (List.map encAcc a0)), (14, zB (decide ((i1 : Int) < (a0.length : Int)))), (13, zI (a0.length : Int)), (12, .sl 0 (List.map encAcc a0)), (11, zI (i1 : Int)), (5, zI (i1 : Int)), (0, .sl 0 (List.map encAcc a0)), (1, .sl 0 (List.map encAcc a1))], []⟩ ?_
     refine roT 7 1 1 ⟨[(24, encAcc x24), (23, .rp (encAcc x24) 0), (22, zI (i1 : Int)), (21, .sl 0 (List.map encAcc a1)), (20, encAcc x10), (19, .rp (encAcc x10) 0), (18, zI (i1 : Int)), (17, .sl 0 (List.map encAcc a0)), (14, zB (decide ((i1 : Int) < (a0.length : Int)))), (13, zI (a0.length : Int)), (12, .sl 0 (List.map encAcc a0)), (11, zI (i1 : Int)), (5, zI (i1 : Int)), (0, .sl 0 (List.map encAcc a0)), (1, .sl 0 (List.map encAcc a1))], []⟩ ?_
     obtain ⟨v26, hv27, h⟩ := bindO h
     refine rcT 8 ⟨[(25, zB v26), (24, encAcc x24), (23, .rp (encAcc x24) 0), (22, zI (i1 : Int)), (21, .sl 0 (List.map encAcc a1)), (20, encAcc x10), (19, .rp (encAcc x10) 0), (18, zI (i1 : Int)), (17, .sl 0 (List.map encAcc a0)), (14, zB (decide ((i1 : Int) < (a0.length : Int)))), (13, zI (a0.length : Int)), (12, .sl 0 (List.map encAcc a0)), (11, zI (i1 : Int)), (5, zI (i1 : Int)), (0, .sl 0 (List.map encAcc a0)), (1, .sl 0 (List.map encAcc a1))], []⟩ (laws_eqAcc_spec x10 x24 v26 hv27) ?_
     refine roT9 9 1 1 ⟨[(26, zB (!v26)), (25, zB v26), (24, encAcc x24), (23, .rp (encAcc x24) 0), (22, zI (i1 : Int)), (21, .sl 0 (List.map encAcc a1)), (20, encAcc x10), (19, .rp (encAcc x10) 0), (18, zI (i1 : Int)), (17, .sl 0 (List.map encAcc a0)), (14, zB (decide ((i1 : Int) < (a0.length : Int)))), (13, zI (a0.length : Int)), (12, .sl 0 (List.map encAcc a0)), (11, zI (i1 : Int)), (5, zI (i1 : Int)), (0, .sl 0 (List.map encAcc a0)), (1, .sl 0 (List.map encAcc a1))], []⟩ ?_
     rcases dich (!v26) with hb28 | hb28
     · replace h := cond_t hb28 h
       refine ct hb28 ?_
       refine sqr cv hn ?_
       refine ro9 0 1 1 ⟨[(4, zB false), (26, zB (!v26)), (25, zB v26), (24, encAcc x24), (23, .rp (encAcc x24) 0), (22, zI (i1 : Int)), (21, .sl 0 (List.map encAcc a1)), (20, encAcc x10), (19, .rp (encAcc x10) 0), (18, zI (i1 : Int)), (17, .sl 0 (List.map encAcc a0)), (14, zB (decide ((i1 : Int) < (a0.length : Int)))), (13, zI (a0.length : Int)), (12, .sl 0 (List.map encAcc a0)), (11, zI (i1 : Int)), (5, zI (i1 : Int)), (0, .sl 0 (List.map encAcc a0)), (1, .sl 0 (List.map encAcc a1))], []⟩ ?_
       refine runs_ret ?_
       exact fin _ _ h (by kernel_rfl)
     · replace h := cond_f hb28 h
       refine cf hb28 ?_
       refine runs_skip ?_
       refine rg cv hn ?_
       refine ro9 0 3 3 ⟨[(5, zI ((i1 + 1 : Nat) : Int)), (16, zI ((i1 + 1 : Nat) : Int)), (15, zI (i1 : Int)), (26, zB (!v26)), (25, zB v26), (24, encAcc x24), (23, .rp (encAcc x24) 0), (22, zI (i1 : Int)), (21, .sl 0 (List.map encAcc a1)), (20, encAcc x10), (19, .rp (encAcc x10) 0), (18, zI (i1 : Int)), (17, .sl 0 (List.map encAcc a0)), (14, zB (decide ((i1 : Int) < (a0.length : Int)))), (13, zI (a0.length : Int)), (12, .sl 0 (List.map encAcc a0)), (11, zI (i1 : Int)), (5, zI (i1 : Int)), (0, .sl 0 (List.map encAcc a0)), (1, .sl 0 (List.map encAcc a1))], []⟩ ?_ (he := by rw [← hi1]; kernel_rfl)
       exact ⟨(t1, i1 + 1), Nat.lt_succ_self _, ⟨dnext hd1, h⟩, wre [5, 0, 1] []⟩

set_option maxRecDepth 100000 in
set_option maxHeartbeats 2000000 in
theorem laws_eqNode_spec (a0 : SNode) (a1 : SNode) (v0 : Bool) (h : laws_eqNode a0 a1 = some v0) : Ax.Spec Try.prog 59 none [encNode0 a0, encNode0 a1] (zB v0 : X) (.junk : X) := by
 let T1 : List (Nat × X) := [(0, encNode0 a0), (1, encNode0 a1)]
 refine walk0 (fn := Try.f59) (fun q0 : Bool => (zB q0 : X)) (fun q0 : Bool => (.junk : X)) v0 ⟨T1, []⟩ Try.func59 rfl (by decide +kernel) fun Γ hn fin => ?_
 rw [laws_eqNode] at h
 refine sqr cv hn ?_
 refine ro9 0 3 3 ⟨(4, zB false) :: (3, .ptr 3 1 0) :: (2, .ptr 2 1 0) :: T1, [(3, ⟨1, 1, true, some (encNode0 a1)⟩), (2, ⟨1, 1, true, some (encNode0 a0)⟩)]⟩ ?_
 refine runs_seq ?_
 refine sqr cv hn ?_
 refine ro9 0 5 5 ⟨(9, zB (a0.fId != a1.fId)) :: (8, zI a1.fId) :: (7, .ptr 3 1 0) :: (6, zI a0.fId) :: (5, .ptr 2 1 0) :: (4, zB false) :: (3, .ptr 3 1 0) :: (2, .ptr 2 1 0) :: T1, [(3, ⟨1, 1, true, some (encNode0 a1)⟩), (2, ⟨1, 1, true, some (encNode0 a0)⟩)]⟩ ?_
 rcases dich (a0.fId != a1.fId) with hb2 | hb2
 · replace h := cond_t hb2 h
   refine ct hb2 ?_
   let T3 : List (Nat × X) := [(3, .ptr 3 0 0), (2, .ptr 2 0 0)]
   let B3 : List (Nat × Bx) := [(3, ⟨0, 0, true, some (encNode0 a1)⟩), (2, ⟨0, 0, true, some (encNode0 a0)⟩)]
   refine wkr [3, 2] [(3, 3, false), (2, 2, false)] ⟨T3, B3⟩ ?_
   refine sqr cv hn ?_
   refine ro9 0 1 1 ⟨(4, zB false) :: T3, B3⟩ ?_
   refine runs_ret ?_
   exact fin _ _ h (by kernel_rfl)
 · replace h := cond_f hb2 h
   refine cf hb2 ?_
   refine runs_skip ?_
   refine runs_seq ?_
   let T6 : List (Nat × X) := [(3, .ptr 3 0 0), (2, .ptr 2 0 0)]
   let B6 : List (Nat × Bx) := [(3, ⟨0, 0, true, some (encNode0 a1)⟩), (2, ⟨0, 0, true, some (encNode0 a0)⟩)]
   refine wkr [3, 2] [(3, 3, false), (2, 2, false)] ⟨T6, B6⟩ ?_
   refine sqr cv hn ?_
   refine ro9 0 5 5 ⟨(14, zB (a0.fN != a1.fN)) :: (13, zI a1.fN) :: (12, .ptr 3 0 1) :: (11, zI a0.fN) :: (10, .ptr 2 0 1) :: T6, B6⟩ ?_
   rcases dich (a0.fN != a1.fN) with hb4 | hb4
   · replace h := cond_t hb4 h
     refine ct hb4 ?_
     let T7 : List (Nat × X) := [(3, .ptr 3 0 0), (2, .ptr 2 0 0)]
     let B7 : List (Nat × Bx) := [(3, ⟨0, 0, true, some (encNode0 a1)⟩), (2, ⟨0, 0, true, some (encNode0 a0)⟩)]
     refine wkr [3, 2] [(3, 3, false), (2, 2, false)] ⟨T7, B7⟩ ?_
     refine sqr cv hn ?_
     refine ro9 0 1 1 ⟨(4, zB false) :: T7, B7⟩ ?_
     refine runs_ret ?_
     exact fin _ _ h (by kernel_rfl)
   · replace h := cond_f hb4 h
     refine cf hb4 ?_
     refine runs_skip ?_
     refine runs_seq ?_
     let T10 : List (Nat × X) := [(3, .ptr 3 0 0), (2, .ptr 2 0 0)]
     let B10 : List (Nat × Bx) := [(3, ⟨0, 0, true, some (encNode0 a1)⟩), (2, ⟨0, 0, true, some (encNode0 a0)⟩)]
     refine wkr [3, 2] [(3, 3, false), (2, 2, false)] ⟨T10, B10⟩ ?_
     refine sqr cv hn ?_
     refine ro 0 4 4 ⟨(18, .sl 0 (List.map encAcct0 a1.fAccts)) :: (17, .ptr 3 0 2) :: (16, .sl 0 (List.map encAcct0 a0.fAccts)) :: (15, .ptr 2 0 2) :: T10, B10⟩ ?_
     obtain ⟨v8, hv9, h⟩ := bindO h
     refine rc 4 ⟨(19, zB v8) :: (18, .sl 0 (List.map encAcct0 a1.fAccts)) :: (17, .ptr 3 0 2) :: (16, .sl 0 (List.map encAcct0 a0.fAccts)) :: (15, .ptr 2 0 2) :: T10, B10⟩ (laws_eqAcctS_spec a0.fAccts a1.fAccts v8 hv9) ?_
     refine ro9 5 1 1 ⟨(20, zB (!v8)) :: (19, zB v8) :: (18, .sl 0 (List.map encAcct0 a1.fAccts)) :: (17, .ptr 3 0 2) :: (16, .sl 0 (List.map encAcct0 a0.fAccts)) :: (15, .ptr 2 0 2) :: T10, B10⟩ ?_
     rcases dich (!v8) with hb10 | hb10
     · replace h := cond_t hb10 h
       refine ct hb10 ?_
       let T11 : List (Nat × X) := [(3, .ptr 3 0 0), (2, .ptr 2 0 0)]
       let B11 : List (Nat × Bx) := [(3, ⟨0, 0, true, some (encNode0 a1)⟩), (2, ⟨0, 0, true, some (encNode0 a0)⟩)]
       refine wkr [3, 2] [(3, 3, false), (2, 2, false)] ⟨T11, B11⟩ ?_
       refine sqr cv hn ?_
       refine ro9 0 1 1 ⟨(4, zB false) :: T11, B11⟩ ?_
       refine runs_ret ?_
       exact fin _ _ h (by kernel_rfl)
     · replace h := cond_f hb10 h
       refine cf hb10 ?_
       refine runs_skip ?_
       refine runs_seq ?_
       let T14 : List (Nat × X) := [(3, .ptr 3 0 0), (2, .ptr 2 0 0)]
       let B14 : List (Nat × Bx) := [(3, ⟨0, 0, true, some (encNode0 a1)⟩), (2, ⟨0, 0, true, some (encNode0 a0)⟩)]
       refine wkr [3, 2] [(3, 3, false), (2, 2, false)] ⟨T14, B14⟩ ?_
       refine sqr cv hn ?_
       refine ro 0 4 4 ⟨(24, .sl 0 (List.map encOut0 a1.fOuts)) :: (23, .ptr 3 0 3) :: (22, .sl 0 (List.map encOut0 a0.fOuts)) :: (21, .ptr 2 0 3) :: T14, B14⟩ ?_
       obtain ⟨v14, hv15, h⟩ := bindO h
       refine rc 4 ⟨(25, zB v14) :: (24, .sl 0 (List.map encOut0 a1.fOuts)) :: (23, .ptr 3 0 3) :: (22, .sl 0 (List.map encOut0 a0.fOuts)) :: (21, .ptr 2 0 3) :: T14, B14⟩ (laws_eqOutS_spec a0.fOuts a1.fOuts v14 hv15) ?_
       refine ro9 5 1 1 ⟨(26, zB (!v14)) :: (25, zB v14) :: (24, .sl 0 (List.map encOut0 a1.fOuts)) :: (23, .ptr 3 0 3) :: (22, .sl 0 (List.map encOut0 a0.fOuts)) :: (21, .ptr 2 0 3) :: T14, B14⟩ ?_
       rcases dich (!v14) with hb16 | hb16
       · replace h := cond_t hb16 h
         refine ct hb16 ?_
         let T15 : List (Nat × X) := [(3, .ptr 3 0 0), (2, .ptr 2 0 0)]
         let B15 : List (Nat × Bx) := [(3, ⟨0, 0, true, some (encNode0 a1)⟩), (2, ⟨0, 0, true, some (encNode0 a0)⟩)]
         refine wkr [3, 2] [(3, 3, false), (2, 2, false)] ⟨T15, B15⟩ ?_
         refine sqr cv hn ?_
         refine ro9 0 1 1 ⟨(4, zB false) :: T15, B15⟩ ?_
         refine runs_ret ?_
         exact fin _ _ h (by kernel_rfl)
       · replace h := cond_f hb16 h
         refine cf hb16 ?_
         refine runs_skip ?_
         refine runs_seq ?_
         let T18 : List (Nat × X) := [(3, .ptr 3 0 0), (2, .ptr 2 0 0)]
         let B18 : List (Nat × Bx) := [(3, ⟨0, 0, true, some (encNode0 a1)⟩), (2, ⟨0, 0, true, some (encNode0 a0)⟩)]
         refine wkr [3, 2] [(3, 3, false), (2, 2, false)] ⟨T18, B18⟩ ?_
         refine sqr cv hn ?_
         refine ro 0 4 4 ⟨(30, .sl 0 (List.map encInt a1.fIns)) :: (29, .ptr 3 0 4) :: (28, .sl 0 (List.map encInt a0.fIns)) :: (27, .ptr 2 0 4) :: T18, B18⟩ ?_
         obtain ⟨v20, hv21, h⟩ := bindO h
         refine rc 4 ⟨(31, zB v20) :: (30, .sl 0 (List.map encInt a1.fIns)) :: (29, .ptr 3 0 4) :: (28, .sl 0 (List.map encInt a0.fIns)) :: (27, .ptr 2 0 4) :: T18, B18⟩ (laws_eqIntS_spec a0.fIns a1.fIns v20 hv21) ?_
         refine ro9 5 1 1 ⟨(32, zB (!v20)) :: (31, zB v20) :: (30, .sl 0 (List.map encInt a1.fIns)) :: (29, .ptr 3 0 4) :: (28, .sl 0 (List.map encInt a0.fIns)) :: (27, .ptr 2 0 4) :: T18, B18⟩ ?_
         rcases dich (!v20) with hb22 | hb22
         · replace h := cond_t hb22 h
           refine ct hb22 ?_
           let T19 : List (Nat × X) := [(3, .ptr 3 0 0), (2, .ptr 2 0 0)]
           let B19 : List (Nat × Bx) := [(3, ⟨0, 0, true, some (encNode0 a1)⟩), (2, ⟨0, 0, true, some (encNode0 a0)⟩)]
           refine wkr [3, 2] [(3, 3, false), (2, 2, false)] ⟨T19, B19⟩ ?_
           refine sqr cv hn ?_
           refine ro9 0 1 1 ⟨(4, zB false) :: T19, B19⟩ ?_
           refine runs_ret ?_
           exact fin _ _ h (by kernel_rfl)
         · replace h := cond_f hb22 h
           refine cf hb22 ?_
           refine runs_skip ?_
           refine runs_seq ?_
           let T22 : List (Nat × X) := [(3, .ptr 3 0 0), (2, .ptr 2 0 0)]
           let B22 : List (Nat × Bx) := [(3, ⟨0, 0, true, some (encNode0 a1)⟩), (2, ⟨0, 0, true, some (encNode0 a0)⟩)]
           refine wkr [3, 2] [(3, 3, false), (2, 2, false)] ⟨T22, B22⟩ ?_
           refine sqr cv hn ?_
           refine ro 0 4 4 ⟨(36, .sl 0 (List.map encAcc a1.fAccs)) :: (35, .ptr 3 0 5) :: (34, .sl 0 (List.map encAcc a0.fAccs)) :: (33, .ptr 2 0 5) :: T22, B22⟩ ?_
           obtain ⟨v26, hv27, h⟩ := bindO h
           refine rc 4 ⟨(37, zB v26) :: (36, .sl 0 (List.map encAcc a1.fAccs)) :: (35, .ptr 3 0 5) :: (34, .sl 0 (List.map encAcc a0.fAccs)) :: (33, .ptr 2 0 5) :: T22, B22⟩ (laws_eqAccS_spec a0.fAccs a1.fAccs v26 hv27) ?_
           refine ro9 5 1 1 ⟨(38, zB (!v26)) :: (37, zB v26) :: (36, .sl 0 (List.map encAcc a1.fAccs)) :: (35, .ptr 3 0 5) :: (34, .sl 0 (List.map encAcc a0.fAccs)) :: (33, .ptr 2 0 5) :: T22, B22⟩ ?_
           rcases dich (!v26) with hb28 | hb28
           · replace h := cond_t hb28 h
             refine ct hb28 ?_
             let T23 : List (Nat × X) := [(3, .ptr 3 0 0), (2, .ptr 2 0 0)]
             let B23 : List (Nat × Bx) := [(3, ⟨0, 0, true, some (encNode0 a1)⟩), (2, ⟨0, 0, true, some (encNode0 a0)⟩)]
             refine wkr [3, 2] [(3, 3, false), (2, 2, false)] ⟨T23, B23⟩ ?_
             refine sqr cv hn ?_
             refine ro9 0 1 1 ⟨(4, zB false) :: T23, B23⟩ ?_
             refine runs_ret ?_
             exact fin _ _ h (by kernel_rfl)
           · replace h := cond_f hb28 h
             refine cf hb28 ?_
             refine runs_skip ?_
             refine runs_seq ?_
             let T26 : List (Nat × X) := [(3, .ptr 3 0 0), (2, .ptr 2 0 0)]
             let B26 : List (Nat × Bx) := [(3, ⟨0, 0, true, some (encNode0 a1)⟩), (2, ⟨0, 0, true, some (encNode0 a0)⟩)]
             refine wkr [3, 2] [(3, 3, false), (2, 2, false)] ⟨T26, B26⟩ ?_
             refine sqr cv hn ?_
             refine ro9 0 5 5 ⟨(43, zB (a0.fStray != a1.fStray)) :: (42, zI a1.fStray) :: (41, .ptr 3 0 6) :: (40, zI a0.fStray) :: (39, .ptr 2 0 6) :: T26, B26⟩ ?_
             rcases dich (a0.fStray != a1.fStray) with hb30 | hb30
             · replace h := cond_t hb30 h
               refine ct hb30 ?_
               let T27 : List (Nat × X) := [(3, .ptr 3 0 0), (2, .ptr 2 0 0)]
               let B27 : List (Nat × Bx) := [(3, ⟨0, 0, true, some (encNode0 a1)⟩), (2, ⟨0, 0, true, some (encNode0 a0)⟩)]
               refine wkr [3, 2] [(3, 3, false), (2, 2, false)] ⟨T27, B27⟩ ?_
               refine sqr cv hn ?_
               refine ro9 0 1 1 ⟨(4, zB false) :: T27, B27⟩ ?_
               refine runs_ret ?_
               exact fin _ _ h (by kernel_rfl)
             · replace h := cond_f hb30 h
               refine cf hb30 ?_
               refine runs_skip ?_
               refine runs_seq ?_
               let T30 : List (Nat × X) := [(3, .ptr 3 0 0), (2, .ptr 2 0 0)]
               let B30 : List (Nat × Bx) := [(3, ⟨0, 0, true, some (encNode0 a1)⟩), (2, ⟨0, 0, true, some (encNode0 a0)⟩)]
               refine wkr [3, 2] [(3, 3, false), (2, 2, false)] ⟨T30, B30⟩ ?_
               refine sqr cv hn ?_
               refine ro9 0 5 5 ⟨(48, zB (a0.fCame != a1.fCame)) :: (47, zI a1.fCame) :: (46, .ptr 3 0 7) :: (45, zI a0.fCame) :: (44, .ptr 2 0 7) :: T30, B30⟩ ?_
               rcases dich (a0.fCame != a1.fCame) with hb32 | hb32
               · replace h := cond_t hb32 h
                 refine ct hb32 ?_
                 let T31 : List (Nat × X) := [(3, .ptr 3 0 0), (2, .ptr 2 0 0)]
                 let B31 : List (Nat × Bx) := [(3, ⟨0, 0, true, some (encNode0 a1)⟩), (2, ⟨0, 0, true, some (encNode0 a0)⟩)]
                 refine wkr [3, 2] [(3, 3, false), (2, 2, false)] ⟨T31, B31⟩ ?_
                 refine sqr cv hn ?_
                 refine ro9 0 1 1 ⟨(4, zB false) :: T31, B31⟩ ?_
                 refine runs_ret ?_
                 exact fin _ _ h (by kernel_rfl)
               · replace h := cond_f hb32 h
                 refine cf hb32 ?_
                 refine runs_skip ?_
                 refine runs_seq ?_
                 let T32 : List (Nat × X) := [(3, .ptr 3 0 0), (2, .ptr 2 0 0)]
                 let B32 : List (Nat × Bx) := [(3, ⟨0, 0, true, some (encNode0 a1)⟩), (2, ⟨0, 0, true, some (encNode0 a0)⟩)]
                 refine wkr [3, 2] [(3, 3, false), (2, 2, false)] ⟨T32, B32⟩ ?_
                 refine sqr cv hn ?_
                 refine ro9 0 5 5 ⟨(53, zB (a0.fWent != a1.fWent)) :: (52, zI a1.fWent) :: (51, .ptr 3 0 8) :: (50, zI a0.fWent) :: (49, .ptr 2 0 8) :: T32, B32⟩ ?_
                 rcases dich (a0.fWent != a1.fWent) with hb33 | hb33
                 · replace h := cond_t hb33 h
                   refine ct hb33 ?_
                   refine wkr [] [] ⟨[], []⟩ ?_
                   refine sqr cv hn ?_
                   refine ro9 0 1 1 ⟨[(4, zB false)], []⟩ ?_
                   refine runs_ret ?_
                   exact fin _ _ h (by kernel_rfl)
                 · replace h := cond_f hb33 h
                   refine cf hb33 ?_
                   refine runs_skip ?_
                   refine wkr [] [] ⟨[], []⟩ ?_
                   refine sqr cv hn ?_
                   refine ro9 0 1 1 ⟨[(4, zB true)], []⟩ ?_
                   refine runs_ret ?_
                   exact fin _ _ h (by kernel_rfl)

set_option maxRecDepth 100000 in
set_option maxHeartbeats 2000000 in
theorem laws_FnExactWaiting_spec (a0 : SNode) (v0 : Bool) (h : laws_FnExactWaiting a0 = some v0) : Ax.Spec Try.prog 13 none [encNode0 a0] (zB v0 : X) (.junk : X) := by
 refine walk0 (fn := Try.f13) (fun q0 : Bool => (zB q0 : X)) (fun q0 : Bool => (.junk : X)) v0 ⟨[(0, encNode0 a0)], []⟩ Try.func13 rfl (by decide +kernel) fun Γ hn fin => ?_
 rw [laws_FnExactWaiting] at h
 refine sqr cv hn ?_
 refine ro9 0 2 2 ⟨[(2, zB false), (1, .ptr 1 1 0), (0, encNode0 a0)], [(1, ⟨1, 1, true, some (encNode0 a0)⟩)]⟩ ?_
 refine sqr cv hn ?_
 refine ro9 0 1 1 ⟨[(3, zI 1048576), (2, zB false), (1, .ptr 1 1 0), (0, encNode0 a0)], [(1, ⟨1, 1, true, some (encNode0 a0)⟩)]⟩ ?_
 refine sqr cv hn ?_
 refine ro 0 2 2 ⟨[(8, zI 1048576), (7, encNode0 a0), (3, zI 1048576), (2, zB false), (1, .ptr 1 1 0), (0, encNode0 a0)], [(1, ⟨1, 1, true, some (encNode0 a0)⟩)]⟩ ?_
 obtain ⟨v3, hv4, h⟩ := bindO h
 refine rc 2 ⟨[(9, zI v3), (8, zI 1048576), (7, encNode0 a0), (3, zI 1048576), (2, zB false), (1, .ptr 1 1 0), (0, encNode0 a0)], [(1, ⟨1, 1, true, some (encNode0 a0)⟩)]⟩ (laws_szNode_spec a0 1048576 v3 hv4) ?_
 refine ro9 3 1 1 ⟨[(3, zI v3), (9, zI v3), (8, zI 1048576), (7, encNode0 a0), (3, zI 1048576), (2, zB false), (1, .ptr 1 1 0), (0, encNode0 a0)], [(1, ⟨1, 1, true, some (encNode0 a0)⟩)]⟩ ?_
 refine runs_seq ?_
 let B3 : List (Nat × Bx) := [(1, ⟨0, 0, true, some (encNode0 a0)⟩)]
 refine wkr [3, 1] [(1, 1, false)] ⟨[(3, zI v3), (1, .ptr 1 0 0)], B3⟩ ?_
 refine sqr cv hn ?_
 refine ro9 0 2 2 ⟨[(11, zB (decide (v3 < 0))), (10, zI v3), (3, zI v3), (1, .ptr 1 0 0)], B3⟩ ?_
 rcases dich (decide (v3 < 0)) with hb6 | hb6
 · replace h := cond_t hb6 h
   refine ct hb6 ?_
   refine sqr cv hn ?_
   refine ro9 0 1 1 ⟨[(2, zB true), (11, zB (decide (v3 < 0))), (10, zI v3), (3, zI v3), (1, .ptr 1 0 0)], B3⟩ ?_
   refine runs_ret ?_
   exact fin _ _ h (by kernel_rfl)
 · replace h := cond_f hb6 h
   refine cf hb6 ?_
   refine runs_skip ?_
   refine sqr cv hn ?_
   refine ro 0 1 1 ⟨[(12, encNode0 a0), (11, zB (decide (v3 < 0))), (10, zI v3), (3, zI v3), (1, .ptr 1 0 0)], B3⟩ ?_
   obtain ⟨v11, hv12, h⟩ := bindO h
   refine rc 1 ⟨[(13, .agg [zI v11.fId, zI v11.fN, .view 13 1 [] 0, .view 10013 1 [] 0, .view 20013 1 [] 0, .view 30013 1 [] 0, zI v11.fStray, zI v11.fCame, zI v11.fWent]), (12, encNode0 a0), (11, zB (decide (v3 < 0))), (10, zI v3), (3, zI v3), (1, .ptr 1 0 0)], (30013, ⟨1, 1, false, some (.sl 1 (List.map encAcc v11.fAccs))⟩) :: (20013, ⟨1, 1, false, some (.sl 1 (List.map encInt v11.fIns))⟩) :: (10013, ⟨1, 1, false, some (.sl 1 (List.map encOut1 v11.fOuts))⟩) :: (13, ⟨1, 1, false, some (.sl 1 (List.map encAcct1 v11.fAccts))⟩) :: B3⟩ (laws_toNode_spec a0 v11 hv12) ?_
   obtain ⟨v13, hv14, h⟩ := bindO h
   refine rcH 2 [List.map encAcct0 v11.fAccts, List.map encOut0 v11.fOuts, List.map encInt v11.fIns, List.map encAcc v11.fAccs] ⟨[(14, zI v13), (13, .agg [zI v11.fId, zI v11.fN, .view 13 1 [] 0, .view 10013 1 [] 0, .view 20013 1 [] 0, .view 30013 1 [] 0, zI v11.fStray, zI v11.fCame, zI v11.fWent]), (12, encNode0 a0), (11, zB (decide (v3 < 0))), (10, zI v3), (3, zI v3), (1, .ptr 1 0 0)], (30013, ⟨1, 1, false, some (.sl 1 (List.map encAcc v11.fAccs))⟩) :: (20013, ⟨1, 1, false, some (.sl 1 (List.map encInt v11.fIns))⟩) :: (10013, ⟨1, 1, false, some (.sl 1 (List.map encOut1 v11.fOuts))⟩) :: (13, ⟨1, 1, false, some (.sl 1 (List.map encAcct1 v11.fAccts))⟩) :: B3⟩ [X.rds (List.map encAcct1 v11.fAccts) = true, X.roifys (List.map encAcct1 v11.fAccts) = List.map encAcct0 v11.fAccts, X.rds (List.map encOut1 v11.fOuts) = true, X.roifys (List.map encOut1 v11.fOuts) = List.map encOut0 v11.fOuts, X.rds (List.map encInt v11.fIns) = true, X.roifys (List.map encInt v11.fIns) = List.map encInt v11.fIns, X.rds (List.map encAcc v11.fAccs) = true, X.roifys (List.map encAcc v11.fAccs) = List.map encAcc v11.fAccs, rootsBut (cv 56) 0 [.agg [zI v11.fId, zI v11.fN, .view 13 1 [] 0, .view 10013 1 [] 0, .view 20013 1 [] 0, .view 30013 1 [] 0, zI v11.fStray, zI v11.fCame, zI v11.fWent]] = false ∨ (X.noRo (zI v13 : X) = true ∧ X.noRo (.junk : X) = true)] (spec_Waiting_spec v11 v13 hv14) ⟨rds_map rde_Acct _, ro_map ro_Acct _, rds_map rde_Out _, ro_map ro_Out _, rds_map rde_Int _, ro_map ro_Int _, rds_map rde_Acc _, ro_map ro_Acc _, .inr ⟨rfl, rfl⟩, trivial⟩ ?_
   refine ro9 3 1 1 ⟨[(4, zI v13), (14, zI v13), (13, .agg [zI v11.fId, zI v11.fN, .view 13 1 [] 0, .view 10013 1 [] 0, .view 20013 1 [] 0, .view 30013 1 [] 0, zI v11.fStray, zI v11.fCame, zI v11.fWent]), (12, encNode0 a0), (11, zB (decide (v3 < 0))), (10, zI v3), (3, zI v3), (1, .ptr 1 0 0)], (30013, ⟨1, 1, false, some (.sl 1 (List.map encAcc v11.fAccs))⟩) :: (20013, ⟨1, 1, false, some (.sl 1 (List.map encInt v11.fIns))⟩) :: (10013, ⟨1, 1, false, some (.sl 1 (List.map encOut1 v11.fOuts))⟩) :: (13, ⟨1, 1, false, some (.sl 1 (List.map encAcct1 v11.fAccts))⟩) :: B3⟩ ?_
   let B5 : List (Nat × Bx) := [(1, ⟨0, 0, true, some (encNode0 a0)⟩)]
   refine wkr [4, 1] [(1, 1, false)] ⟨[(4, zI v13), (1, .ptr 1 0 0)], B5⟩ ?_
   refine sqr cv hn ?_
   refine ro 0 1 1 ⟨[(15, encNode0 a0), (4, zI v13), (1, .ptr 1 0 0)], B5⟩ ?_
   obtain ⟨v17, hv18, h⟩ := bindO h
   refine rc 1 ⟨[(16, .agg [zI v17.fId, zI v17.fN, .view 16 1 [] 0, .view 10016 1 [] 0, .view 20016 1 [] 0, .view 30016 1 [] 0, zI v17.fStray, zI v17.fCame, zI v17.fWent]), (15, encNode0 a0), (4, zI v13), (1, .ptr 1 0 0)], (30016, ⟨1, 1, false, some (.sl 1 (List.map encAcc v17.fAccs))⟩) :: (20016, ⟨1, 1, false, some (.sl 1 (List.map encInt v17.fIns))⟩) :: (10016, ⟨1, 1, false, some (.sl 1 (List.map encOut1 v17.fOuts))⟩) :: (16, ⟨1, 1, false, some (.sl 1 (List.map encAcct1 v17.fAccts))⟩) :: B5⟩ (laws_toNode_spec a0 v17 hv18) ?_
   refine ro9 2 2 2 ⟨[(5, .ptr 5 1 0), (16, .agg [zI v17.fId, zI v17.fN, .view 16 1 [] 0, .view 10016 1 [] 0, .view 20016 1 [] 0, .view 30016 1 [] 0, zI v17.fStray, zI v17.fCame, zI v17.fWent]), (15, encNode0 a0), (4, zI v13), (1, .ptr 1 0 0)], (5, ⟨1, 2, true, some (encNode1 v17)⟩) :: (30016, ⟨1, 2, false, some (.junk)⟩) :: (20016, ⟨1, 2, false, some (.junk)⟩) :: (10016, ⟨1, 2, false, some (.junk)⟩) :: (16, ⟨1, 2, false, some (.junk)⟩) :: (5, ⟨1, 1, true, some (.agg [zI 0, zI 0, .sl 1 (List.map encAcct1 []), .sl 1 (List.map encOut1 []), .sl 1 (List.map encInt []), .sl 1 (List.map encAcc []), zI 0, zI 0, zI 0])⟩) :: (30016, ⟨1, 1, false, some (.sl 1 (List.map encAcc v17.fAccs))⟩) :: (20016, ⟨1, 1, false, some (.sl 1 (List.map encInt v17.fIns))⟩) :: (10016, ⟨1, 1, false, some (.sl 1 (List.map encOut1 v17.fOuts))⟩) :: (16, ⟨1, 1, false, some (.sl 1 (List.map encAcct1 v17.fAccts))⟩) :: B5⟩ ?_
   let T7 : List (Nat × X) := [(5, .ptr 5 0 0), (4, zI v13), (1, .ptr 1 0 0)]
   let B7 : List (Nat × Bx) := [(5, ⟨0, 0, true, some (encNode1 v17)⟩), (1, ⟨0, 0, true, some (encNode0 a0)⟩)]
   refine wkr [5, 4, 1] [(5, 5, false), (1, 1, false)] ⟨T7, B7⟩ ?_
   refine sqr cv hn ?_
   refine ro 0 1 1 ⟨(17, .agg [zI v17.fId, zI v17.fN, .view 5 0 [] 2, .view 5 0 [] 3, .view 5 0 [] 4, .view 5 0 [] 5, zI v17.fStray, zI v17.fCame, zI v17.fWent]) :: T7, B7⟩ ?_
   obtain ⟨v21, hv22, h⟩ := bindO h
   refine rcH 1 [List.map encAcct0 v17.fAccts, List.map encOut0 v17.fOuts, List.map encInt v17.fIns, List.map encAcc v17.fAccs] ⟨(18, zI v21) :: (17, .agg [zI v17.fId, zI v17.fN, .view 5 0 [] 2, .view 5 0 [] 3, .view 5 0 [] 4, .view 5 0 [] 5, zI v17.fStray, zI v17.fCame, zI v17.fWent]) :: T7, B7⟩ [X.rds (List.map encAcct1 v17.fAccts) = true, X.roifys (List.map encAcct1 v17.fAccts) = List.map encAcct0 v17.fAccts, X.rds (List.map encOut1 v17.fOuts) = true, X.roifys (List.map encOut1 v17.fOuts) = List.map encOut0 v17.fOuts, X.rds (List.map encInt v17.fIns) = true, X.roifys (List.map encInt v17.fIns) = List.map encInt v17.fIns, X.rds (List.map encAcc v17.fAccs) = true, X.roifys (List.map encAcc v17.fAccs) = List.map encAcc v17.fAccs, rootsBut (cv 58) 0 [.agg [zI v17.fId, zI v17.fN, .view 5 0 [] 2, .view 5 0 [] 3, .view 5 0 [] 4, .view 5 0 [] 5, zI v17.fStray, zI v17.fCame, zI v17.fWent]] = false ∨ (X.noRo (zI v21 : X) = true ∧ X.noRo (.junk : X) = true)] (impl_Waiting_spec v17 v21 hv22) ⟨rds_map rde_Acct _, ro_map ro_Acct _, rds_map rde_Out _, ro_map ro_Out _, rds_map rde_Int _, ro_map ro_Int _, rds_map rde_Acc _, ro_map ro_Acc _, .inr ⟨rfl, rfl⟩, trivial⟩ ?_
   refine ro9 2 1 1 ⟨(6, zI v21) :: (18, zI v21) :: (17, .agg [zI v17.fId, zI v17.fN, .view 5 0 [] 2, .view 5 0 [] 3, .view 5 0 [] 4, .view 5 0 [] 5, zI v17.fStray, zI v17.fCame, zI v17.fWent]) :: T7, B7⟩ ?_
   refine runs_seq ?_
   refine sqr cv hn ?_
   refine ro9 0 3 3 ⟨(21, zB (v21 != v13)) :: (20, zI v13) :: (19, zI v21) :: (6, zI v21) :: (18, zI v21) :: (17, .agg [zI v17.fId, zI v17.fN, .view 5 0 [] 2, .view 5 0 [] 3, .view 5 0 [] 4, .view 5 0 [] 5, zI v17.fStray, zI v17.fCame, zI v17.fWent]) :: T7, B7⟩ ?_
   rcases dich (v21 != v13) with hb24 | hb24
   · replace h := cond_t hb24 h
     refine ct hb24 ?_
     let T9 : List (Nat × X) := [(5, .ptr 5 0 0), (1, .ptr 1 0 0)]
     let B9 : List (Nat × Bx) := [(5, ⟨0, 0, true, some (encNode1 v17)⟩), (1, ⟨0, 0, true, some (encNode0 a0)⟩)]
     refine wkr [5, 1] [(5, 5, false), (1, 1, false)] ⟨T9, B9⟩ ?_
     refine sqr cv hn ?_
     refine ro9 0 1 1 ⟨(2, zB false) :: T9, B9⟩ ?_
     refine runs_ret ?_
     exact fin _ _ h (by kernel_rfl)
   · replace h := cond_f hb24 h
     refine cf hb24 ?_
     refine runs_skip ?_
     refine runs_seq ?_
     refine runs_seq ?_
     let T10 : List (Nat × X) := [(5, .ptr 5 0 0), (1, .ptr 1 0 0)]
     let B10 : List (Nat × Bx) := [(5, ⟨0, 0, true, some (encNode1 v17)⟩), (1, ⟨0, 0, true, some (encNode0 a0)⟩)]
     refine wkr [5, 1] [(5, 5, false), (1, 1, false)] ⟨T10, B10⟩ ?_
     refine rgT cv mixed hn ?_
     refine roT 0 2 2 ⟨(23, encNode0 a0) :: (22, .agg [zI v17.fId, zI v17.fN, .view 5 0 [] 2, .view 5 0 [] 3, .view 5 0 [] 4, .view 5 0 [] 5, zI v17.fStray, zI v17.fCame, zI v17.fWent]) :: T10, B10⟩ ?_
     obtain ⟨v25, hv26, h⟩ := bindO h
     refine rcT 2 ⟨(24, .agg [zI v25.fId, zI v25.fN, .view 24 1 [] 0, .view 10024 1 [] 0, .view 20024 1 [] 0, .view 30024 1 [] 0, zI v25.fStray, zI v25.fCame, zI v25.fWent]) :: (23, encNode0 a0) :: (22, .agg [zI v17.fId, zI v17.fN, .view 5 0 [] 2, .view 5 0 [] 3, .view 5 0 [] 4, .view 5 0 [] 5, zI v17.fStray, zI v17.fCame, zI v17.fWent]) :: T10, (30024, ⟨1, 1, false, some (.sl 1 (List.map encAcc v25.fAccs))⟩) :: (20024, ⟨1, 1, false, some (.sl 1 (List.map encInt v25.fIns))⟩) :: (10024, ⟨1, 1, false, some (.sl 1 (List.map encOut1 v25.fOuts))⟩) :: (24, ⟨1, 1, false, some (.sl 1 (List.map encAcct1 v25.fAccts))⟩) :: B10⟩ (laws_toNode_spec a0 v25 hv26) ?_
     obtain ⟨v27, hv28, h⟩ := bindO h
     refine rcHT 3 [List.map encAcct0 v17.fAccts, List.map encOut0 v17.fOuts, List.map encInt v17.fIns, List.map encAcc v17.fAccs, List.map encAcct0 v25.fAccts, List.map encOut0 v25.fOuts, List.map encInt v25.fIns, List.map encAcc v25.fAccs] ⟨(25, zB v27) :: (24, .agg [zI v25.fId, zI v25.fN, .view 24 1 [] 0, .view 10024 1 [] 0, .view 20024 1 [] 0, .view 30024 1 [] 0, zI v25.fStray, zI v25.fCame, zI v25.fWent]) :: (23, encNode0 a0) :: (22, .agg [zI v17.fId, zI v17.fN, .view 5 0 [] 2, .view 5 0 [] 3, .view 5 0 [] 4, .view 5 0 [] 5, zI v17.fStray, zI v17.fCame, zI v17.fWent]) :: T10, (30024, ⟨1, 1, false, some (.sl 1 (List.map encAcc v25.fAccs))⟩) :: (20024, ⟨1, 1, false, some (.sl 1 (List.map encInt v25.fIns))⟩) :: (10024, ⟨1, 1, false, some (.sl 1 (List.map encOut1 v25.fOuts))⟩) :: (24, ⟨1, 1, false, some (.sl 1 (List.map encAcct1 v25.fAccts))⟩) :: B10⟩ [X.rds (List.map encAcct1 v17.fAccts) = true, X.roifys (List.map encAcct1 v17.fAccts) = List.map encAcct0 v17.fAccts, X.rds (List.map encOut1 v17.fOuts) = true, X.roifys (List.map encOut1 v17.fOuts) = List.map encOut0 v17.fOuts, X.rds (List.map encInt v17.fIns) = true, X.roifys (List.map encInt v17.fIns) = List.map encInt v17.fIns, X.rds (List.map encAcc v17.fAccs) = true, X.roifys (List.map encAcc v17.fAccs) = List.map encAcc v17.fAccs, X.rds (List.map encAcct1 v25.fAccts) = true, X.roifys (List.map encAcct1 v25.fAccts) = List.map encAcct0 v25.fAccts, X.rds (List.map encOut1 v25.fOuts) = true, X.roifys (List.map encOut1 v25.fOuts) = List.map encOut0 v25.fOuts, X.rds (List.map encInt v25.fIns) = true, X.roifys (List.map encInt v25.fIns) = List.map encInt v25.fIns, X.rds (List.map encAcc v25.fAccs) = true, X.roifys (List.map encAcc v25.fAccs) = List.map encAcc v25.fAccs, rootsBut (cv 59) 0 [.agg [zI v17.fId, zI v17.fN, .view 5 0 [] 2, .view 5 0 [] 3, .view 5 0 [] 4, .view 5 0 [] 5, zI v17.fStray, zI v17.fCame, zI v17.fWent], .agg [zI v25.fId, zI v25.fN, .view 24 1 [] 0, .view 10024 1 [] 0, .view 20024 1 [] 0, .view 30024 1 [] 0, zI v25.fStray, zI v25.fCame, zI v25.fWent]] = false ∨ (X.noRo (zB v27 : X) = true ∧ X.noRo (.junk : X) = true)] (laws_eqNode_spec v17 v25 v27 hv28) ⟨rds_map rde_Acct _, ro_map ro_Acct _, rds_map rde_Out _, ro_map ro_Out _, rds_map rde_Int _, ro_map ro_Int _, rds_map rde_Acc _, ro_map ro_Acc _, rds_map rde_Acct _, ro_map ro_Acct _, rds_map rde_Out _, ro_map ro_Out _, rds_map rde_Int _, ro_map ro_Int _, rds_map rde_Acc _, ro_map ro_Acc _, .inr ⟨rfl, rfl⟩, trivial⟩ ?_
     refine roT9 4 1 1 ⟨(26, zB (!v27)) :: (25, zB v27) :: (24, .agg [zI v25.fId, zI v25.fN, .view 24 1 [] 0, .view 10024 1 [] 0, .view 20024 1 [] 0, .view 30024 1 [] 0, zI v25.fStray, zI v25.fCame, zI v25.fWent]) :: (23, encNode0 a0) :: (22, .agg [zI v17.fId, zI v17.fN, .view 5 0 [] 2, .view 5 0 [] 3, .view 5 0 [] 4, .view 5 0 [] 5, zI v17.fStray, zI v17.fCame, zI v17.fWent]) :: T10, (30024, ⟨1, 1, false, some (.sl 1 (List.map encAcc v25.fAccs))⟩) :: (20024, ⟨1, 1, false, some (.sl 1 (List.map encInt v25.fIns))⟩) :: (10024, ⟨1, 1, false, some (.sl 1 (List.map encOut1 v25.fOuts))⟩) :: (24, ⟨1, 1, false, some (.sl 1 (List.map encAcct1 v25.fAccts))⟩) :: B10⟩ ?_
     rcases dich (!v27) with hb29 | hb29
     · replace h := cond_t hb29 h
       refine ct hb29 ?_
       refine wkr [] [] ⟨[], []⟩ ?_
       refine sqr cv hn ?_
       refine ro9 0 1 1 ⟨[(2, zB false)], []⟩ ?_
       refine runs_ret ?_
       exact fin _ _ h (by kernel_rfl)
     · replace h := cond_f hb29 h
       refine cf hb29 ?_
       refine runs_skip ?_
       refine wkr [] [] ⟨[], []⟩ ?_
       refine sqr cv hn ?_
       refine ro9 0 1 1 ⟨[(2, zB true)], []⟩ ?_
       refine runs_ret ?_
       exact fin _ _ h (by kernel_rfl)

end Go.Proofs.Ytncjcbdbdocjaaa
