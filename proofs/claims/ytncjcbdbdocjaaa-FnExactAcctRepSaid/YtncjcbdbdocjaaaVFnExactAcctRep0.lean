/- The walks: each Go function answers what its plain function says. -/
import Derived.Test.YtncjcbdbdocjaaaUFnExactAcctRep
import Derived.Test.YtncjcbdbdocjaaaProg
set_option linter.unusedVariables false
namespace Go.Proofs.Ytncjcbdbdocjaaa
open Go Ax
abbrev cv : Nat → Option Nat := fun g => bif g == 82 then some 0 else bif g == 46 then some 0 else bif g == 83 then some 0 else bif g == 40 then some 0 else bif g == 30 then some 0 else bif g == 97 then some 0 else bif g == 98 then some 0 else bif g == 113 then some 0 else bif g == 63 then some 0 else none
theorem mixed : Try.prog.follows .mixedOrders = true := by decide +kernel

set_option maxRecDepth 100000 in
set_option maxHeartbeats 2000000 in
theorem laws_szIntS_spec (a0 : (List Int)) (a1 : Int) (v0 : Int) (h : laws_szIntS a0 a1 = some v0) : Ax.Spec Try.prog 72 none [.sl 0 (List.map encInt a0), zI a1] (zI v0 : X) (.junk : X) := by
 let T1 : List (Nat × X) := [(0, .sl 0 (List.map encInt a0)), (1, zI a1)]
 refine walk0 (fn := Try.f72) (fun q0 : Int => (zI q0 : X)) (fun q0 : Int => (.junk : X)) v0 ⟨T1, []⟩ Try.func72 rfl (by decide +kernel) fun Γ hn fin => ?_
 rw [laws_szIntS] at h
 refine sqr cv hn ?_
 refine ro9 0 1 1 ⟨(4, zI 0) :: T1, []⟩ ?_
 refine sqr cv hn ?_
 refine ro9 0 5 5 ⟨(1, zI (w64 (a1 - (a0.length : Int)))) :: (8, zI (w64 (a1 - (a0.length : Int)))) :: (7, zI (a0.length : Int)) :: (6, .sl 0 (List.map encInt a0)) :: (5, zI a1) :: (4, zI 0) :: T1, []⟩ ?_ (he := by rw [show (a0.length : Int) = ((List.map encInt a0).length : Int) from by rw [List.length_map]]; kernel_rfl)
 refine runs_seq ?_
 let T2 : List (Nat × X) := [(1, zI (w64 (a1 - (a0.length : Int))))]
 refine wkr [1] [] ⟨T2, []⟩ ?_
 refine sqr cv hn ?_
 refine ro9 0 2 2 ⟨(10, zB (decide ((w64 (a1 - (a0.length : Int))) < 0))) :: (9, zI (w64 (a1 - (a0.length : Int)))) :: T2, []⟩ ?_
 rcases dich (decide ((w64 (a1 - (a0.length : Int))) < 0)) with hb1 | hb1
 · replace h := cond_t hb1 h
   refine ct hb1 ?_
   refine sqr cv hn ?_
   refine ro9 0 1 1 ⟨(4, zI (-1)) :: (10, zB (decide ((w64 (a1 - (a0.length : Int))) < 0))) :: (9, zI (w64 (a1 - (a0.length : Int)))) :: T2, []⟩ ?_
   refine runs_ret ?_
   exact fin _ _ h (by kernel_rfl)
 · replace h := cond_f hb1 h
   refine cf hb1 ?_
   refine runs_skip ?_
   refine sqr cv hn ?_
   refine ro9 0 2 2 ⟨(4, zI (w64 (a1 - (a0.length : Int)))) :: (11, zI (w64 (a1 - (a0.length : Int)))) :: (10, zB (decide ((w64 (a1 - (a0.length : Int))) < 0))) :: (9, zI (w64 (a1 - (a0.length : Int)))) :: T2, []⟩ ?_
   refine runs_ret ?_
   exact fin _ _ h (by kernel_rfl)

set_option maxRecDepth 100000 in
set_option maxHeartbeats 2000000 in
theorem laws_szRepS_spec (a0 : (List SRep)) (a1 : Int) (v0 : Int) (h : laws_szRepS a0 a1 = some v0) : Ax.Spec Try.prog 73 none [.sl 0 (List.map encRep a0), zI a1] (zI v0 : X) (.junk : X) := by
 let T1 : List (Nat × X) := [(0, .sl 0 (List.map encRep a0)), (1, zI a1)]
 refine walk0 (fn := Try.f73) (fun q0 : Int => (zI q0 : X)) (fun q0 : Int => (.junk : X)) v0 ⟨T1, []⟩ Try.func73 rfl (by decide +kernel) fun Γ hn fin => ?_
 rw [laws_szRepS] at h
 refine sqr cv hn ?_
 refine ro9 0 1 1 ⟨(4, zI 0) :: T1, []⟩ ?_
 refine sqr cv hn ?_
 refine ro9 0 5 5 ⟨(1, zI (w64 (a1 - (a0.length : Int)))) :: (8, zI (w64 (a1 - (a0.length : Int)))) :: (7, zI (a0.length : Int)) :: (6, .sl 0 (List.map encRep a0)) :: (5, zI a1) :: (4, zI 0) :: T1, []⟩ ?_ (he := by rw [show (a0.length : Int) = ((List.map encRep a0).length : Int) from by rw [List.length_map]]; kernel_rfl)
 refine runs_seq ?_
 let T2 : List (Nat × X) := [(1, zI (w64 (a1 - (a0.length : Int))))]
 refine wkr [1] [] ⟨T2, []⟩ ?_
 refine sqr cv hn ?_
 refine ro9 0 2 2 ⟨(10, zB (decide ((w64 (a1 - (a0.length : Int))) < 0))) :: (9, zI (w64 (a1 - (a0.length : Int)))) :: T2, []⟩ ?_
 rcases dich (decide ((w64 (a1 - (a0.length : Int))) < 0)) with hb1 | hb1
 · replace h := cond_t hb1 h
   refine ct hb1 ?_
   refine sqr cv hn ?_
   refine ro9 0 1 1 ⟨(4, zI (-1)) :: (10, zB (decide ((w64 (a1 - (a0.length : Int))) < 0))) :: (9, zI (w64 (a1 - (a0.length : Int)))) :: T2, []⟩ ?_
   refine runs_ret ?_
   exact fin _ _ h (by kernel_rfl)
 · replace h := cond_f hb1 h
   refine cf hb1 ?_
   refine runs_skip ?_
   refine sqr cv hn ?_
   refine ro9 0 2 2 ⟨(4, zI (w64 (a1 - (a0.length : Int)))) :: (11, zI (w64 (a1 - (a0.length : Int)))) :: (10, zB (decide ((w64 (a1 - (a0.length : Int))) < 0))) :: (9, zI (w64 (a1 - (a0.length : Int)))) :: T2, []⟩ ?_
   refine runs_ret ?_
   exact fin _ _ h (by kernel_rfl)

set_option maxRecDepth 100000 in
set_option maxHeartbeats 2000000 in
theorem laws_szAcct_spec (a0 : SAcct) (a1 : Int) (v0 : Int) (h : laws_szAcct a0 a1 = some v0) : Ax.Spec Try.prog 25 none [encAcct0 a0, zI a1] (zI v0 : X) (.junk : X) := by
 refine walk0 (fn := Try.f25) (fun q0 : Int => (zI q0 : X)) (fun q0 : Int => (.junk : X)) v0 ⟨[(0, encAcct0 a0), (1, zI a1)], []⟩ Try.func25 rfl (by decide +kernel) fun Γ hn fin => ?_
 rw [laws_szAcct] at h
 refine sqr cv hn ?_
 refine ro9 0 2 2 ⟨[(4, zI 0), (2, .ptr 2 1 0), (0, encAcct0 a0), (1, zI a1)], [(2, ⟨1, 1, true, some (encAcct0 a0)⟩)]⟩ ?_
 refine sqr cv hn ?_
 refine ro 0 3 3 ⟨[(7, zI a1), (6, .sl 0 (List.map encInt a0.fMarks)), (5, .ptr 2 1 3), (4, zI 0), (2, .ptr 2 1 0), (0, encAcct0 a0), (1, zI a1)], [(2, ⟨1, 1, true, some (encAcct0 a0)⟩)]⟩ ?_
 obtain ⟨v3, hv4, h⟩ := bindO h
 refine rc 3 ⟨[(8, zI v3), (7, zI a1), (6, .sl 0 (List.map encInt a0.fMarks)), (5, .ptr 2 1 3), (4, zI 0), (2, .ptr 2 1 0), (0, encAcct0 a0), (1, zI a1)], [(2, ⟨1, 1, true, some (encAcct0 a0)⟩)]⟩ (laws_szIntS_spec a0.fMarks a1 v3 hv4) ?_
 refine ro9 4 1 1 ⟨[(1, zI v3), (8, zI v3), (7, zI a1), (6, .sl 0 (List.map encInt a0.fMarks)), (5, .ptr 2 1 3), (4, zI 0), (2, .ptr 2 1 0), (0, encAcct0 a0), (1, zI a1)], [(2, ⟨1, 1, true, some (encAcct0 a0)⟩)]⟩ ?_
 refine runs_seq ?_
 let B3 : List (Nat × Bx) := [(2, ⟨0, 0, true, some (encAcct0 a0)⟩)]
 refine wkr [1, 2] [(2, 2, false)] ⟨[(1, zI v3), (2, .ptr 2 0 0)], B3⟩ ?_
 refine sqr cv hn ?_
 refine ro9 0 2 2 ⟨[(10, zB (decide (v3 < 0))), (9, zI v3), (1, zI v3), (2, .ptr 2 0 0)], B3⟩ ?_
 rcases dich (decide (v3 < 0)) with hb6 | hb6
 · replace h := cond_t hb6 h
   refine ct hb6 ?_
   refine sqr cv hn ?_
   refine ro9 0 1 1 ⟨[(4, zI (-1)), (10, zB (decide (v3 < 0))), (9, zI v3), (1, zI v3), (2, .ptr 2 0 0)], B3⟩ ?_
   refine runs_ret ?_
   exact fin _ _ h (by kernel_rfl)
 · replace h := cond_f hb6 h
   refine cf hb6 ?_
   refine runs_skip ?_
   refine sqr cv hn ?_
   refine ro 0 3 3 ⟨[(13, zI v3), (12, .sl 0 (List.map encRep a0.fReps)), (11, .ptr 2 0 4), (10, zB (decide (v3 < 0))), (9, zI v3), (1, zI v3), (2, .ptr 2 0 0)], B3⟩ ?_
   obtain ⟨v9, hv10, h⟩ := bindO h
   refine rc 3 ⟨[(14, zI v9), (13, zI v3), (12, .sl 0 (List.map encRep a0.fReps)), (11, .ptr 2 0 4), (10, zB (decide (v3 < 0))), (9, zI v3), (1, zI v3), (2, .ptr 2 0 0)], B3⟩ (laws_szRepS_spec a0.fReps v3 v9 hv10) ?_
   refine ro9 4 1 1 ⟨[(1, zI v9), (14, zI v9), (13, zI v3), (12, .sl 0 (List.map encRep a0.fReps)), (11, .ptr 2 0 4), (10, zB (decide (v3 < 0))), (9, zI v3), (1, zI v3), (2, .ptr 2 0 0)], B3⟩ ?_
   refine runs_seq ?_
   refine wkr [1] [] ⟨[(1, zI v9)], []⟩ ?_
   refine sqr cv hn ?_
   refine ro9 0 2 2 ⟨[(16, zB (decide (v9 < 0))), (15, zI v9), (1, zI v9)], []⟩ ?_
   rcases dich (decide (v9 < 0)) with hb11 | hb11
   · replace h := cond_t hb11 h
     refine ct hb11 ?_
     refine sqr cv hn ?_
     refine ro9 0 1 1 ⟨[(4, zI (-1)), (16, zB (decide (v9 < 0))), (15, zI v9), (1, zI v9)], []⟩ ?_
     refine runs_ret ?_
     exact fin _ _ h (by kernel_rfl)
   · replace h := cond_f hb11 h
     refine cf hb11 ?_
     refine runs_skip ?_
     refine sqr cv hn ?_
     refine ro9 0 2 2 ⟨[(4, zI v9), (17, zI v9), (16, zB (decide (v9 < 0))), (15, zI v9), (1, zI v9)], []⟩ ?_
     refine runs_ret ?_
     exact fin _ _ h (by kernel_rfl)

set_option maxRecDepth 100000 in
set_option maxHeartbeats 2000000 in
theorem laws_toIntS_spec (a0 : (List Int)) (v0 : (List Int)) (h : laws_toIntS a0 = some v0) : Ax.Spec Try.prog 76 none [.sl 0 (List.map encInt a0)] (.sl 1 (List.map encInt v0) : X) (.junk : X) := by
 let T1 : List (Nat × X) := [(0, .sl 0 (List.map encInt a0))]
 refine walk0 (fn := Try.f76) (fun q0 : (List Int) => (.sl 1 (List.map encInt q0) : X)) (fun q0 : (List Int) => (.junk : X)) v0 ⟨T1, []⟩ Try.func76 rfl (by decide +kernel) fun Γ hn fin => ?_
 rw [laws_toIntS] at h
 refine sqr cv hn ?_
 refine ro9 0 1 1 ⟨(2, .sc (.slice none 0 0)) :: T1, []⟩ ?_
 refine sqr cv hn ?_
 refine ro 0 2 2 ⟨(6, zI (a0.length : Int)) :: (5, .sl 0 (List.map encInt a0)) :: (2, .sc (.slice none 0 0)) :: T1, []⟩ ?_ (he := by rw [show (a0.length : Int) = ((List.map encInt a0).length : Int) from by rw [List.length_map]]; kernel_rfl)
 obtain ⟨hg2, h⟩ := gO_some h
 refine rs 2 ⟨(7, .view 7 1 [] 0) :: (6, zI (a0.length : Int)) :: (5, .sl 0 (List.map encInt a0)) :: (2, .sc (.slice none 0 0)) :: T1, [(7, ⟨1, 1, false, some (.sl 1 (List.map encInt (List.replicate (Int.toNat (a0.length : Int)) 0)))⟩)]⟩ [((a0.length : Int) : Int) = (a0.length : Int) ∧ 0 ≤ ((a0.length : Int) : Int) ∧ tBytes Try.prog 3 * (Int.toNat (a0.length : Int)) ≤ 140737488355328 ∧ (Int.toNat (a0.length : Int)) ≤ 140737488355328] ⟨⟨rfl, hg2.1, mk_side (by kernel_rfl) hg2.2, hg2.2.2⟩, trivial⟩ ?_ (he := by rw [show List.map encInt (List.replicate (Int.toNat (a0.length : Int)) 0) = List.replicate (Int.toNat (a0.length : Int)) (encInt 0) from List.map_replicate]; kernel_rfl)
 refine ro9 3 1 1 ⟨(3, .view 7 1 [] 0) :: (7, .view 7 1 [] 0) :: (6, zI (a0.length : Int)) :: (5, .sl 0 (List.map encInt a0)) :: (2, .sc (.slice none 0 0)) :: T1, [(7, ⟨1, 1, false, some (.sl 1 (List.map encInt (List.replicate (Int.toNat (a0.length : Int)) 0)))⟩)]⟩ ?_
 refine runs_seq ?_
 refine sqr cv hn ?_
 refine ro9 0 1 1 ⟨(4, zI 0) :: (3, .view 7 1 [] 0) :: (7, .view 7 1 [] 0) :: (6, zI (a0.length : Int)) :: (5, .sl 0 (List.map encInt a0)) :: (2, .sc (.slice none 0 0)) :: T1, [(7, ⟨1, 1, false, some (.sl 1 (List.map encInt (List.replicate (Int.toNat (a0.length : Int)) 0)))⟩)]⟩ ?_
 refine runs_block ?_
 refine runs_loopM (σ := List Int × Nat × (List Int)) (fun s => ⟨[(4, zI (s.2.1 : Int)), (3, .view 5000003 0 [] 0), (0, .sl 0 (List.map encInt a0))], [(5000003, ⟨0, 0, false, some (.sl 1 (List.map encInt s.2.2))⟩)]⟩) (fun s => s.1 = List.drop s.2.1 a0 ∧ laws_toIntS_l1 s.1 s.2.1 s.2.2 = some v0) (fun s => s.1.length) (a0, 0, List.replicate (Int.toNat (a0.length : Int)) 0) ⟨rfl, h⟩ (wre [4, 3, 0] [(5000003, 7, false)]) ?_
 rintro ⟨t1, i1, y12⟩ ⟨hd1, h⟩
 refine seq0 ⟨[(4, zI (i1 : Int)), (3, .view 5000003 0 [] 0), (0, .sl 0 (List.map encInt a0))], [(5000003, ⟨0, 0, false, some (.sl 1 (List.map encInt y12))⟩)]⟩ ?_
 refine runs_len 0 (es := List.map encInt a0) (by kernel_rfl) fun hl1 => ?_
 replace hl1 := len_of_map hl1
 cases t1 with
 | nil =>
   rw [laws_toIntS_l1] at h
   have hLn1 := dnil hd1
   refine runs_seq ?_
   refine sqr cv hn ?_
   refine ro9 0 4 4 ⟨[(11, zB (decide ((i1 : Int) < (a0.length : Int)))), (10, zI (a0.length : Int)), (9, .sl 0 (List.map encInt a0)), (8, zI (i1 : Int)), (4, zI (i1 : Int)), (3, .view 5000003 0 [] 0), (0, .sl 0 (List.map encInt a0))], [(5000003, ⟨0, 0, false, some (.sl 1 (List.map encInt y12))⟩)]⟩ ?_ (he := by rw [show (a0.length : Int) = ((List.map encInt a0).length : Int) from by rw [List.length_map]]; kernel_rfl)
   refine cf hLn1 ?_
   refine runs_exit ?_
   repeat refine thenX_exit ?_
   refine block_here ?_
   let B2 : List (Nat × Bx) := [(5000003, ⟨0, 0, false, some (.sl 1 (List.map encInt y12))⟩)]
   refine wkr [3] [(5000003, 5000003, false)] ⟨[(3, .view 5000003 0 [] 0)], B2⟩ ?_
   refine sqr cv hn ?_
   refine ro9 0 2 2 ⟨[(2, .view 5000003 0 [] 0), (21, .view 5000003 0 [] 0), (3, .view 5000003 0 [] 0)], B2⟩ ?_
   refine runs_ret ?_
   exact fin _ _ h (by kernel_rfl)
 | cons x10 t1 =>
   rw [laws_toIntS_l1] at h
   have hLc1 := dcons hd1
   have hx10 := dget hd1
   have hi1 := dinc hd1 hl1
   refine runs_seq ?_
   refine sqr cv hn ?_
   refine ro9 0 4 4 ⟨[(11, zB (decide ((i1 : Int) < (a0.length : Int)))), (10, zI (a0.length : Int)), (9, .sl 0 (List.map encInt a0)), (8, zI (i1 : Int)), (4, zI (i1 : Int)), (3, .view 5000003 0 [] 0), (0, .sl 0 (List.map encInt a0))], [(5000003, ⟨0, 0, false, some (.sl 1 (List.map encInt y12))⟩)]⟩ ?_ (he := by rw [show (a0.length : Int) = ((List.map encInt a0).length : Int) from by rw [List.length_map]]; kernel_rfl)
   refine ct hLc1 ?_
   refine runs_skip ?_
   refine runs_seq ?_
   refine runs_block ?_
   refine rg cv hn ?_
   refine ro 0 4 4 ⟨[(17, zI (i1 : Int)), (16, .sl 0 (List.map encInt a0)), (15, zI (i1 : Int)), (14, .view 5000003 0 [] 0), (11, zB (decide ((i1 : Int) < (a0.length : Int)))), (10, zI (a0.length : Int)), (9, .sl 0 (List.map encInt a0)), (8, zI (i1 : Int)), (4, zI (i1 : Int)), (3, .view 5000003 0 [] 0), (0, .sl 0 (List.map encInt a0))], [(5000003, ⟨0, 0, false, some (.sl 1 (List.map encInt y12))⟩)]⟩ ?_
   refine rix 4 encInt 3 hx10 (ix_nn hx10) ⟨[(18, .rp (zI x10) 0), (17, zI (i1 : Int)), (16, .sl 0 (List.map encInt a0)), (15, zI (i1 : Int)), (14, .view 5000003 0 [] 0), (11, zB (decide ((i1 : Int) < (a0.length : Int)))), (10, zI (a0.length : Int)), (9, .sl 0 (List.map encInt a0)), (8, zI (i1 : Int)), (4, zI (i1 : Int)), (3, .view 5000003 0 [] 0), (0, .sl 0 (List.map encInt a0))], [(5000003, ⟨0, 0, false, some (.sl 1 (List.map encInt y12))⟩)]⟩ ?_
   refine ro 5 1 1 ⟨[(19, zI x10), (18, .rp (zI x10) 0), (17, zI (i1 : Int)), (16, .sl 0 (List.map encInt a0)), (15, zI (i1 : Int)), (14, .view 5000003 0 [] 0), (11, zB (decide ((i1 : Int) < (a0.length : Int)))), (10, zI (a0.length : Int)), (9, .sl 0 (List.map encInt a0)), (8, zI (i1 : Int)), (4, zI (i1 : Int)), (3, .view 5000003 0 [] 0), (0, .sl 0 (List.map encInt a0))], [(5000003, ⟨0, 0, false, some (.sl 1 (List.map encInt y12))⟩)]⟩ ?_
   obtain ⟨x21, hx22, h⟩ := bindO h
   refine rix 6 encInt 3 hx22 (ix_nn hx22) ⟨[(20, .ep 5000003 0 [(0, (Int.toNat (i1 : Int)))] 0), (19, zI x10), (18, .rp (zI x10) 0), (17, zI (i1 : Int)), (16, .sl 0 (List.map encInt a0)), (15, zI (i1 : Int)), (14, .view 5000003 0 [] 0), (11, zB (decide ((i1 : Int) < (a0.length : Int)))), (10, zI (a0.length : Int)), (9, .sl 0 (List.map encInt a0)), (8, zI (i1 : Int)), (4, zI (i1 : Int)), (3, .view 5000003 0 [] 0), (0, .sl 0 (List.map encInt a0))], [(5000003, ⟨0, 0, false, some (.sl 1 (List.map encInt y12))⟩)]⟩ ?_
   refine ra 7 (zI x21 : X) (.sl 1 (List.map encInt (List.set y12 (Int.toNat (i1 : Int)) x10)) : X) ⟨[(20, .ep 5000003 0 [(0, (Int.toNat (i1 : Int)))] 0), (19, zI x10), (18, .rp (zI x10) 0), (17, zI (i1 : Int)), (16, .sl 0 (List.map encInt a0)), (15, zI (i1 : Int)), (14, .view 5000003 0 [] 0), (11, zB (decide ((i1 : Int) < (a0.length : Int)))), (10, zI (a0.length : Int)), (9, .sl 0 (List.map encInt a0)), (8, zI (i1 : Int)), (4, zI (i1 : Int)), (3, .view 5000003 0 [] 0), (0, .sl 0 (List.map encInt a0))], [(5000003, ⟨0, 0, false, some (.sl 1 (List.map encInt (List.set y12 (Int.toNat (i1 : Int)) x10)))⟩), (5000003, ⟨0, 0, false, some (.sl 1 (List.map encInt y12))⟩)]⟩ [X.nav (.sl 1 (List.map encInt y12) : X) [(0, (Int.toNat (i1 : Int)))] = some (zI x21 : X), X.upd false (.sl 1 (List.map encInt y12) : X) [(0, (Int.toNat (i1 : Int)))] (X.puts · 0 [zI x10]) = (.sl 1 (List.map encInt (List.set y12 (Int.toNat (i1 : Int)) x10)) : X)] ⟨nav_one (f := encInt) (t := 0) (by kernel_rfl) hx22, Eq.trans (upd_one (f := encInt) (v := x10) (t := 0) (by kernel_rfl) hx22 (by kernel_rfl)) (by kernel_rfl), trivial⟩ ?_
   refine re0 8 ?_
   refine rg cv hn ?_
   refine ro9 0 3 3 ⟨[(4, zI ((i1 + 1 : Nat) : Int)), (13, zI ((i1 + 1 : Nat) : Int)), (12, zI (i1 : Int)), (20, .ep 5000003 0 [(0, (Int.toNat (i1 : Int)))] 0), (19, zI x10), (18, .rp (zI x10) 0), (17, zI (i1 : Int)), (16, .sl 0 (List.map encInt a0)), (15, zI (i1 : Int)), (14, .view 5000003 0 [] 0), (11, zB (decide ((i1 : Int) < (a0.length : Int)))), (10, zI (a0.length : Int)), (9, .sl 0 (List.map encInt a0)), (8, zI (i1 : Int)), (4, zI (i1 : Int)), (3, .view 5000003 0 [] 0), (0, .sl 0 (List.map encInt a0))], [(5000003, ⟨0, 0, false, some (.sl 1 (List.map encInt (List.set y12 (Int.toNat (i1 : Int)) x10)))⟩), (5000003, ⟨0, 0, false, some (.sl 1 (List.map encInt y12))⟩)]⟩ ?_ (he := by rw [← hi1]; kernel_rfl)
   exact ⟨(t1, i1 + 1, List.set y12 (Int.toNat (i1 : Int)) x10), Nat.lt_succ_self _, ⟨dnext hd1, h⟩, wre [4, 3, 0] [(5000003, 5000003, false)]⟩

set_option maxRecDepth 100000 in
set_option maxHeartbeats 2000000 in
theorem laws_toRep_spec (a0 : SRep) (v0 : SRep) (h : laws_toRep a0 = some v0) : Ax.Spec Try.prog 115 none [encRep a0] (encRep v0 : X) (.junk : X) := by
 refine walk0 (fn := Try.f115) (fun q0 : SRep => (encRep q0 : X)) (fun q0 : SRep => (.junk : X)) v0 ⟨[(0, encRep a0)], []⟩ Try.func115 rfl (by decide +kernel) fun Γ hn fin => ?_
 rw [laws_toRep] at h
 refine sqr cv hn ?_
 refine ro9 0 2 2 ⟨[(2, .ptr 2 1 0), (1, .ptr 1 1 0), (0, encRep a0)], [(2, ⟨1, 1, true, some (.agg [zI 0, zI 0])⟩), (1, ⟨1, 1, true, some (encRep a0)⟩)]⟩ ?_
 refine sqr cv hn ?_
 refine ro9 0 1 1 ⟨[(3, .ptr 3 1 0), (2, .ptr 2 1 0), (1, .ptr 1 1 0), (0, encRep a0)], [(3, ⟨1, 1, true, some (.agg [zI 0, zI 0])⟩), (2, ⟨1, 1, true, some (.agg [zI 0, zI 0])⟩), (1, ⟨1, 1, true, some (encRep a0)⟩)]⟩ ?_
 refine sqr cv hn ?_
 refine ro9 0 4 4 ⟨[(6, .ptr 3 1 0), (5, zI a0.fNode), (4, .ptr 1 1 0), (3, .ptr 3 1 0), (2, .ptr 2 1 0), (1, .ptr 1 1 0), (0, encRep a0)], [(3, ⟨1, 1, true, some (.agg [zI a0.fNode, zI 0])⟩), (3, ⟨1, 1, true, some (.agg [zI 0, zI 0])⟩), (2, ⟨1, 1, true, some (.agg [zI 0, zI 0])⟩), (1, ⟨1, 1, true, some (encRep a0)⟩)]⟩ ?_
 refine sqr cv hn ?_
 refine ro9 0 4 4 ⟨[(9, .ptr 3 1 1), (8, zI a0.fAmt), (7, .ptr 1 1 1), (6, .ptr 3 1 0), (5, zI a0.fNode), (4, .ptr 1 1 0), (3, .ptr 3 1 0), (2, .ptr 2 1 0), (1, .ptr 1 1 0), (0, encRep a0)], [(3, ⟨1, 1, true, some (encRep a0)⟩), (3, ⟨1, 1, true, some (.agg [zI a0.fNode, zI 0])⟩), (3, ⟨1, 1, true, some (.agg [zI 0, zI 0])⟩), (2, ⟨1, 1, true, some (.agg [zI 0, zI 0])⟩), (1, ⟨1, 1, true, some (encRep a0)⟩)]⟩ ?_
 let T2 : List (Nat × X) := [(3, .ptr 3 0 0), (2, .ptr 2 0 0)]
 let B2 : List (Nat × Bx) := [(3, ⟨0, 0, true, some (encRep a0)⟩), (2, ⟨0, 0, true, some (.agg [zI 0, zI 0])⟩)]
 refine wkr [3, 2] [(3, 3, false), (2, 2, false)] ⟨T2, B2⟩ ?_
 refine sqr cv hn ?_
 refine ro9 0 2 2 ⟨(10, encRep a0) :: T2, (2, ⟨0, 0, true, some (encRep a0)⟩) :: B2⟩ ?_
 refine runs_ret ?_
 exact fin _ _ h (by kernel_rfl)

set_option maxRecDepth 100000 in
set_option maxHeartbeats 2000000 in
theorem laws_toRepS_spec (a0 : (List SRep)) (v0 : (List SRep)) (h : laws_toRepS a0 = some v0) : Ax.Spec Try.prog 77 none [.sl 0 (List.map encRep a0)] (.sl 1 (List.map encRep v0) : X) (.junk : X) := by
 let T1 : List (Nat × X) := [(0, .sl 0 (List.map encRep a0))]
 refine walk0 (fn := Try.f77) (fun q0 : (List SRep) => (.sl 1 (List.map encRep q0) : X)) (fun q0 : (List SRep) => (.junk : X)) v0 ⟨T1, []⟩ Try.func77 rfl (by decide +kernel) fun Γ hn fin => ?_
 rw [laws_toRepS] at h
 refine sqr cv hn ?_
 refine ro9 0 1 1 ⟨(2, .sc (.slice none 0 0)) :: T1, []⟩ ?_
 refine sqr cv hn ?_
 refine ro 0 2 2 ⟨(6, zI (a0.length : Int)) :: (5, .sl 0 (List.map encRep a0)) :: (2, .sc (.slice none 0 0)) :: T1, []⟩ ?_ (he := by rw [show (a0.length : Int) = ((List.map encRep a0).length : Int) from by rw [List.length_map]]; kernel_rfl)
 obtain ⟨hg2, h⟩ := gO_some h
 refine rs 2 ⟨(7, .view 7 1 [] 0) :: (6, zI (a0.length : Int)) :: (5, .sl 0 (List.map encRep a0)) :: (2, .sc (.slice none 0 0)) :: T1, [(7, ⟨1, 1, false, some (.sl 1 (List.map encRep (List.replicate (Int.toNat (a0.length : Int)) (SRep.mk 0 0))))⟩)]⟩ [((a0.length : Int) : Int) = (a0.length : Int) ∧ 0 ≤ ((a0.length : Int) : Int) ∧ tBytes Try.prog 119 * (Int.toNat (a0.length : Int)) ≤ 140737488355328 ∧ (Int.toNat (a0.length : Int)) ≤ 140737488355328] ⟨⟨rfl, hg2.1, mk_side (by kernel_rfl) hg2.2, hg2.2.2⟩, trivial⟩ ?_ (he := by rw [show List.map encRep (List.replicate (Int.toNat (a0.length : Int)) (SRep.mk 0 0)) = List.replicate (Int.toNat (a0.length : Int)) (encRep (SRep.mk 0 0)) from List.map_replicate]; kernel_rfl)
 refine ro9 3 1 1 ⟨(3, .view 7 1 [] 0) :: (7, .view 7 1 [] 0) :: (6, zI (a0.length : Int)) :: (5, .sl 0 (List.map encRep a0)) :: (2, .sc (.slice none 0 0)) :: T1, [(7, ⟨1, 1, false, some (.sl 1 (List.map encRep (List.replicate (Int.toNat (a0.length : Int)) (SRep.mk 0 0))))⟩)]⟩ ?_
 refine runs_seq ?_
 refine sqr cv hn ?_
 refine ro9 0 1 1 ⟨(4, zI 0) :: (3, .view 7 1 [] 0) :: (7, .view 7 1 [] 0) :: (6, zI (a0.length : Int)) :: (5, .sl 0 (List.map encRep a0)) :: (2, .sc (.slice none 0 0)) :: T1, [(7, ⟨1, 1, false, some (.sl 1 (List.map encRep (List.replicate (Int.toNat (a0.length : Int)) (SRep.mk 0 0))))⟩)]⟩ ?_
 refine runs_block ?_
 refine runs_loopM (σ := List SRep × Nat × (List SRep)) (fun s => ⟨[(4, zI (s.2.1 : Int)), (3, .view 5000003 0 [] 0), (0, .sl 0 (List.map encRep a0))], [(5000003, ⟨0, 0, false, some (.sl 1 (List.map encRep s.2.2))⟩)]⟩) (fun s => s.1 = List.drop s.2.1 a0 ∧ laws_toRepS_l1 s.1 s.2.1 s.2.2 = some v0) (fun s => s.1.length) (a0, 0, List.replicate (Int.toNat (a0.length : Int)) (SRep.mk 0 0)) ⟨rfl, h⟩ (wre [4, 3, 0] [(5000003, 7, false)]) ?_
 rintro ⟨t1, i1, y14⟩ ⟨hd1, h⟩
 refine seq0 ⟨[(4, zI (i1 : Int)), (3, .view 5000003 0 [] 0), (0, .sl 0 (List.map encRep a0))], [(5000003, ⟨0, 0, false, some (.sl 1 (List.map encRep y14))⟩)]⟩ ?_
 refine runs_len 0 (es := List.map encRep a0) (by kernel_rfl) fun hl1 => ?_
 replace hl1 := len_of_map hl1
 cases t1 with
 | nil =>
   rw [laws_toRepS_l1] at h
   have hLn1 := dnil hd1
   refine runs_seq ?_
   refine sqr cv hn ?_
   refine ro9 0 4 4 ⟨[(11, zB (decide ((i1 : Int) < (a0.length : Int)))), (10, zI (a0.length : Int)), (9, .sl 0 (List.map encRep a0)), (8, zI (i1 : Int)), (4, zI (i1 : Int)), (3, .view 5000003 0 [] 0), (0, .sl 0 (List.map encRep a0))], [(5000003, ⟨0, 0, false, some (.sl 1 (List.map encRep y14))⟩)]⟩ ?_ (he := by rw [show (a0.length : Int) = ((List.map encRep a0).length : Int) from by rw [List.length_map]]; kernel_rfl)
   refine cf hLn1 ?_
   refine runs_exit ?_
   repeat refine thenX_exit ?_
   refine block_here ?_
   let B2 : List (Nat × Bx) := [(5000003, ⟨0, 0, false, some (.sl 1 (List.map encRep y14))⟩)]
   refine wkr [3] [(5000003, 5000003, false)] ⟨[(3, .view 5000003 0 [] 0)], B2⟩ ?_
   refine sqr cv hn ?_
   refine ro9 0 2 2 ⟨[(2, .view 5000003 0 [] 0), (22, .view 5000003 0 [] 0), (3, .view 5000003 0 [] 0)], B2⟩ ?_
   refine runs_ret ?_
   exact fin _ _ h (by kernel_rfl)
 | cons x10 t1 =>
   rw [laws_toRepS_l1] at h
   have hLc1 := dcons hd1
   have hx10 := dget hd1
   have hi1 := dinc hd1 hl1
   refine runs_seq ?_
   refine sqr cv hn ?_
   refine ro9 0 4 4 ⟨[(11, zB (decide ((i1 : Int) < (a0.length : Int)))), (10, zI (a0.length : Int)), (9, .sl 0 (List.map encRep a0)), (8, zI (i1 : Int)), (4, zI (i1 : Int)), (3, .view 5000003 0 [] 0), (0, .sl 0 (List.map encRep a0))], [(5000003, ⟨0, 0, false, some (.sl 1 (List.map encRep y14))⟩)]⟩ ?_ (he := by rw [show (a0.length : Int) = ((List.map encRep a0).length : Int) from by rw [List.length_map]]; kernel_rfl)
   refine ct hLc1 ?_
   refine runs_skip ?_
   refine runs_seq ?_
   refine runs_block ?_
   refine rg cv hn ?_
   refine ro 0 4 4 ⟨[(17, zI (i1 : Int)), (16, .sl 0 (List.map encRep a0)), (15, zI (i1 : Int)), (14, .view 5000003 0 [] 0), (11, zB (decide ((i1 : Int) < (a0.length : Int)))), (10, zI (a0.length : Int)), (9, .sl 0 (List.map encRep a0)), (8, zI (i1 : Int)), (4, zI (i1 : Int)), (3, .view 5000003 0 [] 0), (0, .sl 0 (List.map encRep a0))], [(5000003, ⟨0, 0, false, some (.sl 1 (List.map encRep y14))⟩)]⟩ ?_
   refine rix 4 encRep 136 hx10 (ix_nn hx10) ⟨[(18, .rp (encRep x10) 0), (17, zI (i1 : Int)), (16, .sl 0 (List.map encRep a0)), (15, zI (i1 : Int)), (14, .view 5000003 0 [] 0), (11, zB (decide ((i1 : Int) < (a0.length : Int)))), (10, zI (a0.length : Int)), (9, .sl 0 (List.map encRep a0)), (8, zI (i1 : Int)), (4, zI (i1 : Int)), (3, .view 5000003 0 [] 0), (0, .sl 0 (List.map encRep a0))], [(5000003, ⟨0, 0, false, some (.sl 1 (List.map encRep y14))⟩)]⟩ ?_
   refine ro 5 1 1 ⟨[(19, encRep x10), (18, .rp (encRep x10) 0), (17, zI (i1 : Int)), (16, .sl 0 (List.map encRep a0)), (15, zI (i1 : Int)), (14, .view 5000003 0 [] 0), (11, zB (decide ((i1 : Int) < (a0.length : Int)))), (10, zI (a0.length : Int)), (9, .sl 0 (List.map encRep a0)), (8, zI (i1 : Int)), (4, zI (i1 : Int)), (3, .view 5000003 0 [] 0), (0, .sl 0 (List.map encRep a0))], [(5000003, ⟨0, 0, false, some (.sl 1 (List.map encRep y14))⟩)]⟩ ?_
   obtain ⟨v25, hv26, h⟩ := bindO h
   refine rc 6 ⟨[(20, encRep v25), (19, encRep x10), (18, .rp (encRep x10) 0), (17, zI (i1 : Int)), (16, .sl 0 (List.map encRep a0)), (15, zI (i1 : Int)), (14, .view 5000003 0 [] 0), (11, zB (decide ((i1 : Int) < (a0.length : Int)))), (10, zI (a0.length : Int)), (9, .sl 0 (List.map encRep a0)), (8, zI (i1 : Int)), (4, zI (i1 : Int)), (3, .view 5000003 0 [] 0), (0, .sl 0 (List.map encRep a0))], [(5000003, ⟨0, 0, false, some (.sl 1 (List.map encRep y14))⟩)]⟩ (laws_toRep_spec x10 v25 hv26) ?_
   obtain ⟨x27, hx28, h⟩ := bindO h
   refine rix 7 encRep 119 hx28 (ix_nn hx28) ⟨[(21, .ep 5000003 0 [(0, (Int.toNat (i1 : Int)))] 0), (20, encRep v25), (19, encRep x10), (18, .rp (encRep x10) 0), (17, zI (i1 : Int)), (16, .sl 0 (List.map encRep a0)), (15, zI (i1 : Int)), (14, .view 5000003 0 [] 0), (11, zB (decide ((i1 : Int) < (a0.length : Int)))), (10, zI (a0.length : Int)), (9, .sl 0 (List.map encRep a0)), (8, zI (i1 : Int)), (4, zI (i1 : Int)), (3, .view 5000003 0 [] 0), (0, .sl 0 (List.map encRep a0))], [(5000003, ⟨0, 0, false, some (.sl 1 (List.map encRep y14))⟩)]⟩ ?_
   refine ra 8 (encRep x27 : X) (.sl 1 (List.map encRep (List.set y14 (Int.toNat (i1 : Int)) v25)) : X) ⟨[(21, .ep 5000003 0 [(0, (Int.toNat (i1 : Int)))] 0), (20, encRep v25), (19, encRep x10), (18, .rp (encRep x10) 0), (17, zI (i1 : Int)), (16, .sl 0 (List.map encRep a0)), (15, zI (i1 : Int)), (14, .view 5000003 0 [] 0), (11, zB (decide ((i1 : Int) < (a0.length : Int)))), (10, zI (a0.length : Int)), (9, .sl 0 (List.map encRep a0)), (8, zI (i1 : Int)), (4, zI (i1 : Int)), (3, .view 5000003 0 [] 0), (0, .sl 0 (List.map encRep a0))], [(5000003, ⟨0, 0, false, some (.sl 1 (List.map encRep (List.set y14 (Int.toNat (i1 : Int)) v25)))⟩), (5000003, ⟨0, 0, false, some (.sl 1 (List.map encRep y14))⟩)]⟩ [X.nav (.sl 1 (List.map encRep y14) : X) [(0, (Int.toNat (i1 : Int)))] = some (encRep x27 : X), X.upd false (.sl 1 (List.map encRep y14) : X) [(0, (Int.toNat (i1 : Int)))] (X.puts · 0 [zI v25.fNode, zI v25.fAmt]) = (.sl 1 (List.map encRep (List.set y14 (Int.toNat (i1 : Int)) v25)) : X)] ⟨nav_one (f := encRep) (t := 0) (by kernel_rfl) hx28, Eq.trans (upd_one (f := encRep) (v := v25) (t := 0) (by kernel_rfl) hx28 (by kernel_rfl)) (by kernel_rfl), trivial⟩ ?_
   refine re0 9 ?_
   refine rg cv hn ?_
   refine ro9 0 3 3 ⟨[(4, zI ((i1 + 1 : Nat) : Int)), (13, zI ((i1 + 1 : Nat) : Int)), (12, zI (i1 : Int)), (21, .ep 5000003 0 [(0, (Int.toNat (i1 : Int)))] 0), (20, encRep v25), (19, encRep x10), (18, .rp (encRep x10) 0), (17, zI (i1 : Int)), (16, .sl 0 (List.map encRep a0)), (15, zI (i1 : Int)), (14, .view 5000003 0 [] 0), (11, zB (decide ((i1 : Int) < (a0.length : Int)))), (10, zI (a0.length : Int)), (9, .sl 0 (List.map encRep a0)), (8, zI (i1 : Int)), (4, zI (i1 : Int)), (3, .view 5000003 0 [] 0), (0, .sl 0 (List.map encRep a0))], [(5000003, ⟨0, 0, false, some (.sl 1 (List.map encRep (List.set y14 (Int.toNat (i1 : Int)) v25)))⟩), (5000003, ⟨0, 0, false, some (.sl 1 (List.map encRep y14))⟩)]⟩ ?_ (he := by rw [← hi1]; kernel_rfl)
   exact ⟨(t1, i1 + 1, List.set y14 (Int.toNat (i1 : Int)) v25), Nat.lt_succ_self _, ⟨dnext hd1, h⟩, wre [4, 3, 0] [(5000003, 5000003, false)]⟩

set_option maxRecDepth 100000 in
set_option maxHeartbeats 2000000 in
theorem laws_toAcct_spec (a0 : SAcct) (v0 : SAcct) (h : laws_toAcct a0 = some v0) : Ax.Spec Try.prog 27 none [encAcct0 a0] (encAcct1 v0 : X) (.junk : X) := by
 refine walk0 (fn := Try.f27) (fun q0 : SAcct => (encAcct1 q0 : X)) (fun q0 : SAcct => (.junk : X)) v0 ⟨[(0, encAcct0 a0)], []⟩ Try.func27 rfl (by decide +kernel) fun Γ hn fin => ?_
 rw [laws_toAcct] at h
 refine sqr cv hn ?_
 refine ro9 0 2 2 ⟨[(2, .ptr 2 1 0), (1, .ptr 1 1 0), (0, encAcct0 a0)], [(2, ⟨1, 1, true, some (.agg [zI 0, zI 0, zI 0, .sl 1 (List.map encInt []), .sl 1 (List.map encRep [])])⟩), (1, ⟨1, 1, true, some (encAcct0 a0)⟩)]⟩ ?_
 refine sqr cv hn ?_
 refine ro9 0 1 1 ⟨[(3, .ptr 3 1 0), (2, .ptr 2 1 0), (1, .ptr 1 1 0), (0, encAcct0 a0)], [(3, ⟨1, 1, true, some (.agg [zI 0, zI 0, zI 0, .sl 1 (List.map encInt []), .sl 1 (List.map encRep [])])⟩), (2, ⟨1, 1, true, some (.agg [zI 0, zI 0, zI 0, .sl 1 (List.map encInt []), .sl 1 (List.map encRep [])])⟩), (1, ⟨1, 1, true, some (encAcct0 a0)⟩)]⟩ ?_
 refine sqr cv hn ?_
 refine ro9 0 4 4 ⟨[(6, .ptr 3 1 0), (5, zI a0.fHave), (4, .ptr 1 1 0), (3, .ptr 3 1 0), (2, .ptr 2 1 0), (1, .ptr 1 1 0), (0, encAcct0 a0)], [(3, ⟨1, 1, true, some (.agg [zI a0.fHave, zI 0, zI 0, .sl 1 (List.map encInt []), .sl 1 (List.map encRep [])])⟩), (3, ⟨1, 1, true, some (.agg [zI 0, zI 0, zI 0, .sl 1 (List.map encInt []), .sl 1 (List.map encRep [])])⟩), (2, ⟨1, 1, true, some (.agg [zI 0, zI 0, zI 0, .sl 1 (List.map encInt []), .sl 1 (List.map encRep [])])⟩), (1, ⟨1, 1, true, some (encAcct0 a0)⟩)]⟩ ?_
 refine sqr cv hn ?_
 refine ro9 0 4 4 ⟨[(9, .ptr 3 1 1), (8, zI a0.fState), (7, .ptr 1 1 1), (6, .ptr 3 1 0), (5, zI a0.fHave), (4, .ptr 1 1 0), (3, .ptr 3 1 0), (2, .ptr 2 1 0), (1, .ptr 1 1 0), (0, encAcct0 a0)], [(3, ⟨1, 1, true, some (.agg [zI a0.fHave, zI a0.fState, zI 0, .sl 1 (List.map encInt []), .sl 1 (List.map encRep [])])⟩), (3, ⟨1, 1, true, some (.agg [zI a0.fHave, zI 0, zI 0, .sl 1 (List.map encInt []), .sl 1 (List.map encRep [])])⟩), (3, ⟨1, 1, true, some (.agg [zI 0, zI 0, zI 0, .sl 1 (List.map encInt []), .sl 1 (List.map encRep [])])⟩), (2, ⟨1, 1, true, some (.agg [zI 0, zI 0, zI 0, .sl 1 (List.map encInt []), .sl 1 (List.map encRep [])])⟩), (1, ⟨1, 1, true, some (encAcct0 a0)⟩)]⟩ ?_
 let T3 : List (Nat × X) := [(3, .ptr 3 0 0), (2, .ptr 2 0 0), (1, .ptr 1 0 0)]
 let B3 : List (Nat × Bx) := [(3, ⟨0, 0, true, some (.agg [zI a0.fHave, zI a0.fState, zI 0, .sl 1 (List.map encInt []), .sl 1 (List.map encRep [])])⟩), (2, ⟨0, 0, true, some (.agg [zI 0, zI 0, zI 0, .sl 1 (List.map encInt []), .sl 1 (List.map encRep [])])⟩), (1, ⟨0, 0, true, some (encAcct0 a0)⟩)]
 refine wkr [3, 2, 1] [(3, 3, false), (2, 2, false), (1, 1, false)] ⟨T3, B3⟩ ?_
 refine sqr cv hn ?_
 refine ro9 0 4 4 ⟨(12, .ptr 3 0 2) :: (11, zI a0.fBy) :: (10, .ptr 1 0 2) :: T3, (3, ⟨0, 0, true, some (.agg [zI a0.fHave, zI a0.fState, zI a0.fBy, .sl 1 (List.map encInt []), .sl 1 (List.map encRep [])])⟩) :: B3⟩ ?_
 refine sqr cv hn ?_
 refine ro 0 2 2 ⟨(14, .sl 0 (List.map encInt a0.fMarks)) :: (13, .ptr 1 0 3) :: (12, .ptr 3 0 2) :: (11, zI a0.fBy) :: (10, .ptr 1 0 2) :: T3, (3, ⟨0, 0, true, some (.agg [zI a0.fHave, zI a0.fState, zI a0.fBy, .sl 1 (List.map encInt []), .sl 1 (List.map encRep [])])⟩) :: B3⟩ ?_
 obtain ⟨v3, hv4, h⟩ := bindO h
 refine rc 2 ⟨(15, .view 15 1 [] 0) :: (14, .sl 0 (List.map encInt a0.fMarks)) :: (13, .ptr 1 0 3) :: (12, .ptr 3 0 2) :: (11, zI a0.fBy) :: (10, .ptr 1 0 2) :: T3, (15, ⟨1, 1, false, some (.sl 1 (List.map encInt v3))⟩) :: (3, ⟨0, 0, true, some (.agg [zI a0.fHave, zI a0.fState, zI a0.fBy, .sl 1 (List.map encInt []), .sl 1 (List.map encRep [])])⟩) :: B3⟩ (laws_toIntS_spec a0.fMarks v3 hv4) ?_
 refine ro9 3 2 2 ⟨(16, .ptr 3 0 3) :: (15, .view 15 1 [] 0) :: (14, .sl 0 (List.map encInt a0.fMarks)) :: (13, .ptr 1 0 3) :: (12, .ptr 3 0 2) :: (11, zI a0.fBy) :: (10, .ptr 1 0 2) :: T3, (3, ⟨0, 1, true, some (.agg [zI a0.fHave, zI a0.fState, zI a0.fBy, .sl 1 (List.map encInt v3), .sl 1 (List.map encRep [])])⟩) :: (15, ⟨1, 2, false, some (.junk)⟩) :: (15, ⟨1, 1, false, some (.sl 1 (List.map encInt v3))⟩) :: (3, ⟨0, 0, true, some (.agg [zI a0.fHave, zI a0.fState, zI a0.fBy, .sl 1 (List.map encInt []), .sl 1 (List.map encRep [])])⟩) :: B3⟩ ?_
 let T4 : List (Nat × X) := [(3, .ptr 3 0 0), (2, .ptr 2 0 0), (1, .ptr 1 0 0)]
 let B4 : List (Nat × Bx) := [(3, ⟨0, 0, true, some (.agg [zI a0.fHave, zI a0.fState, zI a0.fBy, .sl 1 (List.map encInt v3), .sl 1 (List.map encRep [])])⟩), (2, ⟨0, 0, true, some (.agg [zI 0, zI 0, zI 0, .sl 1 (List.map encInt []), .sl 1 (List.map encRep [])])⟩), (1, ⟨0, 0, true, some (encAcct0 a0)⟩)]
 refine wkr [3, 2, 1] [(3, 3, false), (2, 2, false), (1, 1, false)] ⟨T4, B4⟩ ?_
 refine sqr cv hn ?_
 refine ro 0 2 2 ⟨(18, .sl 0 (List.map encRep a0.fReps)) :: (17, .ptr 1 0 4) :: T4, B4⟩ ?_
 obtain ⟨v5, hv6, h⟩ := bindO h
 refine rc 2 ⟨(19, .view 19 1 [] 0) :: (18, .sl 0 (List.map encRep a0.fReps)) :: (17, .ptr 1 0 4) :: T4, (19, ⟨1, 1, false, some (.sl 1 (List.map encRep v5))⟩) :: B4⟩ (laws_toRepS_spec a0.fReps v5 hv6) ?_
 refine ro9 3 2 2 ⟨(20, .ptr 3 0 4) :: (19, .view 19 1 [] 0) :: (18, .sl 0 (List.map encRep a0.fReps)) :: (17, .ptr 1 0 4) :: T4, (3, ⟨0, 1, true, some (.agg [zI a0.fHave, zI a0.fState, zI a0.fBy, .sl 1 (List.map encInt v3), .sl 1 (List.map encRep v5)])⟩) :: (19, ⟨1, 2, false, some (.junk)⟩) :: (19, ⟨1, 1, false, some (.sl 1 (List.map encRep v5))⟩) :: B4⟩ ?_
 let T5 : List (Nat × X) := [(3, .ptr 3 0 0), (2, .ptr 2 0 0)]
 let B5 : List (Nat × Bx) := [(3, ⟨0, 0, true, some (.agg [zI a0.fHave, zI a0.fState, zI a0.fBy, .sl 1 (List.map encInt v3), .sl 1 (List.map encRep v5)])⟩), (2, ⟨0, 0, true, some (.agg [zI 0, zI 0, zI 0, .sl 1 (List.map encInt []), .sl 1 (List.map encRep [])])⟩)]
 refine wkr [3, 2] [(3, 3, false), (2, 2, false)] ⟨T5, B5⟩ ?_
 refine sqr cv hn ?_
 refine ro9 0 2 2 ⟨(21, .agg [zI a0.fHave, zI a0.fState, zI a0.fBy, .view 3 0 [] 3, .view 3 0 [] 4]) :: T5, (2, ⟨0, 1, true, some (.agg [zI a0.fHave, zI a0.fState, zI a0.fBy, .sl 1 (List.map encInt v3), .sl 1 (List.map encRep v5)])⟩) :: (3, ⟨0, 2, true, some (.agg [zI a0.fHave, zI a0.fState, zI a0.fBy, .junk, .junk])⟩) :: (3, ⟨0, 1, true, some (.agg [zI a0.fHave, zI a0.fState, zI a0.fBy, .junk, .sl 1 (List.map encRep v5)])⟩) :: B5⟩ ?_
 refine runs_ret ?_
 exact fin _ _ h (by kernel_rfl)

set_option maxRecDepth 100000 in
set_option maxHeartbeats 2000000 in
theorem laws_eqIntS_spec (a0 : (List Int)) (a1 : (List Int)) (v0 : Bool) (h : laws_eqIntS a0 a1 = some v0) : Ax.Spec Try.prog 80 none [.sl 0 (List.map encInt a0), .sl 0 (List.map encInt a1)] (zB v0 : X) (.junk : X) := by
 let T1 : List (Nat × X) := [(0, .sl 0 (List.map encInt a0)), (1, .sl 0 (List.map encInt a1))]
 refine walk0 (fn := Try.f80) (fun q0 : Bool => (zB q0 : X)) (fun q0 : Bool => (.junk : X)) v0 ⟨T1, []⟩ Try.func80 rfl (by decide +kernel) fun Γ hn fin => ?_
 rw [laws_eqIntS] at h
 refine sqr cv hn ?_
 refine ro9 0 1 1 ⟨(4, zB false) :: T1, []⟩ ?_
 refine runs_seq ?_
 refine sqr cv hn ?_
 refine ro9 0 5 5 ⟨(10, zB ((a0.length : Int) != (a1.length : Int))) :: (9, zI (a1.length : Int)) :: (8, .sl 0 (List.map encInt a1)) :: (7, zI (a0.length : Int)) :: (6, .sl 0 (List.map encInt a0)) :: (4, zB false) :: T1, []⟩ ?_ (he := by rw [show (a0.length : Int) = ((List.map encInt a0).length : Int) from by rw [List.length_map]]; rw [show (a1.length : Int) = ((List.map encInt a1).length : Int) from by rw [List.length_map]]; kernel_rfl)
 rcases dich ((a0.length : Int) != (a1.length : Int)) with hb2 | hb2
 · replace h := cond_t hb2 h
   refine ct hb2 ?_
   let T3 : List (Nat × X) := [(0, .sl 0 (List.map encInt a0)), (1, .sl 0 (List.map encInt a1))]
   refine wkr [0, 1] [] ⟨T3, []⟩ ?_
   refine sqr cv hn ?_
   refine ro9 0 1 1 ⟨(4, zB false) :: T3, []⟩ ?_
   refine runs_ret ?_
   exact fin _ _ h (by kernel_rfl)
 · replace h := cond_f hb2 h
   refine cf hb2 ?_
   refine runs_skip ?_
   refine runs_seq ?_
   let T5 : List (Nat × X) := [(0, .sl 0 (List.map encInt a0)), (1, .sl 0 (List.map encInt a1))]
   refine wkr [0, 1] [] ⟨T5, []⟩ ?_
   refine sqr cv hn ?_
   refine ro9 0 1 1 ⟨(5, zI 0) :: T5, []⟩ ?_
   refine runs_block ?_
   refine runs_loopM (σ := List Int × Nat) (fun s => ⟨[(5, zI (s.2 : Int)), (0, .sl 0 (List.map encInt a0)), (1, .sl 0 (List.map encInt a1))], []⟩) (fun s => s.1 = List.drop s.2 a0 ∧ laws_eqIntS_l1 a1 s.1 s.2 = some v0) (fun s => s.1.length) (a0, 0) ⟨rfl, h⟩ (wre [5, 0, 1] []) ?_
   rintro ⟨t1, i1⟩ ⟨hd1, h⟩
   refine seq0 ⟨[(5, zI (i1 : Int)), (0, .sl 0 (List.map encInt a0)), (1, .sl 0 (List.map encInt a1))], []⟩ ?_
   refine runs_len 0 (es := List.map encInt a0) (by kernel_rfl) fun hl1 => ?_
   replace hl1 := len_of_map hl1
   cases t1 with
   | nil =>
     rw [laws_eqIntS_l1] at h
     have hLn1 := dnil hd1
     refine runs_seq ?_
     refine sqr cv hn ?_
     refine ro9 0 4 4 ⟨[(14, zB (decide ((i1 : Int) < (a0.length : Int)))), (13, zI (a0.length : Int)), (12, .sl 0 (List.map encInt a0)), (11, zI (i1 : Int)), (5, zI (i1 : Int)), (0, .sl 0 (List.map encInt a0)), (1, .sl 0 (List.map encInt a1))], []⟩ ?_ (he := by rw [show (a0.length : Int) = ((List.map encInt a0).length : Int) from by rw [List.length_map]]; kernel_rfl)
     refine cf hLn1 ?_
     refine runs_exit ?_
     repeat refine thenX_exit ?_
     refine block_here ?_
     refine wkr [] [] ⟨[], []⟩ ?_
     refine sqr cv hn ?_
     refine ro9 0 1 1 ⟨[(4, zB true)], []⟩ ?_
     refine runs_ret ?_
     exact fin _ _ h (by kernel_rfl)
   | cons x10 t1 =>
     rw [laws_eqIntS_l1] at h
     have hLc1 := dcons hd1
     have hx10 := dget hd1
     have hi1 := dinc hd1 hl1
     refine runs_seq ?_
     refine sqr cv hn ?_
     refine ro9 0 4 4 ⟨[(14, zB (decide ((i1 : Int) < (a0.length : Int)))), (13, zI (a0.length : Int)), (12, .sl 0 (List.map encInt a0)), (11, zI (i1 : Int)), (5, zI (i1 : Int)), (0, .sl 0 (List.map encInt a0)), (1, .sl 0 (List.map encInt a1))], []⟩ ?_ (he := by rw [show (a0.length : Int) = ((List.map encInt a0).length : Int) from by rw [List.length_map]]; kernel_rfl)
     refine ct hLc1 ?_
     refine runs_skip ?_
     refine runs_seq ?_
     refine runs_block ?_
     refine runs_seq ?_
     refine rgT cv mixed hn ?_
     refine roT 0 2 2 ⟨[(18, zI (i1 : Int)), (17, .sl 0 (List.map encInt a0)), (14, zB (decide ((i1 : Int) < (a0.length : Int)))), (13, zI (a0.length : Int)), (12, .sl 0 (List.map encInt a0)), (11, zI (i1 : Int)), (5, zI (i1 : Int)), (0, .sl 0 (List.map encInt a0)), (1, .sl 0 (List.map encInt a1))], []⟩ ?_
     refine rixT 2 encInt 3 hx10 (ix_nn hx10) ⟨[(19, .rp (zI x10) 0), (18, zI (i1 : Int)), (17, .sl 0 (List.map encInt a0)), (14, zB (decide ((i1 : Int) < (a0.length : Int)))), (13, zI (a0.length : Int)), (12, .sl 0 (List.map encInt a0)), (11, zI (i1 : Int)), (5, zI (i1 : Int)), (0, .sl 0 (List.map encInt a0)), (1, .sl 0 (List.map encInt a1))], []⟩ ?_
     refine roT 3 3 3 ⟨[(22, zI (i1 : Int)), (21, .sl 0 (List.map encInt a1)), (20, zI x10), (19, .rp (zI x10) 0), (18, zI (i1 : Int)), (17, .sl 0 (List.map encInt a0)), (14, zB (decide ((i1 : Int) < (a0.length : Int)))), (13, zI (a0.length : Int)), (12, .sl 0 (List.map encInt a0)), (11, zI (i1 : Int)), (5, zI (i1 : Int)), (0, .sl 0 (List.map encInt a0)), (1, .sl 0 (List.map encInt a1))], []⟩ ?_
     obtain ⟨x20, hx21, h⟩ := bindO h
     refine rixT 6 encInt 3 hx21 (ix_nn hx21) ⟨[(23, .rp (zI x20) 0), (22, zI (i1 : Int)), (21, .sl 0 (List.map encInt a1)), (20, zI x10), (19, .rp (zI x10) 0), (18, zI (i1 : Int)), (17, .sl 0 (List.map encInt a0)), (14, zB (decide ((i1 : Int) < (a0.length : Int)))), (13, zI (a0.length : Int)), (12, .sl 0 (List.map encInt a0)), (11, zI (i1 : Int)), (5, zI (i1 : Int)), (0, .sl 0 (List.map encInt a0)), (1, .sl 0 (List.map encInt a1))], []⟩ ?_
     refine roT9 7 2 2 ⟨[(25, zB (x10 != x20)), (24, zI x20), (23, .rp (zI x20) 0), (22, zI (i1 : Int)), (21, .sl 0 (List.map encInt a1)), (20, zI x10), (19, .rp (zI x10) 0), (18, zI (i1 : Int)), (17, .sl 0 (List.map encInt a0)), (14, zB (decide ((i1 : Int) < (a0.length : Int)))), (13, zI (a0.length : Int)), (12, .sl 0 (List.map encInt a0)), (11, zI (i1 : Int)), (5, zI (i1 : Int)), (0, .sl 0 (List.map encInt a0)), (1, .sl 0 (List.map encInt a1))], []⟩ ?_
     rcases dich (x10 != x20) with hb22 | hb22
     · replace h := cond_t hb22 h
       refine ct hb22 ?_
       refine sqr cv hn ?_
       refine ro9 0 1 1 ⟨[(4, zB false), (25, zB (x10 != x20)), (24, zI x20), (23, .rp (zI x20) 0), (22, zI (i1 : Int)), (21, .sl 0 (List.map encInt a1)), (20, zI x10), (19, .rp (zI x10) 0), (18, zI (i1 : Int)), (17, .sl 0 (List.map encInt a0)), (14, zB (decide ((i1 : Int) < (a0.length : Int)))), (13, zI (a0.length : Int)), (12, .sl 0 (List.map encInt a0)), (11, zI (i1 : Int)), (5, zI (i1 : Int)), (0, .sl 0 (List.map encInt a0)), (1, .sl 0 (List.map encInt a1))], []⟩ ?_
       refine runs_ret ?_
       exact fin _ _ h (by kernel_rfl)
     · replace h := cond_f hb22 h
       refine cf hb22 ?_
       refine runs_skip ?_
       refine rg cv hn ?_
       refine ro9 0 3 3 ⟨[(5, zI ((i1 + 1 : Nat) : Int)), (16, zI ((i1 + 1 : Nat) : Int)), (15, zI (i1 : Int)), (25, zB (x10 != x20)), (24, zI x20), (23, .rp (zI x20) 0), (22, zI (i1 : Int)), (21, .sl 0 (List.map encInt a1)), (20, zI x10), (19, .rp (zI x10) 0), (18, zI (i1 : Int)), (17, .sl 0 (List.map encInt a0)), (14, zB (decide ((i1 : Int) < (a0.length : Int)))), (13, zI (a0.length : Int)), (12, .sl 0 (List.map encInt a0)), (11, zI (i1 : Int)), (5, zI (i1 : Int)), (0, .sl 0 (List.map encInt a0)), (1, .sl 0 (List.map encInt a1))], []⟩ ?_ (he := by rw [← hi1]; kernel_rfl)
       exact ⟨(t1, i1 + 1), Nat.lt_succ_self _, ⟨dnext hd1, h⟩, wre [5, 0, 1] []⟩

set_option maxRecDepth 100000 in
set_option maxHeartbeats 2000000 in
theorem laws_eqRep_spec (a0 : SRep) (a1 : SRep) (v0 : Bool) (h : laws_eqRep a0 a1 = some v0) : Ax.Spec Try.prog 116 none [encRep a0, encRep a1] (zB v0 : X) (.junk : X) := by
 refine walk0 (fn := Try.f116) (fun q0 : Bool => (zB q0 : X)) (fun q0 : Bool => (.junk : X)) v0 ⟨[(0, encRep a0), (1, encRep a1)], []⟩ Try.func116 rfl (by decide +kernel) fun Γ hn fin => ?_
 rw [laws_eqRep] at h
 refine sqr cv hn ?_
 refine ro9 0 3 3 ⟨[(4, zB false), (3, .ptr 3 1 0), (2, .ptr 2 1 0), (0, encRep a0), (1, encRep a1)], [(3, ⟨1, 1, true, some (encRep a1)⟩), (2, ⟨1, 1, true, some (encRep a0)⟩)]⟩ ?_
 refine runs_seq ?_
 refine sqr cv hn ?_
 refine ro9 0 5 5 ⟨[(9, zB (a0.fNode != a1.fNode)), (8, zI a1.fNode), (7, .ptr 3 1 0), (6, zI a0.fNode), (5, .ptr 2 1 0), (4, zB false), (3, .ptr 3 1 0), (2, .ptr 2 1 0), (0, encRep a0), (1, encRep a1)], [(3, ⟨1, 1, true, some (encRep a1)⟩), (2, ⟨1, 1, true, some (encRep a0)⟩)]⟩ ?_
 rcases dich (a0.fNode != a1.fNode) with hb2 | hb2
 · replace h := cond_t hb2 h
   refine ct hb2 ?_
   let T3 : List (Nat × X) := [(3, .ptr 3 0 0), (2, .ptr 2 0 0)]
   let B3 : List (Nat × Bx) := [(3, ⟨0, 0, true, some (encRep a1)⟩), (2, ⟨0, 0, true, some (encRep a0)⟩)]
   refine wkr [3, 2] [(3, 3, false), (2, 2, false)] ⟨T3, B3⟩ ?_
   refine sqr cv hn ?_
   refine ro9 0 1 1 ⟨(4, zB false) :: T3, B3⟩ ?_
   refine runs_ret ?_
   exact fin _ _ h (by kernel_rfl)
 · replace h := cond_f hb2 h
   refine cf hb2 ?_
   refine runs_skip ?_
   refine runs_seq ?_
   let T4 : List (Nat × X) := [(3, .ptr 3 0 0), (2, .ptr 2 0 0)]
   let B4 : List (Nat × Bx) := [(3, ⟨0, 0, true, some (encRep a1)⟩), (2, ⟨0, 0, true, some (encRep a0)⟩)]
   refine wkr [3, 2] [(3, 3, false), (2, 2, false)] ⟨T4, B4⟩ ?_
   refine sqr cv hn ?_
   refine ro9 0 5 5 ⟨(14, zB (a0.fAmt != a1.fAmt)) :: (13, zI a1.fAmt) :: (12, .ptr 3 0 1) :: (11, zI a0.fAmt) :: (10, .ptr 2 0 1) :: T4, B4⟩ ?_
   rcases dich (a0.fAmt != a1.fAmt) with hb3 | hb3
   · replace h := cond_t hb3 h
     refine ct hb3 ?_
     refine wkr [] [] ⟨[], []⟩ ?_
     refine sqr cv hn ?_
     refine ro9 0 1 1 ⟨[(4, zB false)], []⟩ ?_
     refine runs_ret ?_
     exact fin _ _ h (by kernel_rfl)
   · replace h := cond_f hb3 h
     refine cf hb3 ?_
     refine runs_skip ?_
     refine wkr [] [] ⟨[], []⟩ ?_
     refine sqr cv hn ?_
     refine ro9 0 1 1 ⟨[(4, zB true)], []⟩ ?_
     refine runs_ret ?_
     exact fin _ _ h (by kernel_rfl)

set_option maxRecDepth 100000 in
set_option maxHeartbeats 2000000 in
theorem laws_eqRepS_spec (a0 : (List SRep)) (a1 : (List SRep)) (v0 : Bool) (h : laws_eqRepS a0 a1 = some v0) : Ax.Spec Try.prog 81 none [.sl 0 (List.map encRep a0), .sl 0 (List.map encRep a1)] (zB v0 : X) (.junk : X) := by
 let T1 : List (Nat × X) := [(0, .sl 0 (List.map encRep a0)), (1, .sl 0 (List.map encRep a1))]
 refine walk0 (fn := Try.f81) (fun q0 : Bool => (zB q0 : X)) (fun q0 : Bool => (.junk : X)) v0 ⟨T1, []⟩ Try.func81 rfl (by decide +kernel) fun Γ hn fin => ?_
 rw [laws_eqRepS] at h
 refine sqr cv hn ?_
 refine ro9 0 1 1 ⟨(4, zB false) :: T1, []⟩ ?_
 refine runs_seq ?_
 refine sqr cv hn ?_
 refine ro9 0 5 5 ⟨(10, zB ((a0.length : Int) != (a1.length : Int))) :: (9, zI (a1.length : Int)) :: (8, .sl 0 (List.map encRep a1)) :: (7, zI (a0.length : Int)) :: (6, .sl 0 (List.map encRep a0)) :: (4, zB false) :: T1, []⟩ ?_ (he := by rw [show (a0.length : Int) = ((List.map encRep a0).length : Int) from by rw [List.length_map]]; rw [show (a1.length : Int) = ((List.map encRep a1).length : Int) from by rw [List.length_map]]; kernel_rfl)
 rcases dich ((a0.length : Int) != (a1.length : Int)) with hb2 | hb2
 · replace h := cond_t hb2 h
   refine ct hb2 ?_
   let T3 : List (Nat × X) := [(0, .sl 0 (List.map encRep a0)), (1, .sl 0 (List.map encRep a1))]
   refine wkr [0, 1] [] ⟨T3, []⟩ ?_
   refine sqr cv hn ?_
   refine ro9 0 1 1 ⟨(4, zB false) :: T3, []⟩ ?_
   refine runs_ret ?_
   exact fin _ _ h (by kernel_rfl)
 · replace h := cond_f hb2 h
   refine cf hb2 ?_
   refine runs_skip ?_
   refine runs_seq ?_
   let T5 : List (Nat × X) := [(0, .sl 0 (List.map encRep a0)), (1, .sl 0 (List.map encRep a1))]
   refine wkr [0, 1] [] ⟨T5, []⟩ ?_
   refine sqr cv hn ?_
   refine ro9 0 1 1 ⟨(5, zI 0) :: T5, []⟩ ?_
   refine runs_block ?_
   refine runs_loopM (σ := List SRep × Nat) (fun s => ⟨[(5, zI (s.2 : Int)), (0, .sl 0 (List.map encRep a0)), (1, .sl 0 (List.map encRep a1))], []⟩) (fun s => s.1 = List.drop s.2 a0 ∧ laws_eqRepS_l1 a1 s.1 s.2 = some v0) (fun s => s.1.length) (a0, 0) ⟨rfl, h⟩ (wre [5, 0, 1] []) ?_
   rintro ⟨t1, i1⟩ ⟨hd1, h⟩
   refine seq0 ⟨[(5, zI (i1 : Int)), (0, .sl 0 (List.map encRep a0)), (1, .sl 0 (List.map encRep a1))], []⟩ ?_
   refine runs_len 0 (es := List.map encRep a0) (by kernel_rfl) fun hl1 => ?_
   replace hl1 := len_of_map hl1
   cases t1 with
   | nil =>
     rw [laws_eqRepS_l1] at h
     have hLn1 := dnil hd1
     refine runs_seq ?_
     refine sqr cv hn ?_
     refine ro9 0 4 4 ⟨[(14, zB (decide ((i1 : Int) < (a0.length : Int)))), (13, zI (a0.length : Int)), (12, .sl 0 (List.map encRep a0)), (11, zI (i1 : Int)), (5, zI (i1 : Int)), (0, .sl 0 (List.map encRep a0)), (1, .sl 0 (List.map encRep a1))], []⟩ ?_ (he := by rw [show (a0.length : Int) = ((List.map encRep a0).length : Int) from by rw [List.length_map]]; kernel_rfl)
     refine cf hLn1 ?_
     refine runs_exit ?_
     repeat refine thenX_exit ?_
     refine block_here ?_
     refine wkr [] [] ⟨[], []⟩ ?_
     refine sqr cv hn ?_
     refine ro9 0 1 1 ⟨[(4, zB true)], []⟩ ?_
     refine runs_ret ?_
     exact fin _ _ h (by kernel_rfl)
   | cons x10 t1 =>
     rw [laws_eqRepS_l1] at h
     have hLc1 := dcons hd1
     have hx10 := dget hd1
     have hi1 := dinc hd1 hl1
     refine runs_seq ?_
     refine sqr cv hn ?_
     refine ro9 0 4 4 ⟨[(14, zB (decide ((i1 : Int) < (a0.length : Int)))), (13, zI (a0.length : Int)), (12, .sl 0 (List.map encRep a0)), (11, zI (i1 : Int)), (5, zI (i1 : Int)), (0, .sl 0 (List.map encRep a0)), (1, .sl 0 (List.map encRep a1))], []⟩ ?_ (he := by rw [show (a0.length : Int) = ((List.map encRep a0).length : Int) from by rw [List.length_map]]; kernel_rfl)
     refine ct hLc1 ?_
     refine runs_skip ?_
     refine runs_seq ?_
     refine runs_block ?_
     refine runs_seq ?_
     refine rgT cv mixed hn ?_
     refine roT 0 2 2 ⟨[(18, zI (i1 : Int)), (17, .sl 0 (List.map encRep a0)), (14, zB (decide ((i1 : Int) < (a0.length : Int)))), (13, zI (a0.length : Int)), (12, .sl 0 (List.map encRep a0)), (11, zI (i1 : Int)), (5, zI (i1 : Int)), (0, .sl 0 (List.map encRep a0)), (1, .sl 0 (List.map encRep a1))], []⟩ ?_
     refine rixT 2 encRep 119 hx10 (ix_nn hx10) ⟨[(19, .rp (encRep x10) 0), (18, zI (i1 : Int)), (17, .sl 0 (List.map encRep a0)), (14, zB (decide ((i1 : Int) < (a0.length : Int)))), (13, zI (a0.length : Int)), (12, .sl 0 (List.map encRep a0)), (11, zI (i1 : Int)), (5, zI (i1 : Int)), (0, .sl 0 (List.map encRep a0)), (1, .sl 0 (List.map encRep a1))], []⟩ ?_
     refine roT 3 3 3 ⟨[(22, zI (i1 : Int)), (21, .sl 0 (List.map encRep a1)), (20, encRep x10), (19, .rp (encRep x10) 0), (18, zI (i1 : Int)), (17, .sl 0 (List.map encRep a0)), (14, zB (decide ((i1 : Int) < (a0.length : Int)))), (13, zI (a0.length : Int)), (12, .sl 0 (List.map encRep a0)), (11, zI (i1 : Int)), (5, zI (i1 : Int)), (0, .sl 0 (List.map encRep a0)), (1, .sl 0 (List.map encRep a1))], []⟩ ?_
     obtain ⟨x24, hx25, h⟩ := bindO h
     refine rixT 6 encRep 119 hx25 (ix_nn hx25) ⟨[(23, .rp (encRep x24) 0), (22, zI (i1 : Int)), (21, .sl 0 (List.map encRep a1)), (20, encRep x10), (19, .rp (encRep x10) 0), (18, zI (i1 : Int)), (17, .sl 0 (List.map encRep a0)), (14, zB (decide ((i1 : Int) < (a0.length : Int)))), (13, zI (a0.length : Int)), (12, .sl 0 (List.map encRep a0)), (11, zI (i1 : Int)), (5, zI (i1 : Int)), (0, .sl 0 (List.map encRep a0)), (1, .sl 0 (List.map encRep a1))], []⟩ ?_
     refine roT 7 1 1 ⟨[(24, encRep x24), (23, .rp (encRep x24) 0), (22, zI (i1 : Int)), (21, .sl 0 (List.map encRep a1)), (20, encRep x10), (19, .rp (encRep x10) 0), (18, zI (i1 : Int)), (17, .sl 0 (List.map encRep a0)), (14, zB (decide ((i1 : Int) < (a0.length : Int)))), (13, zI (a0.length : Int)), (12, .sl 0 (List.map encRep a0)), (11, zI (i1 : Int)), (5, zI (i1 : Int)), (0, .sl 0 (List.map encRep a0)), (1, .sl 0 (List.map encRep a1))], []⟩ ?_
     obtain ⟨v26, hv27, h⟩ := bindO h
     refine rcT 8 ⟨[(25, zB v26), (24, encRep x24), (23, .rp (encRep x24) 0), (22, zI (i1 : Int)), (21, .sl 0 (List.map encRep a1)), (20, encRep x10), (19, .rp (encRep x10) 0), (18, zI (i1 : Int)), (17, .sl 0 (List.map encRep a0)), (14, zB (decide ((i1 : Int) < (a0.length : Int)))), (13, zI (a0.length : Int)), (12, .sl 0 (List.map encRep a0)), (11, zI (i1 : Int)), (5, zI (i1 : Int)), (0, .sl 0 (List.map encRep a0)), (1, .sl 0 (List.map encRep a1))], []⟩ (laws_eqRep_spec x10 x24 v26 hv27) ?_
     refine roT9 9 1 1 ⟨[(26, zB (!v26)), (25, zB v26), (24, encRep x24), (23, .rp (encRep x24) 0), (22, zI (i1 : Int)), (21, .sl 0 (List.map encRep a1)), (20, encRep x10), (19, .rp (encRep x10) 0), (18, zI (i1 : Int)), (17, .sl 0 (List.map encRep a0)), (14, zB (decide ((i1 : Int) < (a0.length : Int)))), (13, zI (a0.length : Int)), (12, .sl 0 (List.map encRep a0)), (11, zI (i1 : Int)), (5, zI (i1 : Int)), (0, .sl 0 (List.map encRep a0)), (1, .sl 0 (List.map encRep a1))], []⟩ ?_
     rcases dich (!v26) with hb28 | hb28
     · replace h := cond_t hb28 h
       refine ct hb28 ?_
       refine sqr cv hn ?_
       refine ro9 0 1 1 ⟨[(4, zB false), (26, zB (!v26)), (25, zB v26), (24, encRep x24), (23, .rp (encRep x24) 0), (22, zI (i1 : Int)), (21, .sl 0 (List.map encRep a1)), (20, encRep x10), (19, .rp (encRep x10) 0), (18, zI (i1 : Int)), (17, .sl 0 (List.map encRep a0)), (14, zB (decide ((i1 : Int) < (a0.length : Int)))), (13, zI (a0.length : Int)), (12, .sl 0 (List.map encRep a0)), (11, zI (i1 : Int)), (5, zI (i1 : Int)), (0, .sl 0 (List.map encRep a0)), (1, .sl 0 (List.map encRep a1))], []⟩ ?_
       refine runs_ret ?_
       exact fin _ _ h (by kernel_rfl)
     · replace h := cond_f hb28 h
       refine cf hb28 ?_
       refine runs_skip ?_
       refine rg cv hn ?_
       refine ro9 0 3 3 ⟨[(5, zI ((i1 + 1 : Nat) : Int)), (16, zI ((i1 + 1 : Nat) : Int)), (15, zI (i1 : Int)), (26, zB (!v26)), (25, zB v26), (24, encRep x24), (23, .rp (encRep x24) 0), (22, zI (i1 : Int)), (21, .sl 0 (List.map encRep a1)), (20, encRep x10), (19, .rp (encRep x10) 0), (18, zI (i1 : Int)), (17, .sl 0 (List.map encRep a0)), (14, zB (decide ((i1 : Int) < (a0.length : Int)))), (13, zI (a0.length : Int)), (12, .sl 0 (List.map encRep a0)), (11, zI (i1 : Int)), (5, zI (i1 : Int)), (0, .sl 0 (List.map encRep a0)), (1, .sl 0 (List.map encRep a1))], []⟩ ?_ (he := by rw [← hi1]; kernel_rfl)
       exact ⟨(t1, i1 + 1), Nat.lt_succ_self _, ⟨dnext hd1, h⟩, wre [5, 0, 1] []⟩

set_option maxRecDepth 100000 in
set_option maxHeartbeats 2000000 in
theorem laws_eqAcct_spec (a0 : SAcct) (a1 : SAcct) (v0 : Bool) (h : laws_eqAcct a0 a1 = some v0) : Ax.Spec Try.prog 29 none [encAcct0 a0, encAcct0 a1] (zB v0 : X) (.junk : X) := by
 let T1 : List (Nat × X) := [(0, encAcct0 a0), (1, encAcct0 a1)]
 refine walk0 (fn := Try.f29) (fun q0 : Bool => (zB q0 : X)) (fun q0 : Bool => (.junk : X)) v0 ⟨T1, []⟩ Try.func29 rfl (by decide +kernel) fun Γ hn fin => ?_
 rw [laws_eqAcct] at h
 refine sqr cv hn ?_
 refine ro9 0 3 3 ⟨(4, zB false) :: (3, .ptr 3 1 0) :: (2, .ptr 2 1 0) :: T1, [(3, ⟨1, 1, true, some (encAcct0 a1)⟩), (2, ⟨1, 1, true, some (encAcct0 a0)⟩)]⟩ ?_
 refine runs_seq ?_
 refine sqr cv hn ?_
 refine ro9 0 5 5 ⟨(9, zB (a0.fHave != a1.fHave)) :: (8, zI a1.fHave) :: (7, .ptr 3 1 0) :: (6, zI a0.fHave) :: (5, .ptr 2 1 0) :: (4, zB false) :: (3, .ptr 3 1 0) :: (2, .ptr 2 1 0) :: T1, [(3, ⟨1, 1, true, some (encAcct0 a1)⟩), (2, ⟨1, 1, true, some (encAcct0 a0)⟩)]⟩ ?_
 rcases dich (a0.fHave != a1.fHave) with hb2 | hb2
 · replace h := cond_t hb2 h
   refine ct hb2 ?_
   let T3 : List (Nat × X) := [(3, .ptr 3 0 0), (2, .ptr 2 0 0)]
   let B3 : List (Nat × Bx) := [(3, ⟨0, 0, true, some (encAcct0 a1)⟩), (2, ⟨0, 0, true, some (encAcct0 a0)⟩)]
   refine wkr [3, 2] [(3, 3, false), (2, 2, false)] ⟨T3, B3⟩ ?_
   refine sqr cv hn ?_
   refine ro9 0 1 1 ⟨(4, zB false) :: T3, B3⟩ ?_
   refine runs_ret ?_
   exact fin _ _ h (by kernel_rfl)
 · replace h := cond_f hb2 h
   refine cf hb2 ?_
   refine runs_skip ?_
   refine runs_seq ?_
   let T6 : List (Nat × X) := [(3, .ptr 3 0 0), (2, .ptr 2 0 0)]
   let B6 : List (Nat × Bx) := [(3, ⟨0, 0, true, some (encAcct0 a1)⟩), (2, ⟨0, 0, true, some (encAcct0 a0)⟩)]
   refine wkr [3, 2] [(3, 3, false), (2, 2, false)] ⟨T6, B6⟩ ?_
   refine sqr cv hn ?_
   refine ro9 0 5 5 ⟨(14, zB (a0.fState != a1.fState)) :: (13, zI a1.fState) :: (12, .ptr 3 0 1) :: (11, zI a0.fState) :: (10, .ptr 2 0 1) :: T6, B6⟩ ?_
   rcases dich (a0.fState != a1.fState) with hb4 | hb4
   · replace h := cond_t hb4 h
     refine ct hb4 ?_
     let T7 : List (Nat × X) := [(3, .ptr 3 0 0), (2, .ptr 2 0 0)]
     let B7 : List (Nat × Bx) := [(3, ⟨0, 0, true, some (encAcct0 a1)⟩), (2, ⟨0, 0, true, some (encAcct0 a0)⟩)]
     refine wkr [3, 2] [(3, 3, false), (2, 2, false)] ⟨T7, B7⟩ ?_
     refine sqr cv hn ?_
     refine ro9 0 1 1 ⟨(4, zB false) :: T7, B7⟩ ?_
     refine runs_ret ?_
     exact fin _ _ h (by kernel_rfl)
   · replace h := cond_f hb4 h
     refine cf hb4 ?_
     refine runs_skip ?_
     refine runs_seq ?_
     let T10 : List (Nat × X) := [(3, .ptr 3 0 0), (2, .ptr 2 0 0)]
     let B10 : List (Nat × Bx) := [(3, ⟨0, 0, true, some (encAcct0 a1)⟩), (2, ⟨0, 0, true, some (encAcct0 a0)⟩)]
     refine wkr [3, 2] [(3, 3, false), (2, 2, false)] ⟨T10, B10⟩ ?_
     refine sqr cv hn ?_
     refine ro9 0 5 5 ⟨(19, zB (a0.fBy != a1.fBy)) :: (18, zI a1.fBy) :: (17, .ptr 3 0 2) :: (16, zI a0.fBy) :: (15, .ptr 2 0 2) :: T10, B10⟩ ?_
     rcases dich (a0.fBy != a1.fBy) with hb6 | hb6
     · replace h := cond_t hb6 h
       refine ct hb6 ?_
       let T11 : List (Nat × X) := [(3, .ptr 3 0 0), (2, .ptr 2 0 0)]
       let B11 : List (Nat × Bx) := [(3, ⟨0, 0, true, some (encAcct0 a1)⟩), (2, ⟨0, 0, true, some (encAcct0 a0)⟩)]
       refine wkr [3, 2] [(3, 3, false), (2, 2, false)] ⟨T11, B11⟩ ?_
       refine sqr cv hn ?_
       refine ro9 0 1 1 ⟨(4, zB false) :: T11, B11⟩ ?_
       refine runs_ret ?_
       exact fin _ _ h (by kernel_rfl)
     · replace h := cond_f hb6 h
       refine cf hb6 ?_
       refine runs_skip ?_
       refine runs_seq ?_
       let T14 : List (Nat × X) := [(3, .ptr 3 0 0), (2, .ptr 2 0 0)]
       let B14 : List (Nat × Bx) := [(3, ⟨0, 0, true, some (encAcct0 a1)⟩), (2, ⟨0, 0, true, some (encAcct0 a0)⟩)]
       refine wkr [3, 2] [(3, 3, false), (2, 2, false)] ⟨T14, B14⟩ ?_
       refine sqr cv hn ?_
       refine ro 0 4 4 ⟨(23, .sl 0 (List.map encInt a1.fMarks)) :: (22, .ptr 3 0 3) :: (21, .sl 0 (List.map encInt a0.fMarks)) :: (20, .ptr 2 0 3) :: T14, B14⟩ ?_
       obtain ⟨v10, hv11, h⟩ := bindO h
       refine rc 4 ⟨(24, zB v10) :: (23, .sl 0 (List.map encInt a1.fMarks)) :: (22, .ptr 3 0 3) :: (21, .sl 0 (List.map encInt a0.fMarks)) :: (20, .ptr 2 0 3) :: T14, B14⟩ (laws_eqIntS_spec a0.fMarks a1.fMarks v10 hv11) ?_
       refine ro9 5 1 1 ⟨(25, zB (!v10)) :: (24, zB v10) :: (23, .sl 0 (List.map encInt a1.fMarks)) :: (22, .ptr 3 0 3) :: (21, .sl 0 (List.map encInt a0.fMarks)) :: (20, .ptr 2 0 3) :: T14, B14⟩ ?_
       rcases dich (!v10) with hb12 | hb12
       · replace h := cond_t hb12 h
         refine ct hb12 ?_
         let T15 : List (Nat × X) := [(3, .ptr 3 0 0), (2, .ptr 2 0 0)]
         let B15 : List (Nat × Bx) := [(3, ⟨0, 0, true, some (encAcct0 a1)⟩), (2, ⟨0, 0, true, some (encAcct0 a0)⟩)]
         refine wkr [3, 2] [(3, 3, false), (2, 2, false)] ⟨T15, B15⟩ ?_
         refine sqr cv hn ?_
         refine ro9 0 1 1 ⟨(4, zB false) :: T15, B15⟩ ?_
         refine runs_ret ?_
         exact fin _ _ h (by kernel_rfl)
       · replace h := cond_f hb12 h
         refine cf hb12 ?_
         refine runs_skip ?_
         refine runs_seq ?_
         let T16 : List (Nat × X) := [(3, .ptr 3 0 0), (2, .ptr 2 0 0)]
         let B16 : List (Nat × Bx) := [(3, ⟨0, 0, true, some (encAcct0 a1)⟩), (2, ⟨0, 0, true, some (encAcct0 a0)⟩)]
         refine wkr [3, 2] [(3, 3, false), (2, 2, false)] ⟨T16, B16⟩ ?_
         refine sqr cv hn ?_
         refine ro 0 4 4 ⟨(29, .sl 0 (List.map encRep a1.fReps)) :: (28, .ptr 3 0 4) :: (27, .sl 0 (List.map encRep a0.fReps)) :: (26, .ptr 2 0 4) :: T16, B16⟩ ?_
         obtain ⟨v13, hv14, h⟩ := bindO h
         refine rc 4 ⟨(30, zB v13) :: (29, .sl 0 (List.map encRep a1.fReps)) :: (28, .ptr 3 0 4) :: (27, .sl 0 (List.map encRep a0.fReps)) :: (26, .ptr 2 0 4) :: T16, B16⟩ (laws_eqRepS_spec a0.fReps a1.fReps v13 hv14) ?_
         refine ro9 5 1 1 ⟨(31, zB (!v13)) :: (30, zB v13) :: (29, .sl 0 (List.map encRep a1.fReps)) :: (28, .ptr 3 0 4) :: (27, .sl 0 (List.map encRep a0.fReps)) :: (26, .ptr 2 0 4) :: T16, B16⟩ ?_
         rcases dich (!v13) with hb15 | hb15
         · replace h := cond_t hb15 h
           refine ct hb15 ?_
           refine wkr [] [] ⟨[], []⟩ ?_
           refine sqr cv hn ?_
           refine ro9 0 1 1 ⟨[(4, zB false)], []⟩ ?_
           refine runs_ret ?_
           exact fin _ _ h (by kernel_rfl)
         · replace h := cond_f hb15 h
           refine cf hb15 ?_
           refine runs_skip ?_
           refine wkr [] [] ⟨[], []⟩ ?_
           refine sqr cv hn ?_
           refine ro9 0 1 1 ⟨[(4, zB true)], []⟩ ?_
           refine runs_ret ?_
           exact fin _ _ h (by kernel_rfl)

set_option maxRecDepth 100000 in
set_option maxHeartbeats 2000000 in
theorem laws_markIntS_spec (a0 : (List Int)) (a1 : Int) (v0 : (Int) × (List Int)) (h : laws_markIntS a0 a1 = some v0) : Ax.Spec Try.prog 82 (some 0) [.sl 1 (List.map encInt a0), zI a1] (zI v0.1 : X) (.sl 1 (List.map encInt v0.2) : X) := by
 let T1 : List (Nat × X) := [(0, .view 9000 1 [] 0), (1, zI a1)]
 let B1 : List (Nat × Bx) := [(9000, ⟨1, 1, false, some (.sl 2 (List.map encInt a0))⟩)]
 refine walk0 (fn := Try.f82) (fun q0 : (Int) × (List Int) => (zI q0.1 : X)) (fun q0 : (Int) × (List Int) => (.sl 1 (List.map encInt q0.2) : X)) v0 ⟨T1, B1⟩ Try.func82 rfl (by decide +kernel) fun Γ hn fin => ?_
 rw [laws_markIntS] at h
 refine sqr cv hn ?_
 refine ro9 0 1 1 ⟨(4, zI 0) :: T1, B1⟩ ?_
 refine runs_seq ?_
 refine sqr cv hn ?_
 refine ro9 0 1 1 ⟨(5, zI 0) :: (4, zI 0) :: T1, B1⟩ ?_
 refine runs_block ?_
 refine runs_loopM (σ := Nat × Int × Int × (List Int)) (fun s => ⟨[(5, zI s.2.1), (0, .view 5000000 0 [] 0), (1, zI s.2.2.1)], [(5000000, ⟨0, 0, false, some (.sl 2 (List.map encInt s.2.2.2))⟩)]⟩) (fun s => laws_markIntS_l1 s.1 s.2.1 s.2.2.1 s.2.2.2 = some v0) (fun s => s.1) (fuel, 0, a1, a0) h (wre [5, 0, 1] [(5000000, 9000, false)]) ?_
 rintro ⟨n1, y8, y9, y10⟩ h
 let T2 : List (Nat × X) := [(5, zI y8), (0, .view 5000000 0 [] 0), (1, zI y9)]
 let B2 : List (Nat × Bx) := [(5000000, ⟨0, 0, false, some (.sl 2 (List.map encInt y10))⟩)]
 refine seq0 ⟨T2, B2⟩ ?_
 cases n1 with
 | zero => rw [laws_markIntS_l1] at h; cases h
 | succ n1 =>
   rw [laws_markIntS_l1] at h
   refine runs_seq ?_
   refine sqr cv hn ?_
   refine ro9 0 4 4 ⟨(9, zB (decide (y8 < (y10.length : Int)))) :: (8, zI (y10.length : Int)) :: (7, .view 5000000 0 [] 0) :: (6, zI y8) :: T2, B2⟩ ?_ (he := by rw [show (y10.length : Int) = ((List.map encInt y10).length : Int) from by rw [List.length_map]]; kernel_rfl)
   rcases dich (decide (y8 < (y10.length : Int))) with hb19 | hb19
   · replace h := cond_t hb19 h
     refine ct hb19 ?_
     refine runs_skip ?_
     refine runs_seq ?_
     refine runs_block ?_
     refine sqr cv hn ?_
     refine ro 0 3 3 ⟨(14, zI y9) :: (13, zI y8) :: (12, .view 5000000 0 [] 0) :: (9, zB (decide (y8 < (y10.length : Int)))) :: (8, zI (y10.length : Int)) :: (7, .view 5000000 0 [] 0) :: (6, zI y8) :: T2, B2⟩ ?_
     obtain ⟨x20, hx21, h⟩ := bindO h
     refine rix 3 encInt 3 hx21 (ix_nn hx21) ⟨(15, .ep 5000000 0 [(0, (Int.toNat y8))] 0) :: (14, zI y9) :: (13, zI y8) :: (12, .view 5000000 0 [] 0) :: (9, zB (decide (y8 < (y10.length : Int)))) :: (8, zI (y10.length : Int)) :: (7, .view 5000000 0 [] 0) :: (6, zI y8) :: T2, B2⟩ ?_
     refine ra 4 (zI x20 : X) (.sl 2 (List.map encInt (List.set y10 (Int.toNat y8) y9)) : X) ⟨(15, .ep 5000000 0 [(0, (Int.toNat y8))] 0) :: (14, zI y9) :: (13, zI y8) :: (12, .view 5000000 0 [] 0) :: (9, zB (decide (y8 < (y10.length : Int)))) :: (8, zI (y10.length : Int)) :: (7, .view 5000000 0 [] 0) :: (6, zI y8) :: T2, (5000000, ⟨0, 0, false, some (.sl 2 (List.map encInt (List.set y10 (Int.toNat y8) y9)))⟩) :: B2⟩ [X.nav (.sl 2 (List.map encInt y10) : X) [(0, (Int.toNat y8))] = some (zI x20 : X), X.upd false (.sl 2 (List.map encInt y10) : X) [(0, (Int.toNat y8))] (X.puts · 0 [zI y9]) = (.sl 2 (List.map encInt (List.set y10 (Int.toNat y8) y9)) : X)] ⟨nav_one (f := encInt) (t := 1) (by kernel_rfl) hx21, Eq.trans (upd_one (f := encInt) (v := y9) (t := 1) (by kernel_rfl) hx21 (by kernel_rfl)) (by kernel_rfl), trivial⟩ ?_
     refine re0 5 ?_
     refine rg cv hn ?_
     refine ro9 0 3 3 ⟨(1, zI (w64 (y9 + 1))) :: (17, zI (w64 (y9 + 1))) :: (16, zI y9) :: (15, .ep 5000000 0 [(0, (Int.toNat y8))] 0) :: (14, zI y9) :: (13, zI y8) :: (12, .view 5000000 0 [] 0) :: (9, zB (decide (y8 < (y10.length : Int)))) :: (8, zI (y10.length : Int)) :: (7, .view 5000000 0 [] 0) :: (6, zI y8) :: T2, (5000000, ⟨0, 0, false, some (.sl 2 (List.map encInt (List.set y10 (Int.toNat y8) y9)))⟩) :: B2⟩ ?_
     refine rg cv hn ?_
     refine ro9 0 3 3 ⟨(5, zI (w64 (y8 + 1))) :: (11, zI (w64 (y8 + 1))) :: (10, zI y8) :: (1, zI (w64 (y9 + 1))) :: (17, zI (w64 (y9 + 1))) :: (16, zI y9) :: (15, .ep 5000000 0 [(0, (Int.toNat y8))] 0) :: (14, zI y9) :: (13, zI y8) :: (12, .view 5000000 0 [] 0) :: (9, zB (decide (y8 < (y10.length : Int)))) :: (8, zI (y10.length : Int)) :: (7, .view 5000000 0 [] 0) :: (6, zI y8) :: T2, (5000000, ⟨0, 0, false, some (.sl 2 (List.map encInt (List.set y10 (Int.toNat y8) y9)))⟩) :: B2⟩ ?_
     exact ⟨(n1, w64 (y8 + 1), w64 (y9 + 1), List.set y10 (Int.toNat y8) y9), Nat.lt_succ_self _, h, wre [5, 0, 1] [(5000000, 5000000, false)]⟩
   · replace h := cond_f hb19 h
     refine cf hb19 ?_
     refine runs_exit ?_
     repeat refine thenX_exit ?_
     refine block_here ?_
     let B3 : List (Nat × Bx) := [(5000000, ⟨0, 0, false, some (.sl 2 (List.map encInt y10))⟩)]
     refine wkr [1] [(5000000, 5000000, false)] ⟨[(1, zI y9)], B3⟩ ?_
     refine sqr cv hn ?_
     refine ro9 0 2 2 ⟨[(4, zI y9), (18, zI y9), (1, zI y9)], B3⟩ ?_
     refine runs_ret ?_
     exact fin _ _ h (by kernel_rfl)

set_option maxRecDepth 100000 in
set_option maxHeartbeats 2000000 in
theorem laws_markRepS_spec (a0 : (List SRep)) (a1 : Int) (v0 : (Int) × (List SRep)) (h : laws_markRepS a0 a1 = some v0) : Ax.Spec Try.prog 83 (some 0) [.sl 1 (List.map encRep a0), zI a1] (zI v0.1 : X) (.sl 1 (List.map encRep v0.2) : X) := by
 let T1 : List (Nat × X) := [(0, .view 9000 1 [] 0), (1, zI a1)]
 let B1 : List (Nat × Bx) := [(9000, ⟨1, 1, false, some (.sl 2 (List.map encRep a0))⟩)]
 refine walk0 (fn := Try.f83) (fun q0 : (Int) × (List SRep) => (zI q0.1 : X)) (fun q0 : (Int) × (List SRep) => (.sl 1 (List.map encRep q0.2) : X)) v0 ⟨T1, B1⟩ Try.func83 rfl (by decide +kernel) fun Γ hn fin => ?_
 rw [laws_markRepS] at h
 refine sqr cv hn ?_
 refine ro9 0 1 1 ⟨(4, zI 0) :: T1, B1⟩ ?_
 refine runs_seq ?_
 refine sqr cv hn ?_
 refine ro9 0 1 1 ⟨(5, zI 0) :: (4, zI 0) :: T1, B1⟩ ?_
 refine runs_block ?_
 refine runs_loopM (σ := Nat × Int × Int × (List SRep)) (fun s => ⟨[(5, zI s.2.1), (0, .view 5000000 0 [] 0), (1, zI s.2.2.1)], [(5000000, ⟨0, 0, false, some (.sl 2 (List.map encRep s.2.2.2))⟩)]⟩) (fun s => laws_markRepS_l1 s.1 s.2.1 s.2.2.1 s.2.2.2 = some v0) (fun s => s.1) (fuel, 0, a1, a0) h (wre [5, 0, 1] [(5000000, 9000, false)]) ?_
 rintro ⟨n1, y10, y11, y12⟩ h
 let T2 : List (Nat × X) := [(5, zI y10), (0, .view 5000000 0 [] 0), (1, zI y11)]
 let B2 : List (Nat × Bx) := [(5000000, ⟨0, 0, false, some (.sl 2 (List.map encRep y12))⟩)]
 refine seq0 ⟨T2, B2⟩ ?_
 cases n1 with
 | zero => rw [laws_markRepS_l1] at h; cases h
 | succ n1 =>
   rw [laws_markRepS_l1] at h
   refine runs_seq ?_
   refine sqr cv hn ?_
   refine ro9 0 4 4 ⟨(9, zB (decide (y10 < (y12.length : Int)))) :: (8, zI (y12.length : Int)) :: (7, .view 5000000 0 [] 0) :: (6, zI y10) :: T2, B2⟩ ?_ (he := by rw [show (y12.length : Int) = ((List.map encRep y12).length : Int) from by rw [List.length_map]]; kernel_rfl)
   rcases dich (decide (y10 < (y12.length : Int))) with hb23 | hb23
   · replace h := cond_t hb23 h
     refine ct hb23 ?_
     refine runs_skip ?_
     refine runs_seq ?_
     refine runs_block ?_
     refine sqr cv hn ?_
     refine ro 0 3 3 ⟨(14, zI y11) :: (13, zI y10) :: (12, .view 5000000 0 [] 0) :: (9, zB (decide (y10 < (y12.length : Int)))) :: (8, zI (y12.length : Int)) :: (7, .view 5000000 0 [] 0) :: (6, zI y10) :: T2, B2⟩ ?_
     obtain ⟨x26, hx27, h⟩ := bindO h
     refine rix 3 encRep 119 hx27 (ix_nn hx27) ⟨(15, .ep 5000000 0 [(0, (Int.toNat y10))] 0) :: (14, zI y11) :: (13, zI y10) :: (12, .view 5000000 0 [] 0) :: (9, zB (decide (y10 < (y12.length : Int)))) :: (8, zI (y12.length : Int)) :: (7, .view 5000000 0 [] 0) :: (6, zI y10) :: T2, B2⟩ ?_
     refine ro 4 1 1 ⟨(16, .ep 5000000 0 [(0, (Int.toNat y10))] 0) :: (15, .ep 5000000 0 [(0, (Int.toNat y10))] 0) :: (14, zI y11) :: (13, zI y10) :: (12, .view 5000000 0 [] 0) :: (9, zB (decide (y10 < (y12.length : Int)))) :: (8, zI (y12.length : Int)) :: (7, .view 5000000 0 [] 0) :: (6, zI y10) :: T2, B2⟩ ?_
     refine ra 5 (encRep x26 : X) (.sl 2 (List.map encRep (List.set y12 (Int.toNat y10) (SRep.mk y11 x26.fAmt))) : X) ⟨(16, .ep 5000000 0 [(0, (Int.toNat y10))] 0) :: (15, .ep 5000000 0 [(0, (Int.toNat y10))] 0) :: (14, zI y11) :: (13, zI y10) :: (12, .view 5000000 0 [] 0) :: (9, zB (decide (y10 < (y12.length : Int)))) :: (8, zI (y12.length : Int)) :: (7, .view 5000000 0 [] 0) :: (6, zI y10) :: T2, (5000000, ⟨0, 0, false, some (.sl 2 (List.map encRep (List.set y12 (Int.toNat y10) (SRep.mk y11 x26.fAmt))))⟩) :: B2⟩ [X.nav (.sl 2 (List.map encRep y12) : X) [(0, (Int.toNat y10))] = some (encRep x26 : X), X.upd false (.sl 2 (List.map encRep y12) : X) [(0, (Int.toNat y10))] (X.puts · 0 [zI y11]) = (.sl 2 (List.map encRep (List.set y12 (Int.toNat y10) (SRep.mk y11 x26.fAmt))) : X)] ⟨nav_one (f := encRep) (t := 1) (by kernel_rfl) hx27, Eq.trans (upd_one (f := encRep) (v := (SRep.mk y11 x26.fAmt)) (t := 1) (by kernel_rfl) hx27 (by kernel_rfl)) (by kernel_rfl), trivial⟩ ?_
     refine re0 6 ?_
     refine sqr cv hn ?_
     refine ro9 0 3 3 ⟨(1, zI (w64 (y11 + 1))) :: (18, zI (w64 (y11 + 1))) :: (17, zI y11) :: (16, .ep 5000000 0 [(0, (Int.toNat y10))] 0) :: (15, .ep 5000000 0 [(0, (Int.toNat y10))] 0) :: (14, zI y11) :: (13, zI y10) :: (12, .view 5000000 0 [] 0) :: (9, zB (decide (y10 < (y12.length : Int)))) :: (8, zI (y12.length : Int)) :: (7, .view 5000000 0 [] 0) :: (6, zI y10) :: T2, (5000000, ⟨0, 0, false, some (.sl 2 (List.map encRep (List.set y12 (Int.toNat y10) (SRep.mk y11 x26.fAmt))))⟩) :: B2⟩ ?_
     refine sqr cv hn ?_
     refine ro 0 3 3 ⟨(21, zI (w64 (y11 + 1))) :: (20, zI y10) :: (19, .view 5000000 0 [] 0) :: (1, zI (w64 (y11 + 1))) :: (18, zI (w64 (y11 + 1))) :: (17, zI y11) :: (16, .ep 5000000 0 [(0, (Int.toNat y10))] 0) :: (15, .ep 5000000 0 [(0, (Int.toNat y10))] 0) :: (14, zI y11) :: (13, zI y10) :: (12, .view 5000000 0 [] 0) :: (9, zB (decide (y10 < (y12.length : Int)))) :: (8, zI (y12.length : Int)) :: (7, .view 5000000 0 [] 0) :: (6, zI y10) :: T2, (5000000, ⟨0, 0, false, some (.sl 2 (List.map encRep (List.set y12 (Int.toNat y10) (SRep.mk y11 x26.fAmt))))⟩) :: B2⟩ ?_
     refine rix 3 encRep 119 (ix_set (v := (SRep.mk y11 x26.fAmt)) hx27) (ix_nn hx27) ⟨(22, .ep 5000000 0 [(0, (Int.toNat y10))] 0) :: (21, zI (w64 (y11 + 1))) :: (20, zI y10) :: (19, .view 5000000 0 [] 0) :: (1, zI (w64 (y11 + 1))) :: (18, zI (w64 (y11 + 1))) :: (17, zI y11) :: (16, .ep 5000000 0 [(0, (Int.toNat y10))] 0) :: (15, .ep 5000000 0 [(0, (Int.toNat y10))] 0) :: (14, zI y11) :: (13, zI y10) :: (12, .view 5000000 0 [] 0) :: (9, zB (decide (y10 < (y12.length : Int)))) :: (8, zI (y12.length : Int)) :: (7, .view 5000000 0 [] 0) :: (6, zI y10) :: T2, (5000000, ⟨0, 0, false, some (.sl 2 (List.map encRep (List.set y12 (Int.toNat y10) (SRep.mk y11 x26.fAmt))))⟩) :: B2⟩ ?_
     refine ro 4 1 1 ⟨(23, .ep 5000000 0 [(0, (Int.toNat y10))] 1) :: (22, .ep 5000000 0 [(0, (Int.toNat y10))] 0) :: (21, zI (w64 (y11 + 1))) :: (20, zI y10) :: (19, .view 5000000 0 [] 0) :: (1, zI (w64 (y11 + 1))) :: (18, zI (w64 (y11 + 1))) :: (17, zI y11) :: (16, .ep 5000000 0 [(0, (Int.toNat y10))] 0) :: (15, .ep 5000000 0 [(0, (Int.toNat y10))] 0) :: (14, zI y11) :: (13, zI y10) :: (12, .view 5000000 0 [] 0) :: (9, zB (decide (y10 < (y12.length : Int)))) :: (8, zI (y12.length : Int)) :: (7, .view 5000000 0 [] 0) :: (6, zI y10) :: T2, (5000000, ⟨0, 0, false, some (.sl 2 (List.map encRep (List.set y12 (Int.toNat y10) (SRep.mk y11 x26.fAmt))))⟩) :: B2⟩ ?_
     refine ra 5 (.agg [zI y11, zI x26.fAmt] : X) (.sl 2 (List.map encRep (List.set y12 (Int.toNat y10) (SRep.mk y11 (w64 (y11 + 1))))) : X) ⟨(23, .ep 5000000 0 [(0, (Int.toNat y10))] 1) :: (22, .ep 5000000 0 [(0, (Int.toNat y10))] 0) :: (21, zI (w64 (y11 + 1))) :: (20, zI y10) :: (19, .view 5000000 0 [] 0) :: (1, zI (w64 (y11 + 1))) :: (18, zI (w64 (y11 + 1))) :: (17, zI y11) :: (16, .ep 5000000 0 [(0, (Int.toNat y10))] 0) :: (15, .ep 5000000 0 [(0, (Int.toNat y10))] 0) :: (14, zI y11) :: (13, zI y10) :: (12, .view 5000000 0 [] 0) :: (9, zB (decide (y10 < (y12.length : Int)))) :: (8, zI (y12.length : Int)) :: (7, .view 5000000 0 [] 0) :: (6, zI y10) :: T2, (5000000, ⟨0, 0, false, some (.sl 2 (List.map encRep (List.set y12 (Int.toNat y10) (SRep.mk y11 (w64 (y11 + 1))))))⟩) :: (5000000, ⟨0, 0, false, some (.sl 2 (List.map encRep (List.set y12 (Int.toNat y10) (SRep.mk y11 x26.fAmt))))⟩) :: B2⟩ [X.nav (.sl 2 (List.map encRep (List.set y12 (Int.toNat y10) (SRep.mk y11 x26.fAmt))) : X) [(0, (Int.toNat y10))] = some (.agg [zI y11, zI x26.fAmt] : X), X.upd false (.sl 2 (List.map encRep (List.set y12 (Int.toNat y10) (SRep.mk y11 x26.fAmt))) : X) [(0, (Int.toNat y10))] (X.puts · 1 [zI (w64 (y11 + 1))]) = (.sl 2 (List.map encRep (List.set y12 (Int.toNat y10) (SRep.mk y11 (w64 (y11 + 1))))) : X)] ⟨nav_one (f := encRep) (t := 1) (by kernel_rfl) (ix_set (v := (SRep.mk y11 x26.fAmt)) hx27), Eq.trans (upd_two (f := encRep) (v := (SRep.mk y11 (w64 (y11 + 1)))) (t := 1) (by kernel_rfl) (ix_set (v := (SRep.mk y11 x26.fAmt)) hx27) (by kernel_rfl)) (by kernel_rfl), trivial⟩ ?_
     refine re0 6 ?_
     refine rg cv hn ?_
     refine ro9 0 3 3 ⟨(1, zI (w64 ((w64 (y11 + 1)) + 1))) :: (25, zI (w64 ((w64 (y11 + 1)) + 1))) :: (24, zI (w64 (y11 + 1))) :: (23, .ep 5000000 0 [(0, (Int.toNat y10))] 1) :: (22, .ep 5000000 0 [(0, (Int.toNat y10))] 0) :: (21, zI (w64 (y11 + 1))) :: (20, zI y10) :: (19, .view 5000000 0 [] 0) :: (1, zI (w64 (y11 + 1))) :: (18, zI (w64 (y11 + 1))) :: (17, zI y11) :: (16, .ep 5000000 0 [(0, (Int.toNat y10))] 0) :: (15, .ep 5000000 0 [(0, (Int.toNat y10))] 0) :: (14, zI y11) :: (13, zI y10) :: (12, .view 5000000 0 [] 0) :: (9, zB (decide (y10 < (y12.length : Int)))) :: (8, zI (y12.length : Int)) :: (7, .view 5000000 0 [] 0) :: (6, zI y10) :: T2, (5000000, ⟨0, 0, false, some (.sl 2 (List.map encRep (List.set y12 (Int.toNat y10) (SRep.mk y11 (w64 (y11 + 1))))))⟩) :: (5000000, ⟨0, 0, false, some (.sl 2 (List.map encRep (List.set y12 (Int.toNat y10) (SRep.mk y11 x26.fAmt))))⟩) :: B2⟩ ?_
     refine rg cv hn ?_
     refine ro9 0 3 3 ⟨(5, zI (w64 (y10 + 1))) :: (11, zI (w64 (y10 + 1))) :: (10, zI y10) :: (1, zI (w64 ((w64 (y11 + 1)) + 1))) :: (25, zI (w64 ((w64 (y11 + 1)) + 1))) :: (24, zI (w64 (y11 + 1))) :: (23, .ep 5000000 0 [(0, (Int.toNat y10))] 1) :: (22, .ep 5000000 0 [(0, (Int.toNat y10))] 0) :: (21, zI (w64 (y11 + 1))) :: (20, zI y10) :: (19, .view 5000000 0 [] 0) :: (1, zI (w64 (y11 + 1))) :: (18, zI (w64 (y11 + 1))) :: (17, zI y11) :: (16, .ep 5000000 0 [(0, (Int.toNat y10))] 0) :: (15, .ep 5000000 0 [(0, (Int.toNat y10))] 0) :: (14, zI y11) :: (13, zI y10) :: (12, .view 5000000 0 [] 0) :: (9, zB (decide (y10 < (y12.length : Int)))) :: (8, zI (y12.length : Int)) :: (7, .view 5000000 0 [] 0) :: (6, zI y10) :: T2, (5000000, ⟨0, 0, false, some (.sl 2 (List.map encRep (List.set y12 (Int.toNat y10) (SRep.mk y11 (w64 (y11 + 1))))))⟩) :: (5000000, ⟨0, 0, false, some (.sl 2 (List.map encRep (List.set y12 (Int.toNat y10) (SRep.mk y11 x26.fAmt))))⟩) :: B2⟩ ?_
     exact ⟨(n1, w64 (y10 + 1), w64 ((w64 (y11 + 1)) + 1), List.set y12 (Int.toNat y10) (SRep.mk y11 (w64 (y11 + 1)))), Nat.lt_succ_self _, h, wre [5, 0, 1] [(5000000, 5000000, false)]⟩
   · replace h := cond_f hb23 h
     refine cf hb23 ?_
     refine runs_exit ?_
     repeat refine thenX_exit ?_
     refine block_here ?_
     let B3 : List (Nat × Bx) := [(5000000, ⟨0, 0, false, some (.sl 2 (List.map encRep y12))⟩)]
     refine wkr [1] [(5000000, 5000000, false)] ⟨[(1, zI y11)], B3⟩ ?_
     refine sqr cv hn ?_
     refine ro9 0 2 2 ⟨[(4, zI y11), (26, zI y11), (1, zI y11)], B3⟩ ?_
     refine runs_ret ?_
     exact fin _ _ h (by kernel_rfl)

set_option maxRecDepth 100000 in
set_option maxHeartbeats 2000000 in
theorem laws_markAcct_spec (a0 : SAcct) (a1 : Int) (v0 : (Int) × SAcct) (h : laws_markAcct a0 a1 = some v0) : Ax.Spec Try.prog 30 (some 0) [encAcct1 a0, zI a1] (zI v0.1 : X) (.agg [.junk, .junk, .junk, .sl 1 (List.map encInt v0.2.fMarks), .sl 1 (List.map encRep v0.2.fReps)] : X) := by
 let T1 : List (Nat × X) := [(0, .agg [zI a0.fHave, zI a0.fState, zI a0.fBy, .view 9000 1 [] 0, .view 19000 1 [] 0]), (1, zI a1)]
 let B1 : List (Nat × Bx) := [(19000, ⟨1, 1, false, some (.sl 3 (List.map encRep a0.fReps))⟩), (9000, ⟨1, 1, false, some (.sl 2 (List.map encInt a0.fMarks))⟩)]
 refine walk0 (fn := Try.f30) (fun q0 : (Int) × SAcct => (zI q0.1 : X)) (fun q0 : (Int) × SAcct => (.agg [.junk, .junk, .junk, .sl 1 (List.map encInt q0.2.fMarks), .sl 1 (List.map encRep q0.2.fReps)] : X)) v0 ⟨T1, B1⟩ Try.func30 rfl (by decide +kernel) fun Γ hn fin => ?_
 rw [laws_markAcct] at h
 refine sqr cv hn ?_
 refine ro9 0 2 2 ⟨(4, zI 0) :: (2, .ptr 2 1 0) :: T1, (2, ⟨1, 1, true, some (.agg [zI a0.fHave, zI a0.fState, zI a0.fBy, .sl 2 (List.map encInt a0.fMarks), .sl 3 (List.map encRep a0.fReps)])⟩) :: (19000, ⟨1, 2, false, some (.junk)⟩) :: (9000, ⟨1, 2, false, some (.junk)⟩) :: B1⟩ ?_
 refine sqr cv hn ?_
 refine ro 0 3 3 ⟨(7, zI a1) :: (6, .view 2 1 [] 3) :: (5, .ptr 2 1 3) :: (4, zI 0) :: (2, .ptr 2 1 0) :: T1, (2, ⟨1, 1, true, some (.agg [zI a0.fHave, zI a0.fState, zI a0.fBy, .sl 2 (List.map encInt a0.fMarks), .sl 3 (List.map encRep a0.fReps)])⟩) :: (19000, ⟨1, 2, false, some (.junk)⟩) :: (9000, ⟨1, 2, false, some (.junk)⟩) :: B1⟩ ?_
 obtain ⟨v3, hv4, h⟩ := bindO h
 refine rc 3 ⟨(8, zI v3.1) :: (7, zI a1) :: (6, .view 2 1 [] 3) :: (5, .ptr 2 1 3) :: (4, zI 0) :: (2, .ptr 2 1 0) :: T1, (2, ⟨1, 1, true, some (.agg [zI a0.fHave, zI a0.fState, zI a0.fBy, .sl 2 (List.map encInt v3.2), .sl 3 (List.map encRep a0.fReps)])⟩) :: (2, ⟨1, 1, true, some (.agg [zI a0.fHave, zI a0.fState, zI a0.fBy, .sl 2 (List.map encInt a0.fMarks), .sl 3 (List.map encRep a0.fReps)])⟩) :: (19000, ⟨1, 2, false, some (.junk)⟩) :: (9000, ⟨1, 2, false, some (.junk)⟩) :: B1⟩ (laws_markIntS_spec a0.fMarks a1 v3 hv4) ?_
 refine ro9 4 1 1 ⟨(1, zI v3.1) :: (8, zI v3.1) :: (7, zI a1) :: (6, .view 2 1 [] 3) :: (5, .ptr 2 1 3) :: (4, zI 0) :: (2, .ptr 2 1 0) :: T1, (2, ⟨1, 1, true, some (.agg [zI a0.fHave, zI a0.fState, zI a0.fBy, .sl 2 (List.map encInt v3.2), .sl 3 (List.map encRep a0.fReps)])⟩) :: (2, ⟨1, 1, true, some (.agg [zI a0.fHave, zI a0.fState, zI a0.fBy, .sl 2 (List.map encInt a0.fMarks), .sl 3 (List.map encRep a0.fReps)])⟩) :: (19000, ⟨1, 2, false, some (.junk)⟩) :: (9000, ⟨1, 2, false, some (.junk)⟩) :: B1⟩ ?_
 let B2 : List (Nat × Bx) := [(2, ⟨0, 0, true, some (.agg [zI a0.fHave, zI a0.fState, zI a0.fBy, .sl 2 (List.map encInt v3.2), .sl 3 (List.map encRep a0.fReps)])⟩)]
 refine wkr [1, 2] [(2, 2, false)] ⟨[(1, zI v3.1), (2, .ptr 2 0 0)], B2⟩ ?_
 refine sqr cv hn ?_
 refine ro 0 3 3 ⟨[(11, zI v3.1), (10, .view 2 0 [] 4), (9, .ptr 2 0 4), (1, zI v3.1), (2, .ptr 2 0 0)], B2⟩ ?_
 obtain ⟨v5, hv6, h⟩ := bindO h
 refine rc 3 ⟨[(12, zI v5.1), (11, zI v3.1), (10, .view 2 0 [] 4), (9, .ptr 2 0 4), (1, zI v3.1), (2, .ptr 2 0 0)], (2, ⟨0, 0, true, some (.agg [zI a0.fHave, zI a0.fState, zI a0.fBy, .sl 2 (List.map encInt v3.2), .sl 3 (List.map encRep v5.2)])⟩) :: B2⟩ (laws_markRepS_spec a0.fReps v3.1 v5 hv6) ?_
 refine ro9 4 1 1 ⟨[(1, zI v5.1), (12, zI v5.1), (11, zI v3.1), (10, .view 2 0 [] 4), (9, .ptr 2 0 4), (1, zI v3.1), (2, .ptr 2 0 0)], (2, ⟨0, 0, true, some (.agg [zI a0.fHave, zI a0.fState, zI a0.fBy, .sl 2 (List.map encInt v3.2), .sl 3 (List.map encRep v5.2)])⟩) :: B2⟩ ?_
 let B3 : List (Nat × Bx) := [(2, ⟨0, 0, true, some (.agg [zI a0.fHave, zI a0.fState, zI a0.fBy, .sl 2 (List.map encInt v3.2), .sl 3 (List.map encRep v5.2)])⟩)]
 refine wkr [1] [(2, 2, false)] ⟨[(1, zI v5.1)], B3⟩ ?_
 refine sqr cv hn ?_
 refine ro9 0 2 2 ⟨[(4, zI v5.1), (13, zI v5.1), (1, zI v5.1)], B3⟩ ?_
 refine runs_ret ?_
 exact fin _ _ h (by kernel_rfl)

set_option maxRecDepth 100000 in
set_option maxHeartbeats 2000000 in
theorem laws_heldIntS_spec (a0 : (List Int)) (a1 : Int) (v0 : Int) (h : laws_heldIntS a0 a1 = some v0) : Ax.Spec Try.prog 84 none [.sl 0 (List.map encInt a0), zI a1] (zI v0 : X) (.junk : X) := by
 let T1 : List (Nat × X) := [(0, .sl 0 (List.map encInt a0)), (1, zI a1)]
 refine walk0 (fn := Try.f84) (fun q0 : Int => (zI q0 : X)) (fun q0 : Int => (.junk : X)) v0 ⟨T1, []⟩ Try.func84 rfl (by decide +kernel) fun Γ hn fin => ?_
 rw [laws_heldIntS] at h
 refine sqr cv hn ?_
 refine ro9 0 1 1 ⟨(4, zI 0) :: T1, []⟩ ?_
 refine runs_seq ?_
 refine sqr cv hn ?_
 refine ro9 0 1 1 ⟨(5, zI 0) :: (4, zI 0) :: T1, []⟩ ?_
 refine runs_block ?_
 refine runs_loopM (σ := List Int × Nat × Int) (fun s => ⟨[(5, zI (s.2.1 : Int)), (0, .sl 0 (List.map encInt a0)), (1, zI s.2.2)], []⟩) (fun s => s.1 = List.drop s.2.1 a0 ∧ laws_heldIntS_l1 s.1 s.2.1 s.2.2 = some v0) (fun s => s.1.length) (a0, 0, a1) ⟨rfl, h⟩ (wre [5, 0, 1] []) ?_
 rintro ⟨t1, i1, y9⟩ ⟨hd1, h⟩
 refine seq0 ⟨[(5, zI (i1 : Int)), (0, .sl 0 (List.map encInt a0)), (1, zI y9)], []⟩ ?_
 refine runs_len 0 (es := List.map encInt a0) (by kernel_rfl) fun hl1 => ?_
 replace hl1 := len_of_map hl1
 cases t1 with
 | nil =>
   rw [laws_heldIntS_l1] at h
   have hLn1 := dnil hd1
   refine runs_seq ?_
   refine sqr cv hn ?_
   refine ro9 0 4 4 ⟨[(9, zB (decide ((i1 : Int) < (a0.length : Int)))), (8, zI (a0.length : Int)), (7, .sl 0 (List.map encInt a0)), (6, zI (i1 : Int)), (5, zI (i1 : Int)), (0, .sl 0 (List.map encInt a0)), (1, zI y9)], []⟩ ?_ (he := by rw [show (a0.length : Int) = ((List.map encInt a0).length : Int) from by rw [List.length_map]]; kernel_rfl)
   refine cf hLn1 ?_
   refine runs_exit ?_
   repeat refine thenX_exit ?_
   refine block_here ?_
   refine wkr [1] [] ⟨[(1, zI y9)], []⟩ ?_
   refine sqr cv hn ?_
   refine ro9 0 2 2 ⟨[(4, zI y9), (20, zI y9), (1, zI y9)], []⟩ ?_
   refine runs_ret ?_
   exact fin _ _ h (by kernel_rfl)
 | cons x10 t1 =>
   rw [laws_heldIntS_l1] at h
   have hLc1 := dcons hd1
   have hx10 := dget hd1
   have hi1 := dinc hd1 hl1
   refine runs_seq ?_
   refine sqr cv hn ?_
   refine ro9 0 4 4 ⟨[(9, zB (decide ((i1 : Int) < (a0.length : Int)))), (8, zI (a0.length : Int)), (7, .sl 0 (List.map encInt a0)), (6, zI (i1 : Int)), (5, zI (i1 : Int)), (0, .sl 0 (List.map encInt a0)), (1, zI y9)], []⟩ ?_ (he := by rw [show (a0.length : Int) = ((List.map encInt a0).length : Int) from by rw [List.length_map]]; kernel_rfl)
   refine ct hLc1 ?_
   refine runs_skip ?_
   refine runs_seq ?_
   refine runs_block ?_
   refine runs_seq ?_
   refine sqr cv hn ?_
   refine ro 0 2 2 ⟨[(13, zI (i1 : Int)), (12, .sl 0 (List.map encInt a0)), (9, zB (decide ((i1 : Int) < (a0.length : Int)))), (8, zI (a0.length : Int)), (7, .sl 0 (List.map encInt a0)), (6, zI (i1 : Int)), (5, zI (i1 : Int)), (0, .sl 0 (List.map encInt a0)), (1, zI y9)], []⟩ ?_
   refine rix 2 encInt 3 hx10 (ix_nn hx10) ⟨[(14, .rp (zI x10) 0), (13, zI (i1 : Int)), (12, .sl 0 (List.map encInt a0)), (9, zB (decide ((i1 : Int) < (a0.length : Int)))), (8, zI (a0.length : Int)), (7, .sl 0 (List.map encInt a0)), (6, zI (i1 : Int)), (5, zI (i1 : Int)), (0, .sl 0 (List.map encInt a0)), (1, zI y9)], []⟩ ?_
   refine ro9 3 3 3 ⟨[(17, zB (x10 != y9)), (16, zI y9), (15, zI x10), (14, .rp (zI x10) 0), (13, zI (i1 : Int)), (12, .sl 0 (List.map encInt a0)), (9, zB (decide ((i1 : Int) < (a0.length : Int)))), (8, zI (a0.length : Int)), (7, .sl 0 (List.map encInt a0)), (6, zI (i1 : Int)), (5, zI (i1 : Int)), (0, .sl 0 (List.map encInt a0)), (1, zI y9)], []⟩ ?_
   rcases dich (x10 != y9) with hb17 | hb17
   · replace h := cond_t hb17 h
     refine ct hb17 ?_
     refine sqr cv hn ?_
     refine ro9 0 1 1 ⟨[(4, zI (-1)), (17, zB (x10 != y9)), (16, zI y9), (15, zI x10), (14, .rp (zI x10) 0), (13, zI (i1 : Int)), (12, .sl 0 (List.map encInt a0)), (9, zB (decide ((i1 : Int) < (a0.length : Int)))), (8, zI (a0.length : Int)), (7, .sl 0 (List.map encInt a0)), (6, zI (i1 : Int)), (5, zI (i1 : Int)), (0, .sl 0 (List.map encInt a0)), (1, zI y9)], []⟩ ?_
     refine runs_ret ?_
     exact fin _ _ h (by kernel_rfl)
   · replace h := cond_f hb17 h
     refine cf hb17 ?_
     refine runs_skip ?_
     refine rg cv hn ?_
     refine ro9 0 3 3 ⟨[(1, zI (w64 (y9 + 1))), (19, zI (w64 (y9 + 1))), (18, zI y9), (17, zB (x10 != y9)), (16, zI y9), (15, zI x10), (14, .rp (zI x10) 0), (13, zI (i1 : Int)), (12, .sl 0 (List.map encInt a0)), (9, zB (decide ((i1 : Int) < (a0.length : Int)))), (8, zI (a0.length : Int)), (7, .sl 0 (List.map encInt a0)), (6, zI (i1 : Int)), (5, zI (i1 : Int)), (0, .sl 0 (List.map encInt a0)), (1, zI y9)], []⟩ ?_
     refine rg cv hn ?_
     refine ro9 0 3 3 ⟨[(5, zI ((i1 + 1 : Nat) : Int)), (11, zI ((i1 + 1 : Nat) : Int)), (10, zI (i1 : Int)), (1, zI (w64 (y9 + 1))), (19, zI (w64 (y9 + 1))), (18, zI y9), (17, zB (x10 != y9)), (16, zI y9), (15, zI x10), (14, .rp (zI x10) 0), (13, zI (i1 : Int)), (12, .sl 0 (List.map encInt a0)), (9, zB (decide ((i1 : Int) < (a0.length : Int)))), (8, zI (a0.length : Int)), (7, .sl 0 (List.map encInt a0)), (6, zI (i1 : Int)), (5, zI (i1 : Int)), (0, .sl 0 (List.map encInt a0)), (1, zI y9)], []⟩ ?_ (he := by rw [← hi1]; kernel_rfl)
     exact ⟨(t1, i1 + 1, w64 (y9 + 1)), Nat.lt_succ_self _, ⟨dnext hd1, h⟩, wre [5, 0, 1] []⟩

set_option maxRecDepth 100000 in
set_option maxHeartbeats 2000000 in
theorem laws_heldRepS_spec (a0 : (List SRep)) (a1 : Int) (v0 : Int) (h : laws_heldRepS a0 a1 = some v0) : Ax.Spec Try.prog 85 none [.sl 0 (List.map encRep a0), zI a1] (zI v0 : X) (.junk : X) := by
 let T1 : List (Nat × X) := [(0, .sl 0 (List.map encRep a0)), (1, zI a1)]
 refine walk0 (fn := Try.f85) (fun q0 : Int => (zI q0 : X)) (fun q0 : Int => (.junk : X)) v0 ⟨T1, []⟩ Try.func85 rfl (by decide +kernel) fun Γ hn fin => ?_
 rw [laws_heldRepS] at h
 refine sqr cv hn ?_
 refine ro9 0 1 1 ⟨(4, zI 0) :: T1, []⟩ ?_
 refine runs_seq ?_
 refine sqr cv hn ?_
 refine ro9 0 1 1 ⟨(5, zI 0) :: (4, zI 0) :: T1, []⟩ ?_
 refine runs_block ?_
 refine runs_loopM (σ := List SRep × Nat × Int) (fun s => ⟨[(5, zI (s.2.1 : Int)), (0, .sl 0 (List.map encRep a0)), (1, zI s.2.2)], []⟩) (fun s => s.1 = List.drop s.2.1 a0 ∧ laws_heldRepS_l1 s.1 s.2.1 s.2.2 = some v0) (fun s => s.1.length) (a0, 0, a1) ⟨rfl, h⟩ (wre [5, 0, 1] []) ?_
 rintro ⟨t1, i1, y13⟩ ⟨hd1, h⟩
 refine seq0 ⟨[(5, zI (i1 : Int)), (0, .sl 0 (List.map encRep a0)), (1, zI y13)], []⟩ ?_
 refine runs_len 0 (es := List.map encRep a0) (by kernel_rfl) fun hl1 => ?_
 replace hl1 := len_of_map hl1
 cases t1 with
 | nil =>
   rw [laws_heldRepS_l1] at h
   have hLn1 := dnil hd1
   refine runs_seq ?_
   refine sqr cv hn ?_
   refine ro9 0 4 4 ⟨[(9, zB (decide ((i1 : Int) < (a0.length : Int)))), (8, zI (a0.length : Int)), (7, .sl 0 (List.map encRep a0)), (6, zI (i1 : Int)), (5, zI (i1 : Int)), (0, .sl 0 (List.map encRep a0)), (1, zI y13)], []⟩ ?_ (he := by rw [show (a0.length : Int) = ((List.map encRep a0).length : Int) from by rw [List.length_map]]; kernel_rfl)
   refine cf hLn1 ?_
   refine runs_exit ?_
   repeat refine thenX_exit ?_
   refine block_here ?_
   refine wkr [1] [] ⟨[(1, zI y13)], []⟩ ?_
   refine sqr cv hn ?_
   refine ro9 0 2 2 ⟨[(4, zI y13), (30, zI y13), (1, zI y13)], []⟩ ?_
   refine runs_ret ?_
   exact fin _ _ h (by kernel_rfl)
 | cons x10 t1 =>
   rw [laws_heldRepS_l1] at h
   have hLc1 := dcons hd1
   have hx10 := dget hd1
   have hi1 := dinc hd1 hl1
   refine runs_seq ?_
   refine sqr cv hn ?_
   refine ro9 0 4 4 ⟨[(9, zB (decide ((i1 : Int) < (a0.length : Int)))), (8, zI (a0.length : Int)), (7, .sl 0 (List.map encRep a0)), (6, zI (i1 : Int)), (5, zI (i1 : Int)), (0, .sl 0 (List.map encRep a0)), (1, zI y13)], []⟩ ?_ (he := by rw [show (a0.length : Int) = ((List.map encRep a0).length : Int) from by rw [List.length_map]]; kernel_rfl)
   refine ct hLc1 ?_
   refine runs_skip ?_
   refine runs_seq ?_
   refine runs_block ?_
   refine runs_seq ?_
   refine sqr cv hn ?_
   refine ro 0 2 2 ⟨[(13, zI (i1 : Int)), (12, .sl 0 (List.map encRep a0)), (9, zB (decide ((i1 : Int) < (a0.length : Int)))), (8, zI (a0.length : Int)), (7, .sl 0 (List.map encRep a0)), (6, zI (i1 : Int)), (5, zI (i1 : Int)), (0, .sl 0 (List.map encRep a0)), (1, zI y13)], []⟩ ?_
   refine rix 2 encRep 119 hx10 (ix_nn hx10) ⟨[(14, .rp (encRep x10) 0), (13, zI (i1 : Int)), (12, .sl 0 (List.map encRep a0)), (9, zB (decide ((i1 : Int) < (a0.length : Int)))), (8, zI (a0.length : Int)), (7, .sl 0 (List.map encRep a0)), (6, zI (i1 : Int)), (5, zI (i1 : Int)), (0, .sl 0 (List.map encRep a0)), (1, zI y13)], []⟩ ?_
   refine ro9 3 4 4 ⟨[(18, zB (x10.fNode != y13)), (17, zI y13), (16, zI x10.fNode), (15, .rp (encRep x10) 0), (14, .rp (encRep x10) 0), (13, zI (i1 : Int)), (12, .sl 0 (List.map encRep a0)), (9, zB (decide ((i1 : Int) < (a0.length : Int)))), (8, zI (a0.length : Int)), (7, .sl 0 (List.map encRep a0)), (6, zI (i1 : Int)), (5, zI (i1 : Int)), (0, .sl 0 (List.map encRep a0)), (1, zI y13)], []⟩ ?_
   rcases dich (x10.fNode != y13) with hb26 | hb26
   · replace h := cond_t hb26 h
     refine ct hb26 ?_
     refine sqr cv hn ?_
     refine ro9 0 1 1 ⟨[(4, zI (-1)), (18, zB (x10.fNode != y13)), (17, zI y13), (16, zI x10.fNode), (15, .rp (encRep x10) 0), (14, .rp (encRep x10) 0), (13, zI (i1 : Int)), (12, .sl 0 (List.map encRep a0)), (9, zB (decide ((i1 : Int) < (a0.length : Int)))), (8, zI (a0.length : Int)), (7, .sl 0 (List.map encRep a0)), (6, zI (i1 : Int)), (5, zI (i1 : Int)), (0, .sl 0 (List.map encRep a0)), (1, zI y13)], []⟩ ?_
     refine runs_ret ?_
     exact fin _ _ h (by kernel_rfl)
   · replace h := cond_f hb26 h
     refine cf hb26 ?_
     refine runs_skip ?_
     refine sqr cv hn ?_
     refine ro9 0 3 3 ⟨[(1, zI (w64 (y13 + 1))), (20, zI (w64 (y13 + 1))), (19, zI y13), (18, zB (x10.fNode != y13)), (17, zI y13), (16, zI x10.fNode), (15, .rp (encRep x10) 0), (14, .rp (encRep x10) 0), (13, zI (i1 : Int)), (12, .sl 0 (List.map encRep a0)), (9, zB (decide ((i1 : Int) < (a0.length : Int)))), (8, zI (a0.length : Int)), (7, .sl 0 (List.map encRep a0)), (6, zI (i1 : Int)), (5, zI (i1 : Int)), (0, .sl 0 (List.map encRep a0)), (1, zI y13)], []⟩ ?_
     refine runs_seq ?_
     refine sqr cv hn ?_
     refine ro 0 2 2 ⟨[(22, zI (i1 : Int)), (21, .sl 0 (List.map encRep a0)), (1, zI (w64 (y13 + 1))), (20, zI (w64 (y13 + 1))), (19, zI y13), (18, zB (x10.fNode != y13)), (17, zI y13), (16, zI x10.fNode), (15, .rp (encRep x10) 0), (14, .rp (encRep x10) 0), (13, zI (i1 : Int)), (12, .sl 0 (List.map encRep a0)), (9, zB (decide ((i1 : Int) < (a0.length : Int)))), (8, zI (a0.length : Int)), (7, .sl 0 (List.map encRep a0)), (6, zI (i1 : Int)), (5, zI (i1 : Int)), (0, .sl 0 (List.map encRep a0)), (1, zI y13)], []⟩ ?_
     refine rix 2 encRep 119 hx10 (ix_nn hx10) ⟨[(23, .rp (encRep x10) 0), (22, zI (i1 : Int)), (21, .sl 0 (List.map encRep a0)), (1, zI (w64 (y13 + 1))), (20, zI (w64 (y13 + 1))), (19, zI y13), (18, zB (x10.fNode != y13)), (17, zI y13), (16, zI x10.fNode), (15, .rp (encRep x10) 0), (14, .rp (encRep x10) 0), (13, zI (i1 : Int)), (12, .sl 0 (List.map encRep a0)), (9, zB (decide ((i1 : Int) < (a0.length : Int)))), (8, zI (a0.length : Int)), (7, .sl 0 (List.map encRep a0)), (6, zI (i1 : Int)), (5, zI (i1 : Int)), (0, .sl 0 (List.map encRep a0)), (1, zI y13)], []⟩ ?_
     refine ro9 3 4 4 ⟨[(27, zB (x10.fAmt != (w64 (y13 + 1)))), (26, zI (w64 (y13 + 1))), (25, zI x10.fAmt), (24, .rp (encRep x10) 1), (23, .rp (encRep x10) 0), (22, zI (i1 : Int)), (21, .sl 0 (List.map encRep a0)), (1, zI (w64 (y13 + 1))), (20, zI (w64 (y13 + 1))), (19, zI y13), (18, zB (x10.fNode != y13)), (17, zI y13), (16, zI x10.fNode), (15, .rp (encRep x10) 0), (14, .rp (encRep x10) 0), (13, zI (i1 : Int)), (12, .sl 0 (List.map encRep a0)), (9, zB (decide ((i1 : Int) < (a0.length : Int)))), (8, zI (a0.length : Int)), (7, .sl 0 (List.map encRep a0)), (6, zI (i1 : Int)), (5, zI (i1 : Int)), (0, .sl 0 (List.map encRep a0)), (1, zI y13)], []⟩ ?_
     rcases dich (x10.fAmt != (w64 (y13 + 1))) with hb27 | hb27
     · replace h := cond_t hb27 h
       refine ct hb27 ?_
       refine sqr cv hn ?_
       refine ro9 0 1 1 ⟨[(4, zI (-1)), (27, zB (x10.fAmt != (w64 (y13 + 1)))), (26, zI (w64 (y13 + 1))), (25, zI x10.fAmt), (24, .rp (encRep x10) 1), (23, .rp (encRep x10) 0), (22, zI (i1 : Int)), (21, .sl 0 (List.map encRep a0)), (1, zI (w64 (y13 + 1))), (20, zI (w64 (y13 + 1))), (19, zI y13), (18, zB (x10.fNode != y13)), (17, zI y13), (16, zI x10.fNode), (15, .rp (encRep x10) 0), (14, .rp (encRep x10) 0), (13, zI (i1 : Int)), (12, .sl 0 (List.map encRep a0)), (9, zB (decide ((i1 : Int) < (a0.length : Int)))), (8, zI (a0.length : Int)), (7, .sl 0 (List.map encRep a0)), (6, zI (i1 : Int)), (5, zI (i1 : Int)), (0, .sl 0 (List.map encRep a0)), (1, zI y13)], []⟩ ?_
       refine runs_ret ?_
       exact fin _ _ h (by kernel_rfl)
     · replace h := cond_f hb27 h
       refine cf hb27 ?_
       refine runs_skip ?_
       refine rg cv hn ?_
       refine ro9 0 3 3 ⟨[(1, zI (w64 ((w64 (y13 + 1)) + 1))), (29, zI (w64 ((w64 (y13 + 1)) + 1))), (28, zI (w64 (y13 + 1))), (27, zB (x10.fAmt != (w64 (y13 + 1)))), (26, zI (w64 (y13 + 1))), (25, zI x10.fAmt), (24, .rp (encRep x10) 1), (23, .rp (encRep x10) 0), (22, zI (i1 : Int)), (21, .sl 0 (List.map encRep a0)), (1, zI (w64 (y13 + 1))), (20, zI (w64 (y13 + 1))), (19, zI y13), (18, zB (x10.fNode != y13)), (17, zI y13), (16, zI x10.fNode), (15, .rp (encRep x10) 0), (14, .rp (encRep x10) 0), (13, zI (i1 : Int)), (12, .sl 0 (List.map encRep a0)), (9, zB (decide ((i1 : Int) < (a0.length : Int)))), (8, zI (a0.length : Int)), (7, .sl 0 (List.map encRep a0)), (6, zI (i1 : Int)), (5, zI (i1 : Int)), (0, .sl 0 (List.map encRep a0)), (1, zI y13)], []⟩ ?_
       refine rg cv hn ?_
       refine ro9 0 3 3 ⟨[(5, zI ((i1 + 1 : Nat) : Int)), (11, zI ((i1 + 1 : Nat) : Int)), (10, zI (i1 : Int)), (1, zI (w64 ((w64 (y13 + 1)) + 1))), (29, zI (w64 ((w64 (y13 + 1)) + 1))), (28, zI (w64 (y13 + 1))), (27, zB (x10.fAmt != (w64 (y13 + 1)))), (26, zI (w64 (y13 + 1))), (25, zI x10.fAmt), (24, .rp (encRep x10) 1), (23, .rp (encRep x10) 0), (22, zI (i1 : Int)), (21, .sl 0 (List.map encRep a0)), (1, zI (w64 (y13 + 1))), (20, zI (w64 (y13 + 1))), (19, zI y13), (18, zB (x10.fNode != y13)), (17, zI y13), (16, zI x10.fNode), (15, .rp (encRep x10) 0), (14, .rp (encRep x10) 0), (13, zI (i1 : Int)), (12, .sl 0 (List.map encRep a0)), (9, zB (decide ((i1 : Int) < (a0.length : Int)))), (8, zI (a0.length : Int)), (7, .sl 0 (List.map encRep a0)), (6, zI (i1 : Int)), (5, zI (i1 : Int)), (0, .sl 0 (List.map encRep a0)), (1, zI y13)], []⟩ ?_ (he := by rw [← hi1]; kernel_rfl)
       exact ⟨(t1, i1 + 1, w64 ((w64 (y13 + 1)) + 1)), Nat.lt_succ_self _, ⟨dnext hd1, h⟩, wre [5, 0, 1] []⟩

set_option maxRecDepth 100000 in
set_option maxHeartbeats 2000000 in
theorem laws_heldAcct_spec (a0 : SAcct) (a1 : Int) (v0 : Int) (h : laws_heldAcct a0 a1 = some v0) : Ax.Spec Try.prog 31 none [encAcct0 a0, zI a1] (zI v0 : X) (.junk : X) := by
 refine walk0 (fn := Try.f31) (fun q0 : Int => (zI q0 : X)) (fun q0 : Int => (.junk : X)) v0 ⟨[(0, encAcct0 a0), (1, zI a1)], []⟩ Try.func31 rfl (by decide +kernel) fun Γ hn fin => ?_
 rw [laws_heldAcct] at h
 refine sqr cv hn ?_
 refine ro9 0 2 2 ⟨[(4, zI 0), (2, .ptr 2 1 0), (0, encAcct0 a0), (1, zI a1)], [(2, ⟨1, 1, true, some (encAcct0 a0)⟩)]⟩ ?_
 refine sqr cv hn ?_
 refine ro 0 3 3 ⟨[(7, zI a1), (6, .sl 0 (List.map encInt a0.fMarks)), (5, .ptr 2 1 3), (4, zI 0), (2, .ptr 2 1 0), (0, encAcct0 a0), (1, zI a1)], [(2, ⟨1, 1, true, some (encAcct0 a0)⟩)]⟩ ?_
 obtain ⟨v3, hv4, h⟩ := bindO h
 refine rc 3 ⟨[(8, zI v3), (7, zI a1), (6, .sl 0 (List.map encInt a0.fMarks)), (5, .ptr 2 1 3), (4, zI 0), (2, .ptr 2 1 0), (0, encAcct0 a0), (1, zI a1)], [(2, ⟨1, 1, true, some (encAcct0 a0)⟩)]⟩ (laws_heldIntS_spec a0.fMarks a1 v3 hv4) ?_
 refine ro9 4 1 1 ⟨[(1, zI v3), (8, zI v3), (7, zI a1), (6, .sl 0 (List.map encInt a0.fMarks)), (5, .ptr 2 1 3), (4, zI 0), (2, .ptr 2 1 0), (0, encAcct0 a0), (1, zI a1)], [(2, ⟨1, 1, true, some (encAcct0 a0)⟩)]⟩ ?_
 refine runs_seq ?_
 let B3 : List (Nat × Bx) := [(2, ⟨0, 0, true, some (encAcct0 a0)⟩)]
 refine wkr [1, 2] [(2, 2, false)] ⟨[(1, zI v3), (2, .ptr 2 0 0)], B3⟩ ?_
 refine sqr cv hn ?_
 refine ro9 0 2 2 ⟨[(10, zB (decide (v3 < 0))), (9, zI v3), (1, zI v3), (2, .ptr 2 0 0)], B3⟩ ?_
 rcases dich (decide (v3 < 0)) with hb6 | hb6
 · replace h := cond_t hb6 h
   refine ct hb6 ?_
   refine sqr cv hn ?_
   refine ro9 0 1 1 ⟨[(4, zI (-1)), (10, zB (decide (v3 < 0))), (9, zI v3), (1, zI v3), (2, .ptr 2 0 0)], B3⟩ ?_
   refine runs_ret ?_
   exact fin _ _ h (by kernel_rfl)
 · replace h := cond_f hb6 h
   refine cf hb6 ?_
   refine runs_skip ?_
   refine sqr cv hn ?_
   refine ro 0 3 3 ⟨[(13, zI v3), (12, .sl 0 (List.map encRep a0.fReps)), (11, .ptr 2 0 4), (10, zB (decide (v3 < 0))), (9, zI v3), (1, zI v3), (2, .ptr 2 0 0)], B3⟩ ?_
   obtain ⟨v9, hv10, h⟩ := bindO h
   refine rc 3 ⟨[(14, zI v9), (13, zI v3), (12, .sl 0 (List.map encRep a0.fReps)), (11, .ptr 2 0 4), (10, zB (decide (v3 < 0))), (9, zI v3), (1, zI v3), (2, .ptr 2 0 0)], B3⟩ (laws_heldRepS_spec a0.fReps v3 v9 hv10) ?_
   refine ro9 4 1 1 ⟨[(1, zI v9), (14, zI v9), (13, zI v3), (12, .sl 0 (List.map encRep a0.fReps)), (11, .ptr 2 0 4), (10, zB (decide (v3 < 0))), (9, zI v3), (1, zI v3), (2, .ptr 2 0 0)], B3⟩ ?_
   refine runs_seq ?_
   refine wkr [1] [] ⟨[(1, zI v9)], []⟩ ?_
   refine sqr cv hn ?_
   refine ro9 0 2 2 ⟨[(16, zB (decide (v9 < 0))), (15, zI v9), (1, zI v9)], []⟩ ?_
   rcases dich (decide (v9 < 0)) with hb11 | hb11
   · replace h := cond_t hb11 h
     refine ct hb11 ?_
     refine sqr cv hn ?_
     refine ro9 0 1 1 ⟨[(4, zI (-1)), (16, zB (decide (v9 < 0))), (15, zI v9), (1, zI v9)], []⟩ ?_
     refine runs_ret ?_
     exact fin _ _ h (by kernel_rfl)
   · replace h := cond_f hb11 h
     refine cf hb11 ?_
     refine runs_skip ?_
     refine sqr cv hn ?_
     refine ro9 0 2 2 ⟨[(4, zI v9), (17, zI v9), (16, zB (decide (v9 < 0))), (15, zI v9), (1, zI v9)], []⟩ ?_
     refine runs_ret ?_
     exact fin _ _ h (by kernel_rfl)

set_option maxRecDepth 100000 in
set_option maxHeartbeats 2000000 in
theorem spec_l08Copy_spec (a0 : SAcct) (v0 : SAcct) (h : spec_l08Copy a0 = some v0) : Ax.Spec Try.prog 75 none [encAcct0 a0] (encAcct1 v0 : X) (.junk : X) := by
 refine walk0 (fn := Try.f75) (fun q0 : SAcct => (encAcct1 q0 : X)) (fun q0 : SAcct => (.junk : X)) v0 ⟨[(0, encAcct0 a0)], []⟩ Try.func75 rfl (by decide +kernel) fun Γ hn fin => ?_
 rw [spec_l08Copy] at h
 refine sqr cv hn ?_
 refine ro9 0 2 2 ⟨[(2, .ptr 2 1 0), (1, .ptr 1 1 0), (0, encAcct0 a0)], [(2, ⟨1, 1, true, some (.agg [zI 0, zI 0, zI 0, .sl 1 (List.map encInt []), .sl 1 (List.map encRep [])])⟩), (1, ⟨1, 1, true, some (encAcct0 a0)⟩)]⟩ ?_
 refine sqr cv hn ?_
 refine rs 0 ⟨[(3, .view 3 1 [] 0), (2, .ptr 2 1 0), (1, .ptr 1 1 0), (0, encAcct0 a0)], [(3, ⟨1, 1, false, some (.sl 1 (List.map encInt []))⟩), (2, ⟨1, 1, true, some (.agg [zI 0, zI 0, zI 0, .sl 1 (List.map encInt []), .sl 1 (List.map encRep [])])⟩), (1, ⟨1, 1, true, some (encAcct0 a0)⟩)]⟩ [∀ y ∈ (List.map encInt [] : List X), (X.cells y).length = tSize Try.prog 3] ⟨fmap fun _ => by kernel_rfl, trivial⟩ ?_
 refine ro 1 2 2 ⟨[(5, .sl 0 (List.map encInt a0.fMarks)), (4, .ptr 1 1 3), (3, .view 3 1 [] 0), (2, .ptr 2 1 0), (1, .ptr 1 1 0), (0, encAcct0 a0)], [(3, ⟨1, 1, false, some (.sl 1 (List.map encInt []))⟩), (2, ⟨1, 1, true, some (.agg [zI 0, zI 0, zI 0, .sl 1 (List.map encInt []), .sl 1 (List.map encRep [])])⟩), (1, ⟨1, 1, true, some (encAcct0 a0)⟩)]⟩ ?_
 obtain ⟨hg2, h⟩ := gO_some h
 refine rs 3 ⟨[(6, .view 6 1 [] 0), (5, .sl 0 (List.map encInt a0.fMarks)), (4, .ptr 1 1 3), (3, .view 3 1 [] 0), (2, .ptr 2 1 0), (1, .ptr 1 1 0), (0, encAcct0 a0)], [(6, ⟨1, 1, false, some (.sl 1 (List.map encInt a0.fMarks))⟩), (3, ⟨1, 2, false, some (.junk)⟩), (3, ⟨1, 1, false, some (.sl 1 (List.map encInt []))⟩), (2, ⟨1, 1, true, some (.agg [zI 0, zI 0, zI 0, .sl 1 (List.map encInt []), .sl 1 (List.map encRep [])])⟩), (1, ⟨1, 1, true, some (encAcct0 a0)⟩)]⟩ [((List.map encInt [] : List X).length + (List.map encInt a0.fMarks : List X).length) * tBytes Try.prog 3 ≤ 140737488355328 ∧ (List.map encInt [] : List X).length + (List.map encInt a0.fMarks : List X).length ≤ 140737488355328 ∧ (∀ y ∈ (List.map encInt [] : List X), (X.cells y).length = tSize Try.prog 3) ∧ ∀ y ∈ (List.map encInt a0.fMarks : List X), (X.cells y).length = tSize Try.prog 3] ⟨⟨(app_side (b := 8) (b2 := tBytes Try.prog 3) (f := encInt) (A := []) (B := a0.fMarks) (by kernel_rfl) hg2).1, (app_side (b := 8) (b2 := 8) (f := encInt) (A := []) (B := a0.fMarks) rfl hg2).2, fmap fun _ => by kernel_rfl, fmap fun _ => by kernel_rfl⟩, trivial⟩ ?_
 refine ro9 4 2 2 ⟨[(7, .ptr 1 1 3), (6, .view 6 1 [] 0), (5, .sl 0 (List.map encInt a0.fMarks)), (4, .ptr 1 1 3), (3, .view 3 1 [] 0), (2, .ptr 2 1 0), (1, .ptr 1 1 0), (0, encAcct0 a0)], [(1, ⟨1, 2, true, some (.agg [zI a0.fHave, zI a0.fState, zI a0.fBy, .sl 1 (List.map encInt a0.fMarks), .sl 0 (List.map encRep a0.fReps)])⟩), (6, ⟨1, 2, false, some (.junk)⟩), (6, ⟨1, 1, false, some (.sl 1 (List.map encInt a0.fMarks))⟩), (3, ⟨1, 2, false, some (.junk)⟩), (3, ⟨1, 1, false, some (.sl 1 (List.map encInt []))⟩), (2, ⟨1, 1, true, some (.agg [zI 0, zI 0, zI 0, .sl 1 (List.map encInt []), .sl 1 (List.map encRep [])])⟩), (1, ⟨1, 1, true, some (encAcct0 a0)⟩)]⟩ ?_
 let T2 : List (Nat × X) := [(2, .ptr 2 0 0), (1, .ptr 1 0 0)]
 let B2 : List (Nat × Bx) := [(2, ⟨0, 0, true, some (.agg [zI 0, zI 0, zI 0, .sl 1 (List.map encInt []), .sl 1 (List.map encRep [])])⟩), (1, ⟨0, 0, true, some (.agg [zI a0.fHave, zI a0.fState, zI a0.fBy, .sl 1 (List.map encInt a0.fMarks), .sl 0 (List.map encRep a0.fReps)])⟩)]
 refine wkr [2, 1] [(2, 2, false), (1, 1, false)] ⟨T2, B2⟩ ?_
 refine sqr cv hn ?_
 refine rs 0 ⟨(8, .view 8 1 [] 0) :: T2, (8, ⟨1, 1, false, some (.sl 1 (List.map encRep []))⟩) :: B2⟩ [∀ y ∈ (List.map encRep [] : List X), (X.cells y).length = tSize Try.prog 119] ⟨fmap fun _ => by kernel_rfl, trivial⟩ ?_
 refine ro 1 2 2 ⟨(10, .sl 0 (List.map encRep a0.fReps)) :: (9, .ptr 1 0 4) :: (8, .view 8 1 [] 0) :: T2, (8, ⟨1, 1, false, some (.sl 1 (List.map encRep []))⟩) :: B2⟩ ?_
 obtain ⟨hg3, h⟩ := gO_some h
 refine rs 3 ⟨(11, .view 11 1 [] 0) :: (10, .sl 0 (List.map encRep a0.fReps)) :: (9, .ptr 1 0 4) :: (8, .view 8 1 [] 0) :: T2, (11, ⟨1, 1, false, some (.sl 1 (List.map encRep a0.fReps))⟩) :: (8, ⟨1, 2, false, some (.junk)⟩) :: (8, ⟨1, 1, false, some (.sl 1 (List.map encRep []))⟩) :: B2⟩ [((List.map encRep [] : List X).length + (List.map encRep a0.fReps : List X).length) * tBytes Try.prog 119 ≤ 140737488355328 ∧ (List.map encRep [] : List X).length + (List.map encRep a0.fReps : List X).length ≤ 140737488355328 ∧ (∀ y ∈ (List.map encRep [] : List X), (X.cells y).length = tSize Try.prog 119) ∧ ∀ y ∈ (List.map encRep a0.fReps : List X), (X.cells y).length = tSize Try.prog 119] ⟨⟨(app_side (b := 16) (b2 := tBytes Try.prog 119) (f := encRep) (A := []) (B := a0.fReps) (by kernel_rfl) hg3).1, (app_side (b := 16) (b2 := 16) (f := encRep) (A := []) (B := a0.fReps) rfl hg3).2, fmap fun _ => by kernel_rfl, fmap fun _ => by kernel_rfl⟩, trivial⟩ ?_
 refine ro9 4 2 2 ⟨(12, .ptr 1 0 4) :: (11, .view 11 1 [] 0) :: (10, .sl 0 (List.map encRep a0.fReps)) :: (9, .ptr 1 0 4) :: (8, .view 8 1 [] 0) :: T2, (1, ⟨0, 1, true, some (encAcct1 a0)⟩) :: (11, ⟨1, 2, false, some (.junk)⟩) :: (11, ⟨1, 1, false, some (.sl 1 (List.map encRep a0.fReps))⟩) :: (8, ⟨1, 2, false, some (.junk)⟩) :: (8, ⟨1, 1, false, some (.sl 1 (List.map encRep []))⟩) :: B2⟩ ?_
 let T3 : List (Nat × X) := [(2, .ptr 2 0 0), (1, .ptr 1 0 0)]
 let B3 : List (Nat × Bx) := [(2, ⟨0, 0, true, some (.agg [zI 0, zI 0, zI 0, .sl 1 (List.map encInt []), .sl 1 (List.map encRep [])])⟩), (1, ⟨0, 0, true, some (encAcct1 a0)⟩)]
 refine wkr [2, 1] [(2, 2, false), (1, 1, false)] ⟨T3, B3⟩ ?_
 refine sqr cv hn ?_
 refine ro9 0 2 2 ⟨(13, .agg [zI a0.fHave, zI a0.fState, zI a0.fBy, .view 1 0 [] 3, .view 1 0 [] 4]) :: T3, (2, ⟨0, 1, true, some (encAcct1 a0)⟩) :: (1, ⟨0, 2, true, some (.agg [zI a0.fHave, zI a0.fState, zI a0.fBy, .junk, .junk])⟩) :: (1, ⟨0, 1, true, some (.agg [zI a0.fHave, zI a0.fState, zI a0.fBy, .junk, .sl 1 (List.map encRep a0.fReps)])⟩) :: B3⟩ ?_
 refine runs_ret ?_
 exact fin _ _ h (by kernel_rfl)

set_option maxRecDepth 100000 in
set_option maxHeartbeats 2000000 in
theorem spec_l01In_spec (a0 : Int) (a1 : Int) (a2 : Int) (v0 : Bool) (h : spec_l01In a0 a1 a2 = some v0) : Ax.Spec Try.prog 87 none [zI a0, zI a1, zI a2] (zB v0 : X) (.junk : X) := by
 let T1 : List (Nat × X) := [(0, zI a0), (1, zI a1), (2, zI a2)]
 refine walk0 (fn := Try.f87) (fun q0 : Bool => (zB q0 : X)) (fun q0 : Bool => (.junk : X)) v0 ⟨T1, []⟩ Try.func87 rfl (by decide +kernel) fun Γ hn fin => ?_
 rw [spec_l01In] at h
 refine sqr cv hn ?_
 refine ro9 0 1 1 ⟨(6, zB false) :: T1, []⟩ ?_
 refine sqr cv hn ?_
 refine ro 0 4 4 ⟨(10, zB (decide (a0 ≥ a1))) :: (9, zB (decide (a0 ≥ a1))) :: (8, zI a1) :: (7, zI a0) :: (6, zB false) :: T1, []⟩ ?_
 rcases dich (decide (a0 ≥ a1)) with hb1 | hb1
 · replace h := cond_t hb1 h
   refine rl 10 true hb1 ?_
   refine ro9 4 5 5 ⟨(6, zB (decide (a0 ≤ a2))) :: (14, zB (decide (a0 ≤ a2))) :: (13, zB (decide (a0 ≤ a2))) :: (12, zI a2) :: (11, zI a0) :: (10, zB true) :: (9, zB (decide (a0 ≥ a1))) :: (8, zI a1) :: (7, zI a0) :: (6, zB false) :: T1, []⟩ ?_
   refine runs_ret ?_
   exact fin _ _ h (by kernel_rfl)
 · replace h := cond_f hb1 h
   refine rl 10 false hb1 ?_
   refine ro9 4 5 2 ⟨(6, zB false) :: (14, zB false) :: (13, .tup []) :: (12, .tup []) :: (11, .tup []) :: (10, zB false) :: (9, zB (decide (a0 ≥ a1))) :: (8, zI a1) :: (7, zI a0) :: (6, zB false) :: T1, []⟩ ?_
   refine runs_ret ?_
   exact fin _ _ h (by kernel_rfl)

set_option maxRecDepth 100000 in
set_option maxHeartbeats 2000000 in
theorem spec_l07Node_spec (a0 : Int) (v0 : Bool) (h : spec_l07Node a0 = some v0) : Ax.Spec Try.prog 86 none [zI a0] (zB v0 : X) (.junk : X) := by
 refine walk0 (fn := Try.f86) (fun q0 : Bool => (zB q0 : X)) (fun q0 : Bool => (.junk : X)) v0 ⟨[(0, zI a0)], []⟩ Try.func86 rfl (by decide +kernel) fun Γ hn fin => ?_
 rw [spec_l07Node] at h
 refine sqr cv hn ?_
 refine ro9 0 1 1 ⟨[(2, zB false), (0, zI a0)], []⟩ ?_
 refine sqr cv hn ?_
 refine ro 0 1 1 ⟨[(3, zI a0), (2, zB false), (0, zI a0)], []⟩ ?_
 obtain ⟨v1, hv2, h⟩ := bindO h
 refine rc 1 ⟨[(4, zB v1), (3, zI a0), (2, zB false), (0, zI a0)], []⟩ (spec_l01In_spec a0 0 3 v1 hv2) ?_
 refine ro9 2 1 1 ⟨[(2, zB v1), (4, zB v1), (3, zI a0), (2, zB false), (0, zI a0)], []⟩ ?_
 refine runs_ret ?_
 exact fin _ _ h (by kernel_rfl)

set_option maxRecDepth 100000 in
set_option maxHeartbeats 2000000 in
theorem spec_l01Num_spec (a0 : Int) (v0 : Bool) (h : spec_l01Num a0 = some v0) : Ax.Spec Try.prog 100 none [zI a0] (zB v0 : X) (.junk : X) := by
 refine walk0 (fn := Try.f100) (fun q0 : Bool => (zB q0 : X)) (fun q0 : Bool => (.junk : X)) v0 ⟨[(0, zI a0)], []⟩ Try.func100 rfl (by decide +kernel) fun Γ hn fin => ?_
 rw [spec_l01Num] at h
 refine sqr cv hn ?_
 refine ro9 0 1 1 ⟨[(2, zB false), (0, zI a0)], []⟩ ?_
 refine sqr cv hn ?_
 refine ro 0 1 1 ⟨[(3, zI a0), (2, zB false), (0, zI a0)], []⟩ ?_
 obtain ⟨v1, hv2, h⟩ := bindO h
 refine rc 1 ⟨[(4, zB v1), (3, zI a0), (2, zB false), (0, zI a0)], []⟩ (spec_l01In_spec a0 0 1125899906842624 v1 hv2) ?_
 refine ro9 2 1 1 ⟨[(2, zB v1), (4, zB v1), (3, zI a0), (2, zB false), (0, zI a0)], []⟩ ?_
 refine runs_ret ?_
 exact fin _ _ h (by kernel_rfl)

set_option maxRecDepth 100000 in
set_option maxHeartbeats 2000000 in
theorem spec_AcctRep_spec (a0 : SAcct) (a1 : Int) (a2 : Int) (a3 : Int) (v0 : SAcct × Bool) (h : spec_AcctRep a0 a1 a2 a3 = some v0) : Ax.Spec Try.prog 51 none [encAcct0 a0, zI a1, zI a2, zI a3] (.tup [encAcct1 v0.1, zB v0.2] : X) (.junk : X) := by
 let T1 : List (Nat × X) := [(0, encAcct0 a0), (1, zI a1), (2, zI a2), (3, zI a3)]
 refine walk0 (fn := Try.f51) (fun q0 : SAcct × Bool => (.tup [encAcct1 q0.1, zB q0.2] : X)) (fun q0 : SAcct × Bool => (.junk : X)) v0 ⟨T1, []⟩ Try.func51 rfl (by decide +kernel) fun Γ hn fin => ?_
 rw [spec_AcctRep] at h
 refine sqr cv hn ?_
 refine ro9 0 3 3 ⟨(9, zB false) :: (8, .ptr 8 1 0) :: (4, .ptr 4 1 0) :: T1, [(8, ⟨1, 1, true, some (.agg [zI 0, zI 0, zI 0, .sl 1 (List.map encInt []), .sl 1 (List.map encRep [])])⟩), (4, ⟨1, 1, true, some (encAcct0 a0)⟩)]⟩ ?_
 refine runs_seq ?_
 refine runs_seqJ (σ := Bool) (fun s => ⟨[(1, zI a1), (2, zI a2), (3, zI a3), (4, .ptr 4 0 0), (8, .ptr 8 0 0), (26, zB s)], [(4, ⟨0, 0, true, some (encAcct0 a0)⟩), (8, ⟨0, 0, true, some (.agg [zI 0, zI 0, zI 0, .sl 1 (List.map encInt []), .sl 1 (List.map encRep [])])⟩)]⟩) (fun s => spec_AcctRep_j1 a0 a1 a2 a3 s = some v0) ?_ ?_
 · rintro y21 h
   rw [spec_AcctRep_j1] at h
   let T3 : List (Nat × X) := [(1, zI a1), (2, zI a2), (3, zI a3), (4, .ptr 4 0 0), (8, .ptr 8 0 0), (26, zB y21)]
   let B3 : List (Nat × Bx) := [(4, ⟨0, 0, true, some (encAcct0 a0)⟩), (8, ⟨0, 0, true, some (.agg [zI 0, zI 0, zI 0, .sl 1 (List.map encInt []), .sl 1 (List.map encRep [])])⟩)]
   refine seq0 ⟨T3, B3⟩ ?_
   rcases dich y21 with hb22 | hb22
   · replace h := cond_t hb22 h
     refine ct hb22 ?_
     refine sqr cv hn ?_
     refine ro9 0 3 3 ⟨(9, zB false) :: (27, .agg [zI 0, zI 0, zI 0, .sc (.slice none 0 0), .sc (.slice none 0 0)]) :: T3, (8, ⟨0, 1, true, some (.agg [zI 0, zI 0, zI 0, .sl 1 (List.map encInt []), .sl 1 (List.map encRep [])])⟩) :: B3⟩ ?_
     refine runs_ret ?_
     exact fin _ _ h (by kernel_rfl)
   · replace h := cond_f hb22 h
     refine cf hb22 ?_
     refine runs_skip ?_
     refine sqr cv hn ?_
     refine ro 0 1 1 ⟨(28, encAcct0 a0) :: T3, B3⟩ ?_
     obtain ⟨v25, hv26, h⟩ := bindO h
     refine rc 1 ⟨(29, .agg [zI v25.fHave, zI v25.fState, zI v25.fBy, .view 29 1 [] 0, .view 10029 1 [] 0]) :: (28, encAcct0 a0) :: T3, (10029, ⟨1, 1, false, some (.sl 1 (List.map encRep v25.fReps))⟩) :: (29, ⟨1, 1, false, some (.sl 1 (List.map encInt v25.fMarks))⟩) :: B3⟩ (spec_l08Copy_spec a0 v25 hv26) ?_
     refine ro9 2 2 2 ⟨(10, .ptr 10 1 0) :: (29, .agg [zI v25.fHave, zI v25.fState, zI v25.fBy, .view 29 1 [] 0, .view 10029 1 [] 0]) :: (28, encAcct0 a0) :: T3, (10, ⟨1, 2, true, some (encAcct1 v25)⟩) :: (10029, ⟨1, 2, false, some (.junk)⟩) :: (29, ⟨1, 2, false, some (.junk)⟩) :: (10, ⟨1, 1, true, some (.agg [zI 0, zI 0, zI 0, .sl 1 (List.map encInt []), .sl 1 (List.map encRep [])])⟩) :: (10029, ⟨1, 1, false, some (.sl 1 (List.map encRep v25.fReps))⟩) :: (29, ⟨1, 1, false, some (.sl 1 (List.map encInt v25.fMarks))⟩) :: B3⟩ ?_
     let T5 : List (Nat × X) := [(10, .ptr 10 0 0), (1, zI a1), (2, zI a2), (3, zI a3), (4, .ptr 4 0 0), (8, .ptr 8 0 0)]
     let B5 : List (Nat × Bx) := [(10, ⟨0, 0, true, some (encAcct1 v25)⟩), (4, ⟨0, 0, true, some (encAcct0 a0)⟩), (8, ⟨0, 0, true, some (.agg [zI 0, zI 0, zI 0, .sl 1 (List.map encInt []), .sl 1 (List.map encRep [])])⟩)]
     refine wkr [10, 1, 2, 3, 4, 8] [(10, 10, false), (4, 4, false), (8, 8, false)] ⟨T5, B5⟩ ?_
     refine sqr cv hn ?_
     refine rs 0 ⟨(30, .view 30 1 [] 0) :: T5, (30, ⟨1, 1, false, some (.sl 1 (List.map encRep []))⟩) :: B5⟩ [∀ y ∈ (List.map encRep [] : List X), (X.cells y).length = tSize Try.prog 119] ⟨fmap fun _ => by kernel_rfl, trivial⟩ ?_
     refine ro9 1 2 2 ⟨(31, .ptr 10 0 4) :: (30, .view 30 1 [] 0) :: T5, (10, ⟨0, 1, true, some (.agg [zI v25.fHave, zI v25.fState, zI v25.fBy, .sl 1 (List.map encInt v25.fMarks), .sl 1 (List.map encRep [])])⟩) :: (30, ⟨1, 2, false, some (.junk)⟩) :: (30, ⟨1, 1, false, some (.sl 1 (List.map encRep []))⟩) :: B5⟩ ?_
     let T7 : List (Nat × X) := [(10, .ptr 10 0 0), (1, zI a1), (2, zI a2), (3, zI a3), (4, .ptr 4 0 0), (8, .ptr 8 0 0)]
     let B7 : List (Nat × Bx) := [(10, ⟨0, 0, true, some (.agg [zI v25.fHave, zI v25.fState, zI v25.fBy, .sl 1 (List.map encInt v25.fMarks), .sl 1 (List.map encRep [])])⟩), (4, ⟨0, 0, true, some (encAcct0 a0)⟩), (8, ⟨0, 0, true, some (.agg [zI 0, zI 0, zI 0, .sl 1 (List.map encInt []), .sl 1 (List.map encRep [])])⟩)]
     refine wkr [10, 1, 2, 3, 4, 8] [(10, 10, false), (4, 4, false), (8, 8, false)] ⟨T7, B7⟩ ?_
     refine sqr cv hn ?_
     refine ro9 0 1 1 ⟨(11, zB false) :: T7, B7⟩ ?_
     refine runs_seq ?_
     refine sqr cv hn ?_
     refine ro9 0 4 4 ⟨(35, zI 0) :: (34, zI (a0.fReps.length : Int)) :: (33, .sl 0 (List.map encRep a0.fReps)) :: (32, .ptr 4 0 4) :: (11, zB false) :: T7, B7⟩ ?_ (he := by rw [show (a0.fReps.length : Int) = ((List.map encRep a0.fReps).length : Int) from by rw [List.length_map]]; kernel_rfl)
     refine runs_block ?_
     refine runs_loopM (σ := List SRep × Nat × Bool × (List SRep)) (fun s => ⟨[(35, zI (s.2.1 : Int)), (34, zI (a0.fReps.length : Int)), (33, .sl 0 (List.map encRep a0.fReps)), (11, zB s.2.2.1), (10, .ptr 10 0 0), (1, zI a1), (2, zI a2), (3, zI a3), (8, .ptr 8 0 0)], [(10, ⟨0, 0, true, some (.agg [zI v25.fHave, zI v25.fState, zI v25.fBy, .sl 1 (List.map encInt v25.fMarks), .sl 1 (List.map encRep s.2.2.2)])⟩), (8, ⟨0, 0, true, some (.agg [zI 0, zI 0, zI 0, .sl 1 (List.map encInt []), .sl 1 (List.map encRep [])])⟩)]⟩) (fun s => s.1 = List.drop s.2.1 a0.fReps ∧ spec_AcctRep_l2 a1 a2 a3 v25 s.1 s.2.1 s.2.2.1 s.2.2.2 = some v0) (fun s => s.1.length) (a0.fReps, 0, false, []) ⟨rfl, h⟩ (wre [35, 34, 33, 11, 10, 1, 2, 3, 8] [(10, 10, false), (8, 8, false)]) ?_
     rintro ⟨t2, i2, y114, y115⟩ ⟨hd2, h⟩
     refine seq0 ⟨[(35, zI (i2 : Int)), (34, zI (a0.fReps.length : Int)), (33, .sl 0 (List.map encRep a0.fReps)), (11, zB y114), (10, .ptr 10 0 0), (1, zI a1), (2, zI a2), (3, zI a3), (8, .ptr 8 0 0)], [(10, ⟨0, 0, true, some (.agg [zI v25.fHave, zI v25.fState, zI v25.fBy, .sl 1 (List.map encInt v25.fMarks), .sl 1 (List.map encRep y115)])⟩), (8, ⟨0, 0, true, some (.agg [zI 0, zI 0, zI 0, .sl 1 (List.map encInt []), .sl 1 (List.map encRep [])])⟩)]⟩ ?_
     refine runs_len 33 (es := List.map encRep a0.fReps) (by kernel_rfl) fun hl2 => ?_
     replace hl2 := len_of_map hl2
     cases t2 with
     | nil =>
       rw [spec_AcctRep_l2] at h
       have hLn2 := dnil hd2
       refine sqr cv hn ?_
       refine ro9 0 1 1 ⟨[(36, zB (decide ((i2 : Int) < (a0.fReps.length : Int)))), (35, zI (i2 : Int)), (34, zI (a0.fReps.length : Int)), (33, .sl 0 (List.map encRep a0.fReps)), (11, zB y114), (10, .ptr 10 0 0), (1, zI a1), (2, zI a2), (3, zI a3), (8, .ptr 8 0 0)], [(10, ⟨0, 0, true, some (.agg [zI v25.fHave, zI v25.fState, zI v25.fBy, .sl 1 (List.map encInt v25.fMarks), .sl 1 (List.map encRep y115)])⟩), (8, ⟨0, 0, true, some (.agg [zI 0, zI 0, zI 0, .sl 1 (List.map encInt []), .sl 1 (List.map encRep [])])⟩)]⟩ ?_
       refine runs_seq ?_
       refine cf hLn2 ?_
       refine runs_exit ?_
       repeat refine thenX_exit ?_
       refine block_here ?_
       refine runs_seqJ (σ := (List SRep)) (fun s => ⟨[(3, zI a3), (8, .ptr 8 0 0), (10, .ptr 10 0 0)], [(8, ⟨0, 0, true, some (.agg [zI 0, zI 0, zI 0, .sl 1 (List.map encInt []), .sl 1 (List.map encRep [])])⟩), (10, ⟨0, 0, true, some (.agg [zI v25.fHave, zI v25.fState, zI v25.fBy, .sl 1 (List.map encInt v25.fMarks), .sl 1 (List.map encRep s)])⟩)]⟩) (fun s => spec_AcctRep_j3 a3 v25 s = some v0) ?_ ?_
       · rintro y146 h
         rw [spec_AcctRep_j3] at h
         let T35 : List (Nat × X) := [(3, zI a3), (8, .ptr 8 0 0), (10, .ptr 10 0 0)]
         let B35 : List (Nat × Bx) := [(8, ⟨0, 0, true, some (.agg [zI 0, zI 0, zI 0, .sl 1 (List.map encInt []), .sl 1 (List.map encRep [])])⟩), (10, ⟨0, 0, true, some (.agg [zI v25.fHave, zI v25.fState, zI v25.fBy, .sl 1 (List.map encInt v25.fMarks), .sl 1 (List.map encRep y146)])⟩)]
         refine seq0 ⟨T35, B35⟩ ?_
         refine runs_seq ?_
         refine sqr cv hn ?_
         refine ro9 0 5 5 ⟨(81, zB ((y146.length : Int) == a3)) :: (80, zI a3) :: (79, zI (y146.length : Int)) :: (78, .view 10 0 [] 4) :: (77, .ptr 10 0 4) :: T35, B35⟩ ?_ (he := by rw [show (y146.length : Int) = ((List.map encRep y146).length : Int) from by rw [List.length_map]]; kernel_rfl)
         rcases dich ((y146.length : Int) == a3) with hb147 | hb147
         · replace h := cond_t hb147 h
           refine ct hb147 ?_
           let T36 : List (Nat × X) := [(8, .ptr 8 0 0), (10, .ptr 10 0 0)]
           let B36 : List (Nat × Bx) := [(8, ⟨0, 0, true, some (.agg [zI 0, zI 0, zI 0, .sl 1 (List.map encInt []), .sl 1 (List.map encRep [])])⟩), (10, ⟨0, 0, true, some (.agg [zI v25.fHave, zI v25.fState, zI v25.fBy, .sl 1 (List.map encInt v25.fMarks), .sl 1 (List.map encRep y146)])⟩)]
           refine wkr [8, 10] [(8, 8, false), (10, 10, false)] ⟨T36, B36⟩ ?_
           refine rg cv hn ?_
           refine ro9 0 2 2 ⟨(82, .ptr 10 0 1) :: T36, (10, ⟨0, 0, true, some (.agg [zI v25.fHave, zI 2, zI v25.fBy, .sl 1 (List.map encInt v25.fMarks), .sl 1 (List.map encRep y146)])⟩) :: B36⟩ ?_
           refine sqr cv hn ?_
           refine ro9 0 3 3 ⟨(9, zB true) :: (83, .agg [zI v25.fHave, zI 2, zI v25.fBy, .view 10 0 [] 3, .view 10 0 [] 4]) :: (82, .ptr 10 0 1) :: T36, (8, ⟨0, 1, true, some (.agg [zI v25.fHave, zI 2, zI v25.fBy, .sl 1 (List.map encInt v25.fMarks), .sl 1 (List.map encRep y146)])⟩) :: (10, ⟨0, 2, true, some (.agg [zI v25.fHave, zI 2, zI v25.fBy, .junk, .junk])⟩) :: (10, ⟨0, 1, true, some (.agg [zI v25.fHave, zI 2, zI v25.fBy, .junk, .sl 1 (List.map encRep y146)])⟩) :: (10, ⟨0, 0, true, some (.agg [zI v25.fHave, zI 2, zI v25.fBy, .sl 1 (List.map encInt v25.fMarks), .sl 1 (List.map encRep y146)])⟩) :: B36⟩ ?_
           refine runs_ret ?_
           exact fin _ _ h (by kernel_rfl)
         · replace h := cond_f hb147 h
           refine cf hb147 ?_
           refine runs_skip ?_
           let T37 : List (Nat × X) := [(8, .ptr 8 0 0), (10, .ptr 10 0 0)]
           let B37 : List (Nat × Bx) := [(8, ⟨0, 0, true, some (.agg [zI 0, zI 0, zI 0, .sl 1 (List.map encInt []), .sl 1 (List.map encRep [])])⟩), (10, ⟨0, 0, true, some (.agg [zI v25.fHave, zI v25.fState, zI v25.fBy, .sl 1 (List.map encInt v25.fMarks), .sl 1 (List.map encRep y146)])⟩)]
           refine wkr [8, 10] [(8, 8, false), (10, 10, false)] ⟨T37, B37⟩ ?_
           refine sqr cv hn ?_
           refine ro9 0 3 3 ⟨(9, zB true) :: (83, .agg [zI v25.fHave, zI v25.fState, zI v25.fBy, .view 10 0 [] 3, .view 10 0 [] 4]) :: T37, (8, ⟨0, 1, true, some (.agg [zI v25.fHave, zI v25.fState, zI v25.fBy, .sl 1 (List.map encInt v25.fMarks), .sl 1 (List.map encRep y146)])⟩) :: (10, ⟨0, 2, true, some (.agg [zI v25.fHave, zI v25.fState, zI v25.fBy, .junk, .junk])⟩) :: (10, ⟨0, 1, true, some (.agg [zI v25.fHave, zI v25.fState, zI v25.fBy, .junk, .sl 1 (List.map encRep y146)])⟩) :: B37⟩ ?_
           refine runs_ret ?_
           exact fin _ _ h (by kernel_rfl)
       · skip
         refine sqr cv hn ?_
         refine ro9 0 2 2 ⟨[(68, zB (!y114)), (67, zB y114), (36, zB (decide ((i2 : Int) < (a0.fReps.length : Int)))), (35, zI (i2 : Int)), (34, zI (a0.fReps.length : Int)), (33, .sl 0 (List.map encRep a0.fReps)), (11, zB y114), (10, .ptr 10 0 0), (1, zI a1), (2, zI a2), (3, zI a3), (8, .ptr 8 0 0)], [(10, ⟨0, 0, true, some (.agg [zI v25.fHave, zI v25.fState, zI v25.fBy, .sl 1 (List.map encInt v25.fMarks), .sl 1 (List.map encRep y115)])⟩), (8, ⟨0, 0, true, some (.agg [zI 0, zI 0, zI 0, .sl 1 (List.map encInt []), .sl 1 (List.map encRep [])])⟩)]⟩ ?_
         rcases dich (!y114) with hb148 | hb148
         · replace h := cond_t hb148 h
           refine ct hb148 ?_
           let T38 : List (Nat × X) := [(10, .ptr 10 0 0), (1, zI a1), (2, zI a2), (3, zI a3), (8, .ptr 8 0 0)]
           let B38 : List (Nat × Bx) := [(10, ⟨0, 0, true, some (.agg [zI v25.fHave, zI v25.fState, zI v25.fBy, .sl 1 (List.map encInt v25.fMarks), .sl 1 (List.map encRep y115)])⟩), (8, ⟨0, 0, true, some (.agg [zI 0, zI 0, zI 0, .sl 1 (List.map encInt []), .sl 1 (List.map encRep [])])⟩)]
           refine wkr [10, 1, 2, 3, 8] [(10, 10, false), (8, 8, false)] ⟨T38, B38⟩ ?_
           refine rg cv hn ?_
           refine ro 0 5 5 ⟨(73, .agg [zI a1, zI a2]) :: (72, zI a2) :: (71, zI a1) :: (70, .view 10 0 [] 4) :: (69, .ptr 10 0 4) :: T38, B38⟩ ?_
           refine rs 5 ⟨(74, .view 74 1 [] 0) :: (73, .agg [zI a1, zI a2]) :: (72, zI a2) :: (71, zI a1) :: (70, .view 10 0 [] 4) :: (69, .ptr 10 0 4) :: T38, (74, ⟨1, 1, false, some (.sl 1 (List.map encRep [(SRep.mk a1 a2)]))⟩) :: B38⟩ [∀ y ∈ (List.map encRep [(SRep.mk a1 a2)] : List X), (X.cells y).length = tSize Try.prog 119] ⟨fmap fun _ => by kernel_rfl, trivial⟩ ?_
           obtain ⟨hg149, h⟩ := gO_some h
           refine rs 6 ⟨(75, .view 75 1 [] 0) :: (74, .view 74 1 [] 0) :: (73, .agg [zI a1, zI a2]) :: (72, zI a2) :: (71, zI a1) :: (70, .view 10 0 [] 4) :: (69, .ptr 10 0 4) :: T38, (75, ⟨1, 1, false, some (.sl 1 (List.map encRep (y115 ++ [(SRep.mk a1 a2)])))⟩) :: (10, ⟨0, 1, true, some (.agg [zI v25.fHave, zI v25.fState, zI v25.fBy, .sl 1 (List.map encInt v25.fMarks), .junk])⟩) :: (74, ⟨1, 1, false, some (.sl 1 (List.map encRep [(SRep.mk a1 a2)]))⟩) :: B38⟩ [((List.map encRep y115 : List X).length + (List.map encRep [(SRep.mk a1 a2)] : List X).length) * tBytes Try.prog 119 ≤ 140737488355328 ∧ (List.map encRep y115 : List X).length + (List.map encRep [(SRep.mk a1 a2)] : List X).length ≤ 140737488355328 ∧ (∀ y ∈ (List.map encRep y115 : List X), (X.cells y).length = tSize Try.prog 119) ∧ ∀ y ∈ (List.map encRep [(SRep.mk a1 a2)] : List X), (X.cells y).length = tSize Try.prog 119] ⟨⟨(app_side (b := 16) (b2 := tBytes Try.prog 119) (f := encRep) (A := y115) (B := [(SRep.mk a1 a2)]) (by kernel_rfl) hg149).1, (app_side (b := 16) (b2 := 16) (f := encRep) (A := y115) (B := [(SRep.mk a1 a2)]) rfl hg149).2, fmap fun _ => by kernel_rfl, fmap fun _ => by kernel_rfl⟩, trivial⟩ ?_ (he := by rw [show List.map encRep (y115 ++ [(SRep.mk a1 a2)]) = List.map encRep y115 ++ List.map encRep [(SRep.mk a1 a2)] from List.map_append]; kernel_rfl)
           refine ro9 7 2 2 ⟨(76, .ptr 10 0 4) :: (75, .view 75 1 [] 0) :: (74, .view 74 1 [] 0) :: (73, .agg [zI a1, zI a2]) :: (72, zI a2) :: (71, zI a1) :: (70, .view 10 0 [] 4) :: (69, .ptr 10 0 4) :: T38, (10, ⟨0, 2, true, some (.agg [zI v25.fHave, zI v25.fState, zI v25.fBy, .sl 1 (List.map encInt v25.fMarks), .sl 1 (List.map encRep (y115 ++ [(SRep.mk a1 a2)]))])⟩) :: (75, ⟨1, 2, false, some (.junk)⟩) :: (75, ⟨1, 1, false, some (.sl 1 (List.map encRep (y115 ++ [(SRep.mk a1 a2)])))⟩) :: (10, ⟨0, 1, true, some (.agg [zI v25.fHave, zI v25.fState, zI v25.fBy, .sl 1 (List.map encInt v25.fMarks), .junk])⟩) :: (74, ⟨1, 1, false, some (.sl 1 (List.map encRep [(SRep.mk a1 a2)]))⟩) :: B38⟩ ?_
           exact ⟨(y115 ++ [(SRep.mk a1 a2)]), h, wre [3, 8, 10] [(8, 8, false), (10, 10, false)]⟩
         · replace h := cond_f hb148 h
           refine cf hb148 ?_
           refine runs_skip ?_
           exact ⟨(y115), h, wre [3, 8, 10] [(8, 8, false), (10, 10, false)]⟩
     | cons x20 t2 =>
       rw [spec_AcctRep_l2] at h
       have hLc2 := dcons hd2
       have hx20 := dget hd2
       have hi2 := dinc hd2 hl2
       refine sqr cv hn ?_
       refine ro9 0 1 1 ⟨[(36, zB (decide ((i2 : Int) < (a0.fReps.length : Int)))), (35, zI (i2 : Int)), (34, zI (a0.fReps.length : Int)), (33, .sl 0 (List.map encRep a0.fReps)), (11, zB y114), (10, .ptr 10 0 0), (1, zI a1), (2, zI a2), (3, zI a3), (8, .ptr 8 0 0)], [(10, ⟨0, 0, true, some (.agg [zI v25.fHave, zI v25.fState, zI v25.fBy, .sl 1 (List.map encInt v25.fMarks), .sl 1 (List.map encRep y115)])⟩), (8, ⟨0, 0, true, some (.agg [zI 0, zI 0, zI 0, .sl 1 (List.map encInt []), .sl 1 (List.map encRep [])])⟩)]⟩ ?_
       refine runs_seq ?_
       refine ct hLc2 ?_
       refine runs_skip ?_
       refine runs_seq ?_
       refine runs_block ?_
       refine sqr cv hn ?_
       refine rix 0 encRep 119 hx20 (ix_nn hx20) ⟨[(37, .rp (encRep x20) 0), (36, zB (decide ((i2 : Int) < (a0.fReps.length : Int)))), (35, zI (i2 : Int)), (34, zI (a0.fReps.length : Int)), (33, .sl 0 (List.map encRep a0.fReps)), (11, zB y114), (10, .ptr 10 0 0), (1, zI a1), (2, zI a2), (3, zI a3), (8, .ptr 8 0 0)], [(10, ⟨0, 0, true, some (.agg [zI v25.fHave, zI v25.fState, zI v25.fBy, .sl 1 (List.map encInt v25.fMarks), .sl 1 (List.map encRep y115)])⟩), (8, ⟨0, 0, true, some (.agg [zI 0, zI 0, zI 0, .sl 1 (List.map encInt []), .sl 1 (List.map encRep [])])⟩)]⟩ ?_
       refine ro9 1 3 3 ⟨[(13, .ptr 13 1 0), (38, encRep x20), (37, .rp (encRep x20) 0), (36, zB (decide ((i2 : Int) < (a0.fReps.length : Int)))), (35, zI (i2 : Int)), (34, zI (a0.fReps.length : Int)), (33, .sl 0 (List.map encRep a0.fReps)), (11, zB y114), (10, .ptr 10 0 0), (1, zI a1), (2, zI a2), (3, zI a3), (8, .ptr 8 0 0)], [(13, ⟨1, 1, true, some (encRep x20)⟩), (13, ⟨1, 1, true, some (.agg [zI 0, zI 0])⟩), (10, ⟨0, 0, true, some (.agg [zI v25.fHave, zI v25.fState, zI v25.fBy, .sl 1 (List.map encInt v25.fMarks), .sl 1 (List.map encRep y115)])⟩), (8, ⟨0, 0, true, some (.agg [zI 0, zI 0, zI 0, .sl 1 (List.map encInt []), .sl 1 (List.map encRep [])])⟩)]⟩ ?_
       refine runs_seq ?_
       refine sqr cv hn ?_
       refine ro9 0 4 4 ⟨[(42, zB (x20.fNode == a1)), (41, zI a1), (40, zI x20.fNode), (39, .ptr 13 1 0), (13, .ptr 13 1 0), (38, encRep x20), (37, .rp (encRep x20) 0), (36, zB (decide ((i2 : Int) < (a0.fReps.length : Int)))), (35, zI (i2 : Int)), (34, zI (a0.fReps.length : Int)), (33, .sl 0 (List.map encRep a0.fReps)), (11, zB y114), (10, .ptr 10 0 0), (1, zI a1), (2, zI a2), (3, zI a3), (8, .ptr 8 0 0)], [(13, ⟨1, 1, true, some (encRep x20)⟩), (13, ⟨1, 1, true, some (.agg [zI 0, zI 0])⟩), (10, ⟨0, 0, true, some (.agg [zI v25.fHave, zI v25.fState, zI v25.fBy, .sl 1 (List.map encInt v25.fMarks), .sl 1 (List.map encRep y115)])⟩), (8, ⟨0, 0, true, some (.agg [zI 0, zI 0, zI 0, .sl 1 (List.map encInt []), .sl 1 (List.map encRep [])])⟩)]⟩ ?_
       rcases dich (x20.fNode == a1) with hb151 | hb151
       · replace h := cond_t hb151 h
         refine ct hb151 ?_
         refine sqr cv hn ?_
         refine ro9 0 3 3 ⟨[(9, zB false), (43, .agg [zI 0, zI 0, zI 0, .sc (.slice none 0 0), .sc (.slice none 0 0)]), (42, zB (x20.fNode == a1)), (41, zI a1), (40, zI x20.fNode), (39, .ptr 13 1 0), (13, .ptr 13 1 0), (38, encRep x20), (37, .rp (encRep x20) 0), (36, zB (decide ((i2 : Int) < (a0.fReps.length : Int)))), (35, zI (i2 : Int)), (34, zI (a0.fReps.length : Int)), (33, .sl 0 (List.map encRep a0.fReps)), (11, zB y114), (10, .ptr 10 0 0), (1, zI a1), (2, zI a2), (3, zI a3), (8, .ptr 8 0 0)], [(8, ⟨0, 1, true, some (.agg [zI 0, zI 0, zI 0, .sl 1 (List.map encInt []), .sl 1 (List.map encRep [])])⟩), (13, ⟨1, 1, true, some (encRep x20)⟩), (13, ⟨1, 1, true, some (.agg [zI 0, zI 0])⟩), (10, ⟨0, 0, true, some (.agg [zI v25.fHave, zI v25.fState, zI v25.fBy, .sl 1 (List.map encInt v25.fMarks), .sl 1 (List.map encRep y115)])⟩), (8, ⟨0, 0, true, some (.agg [zI 0, zI 0, zI 0, .sl 1 (List.map encInt []), .sl 1 (List.map encRep [])])⟩)]⟩ ?_
         refine runs_ret ?_
         exact fin _ _ h (by kernel_rfl)
       · replace h := cond_f hb151 h
         refine cf hb151 ?_
         refine runs_skip ?_
         refine runs_seqJ (σ := Bool × Bool × Bool × (List SRep)) (fun s => ⟨[(1, zI a1), (2, zI a2), (3, zI a3), (8, .ptr 8 0 0), (10, .ptr 10 0 0), (11, zB s.1), (13, .ptr 13 0 0), (33, .sl 0 (List.map encRep a0.fReps)), (34, zI (a0.fReps.length : Int)), (35, zI (i2 : Int)), (36, zB (decide ((i2 : Int) < (a0.fReps.length : Int)))), (37, .rp (encRep x20) 0), (38, encRep x20), (39, .ptr 13 0 0), (40, zI x20.fNode), (41, zI a1), (42, zB (x20.fNode == a1)), (44, zB y114), (45, zB (!y114)), (46, zB s.2.1), (51, zB s.2.2.1)], [(8, ⟨0, 0, true, some (.agg [zI 0, zI 0, zI 0, .sl 1 (List.map encInt []), .sl 1 (List.map encRep [])])⟩), (10, ⟨0, 0, true, some (.agg [zI v25.fHave, zI v25.fState, zI v25.fBy, .sl 1 (List.map encInt v25.fMarks), .sl 1 (List.map encRep s.2.2.2)])⟩), (13, ⟨0, 0, true, some (encRep x20)⟩)]⟩) (fun s => spec_AcctRep_j4 (spec_AcctRep_l2 a1 a2 a3 v25 t2 (i2 + 1)) x20 s.1 s.2.1 s.2.2.1 s.2.2.2 = some v0) ?_ ?_
         · rintro ⟨y158, y159, y160, y161⟩ h
           rw [spec_AcctRep_j4] at h
           let T41 : List (Nat × X) := [(1, zI a1), (2, zI a2), (3, zI a3), (8, .ptr 8 0 0), (10, .ptr 10 0 0), (11, zB y158), (13, .ptr 13 0 0), (33, .sl 0 (List.map encRep a0.fReps)), (34, zI (a0.fReps.length : Int)), (35, zI (i2 : Int)), (36, zB (decide ((i2 : Int) < (a0.fReps.length : Int)))), (37, .rp (encRep x20) 0), (38, encRep x20), (39, .ptr 13 0 0), (40, zI x20.fNode), (41, zI a1), (42, zB (x20.fNode == a1)), (44, zB y114), (45, zB (!y114)), (46, zB y159), (51, zB y160)]
           let B41 : List (Nat × Bx) := [(8, ⟨0, 0, true, some (.agg [zI 0, zI 0, zI 0, .sl 1 (List.map encInt []), .sl 1 (List.map encRep [])])⟩), (10, ⟨0, 0, true, some (.agg [zI v25.fHave, zI v25.fState, zI v25.fBy, .sl 1 (List.map encInt v25.fMarks), .sl 1 (List.map encRep y161)])⟩), (13, ⟨0, 0, true, some (encRep x20)⟩)]
           refine seq0 ⟨T41, B41⟩ ?_
           refine rg cv hn ?_
           refine ro 0 3 3 ⟨(62, encRep x20) :: (61, .view 10 0 [] 4) :: (60, .ptr 10 0 4) :: T41, B41⟩ ?_
           refine rs 3 ⟨(63, .view 63 1 [] 0) :: (62, encRep x20) :: (61, .view 10 0 [] 4) :: (60, .ptr 10 0 4) :: T41, (63, ⟨1, 1, false, some (.sl 1 (List.map encRep [x20]))⟩) :: B41⟩ [∀ y ∈ (List.map encRep [x20] : List X), (X.cells y).length = tSize Try.prog 119] ⟨fmap fun _ => by kernel_rfl, trivial⟩ ?_
           obtain ⟨hg162, h⟩ := gO_some h
           refine rs 4 ⟨(64, .view 64 1 [] 0) :: (63, .view 63 1 [] 0) :: (62, encRep x20) :: (61, .view 10 0 [] 4) :: (60, .ptr 10 0 4) :: T41, (64, ⟨1, 1, false, some (.sl 1 (List.map encRep (y161 ++ [x20])))⟩) :: (10, ⟨0, 1, true, some (.agg [zI v25.fHave, zI v25.fState, zI v25.fBy, .sl 1 (List.map encInt v25.fMarks), .junk])⟩) :: (63, ⟨1, 1, false, some (.sl 1 (List.map encRep [x20]))⟩) :: B41⟩ [((List.map encRep y161 : List X).length + (List.map encRep [x20] : List X).length) * tBytes Try.prog 119 ≤ 140737488355328 ∧ (List.map encRep y161 : List X).length + (List.map encRep [x20] : List X).length ≤ 140737488355328 ∧ (∀ y ∈ (List.map encRep y161 : List X), (X.cells y).length = tSize Try.prog 119) ∧ ∀ y ∈ (List.map encRep [x20] : List X), (X.cells y).length = tSize Try.prog 119] ⟨⟨(app_side (b := 16) (b2 := tBytes Try.prog 119) (f := encRep) (A := y161) (B := [x20]) (by kernel_rfl) hg162).1, (app_side (b := 16) (b2 := 16) (f := encRep) (A := y161) (B := [x20]) rfl hg162).2, fmap fun _ => by kernel_rfl, fmap fun _ => by kernel_rfl⟩, trivial⟩ ?_ (he := by rw [show List.map encRep (y161 ++ [x20]) = List.map encRep y161 ++ List.map encRep [x20] from List.map_append]; kernel_rfl)
           refine ro9 5 2 2 ⟨(65, .ptr 10 0 4) :: (64, .view 64 1 [] 0) :: (63, .view 63 1 [] 0) :: (62, encRep x20) :: (61, .view 10 0 [] 4) :: (60, .ptr 10 0 4) :: T41, (10, ⟨0, 2, true, some (.agg [zI v25.fHave, zI v25.fState, zI v25.fBy, .sl 1 (List.map encInt v25.fMarks), .sl 1 (List.map encRep (y161 ++ [x20]))])⟩) :: (64, ⟨1, 2, false, some (.junk)⟩) :: (64, ⟨1, 1, false, some (.sl 1 (List.map encRep (y161 ++ [x20])))⟩) :: (10, ⟨0, 1, true, some (.agg [zI v25.fHave, zI v25.fState, zI v25.fBy, .sl 1 (List.map encInt v25.fMarks), .junk])⟩) :: (63, ⟨1, 1, false, some (.sl 1 (List.map encRep [x20]))⟩) :: B41⟩ ?_
           let T42 : List (Nat × X) := [(65, .ptr 10 0 4), (63, .view 5000063 0 [] 0), (62, encRep x20), (60, .ptr 10 0 4), (1, zI a1), (2, zI a2), (3, zI a3), (8, .ptr 8 0 0), (10, .ptr 10 0 0), (11, zB y158), (13, .ptr 13 0 0), (33, .sl 0 (List.map encRep a0.fReps)), (34, zI (a0.fReps.length : Int)), (35, zI (i2 : Int)), (36, zB (decide ((i2 : Int) < (a0.fReps.length : Int)))), (37, .rp (encRep x20) 0), (38, encRep x20), (39, .ptr 13 0 0), (40, zI x20.fNode), (41, zI a1), (42, zB (x20.fNode == a1)), (44, zB y114), (45, zB (!y114)), (46, zB y159), (51, zB y160)]
           let B42 : List (Nat × Bx) := [(10, ⟨0, 0, true, some (.agg [zI v25.fHave, zI v25.fState, zI v25.fBy, .sl 1 (List.map encInt v25.fMarks), .sl 1 (List.map encRep (y161 ++ [x20]))])⟩), (5000063, ⟨0, 0, false, some (.sl 1 (List.map encRep [x20]))⟩), (8, ⟨0, 0, true, some (.agg [zI 0, zI 0, zI 0, .sl 1 (List.map encInt []), .sl 1 (List.map encRep [])])⟩), (13, ⟨0, 0, true, some (encRep x20)⟩)]
           refine wkr [65, 63, 62, 60, 1, 2, 3, 8, 10, 11, 13, 33, 34, 35, 36, 37, 38, 39, 40, 41, 42, 44, 45, 46, 51] [(10, 10, false), (5000063, 63, false), (8, 8, false), (13, 13, false)] ⟨T42, B42⟩ ?_
           refine rg cv hn ?_
           refine ro9 0 2 2 ⟨(35, zI ((i2 + 1 : Nat) : Int)) :: (66, zI ((i2 + 1 : Nat) : Int)) :: T42, B42⟩ ?_ (he := by rw [← hi2]; kernel_rfl)
           exact ⟨(t2, i2 + 1, y158, y161 ++ [x20]), Nat.lt_succ_self _, ⟨dnext hd2, h⟩, wre [35, 34, 33, 11, 10, 1, 2, 3, 8] [(10, 10, false), (8, 8, false)]⟩
         · skip
           refine runs_seqJ (σ := Bool × Bool) (fun s => ⟨[(1, zI a1), (2, zI a2), (3, zI a3), (8, .ptr 8 0 0), (10, .ptr 10 0 0), (11, zB y114), (13, .ptr 13 0 0), (33, .sl 0 (List.map encRep a0.fReps)), (34, zI (a0.fReps.length : Int)), (35, zI (i2 : Int)), (36, zB (decide ((i2 : Int) < (a0.fReps.length : Int)))), (37, .rp (encRep x20) 0), (38, encRep x20), (39, .ptr 13 0 0), (40, zI x20.fNode), (41, zI a1), (42, zB (x20.fNode == a1)), (44, zB y114), (45, zB (!y114)), (46, zB s.1), (51, zB s.2)], [(8, ⟨0, 0, true, some (.agg [zI 0, zI 0, zI 0, .sl 1 (List.map encInt []), .sl 1 (List.map encRep [])])⟩), (10, ⟨0, 0, true, some (.agg [zI v25.fHave, zI v25.fState, zI v25.fBy, .sl 1 (List.map encInt v25.fMarks), .sl 1 (List.map encRep y115)])⟩), (13, ⟨0, 0, true, some (encRep x20)⟩)]⟩) (fun s => spec_AcctRep_j5 a1 a2 y114 y115 (spec_AcctRep_l2 a1 a2 a3 v25 t2 (i2 + 1)) x20 s.1 s.2 = some v0) ?_ ?_
           · rintro ⟨y164, y165⟩ h
             rw [spec_AcctRep_j5] at h
             let T43 : List (Nat × X) := [(1, zI a1), (2, zI a2), (3, zI a3), (8, .ptr 8 0 0), (10, .ptr 10 0 0), (11, zB y114), (13, .ptr 13 0 0), (33, .sl 0 (List.map encRep a0.fReps)), (34, zI (a0.fReps.length : Int)), (35, zI (i2 : Int)), (36, zB (decide ((i2 : Int) < (a0.fReps.length : Int)))), (37, .rp (encRep x20) 0), (38, encRep x20), (39, .ptr 13 0 0), (40, zI x20.fNode), (41, zI a1), (42, zB (x20.fNode == a1)), (44, zB y114), (45, zB (!y114)), (46, zB y164), (51, zB y165)]
             let B43 : List (Nat × Bx) := [(8, ⟨0, 0, true, some (.agg [zI 0, zI 0, zI 0, .sl 1 (List.map encInt []), .sl 1 (List.map encRep [])])⟩), (10, ⟨0, 0, true, some (.agg [zI v25.fHave, zI v25.fState, zI v25.fBy, .sl 1 (List.map encInt v25.fMarks), .sl 1 (List.map encRep y115)])⟩), (13, ⟨0, 0, true, some (encRep x20)⟩)]
             refine seq0 ⟨T43, B43⟩ ?_
             rcases dich y165 with hb166 | hb166
             · replace h := cond_t hb166 h
               refine ct hb166 ?_
               refine sqr cv hn ?_
               refine ro 0 5 5 ⟨(56, .agg [zI a1, zI a2]) :: (55, zI a2) :: (54, zI a1) :: (53, .view 10 0 [] 4) :: (52, .ptr 10 0 4) :: T43, B43⟩ ?_
               refine rs 5 ⟨(57, .view 57 1 [] 0) :: (56, .agg [zI a1, zI a2]) :: (55, zI a2) :: (54, zI a1) :: (53, .view 10 0 [] 4) :: (52, .ptr 10 0 4) :: T43, (57, ⟨1, 1, false, some (.sl 1 (List.map encRep [(SRep.mk a1 a2)]))⟩) :: B43⟩ [∀ y ∈ (List.map encRep [(SRep.mk a1 a2)] : List X), (X.cells y).length = tSize Try.prog 119] ⟨fmap fun _ => by kernel_rfl, trivial⟩ ?_
               obtain ⟨hg167, h⟩ := gO_some h
               refine rs 6 ⟨(58, .view 58 1 [] 0) :: (57, .view 57 1 [] 0) :: (56, .agg [zI a1, zI a2]) :: (55, zI a2) :: (54, zI a1) :: (53, .view 10 0 [] 4) :: (52, .ptr 10 0 4) :: T43, (58, ⟨1, 1, false, some (.sl 1 (List.map encRep (y115 ++ [(SRep.mk a1 a2)])))⟩) :: (10, ⟨0, 1, true, some (.agg [zI v25.fHave, zI v25.fState, zI v25.fBy, .sl 1 (List.map encInt v25.fMarks), .junk])⟩) :: (57, ⟨1, 1, false, some (.sl 1 (List.map encRep [(SRep.mk a1 a2)]))⟩) :: B43⟩ [((List.map encRep y115 : List X).length + (List.map encRep [(SRep.mk a1 a2)] : List X).length) * tBytes Try.prog 119 ≤ 140737488355328 ∧ (List.map encRep y115 : List X).length + (List.map encRep [(SRep.mk a1 a2)] : List X).length ≤ 140737488355328 ∧ (∀ y ∈ (List.map encRep y115 : List X), (X.cells y).length = tSize Try.prog 119) ∧ ∀ y ∈ (List.map encRep [(SRep.mk a1 a2)] : List X), (X.cells y).length = tSize Try.prog 119] ⟨⟨(app_side (b := 16) (b2 := tBytes Try.prog 119) (f := encRep) (A := y115) (B := [(SRep.mk a1 a2)]) (by kernel_rfl) hg167).1, (app_side (b := 16) (b2 := 16) (f := encRep) (A := y115) (B := [(SRep.mk a1 a2)]) rfl hg167).2, fmap fun _ => by kernel_rfl, fmap fun _ => by kernel_rfl⟩, trivial⟩ ?_ (he := by rw [show List.map encRep (y115 ++ [(SRep.mk a1 a2)]) = List.map encRep y115 ++ List.map encRep [(SRep.mk a1 a2)] from List.map_append]; kernel_rfl)
               refine ro9 7 2 2 ⟨(59, .ptr 10 0 4) :: (58, .view 58 1 [] 0) :: (57, .view 57 1 [] 0) :: (56, .agg [zI a1, zI a2]) :: (55, zI a2) :: (54, zI a1) :: (53, .view 10 0 [] 4) :: (52, .ptr 10 0 4) :: T43, (10, ⟨0, 2, true, some (.agg [zI v25.fHave, zI v25.fState, zI v25.fBy, .sl 1 (List.map encInt v25.fMarks), .sl 1 (List.map encRep (y115 ++ [(SRep.mk a1 a2)]))])⟩) :: (58, ⟨1, 2, false, some (.junk)⟩) :: (58, ⟨1, 1, false, some (.sl 1 (List.map encRep (y115 ++ [(SRep.mk a1 a2)])))⟩) :: (10, ⟨0, 1, true, some (.agg [zI v25.fHave, zI v25.fState, zI v25.fBy, .sl 1 (List.map encInt v25.fMarks), .junk])⟩) :: (57, ⟨1, 1, false, some (.sl 1 (List.map encRep [(SRep.mk a1 a2)]))⟩) :: B43⟩ ?_
               let T44 : List (Nat × X) := [(59, .ptr 10 0 4), (57, .view 5000057 0 [] 0), (56, .agg [zI a1, zI a2]), (55, zI a2), (54, zI a1), (52, .ptr 10 0 4), (1, zI a1), (2, zI a2), (3, zI a3), (8, .ptr 8 0 0), (10, .ptr 10 0 0), (11, zB y114), (13, .ptr 13 0 0), (33, .sl 0 (List.map encRep a0.fReps)), (34, zI (a0.fReps.length : Int)), (35, zI (i2 : Int)), (36, zB (decide ((i2 : Int) < (a0.fReps.length : Int)))), (37, .rp (encRep x20) 0), (38, encRep x20), (39, .ptr 13 0 0), (40, zI x20.fNode), (41, zI a1), (42, zB (x20.fNode == a1)), (44, zB y114), (45, zB (!y114)), (46, zB y164), (51, zB y165)]
               let B44 : List (Nat × Bx) := [(10, ⟨0, 0, true, some (.agg [zI v25.fHave, zI v25.fState, zI v25.fBy, .sl 1 (List.map encInt v25.fMarks), .sl 1 (List.map encRep (y115 ++ [(SRep.mk a1 a2)]))])⟩), (5000057, ⟨0, 0, false, some (.sl 1 (List.map encRep [(SRep.mk a1 a2)]))⟩), (8, ⟨0, 0, true, some (.agg [zI 0, zI 0, zI 0, .sl 1 (List.map encInt []), .sl 1 (List.map encRep [])])⟩), (13, ⟨0, 0, true, some (encRep x20)⟩)]
               refine wkr [59, 57, 56, 55, 54, 52, 1, 2, 3, 8, 10, 11, 13, 33, 34, 35, 36, 37, 38, 39, 40, 41, 42, 44, 45, 46, 51] [(10, 10, false), (5000057, 57, false), (8, 8, false), (13, 13, false)] ⟨T44, B44⟩ ?_
               refine rg cv hn ?_
               refine ro9 0 1 1 ⟨(11, zB true) :: T44, B44⟩ ?_
               exact ⟨(true, y164, y165, y115 ++ [(SRep.mk a1 a2)]), h, wre [1, 2, 3, 8, 10, 11, 13, 33, 34, 35, 36, 37, 38, 39, 40, 41, 42, 44, 45, 46, 51] [(8, 8, false), (10, 10, false), (13, 13, false)]⟩
             · replace h := cond_f hb166 h
               refine cf hb166 ?_
               refine runs_skip ?_
               exact ⟨(y114, y164, y165, y115), h, wre [1, 2, 3, 8, 10, 11, 13, 33, 34, 35, 36, 37, 38, 39, 40, 41, 42, 44, 45, 46, 51] [(8, 8, false), (10, 10, false), (13, 13, false)]⟩
           · skip
             refine rg cv hn ?_
             refine ro 0 3 3 ⟨[(46, zB (!y114)), (45, zB (!y114)), (44, zB y114), (42, zB (x20.fNode == a1)), (41, zI a1), (40, zI x20.fNode), (39, .ptr 13 1 0), (13, .ptr 13 1 0), (38, encRep x20), (37, .rp (encRep x20) 0), (36, zB (decide ((i2 : Int) < (a0.fReps.length : Int)))), (35, zI (i2 : Int)), (34, zI (a0.fReps.length : Int)), (33, .sl 0 (List.map encRep a0.fReps)), (11, zB y114), (10, .ptr 10 0 0), (1, zI a1), (2, zI a2), (3, zI a3), (8, .ptr 8 0 0)], [(13, ⟨1, 1, true, some (encRep x20)⟩), (13, ⟨1, 1, true, some (.agg [zI 0, zI 0])⟩), (10, ⟨0, 0, true, some (.agg [zI v25.fHave, zI v25.fState, zI v25.fBy, .sl 1 (List.map encInt v25.fMarks), .sl 1 (List.map encRep y115)])⟩), (8, ⟨0, 0, true, some (.agg [zI 0, zI 0, zI 0, .sl 1 (List.map encInt []), .sl 1 (List.map encRep [])])⟩)]⟩ ?_
             rcases dich (!y114) with hb168 | hb168
             · replace h := cond_t hb168 h
               refine rl 46 true hb168 ?_
               refine ro9 3 5 5 ⟨[(51, zB (decide (x20.fNode > a1))), (50, zB (decide (x20.fNode > a1))), (49, zI a1), (48, zI x20.fNode), (47, .ptr 13 1 0), (46, zB true), (45, zB (!y114)), (44, zB y114), (42, zB (x20.fNode == a1)), (41, zI a1), (40, zI x20.fNode), (39, .ptr 13 1 0), (13, .ptr 13 1 0), (38, encRep x20), (37, .rp (encRep x20) 0), (36, zB (decide ((i2 : Int) < (a0.fReps.length : Int)))), (35, zI (i2 : Int)), (34, zI (a0.fReps.length : Int)), (33, .sl 0 (List.map encRep a0.fReps)), (11, zB y114), (10, .ptr 10 0 0), (1, zI a1), (2, zI a2), (3, zI a3), (8, .ptr 8 0 0)], [(13, ⟨1, 1, true, some (encRep x20)⟩), (13, ⟨1, 1, true, some (.agg [zI 0, zI 0])⟩), (10, ⟨0, 0, true, some (.agg [zI v25.fHave, zI v25.fState, zI v25.fBy, .sl 1 (List.map encInt v25.fMarks), .sl 1 (List.map encRep y115)])⟩), (8, ⟨0, 0, true, some (.agg [zI 0, zI 0, zI 0, .sl 1 (List.map encInt []), .sl 1 (List.map encRep [])])⟩)]⟩ ?_
               exact ⟨(true, decide (x20.fNode > a1)), h, wre [1, 2, 3, 8, 10, 11, 13, 33, 34, 35, 36, 37, 38, 39, 40, 41, 42, 44, 45, 46, 51] [(8, 8, false), (10, 10, false), (13, 13, false)]⟩
             · replace h := cond_f hb168 h
               refine rl 46 false hb168 ?_
               refine ro9 3 5 1 ⟨[(51, zB false), (50, .tup []), (49, .tup []), (48, .tup []), (47, .tup []), (46, zB false), (45, zB (!y114)), (44, zB y114), (42, zB (x20.fNode == a1)), (41, zI a1), (40, zI x20.fNode), (39, .ptr 13 1 0), (13, .ptr 13 1 0), (38, encRep x20), (37, .rp (encRep x20) 0), (36, zB (decide ((i2 : Int) < (a0.fReps.length : Int)))), (35, zI (i2 : Int)), (34, zI (a0.fReps.length : Int)), (33, .sl 0 (List.map encRep a0.fReps)), (11, zB y114), (10, .ptr 10 0 0), (1, zI a1), (2, zI a2), (3, zI a3), (8, .ptr 8 0 0)], [(13, ⟨1, 1, true, some (encRep x20)⟩), (13, ⟨1, 1, true, some (.agg [zI 0, zI 0])⟩), (10, ⟨0, 0, true, some (.agg [zI v25.fHave, zI v25.fState, zI v25.fBy, .sl 1 (List.map encInt v25.fMarks), .sl 1 (List.map encRep y115)])⟩), (8, ⟨0, 0, true, some (.agg [zI 0, zI 0, zI 0, .sl 1 (List.map encInt []), .sl 1 (List.map encRep [])])⟩)]⟩ ?_
               exact ⟨(false, false), h, wre [1, 2, 3, 8, 10, 11, 13, 33, 34, 35, 36, 37, 38, 39, 40, 41, 42, 44, 45, 46, 51] [(8, 8, false), (10, 10, false), (13, 13, false)]⟩
 · skip
   refine rg cv hn ?_
   refine ro 0 4 4 ⟨(17, zB (a0.fState == 0)) :: (16, zB (a0.fState == 0)) :: (15, zI a0.fState) :: (14, .ptr 4 1 1) :: (9, zB false) :: (8, .ptr 8 1 0) :: (4, .ptr 4 1 0) :: T1, [(8, ⟨1, 1, true, some (.agg [zI 0, zI 0, zI 0, .sl 1 (List.map encInt []), .sl 1 (List.map encRep [])])⟩), (4, ⟨1, 1, true, some (encAcct0 a0)⟩)]⟩ ?_
   rcases dich (a0.fState == 0) with hb169 | hb169
   · replace h := cond_t hb169 h
     refine rl 17 true hb169 ?_
     refine ro9 4 9 3 ⟨(26, zB true) :: (25, .tup []) :: (24, .tup []) :: (23, .tup []) :: (22, zB true) :: (21, zB true) :: (20, .tup []) :: (19, .tup []) :: (18, .tup []) :: (17, zB true) :: (16, zB (a0.fState == 0)) :: (15, zI a0.fState) :: (14, .ptr 4 1 1) :: (9, zB false) :: (8, .ptr 8 1 0) :: (4, .ptr 4 1 0) :: T1, [(8, ⟨1, 1, true, some (.agg [zI 0, zI 0, zI 0, .sl 1 (List.map encInt []), .sl 1 (List.map encRep [])])⟩), (4, ⟨1, 1, true, some (encAcct0 a0)⟩)]⟩ ?_
     exact ⟨(true), h, wre [1, 2, 3, 4, 8, 26] [(4, 4, false), (8, 8, false)]⟩
   · replace h := cond_f hb169 h
     refine rl 17 false hb169 ?_
     refine ro 4 1 1 ⟨(18, zI a1) :: (17, zB false) :: (16, zB (a0.fState == 0)) :: (15, zI a0.fState) :: (14, .ptr 4 1 1) :: (9, zB false) :: (8, .ptr 8 1 0) :: (4, .ptr 4 1 0) :: T1, [(8, ⟨1, 1, true, some (.agg [zI 0, zI 0, zI 0, .sl 1 (List.map encInt []), .sl 1 (List.map encRep [])])⟩), (4, ⟨1, 1, true, some (encAcct0 a0)⟩)]⟩ ?_
     obtain ⟨v170, hv171, h⟩ := bindO h
     refine rc 5 ⟨(19, zB v170) :: (18, zI a1) :: (17, zB false) :: (16, zB (a0.fState == 0)) :: (15, zI a0.fState) :: (14, .ptr 4 1 1) :: (9, zB false) :: (8, .ptr 8 1 0) :: (4, .ptr 4 1 0) :: T1, [(8, ⟨1, 1, true, some (.agg [zI 0, zI 0, zI 0, .sl 1 (List.map encInt []), .sl 1 (List.map encRep [])])⟩), (4, ⟨1, 1, true, some (encAcct0 a0)⟩)]⟩ (spec_l07Node_spec a1 v170 hv171) ?_
     refine ro 6 3 3 ⟨(22, zB (!v170)) :: (21, zB (!v170)) :: (20, zB (!v170)) :: (19, zB v170) :: (18, zI a1) :: (17, zB false) :: (16, zB (a0.fState == 0)) :: (15, zI a0.fState) :: (14, .ptr 4 1 1) :: (9, zB false) :: (8, .ptr 8 1 0) :: (4, .ptr 4 1 0) :: T1, [(8, ⟨1, 1, true, some (.agg [zI 0, zI 0, zI 0, .sl 1 (List.map encInt []), .sl 1 (List.map encRep [])])⟩), (4, ⟨1, 1, true, some (encAcct0 a0)⟩)]⟩ ?_
     rcases dich (!v170) with hb172 | hb172
     · replace h := cond_t hb172 h
       refine rl 22 true hb172 ?_
       refine ro9 9 4 1 ⟨(26, zB true) :: (25, .tup []) :: (24, .tup []) :: (23, .tup []) :: (22, zB true) :: (21, zB (!v170)) :: (20, zB (!v170)) :: (19, zB v170) :: (18, zI a1) :: (17, zB false) :: (16, zB (a0.fState == 0)) :: (15, zI a0.fState) :: (14, .ptr 4 1 1) :: (9, zB false) :: (8, .ptr 8 1 0) :: (4, .ptr 4 1 0) :: T1, [(8, ⟨1, 1, true, some (.agg [zI 0, zI 0, zI 0, .sl 1 (List.map encInt []), .sl 1 (List.map encRep [])])⟩), (4, ⟨1, 1, true, some (encAcct0 a0)⟩)]⟩ ?_
       exact ⟨(true), h, wre [1, 2, 3, 4, 8, 26] [(4, 4, false), (8, 8, false)]⟩
     · replace h := cond_f hb172 h
       refine rl 22 false hb172 ?_
       refine ro 9 1 1 ⟨(23, zI a2) :: (22, zB false) :: (21, zB (!v170)) :: (20, zB (!v170)) :: (19, zB v170) :: (18, zI a1) :: (17, zB false) :: (16, zB (a0.fState == 0)) :: (15, zI a0.fState) :: (14, .ptr 4 1 1) :: (9, zB false) :: (8, .ptr 8 1 0) :: (4, .ptr 4 1 0) :: T1, [(8, ⟨1, 1, true, some (.agg [zI 0, zI 0, zI 0, .sl 1 (List.map encInt []), .sl 1 (List.map encRep [])])⟩), (4, ⟨1, 1, true, some (encAcct0 a0)⟩)]⟩ ?_
       obtain ⟨v173, hv174, h⟩ := bindO h
       refine rc 10 ⟨(24, zB v173) :: (23, zI a2) :: (22, zB false) :: (21, zB (!v170)) :: (20, zB (!v170)) :: (19, zB v170) :: (18, zI a1) :: (17, zB false) :: (16, zB (a0.fState == 0)) :: (15, zI a0.fState) :: (14, .ptr 4 1 1) :: (9, zB false) :: (8, .ptr 8 1 0) :: (4, .ptr 4 1 0) :: T1, [(8, ⟨1, 1, true, some (.agg [zI 0, zI 0, zI 0, .sl 1 (List.map encInt []), .sl 1 (List.map encRep [])])⟩), (4, ⟨1, 1, true, some (encAcct0 a0)⟩)]⟩ (spec_l01Num_spec a2 v173 hv174) ?_
       refine ro9 11 2 2 ⟨(26, zB (!v173)) :: (25, zB (!v173)) :: (24, zB v173) :: (23, zI a2) :: (22, zB false) :: (21, zB (!v170)) :: (20, zB (!v170)) :: (19, zB v170) :: (18, zI a1) :: (17, zB false) :: (16, zB (a0.fState == 0)) :: (15, zI a0.fState) :: (14, .ptr 4 1 1) :: (9, zB false) :: (8, .ptr 8 1 0) :: (4, .ptr 4 1 0) :: T1, [(8, ⟨1, 1, true, some (.agg [zI 0, zI 0, zI 0, .sl 1 (List.map encInt []), .sl 1 (List.map encRep [])])⟩), (4, ⟨1, 1, true, some (encAcct0 a0)⟩)]⟩ ?_
       exact ⟨(!v173), h, wre [1, 2, 3, 4, 8, 26] [(4, 4, false), (8, 8, false)]⟩

set_option maxRecDepth 100000 in
set_option maxHeartbeats 2000000 in
theorem impl_in_spec (a0 : Int) (a1 : Int) (a2 : Int) (v0 : Bool) (h : impl_in a0 a1 a2 = some v0) : Ax.Spec Try.prog 60 none [zI a0, zI a1, zI a2] (zB v0 : X) (.junk : X) := by
 let T1 : List (Nat × X) := [(0, zI a0), (1, zI a1), (2, zI a2)]
 refine walk0 (fn := Try.f60) (fun q0 : Bool => (zB q0 : X)) (fun q0 : Bool => (.junk : X)) v0 ⟨T1, []⟩ Try.func60 rfl (by decide +kernel) fun Γ hn fin => ?_
 rw [impl_in] at h
 refine sqr cv hn ?_
 refine ro9 0 1 1 ⟨(6, zB false) :: T1, []⟩ ?_
 refine sqr cv hn ?_
 refine ro 0 4 4 ⟨(10, zB (decide (a0 ≥ a1))) :: (9, zB (decide (a0 ≥ a1))) :: (8, zI a1) :: (7, zI a0) :: (6, zB false) :: T1, []⟩ ?_
 rcases dich (decide (a0 ≥ a1)) with hb1 | hb1
 · replace h := cond_t hb1 h
   refine rl 10 true hb1 ?_
   refine ro9 4 5 5 ⟨(6, zB (decide (a0 ≤ a2))) :: (14, zB (decide (a0 ≤ a2))) :: (13, zB (decide (a0 ≤ a2))) :: (12, zI a2) :: (11, zI a0) :: (10, zB true) :: (9, zB (decide (a0 ≥ a1))) :: (8, zI a1) :: (7, zI a0) :: (6, zB false) :: T1, []⟩ ?_
   refine runs_ret ?_
   exact fin _ _ h (by kernel_rfl)
 · replace h := cond_f hb1 h
   refine rl 10 false hb1 ?_
   refine ro9 4 5 2 ⟨(6, zB false) :: (14, zB false) :: (13, .tup []) :: (12, .tup []) :: (11, .tup []) :: (10, zB false) :: (9, zB (decide (a0 ≥ a1))) :: (8, zI a1) :: (7, zI a0) :: (6, zB false) :: T1, []⟩ ?_
   refine runs_ret ?_
   exact fin _ _ h (by kernel_rfl)

set_option maxRecDepth 100000 in
set_option maxHeartbeats 2000000 in
theorem impl_isNode_spec (a0 : Int) (v0 : Bool) (h : impl_isNode a0 = some v0) : Ax.Spec Try.prog 61 none [zI a0] (zB v0 : X) (.junk : X) := by
 refine walk0 (fn := Try.f61) (fun q0 : Bool => (zB q0 : X)) (fun q0 : Bool => (.junk : X)) v0 ⟨[(0, zI a0)], []⟩ Try.func61 rfl (by decide +kernel) fun Γ hn fin => ?_
 rw [impl_isNode] at h
 refine sqr cv hn ?_
 refine ro9 0 1 1 ⟨[(2, zB false), (0, zI a0)], []⟩ ?_
 refine sqr cv hn ?_
 refine ro 0 1 1 ⟨[(3, zI a0), (2, zB false), (0, zI a0)], []⟩ ?_
 obtain ⟨v1, hv2, h⟩ := bindO h
 refine rc 1 ⟨[(4, zB v1), (3, zI a0), (2, zB false), (0, zI a0)], []⟩ (impl_in_spec a0 0 3 v1 hv2) ?_
 refine ro9 2 1 1 ⟨[(2, zB v1), (4, zB v1), (3, zI a0), (2, zB false), (0, zI a0)], []⟩ ?_
 refine runs_ret ?_
 exact fin _ _ h (by kernel_rfl)

set_option maxRecDepth 100000 in
set_option maxHeartbeats 2000000 in
theorem impl_isNum_spec (a0 : Int) (v0 : Bool) (h : impl_isNum a0 = some v0) : Ax.Spec Try.prog 65 none [zI a0] (zB v0 : X) (.junk : X) := by
 refine walk0 (fn := Try.f65) (fun q0 : Bool => (zB q0 : X)) (fun q0 : Bool => (.junk : X)) v0 ⟨[(0, zI a0)], []⟩ Try.func65 rfl (by decide +kernel) fun Γ hn fin => ?_
 rw [impl_isNum] at h
 refine sqr cv hn ?_
 refine ro9 0 1 1 ⟨[(2, zB false), (0, zI a0)], []⟩ ?_
 refine sqr cv hn ?_
 refine ro 0 1 1 ⟨[(3, zI a0), (2, zB false), (0, zI a0)], []⟩ ?_
 obtain ⟨v1, hv2, h⟩ := bindO h
 refine rc 1 ⟨[(4, zB v1), (3, zI a0), (2, zB false), (0, zI a0)], []⟩ (impl_in_spec a0 0 1125899906842624 v1 hv2) ?_
 refine ro9 2 1 1 ⟨[(2, zB v1), (4, zB v1), (3, zI a0), (2, zB false), (0, zI a0)], []⟩ ?_
 refine runs_ret ?_
 exact fin _ _ h (by kernel_rfl)

set_option maxRecDepth 100000 in
set_option maxHeartbeats 2000000 in
theorem impl_copyInts_spec (a0 : (List Int)) (v0 : (List Int)) (h : impl_copyInts a0 = some v0) : Ax.Spec Try.prog 114 none [.sl 0 (List.map encInt a0)] (.sl 1 (List.map encInt v0) : X) (.junk : X) := by
 let T1 : List (Nat × X) := [(0, .sl 0 (List.map encInt a0))]
 refine walk0 (fn := Try.f114) (fun q0 : (List Int) => (.sl 1 (List.map encInt q0) : X)) (fun q0 : (List Int) => (.junk : X)) v0 ⟨T1, []⟩ Try.func114 rfl (by decide +kernel) fun Γ hn fin => ?_
 rw [impl_copyInts] at h
 refine sqr cv hn ?_
 refine ro9 0 1 1 ⟨(2, .sc (.slice none 0 0)) :: T1, []⟩ ?_
 refine sqr cv hn ?_
 refine ro 0 1 1 ⟨(3, .sl 0 (List.map encInt a0)) :: (2, .sc (.slice none 0 0)) :: T1, []⟩ ?_
 obtain ⟨hg1, h⟩ := gO_some h
 refine rs 1 ⟨(4, .view 4 1 [] 0) :: (3, .sl 0 (List.map encInt a0)) :: (2, .sc (.slice none 0 0)) :: T1, [(4, ⟨1, 1, false, some (.sl 1 (List.map encInt a0))⟩)]⟩ [((List.map encInt [] : List X).length + (List.map encInt a0 : List X).length) * tBytes Try.prog 3 ≤ 140737488355328 ∧ (List.map encInt [] : List X).length + (List.map encInt a0 : List X).length ≤ 140737488355328 ∧ (∀ y ∈ (List.map encInt [] : List X), (X.cells y).length = tSize Try.prog 3) ∧ ∀ y ∈ (List.map encInt a0 : List X), (X.cells y).length = tSize Try.prog 3] ⟨⟨(app_side (b := 8) (b2 := tBytes Try.prog 3) (f := encInt) (A := []) (B := a0) (by kernel_rfl) hg1).1, (app_side (b := 8) (b2 := 8) (f := encInt) (A := []) (B := a0) rfl hg1).2, fmap fun _ => by kernel_rfl, fmap fun _ => by kernel_rfl⟩, trivial⟩ ?_
 refine ro9 2 1 1 ⟨(2, .view 4 1 [] 0) :: (4, .view 4 1 [] 0) :: (3, .sl 0 (List.map encInt a0)) :: (2, .sc (.slice none 0 0)) :: T1, [(4, ⟨1, 1, false, some (.sl 1 (List.map encInt a0))⟩)]⟩ ?_
 refine runs_ret ?_
 exact fin _ _ h (by kernel_rfl)

set_option maxRecDepth 100000 in
set_option maxHeartbeats 2000000 in
theorem impl_copyAcct_spec (a0 : SAcct) (v0 : SAcct) (h : impl_copyAcct a0 = some v0) : Ax.Spec Try.prog 79 none [encAcct0 a0] (encAcct1 v0 : X) (.junk : X) := by
 refine walk0 (fn := Try.f79) (fun q0 : SAcct => (encAcct1 q0 : X)) (fun q0 : SAcct => (.junk : X)) v0 ⟨[(0, encAcct0 a0)], []⟩ Try.func79 rfl (by decide +kernel) fun Γ hn fin => ?_
 rw [impl_copyAcct] at h
 refine sqr cv hn ?_
 refine ro9 0 2 2 ⟨[(2, .ptr 2 1 0), (1, .ptr 1 1 0), (0, encAcct0 a0)], [(2, ⟨1, 1, true, some (.agg [zI 0, zI 0, zI 0, .sl 1 (List.map encInt []), .sl 1 (List.map encRep [])])⟩), (1, ⟨1, 1, true, some (encAcct0 a0)⟩)]⟩ ?_
 refine runs_seq ?_
 refine rgT cv mixed hn ?_
 refine roT 0 2 2 ⟨[(4, .sl 0 (List.map encInt a0.fMarks)), (3, .ptr 1 1 3), (2, .ptr 2 1 0), (1, .ptr 1 1 0), (0, encAcct0 a0)], [(2, ⟨1, 1, true, some (.agg [zI 0, zI 0, zI 0, .sl 1 (List.map encInt []), .sl 1 (List.map encRep [])])⟩), (1, ⟨1, 1, true, some (encAcct0 a0)⟩)]⟩ ?_
 obtain ⟨v1, hv2, h⟩ := bindO h
 refine rcT 2 ⟨[(5, .view 5 1 [] 0), (4, .sl 0 (List.map encInt a0.fMarks)), (3, .ptr 1 1 3), (2, .ptr 2 1 0), (1, .ptr 1 1 0), (0, encAcct0 a0)], [(5, ⟨1, 1, false, some (.sl 1 (List.map encInt v1))⟩), (2, ⟨1, 1, true, some (.agg [zI 0, zI 0, zI 0, .sl 1 (List.map encInt []), .sl 1 (List.map encRep [])])⟩), (1, ⟨1, 1, true, some (encAcct0 a0)⟩)]⟩ (impl_copyInts_spec a0.fMarks v1 hv2) ?_
 refine roT 3 2 2 ⟨[(7, .sl 0 (List.map encRep a0.fReps)), (6, .ptr 1 1 4), (5, .view 5 1 [] 0), (4, .sl 0 (List.map encInt a0.fMarks)), (3, .ptr 1 1 3), (2, .ptr 2 1 0), (1, .ptr 1 1 0), (0, encAcct0 a0)], [(5, ⟨1, 1, false, some (.sl 1 (List.map encInt v1))⟩), (2, ⟨1, 1, true, some (.agg [zI 0, zI 0, zI 0, .sl 1 (List.map encInt []), .sl 1 (List.map encRep [])])⟩), (1, ⟨1, 1, true, some (encAcct0 a0)⟩)]⟩ ?_
 obtain ⟨hg3, h⟩ := gO_some h
 refine rsT 5 ⟨[(8, .view 8 1 [] 0), (7, .sl 0 (List.map encRep a0.fReps)), (6, .ptr 1 1 4), (5, .view 5 1 [] 0), (4, .sl 0 (List.map encInt a0.fMarks)), (3, .ptr 1 1 3), (2, .ptr 2 1 0), (1, .ptr 1 1 0), (0, encAcct0 a0)], [(8, ⟨1, 1, false, some (.sl 1 (List.map encRep a0.fReps))⟩), (5, ⟨1, 1, false, some (.sl 1 (List.map encInt v1))⟩), (2, ⟨1, 1, true, some (.agg [zI 0, zI 0, zI 0, .sl 1 (List.map encInt []), .sl 1 (List.map encRep [])])⟩), (1, ⟨1, 1, true, some (encAcct0 a0)⟩)]⟩ [((List.map encRep [] : List X).length + (List.map encRep a0.fReps : List X).length) * tBytes Try.prog 119 ≤ 140737488355328 ∧ (List.map encRep [] : List X).length + (List.map encRep a0.fReps : List X).length ≤ 140737488355328 ∧ (∀ y ∈ (List.map encRep [] : List X), (X.cells y).length = tSize Try.prog 119) ∧ ∀ y ∈ (List.map encRep a0.fReps : List X), (X.cells y).length = tSize Try.prog 119] ⟨⟨(app_side (b := 16) (b2 := tBytes Try.prog 119) (f := encRep) (A := []) (B := a0.fReps) (by kernel_rfl) hg3).1, (app_side (b := 16) (b2 := 16) (f := encRep) (A := []) (B := a0.fReps) rfl hg3).2, fmap fun _ => by kernel_rfl, fmap fun _ => by kernel_rfl⟩, trivial⟩ ?_
 refine roT9 6 4 4 ⟨[(10, .ptr 1 1 4), (9, .ptr 1 1 3), (8, .view 8 1 [] 0), (7, .sl 0 (List.map encRep a0.fReps)), (6, .ptr 1 1 4), (5, .view 5 1 [] 0), (4, .sl 0 (List.map encInt a0.fMarks)), (3, .ptr 1 1 3), (2, .ptr 2 1 0), (1, .ptr 1 1 0), (0, encAcct0 a0)], [(1, ⟨1, 3, true, some (.agg [zI a0.fHave, zI a0.fState, zI a0.fBy, .sl 1 (List.map encInt v1), .sl 1 (List.map encRep a0.fReps)])⟩), (8, ⟨1, 2, false, some (.junk)⟩), (1, ⟨1, 2, true, some (.agg [zI a0.fHave, zI a0.fState, zI a0.fBy, .sl 1 (List.map encInt v1), .sl 0 (List.map encRep a0.fReps)])⟩), (5, ⟨1, 2, false, some (.junk)⟩), (8, ⟨1, 1, false, some (.sl 1 (List.map encRep a0.fReps))⟩), (5, ⟨1, 1, false, some (.sl 1 (List.map encInt v1))⟩), (2, ⟨1, 1, true, some (.agg [zI 0, zI 0, zI 0, .sl 1 (List.map encInt []), .sl 1 (List.map encRep [])])⟩), (1, ⟨1, 1, true, some (encAcct0 a0)⟩)]⟩ ?_
 let T2 : List (Nat × X) := [(2, .ptr 2 0 0), (1, .ptr 1 0 0)]
 let B2 : List (Nat × Bx) := [(2, ⟨0, 0, true, some (.agg [zI 0, zI 0, zI 0, .sl 1 (List.map encInt []), .sl 1 (List.map encRep [])])⟩), (1, ⟨0, 0, true, some (.agg [zI a0.fHave, zI a0.fState, zI a0.fBy, .sl 1 (List.map encInt v1), .sl 1 (List.map encRep a0.fReps)])⟩)]
 refine wkr [2, 1] [(2, 2, false), (1, 1, false)] ⟨T2, B2⟩ ?_
 refine sqr cv hn ?_
 refine ro9 0 2 2 ⟨(11, .agg [zI a0.fHave, zI a0.fState, zI a0.fBy, .view 1 0 [] 3, .view 1 0 [] 4]) :: T2, (2, ⟨0, 1, true, some (.agg [zI a0.fHave, zI a0.fState, zI a0.fBy, .sl 1 (List.map encInt v1), .sl 1 (List.map encRep a0.fReps)])⟩) :: (1, ⟨0, 2, true, some (.agg [zI a0.fHave, zI a0.fState, zI a0.fBy, .junk, .junk])⟩) :: (1, ⟨0, 1, true, some (.agg [zI a0.fHave, zI a0.fState, zI a0.fBy, .junk, .sl 1 (List.map encRep a0.fReps)])⟩) :: B2⟩ ?_
 refine runs_ret ?_
 exact fin _ _ h (by kernel_rfl)

set_option maxRecDepth 100000 in
set_option maxHeartbeats 2000000 in
theorem impl_repAt_spec (a0 : SAcct) (a1 : Int) (v0 : Int) (h : impl_repAt a0 a1 = some v0) : Ax.Spec Try.prog 103 none [encAcct0 a0, zI a1] (zI v0 : X) (.junk : X) := by
 refine walk0 (fn := Try.f103) (fun q0 : Int => (zI q0 : X)) (fun q0 : Int => (.junk : X)) v0 ⟨[(0, encAcct0 a0), (1, zI a1)], []⟩ Try.func103 rfl (by decide +kernel) fun Γ hn fin => ?_
 rw [impl_repAt] at h
 refine sqr cv hn ?_
 refine ro9 0 2 2 ⟨[(4, zI 0), (2, .ptr 2 1 0), (0, encAcct0 a0), (1, zI a1)], [(2, ⟨1, 1, true, some (encAcct0 a0)⟩)]⟩ ?_
 refine runs_seq ?_
 refine sqr cv hn ?_
 refine ro9 0 4 4 ⟨[(10, zI 0), (9, zI (a0.fReps.length : Int)), (8, .sl 0 (List.map encRep a0.fReps)), (7, .ptr 2 1 4), (4, zI 0), (2, .ptr 2 1 0), (0, encAcct0 a0), (1, zI a1)], [(2, ⟨1, 1, true, some (encAcct0 a0)⟩)]⟩ ?_ (he := by rw [show (a0.fReps.length : Int) = ((List.map encRep a0.fReps).length : Int) from by rw [List.length_map]]; kernel_rfl)
 refine runs_block ?_
 refine runs_loopM (σ := List SRep × Nat) (fun s => ⟨[(10, zI (s.2 : Int)), (9, zI (a0.fReps.length : Int)), (8, .sl 0 (List.map encRep a0.fReps)), (1, zI a1)], []⟩) (fun s => s.1 = List.drop s.2 a0.fReps ∧ impl_repAt_l1 a1 s.1 s.2 = some v0) (fun s => s.1.length) (a0.fReps, 0) ⟨rfl, h⟩ (wre [10, 9, 8, 1] []) ?_
 rintro ⟨t1, i1⟩ ⟨hd1, h⟩
 refine seq0 ⟨[(10, zI (i1 : Int)), (9, zI (a0.fReps.length : Int)), (8, .sl 0 (List.map encRep a0.fReps)), (1, zI a1)], []⟩ ?_
 refine runs_len 8 (es := List.map encRep a0.fReps) (by kernel_rfl) fun hl1 => ?_
 replace hl1 := len_of_map hl1
 cases t1 with
 | nil =>
   rw [impl_repAt_l1] at h
   have hLn1 := dnil hd1
   refine sqr cv hn ?_
   refine ro9 0 1 1 ⟨[(11, zB (decide ((i1 : Int) < (a0.fReps.length : Int)))), (10, zI (i1 : Int)), (9, zI (a0.fReps.length : Int)), (8, .sl 0 (List.map encRep a0.fReps)), (1, zI a1)], []⟩ ?_
   refine runs_seq ?_
   refine cf hLn1 ?_
   refine runs_exit ?_
   repeat refine thenX_exit ?_
   refine block_here ?_
   refine wkr [] [] ⟨[], []⟩ ?_
   refine sqr cv hn ?_
   refine ro9 0 1 1 ⟨[(4, zI (-1))], []⟩ ?_
   refine runs_ret ?_
   exact fin _ _ h (by kernel_rfl)
 | cons x10 t1 =>
   rw [impl_repAt_l1] at h
   have hLc1 := dcons hd1
   have hx10 := dget hd1
   have hi1 := dinc hd1 hl1
   refine sqr cv hn ?_
   refine ro9 0 1 1 ⟨[(11, zB (decide ((i1 : Int) < (a0.fReps.length : Int)))), (10, zI (i1 : Int)), (9, zI (a0.fReps.length : Int)), (8, .sl 0 (List.map encRep a0.fReps)), (1, zI a1)], []⟩ ?_
   refine runs_seq ?_
   refine ct hLc1 ?_
   refine runs_skip ?_
   refine runs_seq ?_
   refine runs_block ?_
   refine sqr cv hn ?_
   refine ro 0 1 1 ⟨[(12, zI (i1 : Int)), (11, zB (decide ((i1 : Int) < (a0.fReps.length : Int)))), (10, zI (i1 : Int)), (9, zI (a0.fReps.length : Int)), (8, .sl 0 (List.map encRep a0.fReps)), (1, zI a1)], []⟩ ?_
   refine rix 1 encRep 119 hx10 (ix_nn hx10) ⟨[(13, .rp (encRep x10) 0), (12, zI (i1 : Int)), (11, zB (decide ((i1 : Int) < (a0.fReps.length : Int)))), (10, zI (i1 : Int)), (9, zI (a0.fReps.length : Int)), (8, .sl 0 (List.map encRep a0.fReps)), (1, zI a1)], []⟩ ?_
   refine ro9 2 4 4 ⟨[(5, zI (i1 : Int)), (6, .ptr 6 1 0), (14, encRep x10), (13, .rp (encRep x10) 0), (12, zI (i1 : Int)), (11, zB (decide ((i1 : Int) < (a0.fReps.length : Int)))), (10, zI (i1 : Int)), (9, zI (a0.fReps.length : Int)), (8, .sl 0 (List.map encRep a0.fReps)), (1, zI a1)], [(6, ⟨1, 1, true, some (encRep x10)⟩), (6, ⟨1, 1, true, some (.agg [zI 0, zI 0])⟩)]⟩ ?_
   refine sqr cv hn ?_
   refine ro9 0 4 4 ⟨[(18, zB (x10.fNode == a1)), (17, zI a1), (16, zI x10.fNode), (15, .ptr 6 1 0), (5, zI (i1 : Int)), (6, .ptr 6 1 0), (14, encRep x10), (13, .rp (encRep x10) 0), (12, zI (i1 : Int)), (11, zB (decide ((i1 : Int) < (a0.fReps.length : Int)))), (10, zI (i1 : Int)), (9, zI (a0.fReps.length : Int)), (8, .sl 0 (List.map encRep a0.fReps)), (1, zI a1)], [(6, ⟨1, 1, true, some (encRep x10)⟩), (6, ⟨1, 1, true, some (.agg [zI 0, zI 0])⟩)]⟩ ?_
   rcases dich (x10.fNode == a1) with hb18 | hb18
   · replace h := cond_t hb18 h
     refine ct hb18 ?_
     refine sqr cv hn ?_
     refine ro9 0 2 2 ⟨[(4, zI (i1 : Int)), (19, zI (i1 : Int)), (18, zB (x10.fNode == a1)), (17, zI a1), (16, zI x10.fNode), (15, .ptr 6 1 0), (5, zI (i1 : Int)), (6, .ptr 6 1 0), (14, encRep x10), (13, .rp (encRep x10) 0), (12, zI (i1 : Int)), (11, zB (decide ((i1 : Int) < (a0.fReps.length : Int)))), (10, zI (i1 : Int)), (9, zI (a0.fReps.length : Int)), (8, .sl 0 (List.map encRep a0.fReps)), (1, zI a1)], [(6, ⟨1, 1, true, some (encRep x10)⟩), (6, ⟨1, 1, true, some (.agg [zI 0, zI 0])⟩)]⟩ ?_
     refine runs_ret ?_
     exact fin _ _ h (by kernel_rfl)
   · replace h := cond_f hb18 h
     refine cf hb18 ?_
     refine runs_skip ?_
     refine rg cv hn ?_
     refine ro9 0 2 2 ⟨[(10, zI ((i1 + 1 : Nat) : Int)), (20, zI ((i1 + 1 : Nat) : Int)), (18, zB (x10.fNode == a1)), (17, zI a1), (16, zI x10.fNode), (15, .ptr 6 1 0), (5, zI (i1 : Int)), (6, .ptr 6 1 0), (14, encRep x10), (13, .rp (encRep x10) 0), (12, zI (i1 : Int)), (11, zB (decide ((i1 : Int) < (a0.fReps.length : Int)))), (10, zI (i1 : Int)), (9, zI (a0.fReps.length : Int)), (8, .sl 0 (List.map encRep a0.fReps)), (1, zI a1)], [(6, ⟨1, 1, true, some (encRep x10)⟩), (6, ⟨1, 1, true, some (.agg [zI 0, zI 0])⟩)]⟩ ?_ (he := by rw [← hi1]; kernel_rfl)
     exact ⟨(t1, i1 + 1), Nat.lt_succ_self _, ⟨dnext hd1, h⟩, wre [10, 9, 8, 1] []⟩

set_option maxRecDepth 100000 in
set_option maxHeartbeats 2000000 in
theorem impl_AcctRep_spec (a0 : SAcct) (a1 : Int) (a2 : Int) (a3 : Int) (v0 : SAcct × Bool) (h : impl_AcctRep a0 a1 a2 a3 = some v0) : Ax.Spec Try.prog 52 none [encAcct0 a0, zI a1, zI a2, zI a3] (.tup [encAcct1 v0.1, zB v0.2] : X) (.junk : X) := by
 let T1 : List (Nat × X) := [(0, encAcct0 a0), (1, zI a1), (2, zI a2), (3, zI a3)]
 refine walk0 (fn := Try.f52) (fun q0 : SAcct × Bool => (.tup [encAcct1 q0.1, zB q0.2] : X)) (fun q0 : SAcct × Bool => (.junk : X)) v0 ⟨T1, []⟩ Try.func52 rfl (by decide +kernel) fun Γ hn fin => ?_
 rw [impl_AcctRep] at h
 refine sqr cv hn ?_
 refine ro9 0 3 3 ⟨(9, zB false) :: (8, .ptr 8 1 0) :: (4, .ptr 4 1 0) :: T1, [(8, ⟨1, 1, true, some (.agg [zI 0, zI 0, zI 0, .sl 1 (List.map encInt []), .sl 1 (List.map encRep [])])⟩), (4, ⟨1, 1, true, some (encAcct0 a0)⟩)]⟩ ?_
 refine runs_seq ?_
 refine runs_seqJ (σ := Bool) (fun s => ⟨[(1, zI a1), (2, zI a2), (3, zI a3), (4, .ptr 4 0 0), (8, .ptr 8 0 0), (30, zB s)], [(4, ⟨0, 0, true, some (encAcct0 a0)⟩), (8, ⟨0, 0, true, some (.agg [zI 0, zI 0, zI 0, .sl 1 (List.map encInt []), .sl 1 (List.map encRep [])])⟩)]⟩) (fun s => impl_AcctRep_j1 a0 a1 a2 a3 s = some v0) ?_ ?_
 · rintro y30 h
   rw [impl_AcctRep_j1] at h
   let T3 : List (Nat × X) := [(1, zI a1), (2, zI a2), (3, zI a3), (4, .ptr 4 0 0), (8, .ptr 8 0 0), (30, zB y30)]
   let B3 : List (Nat × Bx) := [(4, ⟨0, 0, true, some (encAcct0 a0)⟩), (8, ⟨0, 0, true, some (.agg [zI 0, zI 0, zI 0, .sl 1 (List.map encInt []), .sl 1 (List.map encRep [])])⟩)]
   refine seq0 ⟨T3, B3⟩ ?_
   rcases dich y30 with hb31 | hb31
   · replace h := cond_t hb31 h
     refine ct hb31 ?_
     refine sqr cv hn ?_
     refine ro9 0 3 3 ⟨(9, zB false) :: (31, .agg [zI 0, zI 0, zI 0, .sc (.slice none 0 0), .sc (.slice none 0 0)]) :: T3, (8, ⟨0, 1, true, some (.agg [zI 0, zI 0, zI 0, .sl 1 (List.map encInt []), .sl 1 (List.map encRep [])])⟩) :: B3⟩ ?_
     refine runs_ret ?_
     exact fin _ _ h (by kernel_rfl)
   · replace h := cond_f hb31 h
     refine cf hb31 ?_
     refine runs_skip ?_
     refine sqr cv hn ?_
     refine ro 0 1 1 ⟨(32, encAcct0 a0) :: T3, B3⟩ ?_
     obtain ⟨v34, hv35, h⟩ := bindO h
     refine rc 1 ⟨(33, .agg [zI v34.fHave, zI v34.fState, zI v34.fBy, .view 33 1 [] 0, .view 10033 1 [] 0]) :: (32, encAcct0 a0) :: T3, (10033, ⟨1, 1, false, some (.sl 1 (List.map encRep v34.fReps))⟩) :: (33, ⟨1, 1, false, some (.sl 1 (List.map encInt v34.fMarks))⟩) :: B3⟩ (impl_copyAcct_spec a0 v34 hv35) ?_
     refine ro9 2 2 2 ⟨(10, .ptr 10 1 0) :: (33, .agg [zI v34.fHave, zI v34.fState, zI v34.fBy, .view 33 1 [] 0, .view 10033 1 [] 0]) :: (32, encAcct0 a0) :: T3, (10, ⟨1, 2, true, some (encAcct1 v34)⟩) :: (10033, ⟨1, 2, false, some (.junk)⟩) :: (33, ⟨1, 2, false, some (.junk)⟩) :: (10, ⟨1, 1, true, some (.agg [zI 0, zI 0, zI 0, .sl 1 (List.map encInt []), .sl 1 (List.map encRep [])])⟩) :: (10033, ⟨1, 1, false, some (.sl 1 (List.map encRep v34.fReps))⟩) :: (33, ⟨1, 1, false, some (.sl 1 (List.map encInt v34.fMarks))⟩) :: B3⟩ ?_
     let T5 : List (Nat × X) := [(10, .ptr 10 0 0), (1, zI a1), (2, zI a2), (3, zI a3), (4, .ptr 4 0 0), (8, .ptr 8 0 0)]
     let B5 : List (Nat × Bx) := [(10, ⟨0, 0, true, some (encAcct1 v34)⟩), (4, ⟨0, 0, true, some (encAcct0 a0)⟩), (8, ⟨0, 0, true, some (.agg [zI 0, zI 0, zI 0, .sl 1 (List.map encInt []), .sl 1 (List.map encRep [])])⟩)]
     refine wkr [10, 1, 2, 3, 4, 8] [(10, 10, false), (4, 4, false), (8, 8, false)] ⟨T5, B5⟩ ?_
     refine sqr cv hn ?_
     refine ro9 0 1 1 ⟨(11, zI 0) :: T5, B5⟩ ?_
     refine runs_seqJ (σ := Int) (fun s => ⟨[(1, zI a1), (2, zI a2), (3, zI a3), (4, .ptr 4 0 0), (8, .ptr 8 0 0), (10, .ptr 10 0 0), (11, zI s)], [(4, ⟨0, 0, true, some (encAcct0 a0)⟩), (8, ⟨0, 0, true, some (.agg [zI 0, zI 0, zI 0, .sl 1 (List.map encInt []), .sl 1 (List.map encRep [])])⟩), (10, ⟨0, 0, true, some (encAcct1 v34)⟩)]⟩) (fun s => impl_AcctRep_j2 a0 a1 a2 a3 v34 s = some v0) ?_ ?_
     · rintro y66 h
       rw [impl_AcctRep_j2] at h
       let T7 : List (Nat × X) := [(1, zI a1), (2, zI a2), (3, zI a3), (4, .ptr 4 0 0), (8, .ptr 8 0 0), (10, .ptr 10 0 0), (11, zI y66)]
       let B7 : List (Nat × Bx) := [(4, ⟨0, 0, true, some (encAcct0 a0)⟩), (8, ⟨0, 0, true, some (.agg [zI 0, zI 0, zI 0, .sl 1 (List.map encInt []), .sl 1 (List.map encRep [])])⟩), (10, ⟨0, 0, true, some (encAcct1 v34)⟩)]
       refine seq0 ⟨T7, B7⟩ ?_
       refine runs_seq ?_
       refine rgT cv mixed hn ?_
       refine roT 0 3 3 ⟨(53, zI y66) :: (52, .sl 0 (List.map encRep a0.fReps)) :: (51, .ptr 4 0 4) :: T7, B7⟩ ?_
       obtain ⟨hg72, h⟩ := gO_some h
       refine rsT 3 ⟨(54, .sl 0 (List.map encRep (List.take (Int.toNat y66 - Int.toNat 0) (List.drop (Int.toNat 0) a0.fReps)))) :: (53, zI y66) :: (52, .sl 0 (List.map encRep a0.fReps)) :: (51, .ptr 4 0 4) :: T7, B7⟩ [0 ≤ (0 : Int) ∧ 0 ≤ (y66 : Int) ∧ y66 ≤ ((List.map encRep a0.fReps).length : Int) ∧ ∀ y ∈ (List.map encRep a0.fReps), (X.cells y).length = tSize Try.prog 119] ⟨⟨hg72.1, by simpa only [List.length_map] using hg72.2.1, by simpa only [List.length_map] using hg72.2.2, fmap fun _ => by kernel_rfl⟩, trivial⟩ ?_ (he := by rw [show List.map encRep (List.take (Int.toNat y66 - Int.toNat 0) (List.drop (Int.toNat 0) a0.fReps)) = List.take (Int.toNat y66 - Int.toNat 0) (List.drop (Int.toNat 0) (List.map encRep a0.fReps)) from by rw [List.map_take, List.map_drop]]; kernel_rfl)
       obtain ⟨hg73, h⟩ := gO_some h
       refine rsT 4 ⟨(55, .view 55 1 [] 0) :: (54, .sl 0 (List.map encRep (List.take (Int.toNat y66 - Int.toNat 0) (List.drop (Int.toNat 0) a0.fReps)))) :: (53, zI y66) :: (52, .sl 0 (List.map encRep a0.fReps)) :: (51, .ptr 4 0 4) :: T7, (55, ⟨1, 1, false, some (.sl 1 (List.map encRep (List.take (Int.toNat y66 - Int.toNat 0) (List.drop (Int.toNat 0) a0.fReps))))⟩) :: B7⟩ [((List.map encRep [] : List X).length + (List.map encRep (List.take (Int.toNat y66 - Int.toNat 0) (List.drop (Int.toNat 0) a0.fReps)) : List X).length) * tBytes Try.prog 119 ≤ 140737488355328 ∧ (List.map encRep [] : List X).length + (List.map encRep (List.take (Int.toNat y66 - Int.toNat 0) (List.drop (Int.toNat 0) a0.fReps)) : List X).length ≤ 140737488355328 ∧ (∀ y ∈ (List.map encRep [] : List X), (X.cells y).length = tSize Try.prog 119) ∧ ∀ y ∈ (List.map encRep (List.take (Int.toNat y66 - Int.toNat 0) (List.drop (Int.toNat 0) a0.fReps)) : List X), (X.cells y).length = tSize Try.prog 119] ⟨⟨(app_side (b := 16) (b2 := tBytes Try.prog 119) (f := encRep) (A := []) (B := List.take (Int.toNat y66 - Int.toNat 0) (List.drop (Int.toNat 0) a0.fReps)) (by kernel_rfl) hg73).1, (app_side (b := 16) (b2 := 16) (f := encRep) (A := []) (B := List.take (Int.toNat y66 - Int.toNat 0) (List.drop (Int.toNat 0) a0.fReps)) rfl hg73).2, fmap fun _ => by kernel_rfl, fmap fun _ => by kernel_rfl⟩, trivial⟩ ?_
       refine roT 5 3 3 ⟨(58, .agg [zI a1, zI a2]) :: (57, zI a2) :: (56, zI a1) :: (55, .view 55 1 [] 0) :: (54, .sl 0 (List.map encRep (List.take (Int.toNat y66 - Int.toNat 0) (List.drop (Int.toNat 0) a0.fReps)))) :: (53, zI y66) :: (52, .sl 0 (List.map encRep a0.fReps)) :: (51, .ptr 4 0 4) :: T7, (55, ⟨1, 1, false, some (.sl 1 (List.map encRep (List.take (Int.toNat y66 - Int.toNat 0) (List.drop (Int.toNat 0) a0.fReps))))⟩) :: B7⟩ ?_
       refine rsT 8 ⟨(59, .view 59 1 [] 0) :: (58, .agg [zI a1, zI a2]) :: (57, zI a2) :: (56, zI a1) :: (55, .view 55 1 [] 0) :: (54, .sl 0 (List.map encRep (List.take (Int.toNat y66 - Int.toNat 0) (List.drop (Int.toNat 0) a0.fReps)))) :: (53, zI y66) :: (52, .sl 0 (List.map encRep a0.fReps)) :: (51, .ptr 4 0 4) :: T7, (59, ⟨1, 1, false, some (.sl 1 (List.map encRep [(SRep.mk a1 a2)]))⟩) :: (55, ⟨1, 1, false, some (.sl 1 (List.map encRep (List.take (Int.toNat y66 - Int.toNat 0) (List.drop (Int.toNat 0) a0.fReps))))⟩) :: B7⟩ [∀ y ∈ (List.map encRep [(SRep.mk a1 a2)] : List X), (X.cells y).length = tSize Try.prog 119] ⟨fmap fun _ => by kernel_rfl, trivial⟩ ?_
       obtain ⟨hg74, h⟩ := gO_some h
       refine rsT 9 ⟨(60, .view 60 1 [] 0) :: (59, .view 59 1 [] 0) :: (58, .agg [zI a1, zI a2]) :: (57, zI a2) :: (56, zI a1) :: (55, .view 55 1 [] 0) :: (54, .sl 0 (List.map encRep (List.take (Int.toNat y66 - Int.toNat 0) (List.drop (Int.toNat 0) a0.fReps)))) :: (53, zI y66) :: (52, .sl 0 (List.map encRep a0.fReps)) :: (51, .ptr 4 0 4) :: T7, (60, ⟨1, 1, false, some (.sl 1 (List.map encRep ((List.take (Int.toNat y66 - Int.toNat 0) (List.drop (Int.toNat 0) a0.fReps)) ++ [(SRep.mk a1 a2)])))⟩) :: (55, ⟨1, 2, false, some (.junk)⟩) :: (59, ⟨1, 1, false, some (.sl 1 (List.map encRep [(SRep.mk a1 a2)]))⟩) :: (55, ⟨1, 1, false, some (.sl 1 (List.map encRep (List.take (Int.toNat y66 - Int.toNat 0) (List.drop (Int.toNat 0) a0.fReps))))⟩) :: B7⟩ [((List.map encRep (List.take (Int.toNat y66 - Int.toNat 0) (List.drop (Int.toNat 0) a0.fReps)) : List X).length + (List.map encRep [(SRep.mk a1 a2)] : List X).length) * tBytes Try.prog 119 ≤ 140737488355328 ∧ (List.map encRep (List.take (Int.toNat y66 - Int.toNat 0) (List.drop (Int.toNat 0) a0.fReps)) : List X).length + (List.map encRep [(SRep.mk a1 a2)] : List X).length ≤ 140737488355328 ∧ (∀ y ∈ (List.map encRep (List.take (Int.toNat y66 - Int.toNat 0) (List.drop (Int.toNat 0) a0.fReps)) : List X), (X.cells y).length = tSize Try.prog 119) ∧ ∀ y ∈ (List.map encRep [(SRep.mk a1 a2)] : List X), (X.cells y).length = tSize Try.prog 119] ⟨⟨(app_side (b := 16) (b2 := tBytes Try.prog 119) (f := encRep) (A := List.take (Int.toNat y66 - Int.toNat 0) (List.drop (Int.toNat 0) a0.fReps)) (B := [(SRep.mk a1 a2)]) (by kernel_rfl) hg74).1, (app_side (b := 16) (b2 := 16) (f := encRep) (A := List.take (Int.toNat y66 - Int.toNat 0) (List.drop (Int.toNat 0) a0.fReps)) (B := [(SRep.mk a1 a2)]) rfl hg74).2, fmap fun _ => by kernel_rfl, fmap fun _ => by kernel_rfl⟩, trivial⟩ ?_ (he := by rw [show List.map encRep ((List.take (Int.toNat y66 - Int.toNat 0) (List.drop (Int.toNat 0) a0.fReps)) ++ [(SRep.mk a1 a2)]) = List.map encRep (List.take (Int.toNat y66 - Int.toNat 0) (List.drop (Int.toNat 0) a0.fReps)) ++ List.map encRep [(SRep.mk a1 a2)] from List.map_append]; kernel_rfl)
       refine roT 10 3 3 ⟨(63, zI y66) :: (62, .sl 0 (List.map encRep a0.fReps)) :: (61, .ptr 4 0 4) :: (60, .view 60 1 [] 0) :: (59, .view 59 1 [] 0) :: (58, .agg [zI a1, zI a2]) :: (57, zI a2) :: (56, zI a1) :: (55, .view 55 1 [] 0) :: (54, .sl 0 (List.map encRep (List.take (Int.toNat y66 - Int.toNat 0) (List.drop (Int.toNat 0) a0.fReps)))) :: (53, zI y66) :: (52, .sl 0 (List.map encRep a0.fReps)) :: (51, .ptr 4 0 4) :: T7, (60, ⟨1, 1, false, some (.sl 1 (List.map encRep ((List.take (Int.toNat y66 - Int.toNat 0) (List.drop (Int.toNat 0) a0.fReps)) ++ [(SRep.mk a1 a2)])))⟩) :: (55, ⟨1, 2, false, some (.junk)⟩) :: (59, ⟨1, 1, false, some (.sl 1 (List.map encRep [(SRep.mk a1 a2)]))⟩) :: (55, ⟨1, 1, false, some (.sl 1 (List.map encRep (List.take (Int.toNat y66 - Int.toNat 0) (List.drop (Int.toNat 0) a0.fReps))))⟩) :: B7⟩ ?_
       obtain ⟨hg75, h⟩ := gO_some h
       refine rsT 13 ⟨(64, .sl 0 (List.map encRep (List.take (Int.toNat (a0.fReps.length : Int) - Int.toNat y66) (List.drop (Int.toNat y66) a0.fReps)))) :: (63, zI y66) :: (62, .sl 0 (List.map encRep a0.fReps)) :: (61, .ptr 4 0 4) :: (60, .view 60 1 [] 0) :: (59, .view 59 1 [] 0) :: (58, .agg [zI a1, zI a2]) :: (57, zI a2) :: (56, zI a1) :: (55, .view 55 1 [] 0) :: (54, .sl 0 (List.map encRep (List.take (Int.toNat y66 - Int.toNat 0) (List.drop (Int.toNat 0) a0.fReps)))) :: (53, zI y66) :: (52, .sl 0 (List.map encRep a0.fReps)) :: (51, .ptr 4 0 4) :: T7, (60, ⟨1, 1, false, some (.sl 1 (List.map encRep ((List.take (Int.toNat y66 - Int.toNat 0) (List.drop (Int.toNat 0) a0.fReps)) ++ [(SRep.mk a1 a2)])))⟩) :: (55, ⟨1, 2, false, some (.junk)⟩) :: (59, ⟨1, 1, false, some (.sl 1 (List.map encRep [(SRep.mk a1 a2)]))⟩) :: (55, ⟨1, 1, false, some (.sl 1 (List.map encRep (List.take (Int.toNat y66 - Int.toNat 0) (List.drop (Int.toNat 0) a0.fReps))))⟩) :: B7⟩ [0 ≤ (y66 : Int) ∧ y66 ≤ (((List.map encRep a0.fReps).length : Int) : Int) ∧ ((List.map encRep a0.fReps).length : Int) ≤ ((List.map encRep a0.fReps).length : Int) ∧ ∀ y ∈ (List.map encRep a0.fReps), (X.cells y).length = tSize Try.prog 119] ⟨⟨hg75.1, by simpa only [List.length_map] using hg75.2.1, by simpa only [List.length_map] using hg75.2.2, fmap fun _ => by kernel_rfl⟩, trivial⟩ ?_ (he := by rw [show List.map encRep (List.take (Int.toNat (a0.fReps.length : Int) - Int.toNat y66) (List.drop (Int.toNat y66) a0.fReps)) = List.take (Int.toNat (a0.fReps.length : Int) - Int.toNat y66) (List.drop (Int.toNat y66) (List.map encRep a0.fReps)) from by rw [List.map_take, List.map_drop]]; rw [show (a0.fReps.length : Int) = ((List.map encRep a0.fReps).length : Int) from by rw [List.length_map]]; kernel_rfl)
       obtain ⟨hg76, h⟩ := gO_some h
       refine rsT 14 ⟨(65, .view 65 1 [] 0) :: (64, .sl 0 (List.map encRep (List.take (Int.toNat (a0.fReps.length : Int) - Int.toNat y66) (List.drop (Int.toNat y66) a0.fReps)))) :: (63, zI y66) :: (62, .sl 0 (List.map encRep a0.fReps)) :: (61, .ptr 4 0 4) :: (60, .view 60 1 [] 0) :: (59, .view 59 1 [] 0) :: (58, .agg [zI a1, zI a2]) :: (57, zI a2) :: (56, zI a1) :: (55, .view 55 1 [] 0) :: (54, .sl 0 (List.map encRep (List.take (Int.toNat y66 - Int.toNat 0) (List.drop (Int.toNat 0) a0.fReps)))) :: (53, zI y66) :: (52, .sl 0 (List.map encRep a0.fReps)) :: (51, .ptr 4 0 4) :: T7, (65, ⟨1, 1, false, some (.sl 1 (List.map encRep (((List.take (Int.toNat y66 - Int.toNat 0) (List.drop (Int.toNat 0) a0.fReps)) ++ [(SRep.mk a1 a2)]) ++ (List.take (Int.toNat (a0.fReps.length : Int) - Int.toNat y66) (List.drop (Int.toNat y66) a0.fReps)))))⟩) :: (60, ⟨1, 2, false, some (.junk)⟩) :: (60, ⟨1, 1, false, some (.sl 1 (List.map encRep ((List.take (Int.toNat y66 - Int.toNat 0) (List.drop (Int.toNat 0) a0.fReps)) ++ [(SRep.mk a1 a2)])))⟩) :: (55, ⟨1, 2, false, some (.junk)⟩) :: (59, ⟨1, 1, false, some (.sl 1 (List.map encRep [(SRep.mk a1 a2)]))⟩) :: (55, ⟨1, 1, false, some (.sl 1 (List.map encRep (List.take (Int.toNat y66 - Int.toNat 0) (List.drop (Int.toNat 0) a0.fReps))))⟩) :: B7⟩ [((List.map encRep ((List.take (Int.toNat y66 - Int.toNat 0) (List.drop (Int.toNat 0) a0.fReps)) ++ [(SRep.mk a1 a2)]) : List X).length + (List.map encRep (List.take (Int.toNat (a0.fReps.length : Int) - Int.toNat y66) (List.drop (Int.toNat y66) a0.fReps)) : List X).length) * tBytes Try.prog 119 ≤ 140737488355328 ∧ (List.map encRep ((List.take (Int.toNat y66 - Int.toNat 0) (List.drop (Int.toNat 0) a0.fReps)) ++ [(SRep.mk a1 a2)]) : List X).length + (List.map encRep (List.take (Int.toNat (a0.fReps.length : Int) - Int.toNat y66) (List.drop (Int.toNat y66) a0.fReps)) : List X).length ≤ 140737488355328 ∧ (∀ y ∈ (List.map encRep ((List.take (Int.toNat y66 - Int.toNat 0) (List.drop (Int.toNat 0) a0.fReps)) ++ [(SRep.mk a1 a2)]) : List X), (X.cells y).length = tSize Try.prog 119) ∧ ∀ y ∈ (List.map encRep (List.take (Int.toNat (a0.fReps.length : Int) - Int.toNat y66) (List.drop (Int.toNat y66) a0.fReps)) : List X), (X.cells y).length = tSize Try.prog 119] ⟨⟨(app_side (b := 16) (b2 := tBytes Try.prog 119) (f := encRep) (A := (List.take (Int.toNat y66 - Int.toNat 0) (List.drop (Int.toNat 0) a0.fReps)) ++ [(SRep.mk a1 a2)]) (B := List.take (Int.toNat (a0.fReps.length : Int) - Int.toNat y66) (List.drop (Int.toNat y66) a0.fReps)) (by kernel_rfl) hg76).1, (app_side (b := 16) (b2 := 16) (f := encRep) (A := (List.take (Int.toNat y66 - Int.toNat 0) (List.drop (Int.toNat 0) a0.fReps)) ++ [(SRep.mk a1 a2)]) (B := List.take (Int.toNat (a0.fReps.length : Int) - Int.toNat y66) (List.drop (Int.toNat y66) a0.fReps)) rfl hg76).2, fmap fun _ => by kernel_rfl, fmap fun _ => by kernel_rfl⟩, trivial⟩ ?_ (he := by rw [show List.map encRep (((List.take (Int.toNat y66 - Int.toNat 0) (List.drop (Int.toNat 0) a0.fReps)) ++ [(SRep.mk a1 a2)]) ++ (List.take (Int.toNat (a0.fReps.length : Int) - Int.toNat y66) (List.drop (Int.toNat y66) a0.fReps))) = List.map encRep ((List.take (Int.toNat y66 - Int.toNat 0) (List.drop (Int.toNat 0) a0.fReps)) ++ [(SRep.mk a1 a2)]) ++ List.map encRep (List.take (Int.toNat (a0.fReps.length : Int) - Int.toNat y66) (List.drop (Int.toNat y66) a0.fReps)) from List.map_append]; kernel_rfl)
       refine roT9 15 2 2 ⟨(66, .ptr 10 0 4) :: (65, .view 65 1 [] 0) :: (64, .sl 0 (List.map encRep (List.take (Int.toNat (a0.fReps.length : Int) - Int.toNat y66) (List.drop (Int.toNat y66) a0.fReps)))) :: (63, zI y66) :: (62, .sl 0 (List.map encRep a0.fReps)) :: (61, .ptr 4 0 4) :: (60, .view 60 1 [] 0) :: (59, .view 59 1 [] 0) :: (58, .agg [zI a1, zI a2]) :: (57, zI a2) :: (56, zI a1) :: (55, .view 55 1 [] 0) :: (54, .sl 0 (List.map encRep (List.take (Int.toNat y66 - Int.toNat 0) (List.drop (Int.toNat 0) a0.fReps)))) :: (53, zI y66) :: (52, .sl 0 (List.map encRep a0.fReps)) :: (51, .ptr 4 0 4) :: T7, (10, ⟨0, 1, true, some (.agg [zI v34.fHave, zI v34.fState, zI v34.fBy, .sl 1 (List.map encInt v34.fMarks), .sl 1 (List.map encRep (((List.take (Int.toNat y66 - Int.toNat 0) (List.drop (Int.toNat 0) a0.fReps)) ++ [(SRep.mk a1 a2)]) ++ (List.take (Int.toNat (a0.fReps.length : Int) - Int.toNat y66) (List.drop (Int.toNat y66) a0.fReps))))])⟩) :: (65, ⟨1, 2, false, some (.junk)⟩) :: (65, ⟨1, 1, false, some (.sl 1 (List.map encRep (((List.take (Int.toNat y66 - Int.toNat 0) (List.drop (Int.toNat 0) a0.fReps)) ++ [(SRep.mk a1 a2)]) ++ (List.take (Int.toNat (a0.fReps.length : Int) - Int.toNat y66) (List.drop (Int.toNat y66) a0.fReps)))))⟩) :: (60, ⟨1, 2, false, some (.junk)⟩) :: (60, ⟨1, 1, false, some (.sl 1 (List.map encRep ((List.take (Int.toNat y66 - Int.toNat 0) (List.drop (Int.toNat 0) a0.fReps)) ++ [(SRep.mk a1 a2)])))⟩) :: (55, ⟨1, 2, false, some (.junk)⟩) :: (59, ⟨1, 1, false, some (.sl 1 (List.map encRep [(SRep.mk a1 a2)]))⟩) :: (55, ⟨1, 1, false, some (.sl 1 (List.map encRep (List.take (Int.toNat y66 - Int.toNat 0) (List.drop (Int.toNat 0) a0.fReps))))⟩) :: B7⟩ ?_
       refine runs_seq ?_
       let T8 : List (Nat × X) := [(3, zI a3), (8, .ptr 8 0 0), (10, .ptr 10 0 0)]
       let B8 : List (Nat × Bx) := [(8, ⟨0, 0, true, some (.agg [zI 0, zI 0, zI 0, .sl 1 (List.map encInt []), .sl 1 (List.map encRep [])])⟩), (10, ⟨0, 0, true, some (.agg [zI v34.fHave, zI v34.fState, zI v34.fBy, .sl 1 (List.map encInt v34.fMarks), .sl 1 (List.map encRep (((List.take (Int.toNat y66 - Int.toNat 0) (List.drop (Int.toNat 0) a0.fReps)) ++ [(SRep.mk a1 a2)]) ++ (List.take (Int.toNat (a0.fReps.length : Int) - Int.toNat y66) (List.drop (Int.toNat y66) a0.fReps))))])⟩)]
       refine wkr [3, 8, 10] [(8, 8, false), (10, 10, false)] ⟨T8, B8⟩ ?_
       refine sqr cv hn ?_
       refine ro9 0 5 5 ⟨(71, zB (((((List.take (Int.toNat y66 - Int.toNat 0) (List.drop (Int.toNat 0) a0.fReps)) ++ [(SRep.mk a1 a2)]) ++ (List.take (Int.toNat (a0.fReps.length : Int) - Int.toNat y66) (List.drop (Int.toNat y66) a0.fReps))).length : Int) == a3)) :: (70, zI a3) :: (69, zI ((((List.take (Int.toNat y66 - Int.toNat 0) (List.drop (Int.toNat 0) a0.fReps)) ++ [(SRep.mk a1 a2)]) ++ (List.take (Int.toNat (a0.fReps.length : Int) - Int.toNat y66) (List.drop (Int.toNat y66) a0.fReps))).length : Int)) :: (68, .view 10 0 [] 4) :: (67, .ptr 10 0 4) :: T8, B8⟩ ?_ (he := by rw [show ((((List.take (Int.toNat y66 - Int.toNat 0) (List.drop (Int.toNat 0) a0.fReps)) ++ [(SRep.mk a1 a2)]) ++ (List.take (Int.toNat (a0.fReps.length : Int) - Int.toNat y66) (List.drop (Int.toNat y66) a0.fReps))).length : Int) = ((List.map encRep (((List.take (Int.toNat y66 - Int.toNat 0) (List.drop (Int.toNat 0) a0.fReps)) ++ [(SRep.mk a1 a2)]) ++ (List.take (Int.toNat (a0.fReps.length : Int) - Int.toNat y66) (List.drop (Int.toNat y66) a0.fReps)))).length : Int) from by rw [List.length_map]]; kernel_rfl)
       rcases dich (((((List.take (Int.toNat y66 - Int.toNat 0) (List.drop (Int.toNat 0) a0.fReps)) ++ [(SRep.mk a1 a2)]) ++ (List.take (Int.toNat (a0.fReps.length : Int) - Int.toNat y66) (List.drop (Int.toNat y66) a0.fReps))).length : Int) == a3) with hb77 | hb77
       · replace h := cond_t hb77 h
         refine ct hb77 ?_
         let T9 : List (Nat × X) := [(8, .ptr 8 0 0), (10, .ptr 10 0 0)]
         let B9 : List (Nat × Bx) := [(8, ⟨0, 0, true, some (.agg [zI 0, zI 0, zI 0, .sl 1 (List.map encInt []), .sl 1 (List.map encRep [])])⟩), (10, ⟨0, 0, true, some (.agg [zI v34.fHave, zI v34.fState, zI v34.fBy, .sl 1 (List.map encInt v34.fMarks), .sl 1 (List.map encRep (((List.take (Int.toNat y66 - Int.toNat 0) (List.drop (Int.toNat 0) a0.fReps)) ++ [(SRep.mk a1 a2)]) ++ (List.take (Int.toNat (a0.fReps.length : Int) - Int.toNat y66) (List.drop (Int.toNat y66) a0.fReps))))])⟩)]
         refine wkr [8, 10] [(8, 8, false), (10, 10, false)] ⟨T9, B9⟩ ?_
         refine rg cv hn ?_
         refine ro9 0 2 2 ⟨(72, .ptr 10 0 1) :: T9, (10, ⟨0, 0, true, some (.agg [zI v34.fHave, zI 2, zI v34.fBy, .sl 1 (List.map encInt v34.fMarks), .sl 1 (List.map encRep (((List.take (Int.toNat y66 - Int.toNat 0) (List.drop (Int.toNat 0) a0.fReps)) ++ [(SRep.mk a1 a2)]) ++ (List.take (Int.toNat (a0.fReps.length : Int) - Int.toNat y66) (List.drop (Int.toNat y66) a0.fReps))))])⟩) :: B9⟩ ?_
         refine sqr cv hn ?_
         refine ro9 0 3 3 ⟨(9, zB true) :: (73, .agg [zI v34.fHave, zI 2, zI v34.fBy, .view 10 0 [] 3, .view 10 0 [] 4]) :: (72, .ptr 10 0 1) :: T9, (8, ⟨0, 1, true, some (.agg [zI v34.fHave, zI 2, zI v34.fBy, .sl 1 (List.map encInt v34.fMarks), .sl 1 (List.map encRep (((List.take (Int.toNat y66 - Int.toNat 0) (List.drop (Int.toNat 0) a0.fReps)) ++ [(SRep.mk a1 a2)]) ++ (List.take (Int.toNat (a0.fReps.length : Int) - Int.toNat y66) (List.drop (Int.toNat y66) a0.fReps))))])⟩) :: (10, ⟨0, 2, true, some (.agg [zI v34.fHave, zI 2, zI v34.fBy, .junk, .junk])⟩) :: (10, ⟨0, 1, true, some (.agg [zI v34.fHave, zI 2, zI v34.fBy, .junk, .sl 1 (List.map encRep (((List.take (Int.toNat y66 - Int.toNat 0) (List.drop (Int.toNat 0) a0.fReps)) ++ [(SRep.mk a1 a2)]) ++ (List.take (Int.toNat (a0.fReps.length : Int) - Int.toNat y66) (List.drop (Int.toNat y66) a0.fReps))))])⟩) :: (10, ⟨0, 0, true, some (.agg [zI v34.fHave, zI 2, zI v34.fBy, .sl 1 (List.map encInt v34.fMarks), .sl 1 (List.map encRep (((List.take (Int.toNat y66 - Int.toNat 0) (List.drop (Int.toNat 0) a0.fReps)) ++ [(SRep.mk a1 a2)]) ++ (List.take (Int.toNat (a0.fReps.length : Int) - Int.toNat y66) (List.drop (Int.toNat y66) a0.fReps))))])⟩) :: B9⟩ ?_
         refine runs_ret ?_
         exact fin _ _ h (by kernel_rfl)
       · replace h := cond_f hb77 h
         refine cf hb77 ?_
         refine runs_skip ?_
         let T10 : List (Nat × X) := [(8, .ptr 8 0 0), (10, .ptr 10 0 0)]
         let B10 : List (Nat × Bx) := [(8, ⟨0, 0, true, some (.agg [zI 0, zI 0, zI 0, .sl 1 (List.map encInt []), .sl 1 (List.map encRep [])])⟩), (10, ⟨0, 0, true, some (.agg [zI v34.fHave, zI v34.fState, zI v34.fBy, .sl 1 (List.map encInt v34.fMarks), .sl 1 (List.map encRep (((List.take (Int.toNat y66 - Int.toNat 0) (List.drop (Int.toNat 0) a0.fReps)) ++ [(SRep.mk a1 a2)]) ++ (List.take (Int.toNat (a0.fReps.length : Int) - Int.toNat y66) (List.drop (Int.toNat y66) a0.fReps))))])⟩)]
         refine wkr [8, 10] [(8, 8, false), (10, 10, false)] ⟨T10, B10⟩ ?_
         refine sqr cv hn ?_
         refine ro9 0 3 3 ⟨(9, zB true) :: (73, .agg [zI v34.fHave, zI v34.fState, zI v34.fBy, .view 10 0 [] 3, .view 10 0 [] 4]) :: T10, (8, ⟨0, 1, true, some (.agg [zI v34.fHave, zI v34.fState, zI v34.fBy, .sl 1 (List.map encInt v34.fMarks), .sl 1 (List.map encRep (((List.take (Int.toNat y66 - Int.toNat 0) (List.drop (Int.toNat 0) a0.fReps)) ++ [(SRep.mk a1 a2)]) ++ (List.take (Int.toNat (a0.fReps.length : Int) - Int.toNat y66) (List.drop (Int.toNat y66) a0.fReps))))])⟩) :: (10, ⟨0, 2, true, some (.agg [zI v34.fHave, zI v34.fState, zI v34.fBy, .junk, .junk])⟩) :: (10, ⟨0, 1, true, some (.agg [zI v34.fHave, zI v34.fState, zI v34.fBy, .junk, .sl 1 (List.map encRep (((List.take (Int.toNat y66 - Int.toNat 0) (List.drop (Int.toNat 0) a0.fReps)) ++ [(SRep.mk a1 a2)]) ++ (List.take (Int.toNat (a0.fReps.length : Int) - Int.toNat y66) (List.drop (Int.toNat y66) a0.fReps))))])⟩) :: B10⟩ ?_
         refine runs_ret ?_
         exact fin _ _ h (by kernel_rfl)
     · skip
       refine runs_block ?_
       refine runs_loopM (σ := Nat × Int) (fun s => ⟨[(11, zI s.2), (10, .ptr 10 0 0), (1, zI a1), (2, zI a2), (3, zI a3), (4, .ptr 4 0 0), (8, .ptr 8 0 0)], [(10, ⟨0, 0, true, some (encAcct1 v34)⟩), (4, ⟨0, 0, true, some (encAcct0 a0)⟩), (8, ⟨0, 0, true, some (.agg [zI 0, zI 0, zI 0, .sl 1 (List.map encInt []), .sl 1 (List.map encRep [])])⟩)]⟩) (fun s => impl_AcctRep_l3 a0 a1 a2 a3 v34 s.1 s.2 = some v0) (fun s => s.1) (fuel, 0) h (wre [11, 10, 1, 2, 3, 4, 8] [(10, 10, false), (4, 4, false), (8, 8, false)]) ?_
       rintro ⟨n3, y87⟩ h
       let T11 : List (Nat × X) := [(11, zI y87), (10, .ptr 10 0 0), (1, zI a1), (2, zI a2), (3, zI a3), (4, .ptr 4 0 0), (8, .ptr 8 0 0)]
       let B11 : List (Nat × Bx) := [(10, ⟨0, 0, true, some (encAcct1 v34)⟩), (4, ⟨0, 0, true, some (encAcct0 a0)⟩), (8, ⟨0, 0, true, some (.agg [zI 0, zI 0, zI 0, .sl 1 (List.map encInt []), .sl 1 (List.map encRep [])])⟩)]
       refine seq0 ⟨T11, B11⟩ ?_
       cases n3 with
       | zero => rw [impl_AcctRep_l3] at h; cases h
       | succ n3 =>
         rw [impl_AcctRep_l3] at h
         refine runs_seq ?_
         refine sqr cv hn ?_
         refine ro 0 6 6 ⟨(39, zB (decide (y87 < (a0.fReps.length : Int)))) :: (38, zB (decide (y87 < (a0.fReps.length : Int)))) :: (37, zI (a0.fReps.length : Int)) :: (36, .sl 0 (List.map encRep a0.fReps)) :: (35, .ptr 4 0 4) :: (34, zI y87) :: T11, B11⟩ ?_ (he := by rw [show (a0.fReps.length : Int) = ((List.map encRep a0.fReps).length : Int) from by rw [List.length_map]]; kernel_rfl)
         rcases dich (decide (y87 < (a0.fReps.length : Int))) with hb104 | hb104
         · replace h := cond_t hb104 h
           refine rl 39 true hb104 ?_
           refine ro 6 3 3 ⟨(42, zI y87) :: (41, .sl 0 (List.map encRep a0.fReps)) :: (40, .ptr 4 0 4) :: (39, zB true) :: (38, zB (decide (y87 < (a0.fReps.length : Int)))) :: (37, zI (a0.fReps.length : Int)) :: (36, .sl 0 (List.map encRep a0.fReps)) :: (35, .ptr 4 0 4) :: (34, zI y87) :: T11, B11⟩ ?_
           obtain ⟨x105, hx106, h⟩ := bindO h
           refine rix 9 encRep 119 hx106 (ix_nn hx106) ⟨(43, .rp (encRep x105) 0) :: (42, zI y87) :: (41, .sl 0 (List.map encRep a0.fReps)) :: (40, .ptr 4 0 4) :: (39, zB true) :: (38, zB (decide (y87 < (a0.fReps.length : Int)))) :: (37, zI (a0.fReps.length : Int)) :: (36, .sl 0 (List.map encRep a0.fReps)) :: (35, .ptr 4 0 4) :: (34, zI y87) :: T11, B11⟩ ?_
           refine ro9 10 5 5 ⟨(48, zB (decide (x105.fNode < a1))) :: (47, zB (decide (x105.fNode < a1))) :: (46, zI a1) :: (45, zI x105.fNode) :: (44, .rp (encRep x105) 0) :: (43, .rp (encRep x105) 0) :: (42, zI y87) :: (41, .sl 0 (List.map encRep a0.fReps)) :: (40, .ptr 4 0 4) :: (39, zB true) :: (38, zB (decide (y87 < (a0.fReps.length : Int)))) :: (37, zI (a0.fReps.length : Int)) :: (36, .sl 0 (List.map encRep a0.fReps)) :: (35, .ptr 4 0 4) :: (34, zI y87) :: T11, B11⟩ ?_
           rcases dich (decide (x105.fNode < a1)) with hb107 | hb107
           · replace h := cond_t hb107 h
             refine ct hb107 ?_
             refine runs_skip ?_
             refine runs_block ?_
             refine rg cv hn ?_
             refine ro9 0 3 3 ⟨(11, zI (w64 (y87 + 1))) :: (50, zI (w64 (y87 + 1))) :: (49, zI y87) :: (48, zB (decide (x105.fNode < a1))) :: (47, zB (decide (x105.fNode < a1))) :: (46, zI a1) :: (45, zI x105.fNode) :: (44, .rp (encRep x105) 0) :: (43, .rp (encRep x105) 0) :: (42, zI y87) :: (41, .sl 0 (List.map encRep a0.fReps)) :: (40, .ptr 4 0 4) :: (39, zB true) :: (38, zB (decide (y87 < (a0.fReps.length : Int)))) :: (37, zI (a0.fReps.length : Int)) :: (36, .sl 0 (List.map encRep a0.fReps)) :: (35, .ptr 4 0 4) :: (34, zI y87) :: T11, B11⟩ ?_
             exact ⟨(n3, w64 (y87 + 1)), Nat.lt_succ_self _, h, wre [11, 10, 1, 2, 3, 4, 8] [(10, 10, false), (4, 4, false), (8, 8, false)]⟩
           · replace h := cond_f hb107 h
             refine cf hb107 ?_
             refine runs_exit ?_
             repeat refine thenX_exit ?_
             refine block_here ?_
             exact ⟨(y87), h, wre [1, 2, 3, 4, 8, 10, 11] [(4, 4, false), (8, 8, false), (10, 10, false)]⟩
         · replace h := cond_f hb104 h
           refine rl 39 false hb104 ?_
           refine ro9 6 9 1 ⟨(48, zB false) :: (47, .tup []) :: (46, .tup []) :: (45, .tup []) :: (44, .tup []) :: (43, .tup []) :: (42, .tup []) :: (41, .tup []) :: (40, .tup []) :: (39, zB false) :: (38, zB (decide (y87 < (a0.fReps.length : Int)))) :: (37, zI (a0.fReps.length : Int)) :: (36, .sl 0 (List.map encRep a0.fReps)) :: (35, .ptr 4 0 4) :: (34, zI y87) :: T11, B11⟩ ?_
           refine cF ?_
           refine runs_exit ?_
           repeat refine thenX_exit ?_
           refine block_here ?_
           exact ⟨(y87), h, wre [1, 2, 3, 4, 8, 10, 11] [(4, 4, false), (8, 8, false), (10, 10, false)]⟩
 · skip
   refine rg cv hn ?_
   refine ro 0 4 4 ⟨(15, zB (a0.fState == 0)) :: (14, zB (a0.fState == 0)) :: (13, zI a0.fState) :: (12, .ptr 4 1 1) :: (9, zB false) :: (8, .ptr 8 1 0) :: (4, .ptr 4 1 0) :: T1, [(8, ⟨1, 1, true, some (.agg [zI 0, zI 0, zI 0, .sl 1 (List.map encInt []), .sl 1 (List.map encRep [])])⟩), (4, ⟨1, 1, true, some (encAcct0 a0)⟩)]⟩ ?_
   rcases dich (a0.fState == 0) with hb108 | hb108
   · replace h := cond_t hb108 h
     refine rl 15 true hb108 ?_
     refine ro9 4 15 5 ⟨(30, zB true) :: (29, .tup []) :: (28, .tup []) :: (27, .tup []) :: (26, zB true) :: (25, zB true) :: (24, .tup []) :: (23, .tup []) :: (22, .tup []) :: (21, .tup []) :: (20, zB true) :: (19, zB true) :: (18, .tup []) :: (17, .tup []) :: (16, .tup []) :: (15, zB true) :: (14, zB (a0.fState == 0)) :: (13, zI a0.fState) :: (12, .ptr 4 1 1) :: (9, zB false) :: (8, .ptr 8 1 0) :: (4, .ptr 4 1 0) :: T1, [(8, ⟨1, 1, true, some (.agg [zI 0, zI 0, zI 0, .sl 1 (List.map encInt []), .sl 1 (List.map encRep [])])⟩), (4, ⟨1, 1, true, some (encAcct0 a0)⟩)]⟩ ?_
     exact ⟨(true), h, wre [1, 2, 3, 4, 8, 30] [(4, 4, false), (8, 8, false)]⟩
   · replace h := cond_f hb108 h
     refine rl 15 false hb108 ?_
     refine ro 4 1 1 ⟨(16, zI a1) :: (15, zB false) :: (14, zB (a0.fState == 0)) :: (13, zI a0.fState) :: (12, .ptr 4 1 1) :: (9, zB false) :: (8, .ptr 8 1 0) :: (4, .ptr 4 1 0) :: T1, [(8, ⟨1, 1, true, some (.agg [zI 0, zI 0, zI 0, .sl 1 (List.map encInt []), .sl 1 (List.map encRep [])])⟩), (4, ⟨1, 1, true, some (encAcct0 a0)⟩)]⟩ ?_
     obtain ⟨v109, hv110, h⟩ := bindO h
     refine rc 5 ⟨(17, zB v109) :: (16, zI a1) :: (15, zB false) :: (14, zB (a0.fState == 0)) :: (13, zI a0.fState) :: (12, .ptr 4 1 1) :: (9, zB false) :: (8, .ptr 8 1 0) :: (4, .ptr 4 1 0) :: T1, [(8, ⟨1, 1, true, some (.agg [zI 0, zI 0, zI 0, .sl 1 (List.map encInt []), .sl 1 (List.map encRep [])])⟩), (4, ⟨1, 1, true, some (encAcct0 a0)⟩)]⟩ (impl_isNode_spec a1 v109 hv110) ?_
     refine ro 6 3 3 ⟨(20, zB (!v109)) :: (19, zB (!v109)) :: (18, zB (!v109)) :: (17, zB v109) :: (16, zI a1) :: (15, zB false) :: (14, zB (a0.fState == 0)) :: (13, zI a0.fState) :: (12, .ptr 4 1 1) :: (9, zB false) :: (8, .ptr 8 1 0) :: (4, .ptr 4 1 0) :: T1, [(8, ⟨1, 1, true, some (.agg [zI 0, zI 0, zI 0, .sl 1 (List.map encInt []), .sl 1 (List.map encRep [])])⟩), (4, ⟨1, 1, true, some (encAcct0 a0)⟩)]⟩ ?_
     rcases dich (!v109) with hb111 | hb111
     · replace h := cond_t hb111 h
       refine rl 20 true hb111 ?_
       refine ro9 9 10 3 ⟨(30, zB true) :: (29, .tup []) :: (28, .tup []) :: (27, .tup []) :: (26, zB true) :: (25, zB true) :: (24, .tup []) :: (23, .tup []) :: (22, .tup []) :: (21, .tup []) :: (20, zB true) :: (19, zB (!v109)) :: (18, zB (!v109)) :: (17, zB v109) :: (16, zI a1) :: (15, zB false) :: (14, zB (a0.fState == 0)) :: (13, zI a0.fState) :: (12, .ptr 4 1 1) :: (9, zB false) :: (8, .ptr 8 1 0) :: (4, .ptr 4 1 0) :: T1, [(8, ⟨1, 1, true, some (.agg [zI 0, zI 0, zI 0, .sl 1 (List.map encInt []), .sl 1 (List.map encRep [])])⟩), (4, ⟨1, 1, true, some (encAcct0 a0)⟩)]⟩ ?_
       exact ⟨(true), h, wre [1, 2, 3, 4, 8, 30] [(4, 4, false), (8, 8, false)]⟩
     · replace h := cond_f hb111 h
       refine rl 20 false hb111 ?_
       refine ro 9 2 2 ⟨(22, zI a1) :: (21, encAcct0 a0) :: (20, zB false) :: (19, zB (!v109)) :: (18, zB (!v109)) :: (17, zB v109) :: (16, zI a1) :: (15, zB false) :: (14, zB (a0.fState == 0)) :: (13, zI a0.fState) :: (12, .ptr 4 1 1) :: (9, zB false) :: (8, .ptr 8 1 0) :: (4, .ptr 4 1 0) :: T1, [(8, ⟨1, 1, true, some (.agg [zI 0, zI 0, zI 0, .sl 1 (List.map encInt []), .sl 1 (List.map encRep [])])⟩), (4, ⟨1, 1, true, some (encAcct0 a0)⟩)]⟩ ?_
       obtain ⟨v112, hv113, h⟩ := bindO h
       refine rc 11 ⟨(23, zI v112) :: (22, zI a1) :: (21, encAcct0 a0) :: (20, zB false) :: (19, zB (!v109)) :: (18, zB (!v109)) :: (17, zB v109) :: (16, zI a1) :: (15, zB false) :: (14, zB (a0.fState == 0)) :: (13, zI a0.fState) :: (12, .ptr 4 1 1) :: (9, zB false) :: (8, .ptr 8 1 0) :: (4, .ptr 4 1 0) :: T1, [(8, ⟨1, 1, true, some (.agg [zI 0, zI 0, zI 0, .sl 1 (List.map encInt []), .sl 1 (List.map encRep [])])⟩), (4, ⟨1, 1, true, some (encAcct0 a0)⟩)]⟩ (impl_repAt_spec a0 a1 v112 hv113) ?_
       refine ro 12 3 3 ⟨(26, zB (decide (v112 ≥ 0))) :: (25, zB (decide (v112 ≥ 0))) :: (24, zB (decide (v112 ≥ 0))) :: (23, zI v112) :: (22, zI a1) :: (21, encAcct0 a0) :: (20, zB false) :: (19, zB (!v109)) :: (18, zB (!v109)) :: (17, zB v109) :: (16, zI a1) :: (15, zB false) :: (14, zB (a0.fState == 0)) :: (13, zI a0.fState) :: (12, .ptr 4 1 1) :: (9, zB false) :: (8, .ptr 8 1 0) :: (4, .ptr 4 1 0) :: T1, [(8, ⟨1, 1, true, some (.agg [zI 0, zI 0, zI 0, .sl 1 (List.map encInt []), .sl 1 (List.map encRep [])])⟩), (4, ⟨1, 1, true, some (encAcct0 a0)⟩)]⟩ ?_
       rcases dich (decide (v112 ≥ 0)) with hb114 | hb114
       · replace h := cond_t hb114 h
         refine rl 26 true hb114 ?_
         refine ro9 15 4 1 ⟨(30, zB true) :: (29, .tup []) :: (28, .tup []) :: (27, .tup []) :: (26, zB true) :: (25, zB (decide (v112 ≥ 0))) :: (24, zB (decide (v112 ≥ 0))) :: (23, zI v112) :: (22, zI a1) :: (21, encAcct0 a0) :: (20, zB false) :: (19, zB (!v109)) :: (18, zB (!v109)) :: (17, zB v109) :: (16, zI a1) :: (15, zB false) :: (14, zB (a0.fState == 0)) :: (13, zI a0.fState) :: (12, .ptr 4 1 1) :: (9, zB false) :: (8, .ptr 8 1 0) :: (4, .ptr 4 1 0) :: T1, [(8, ⟨1, 1, true, some (.agg [zI 0, zI 0, zI 0, .sl 1 (List.map encInt []), .sl 1 (List.map encRep [])])⟩), (4, ⟨1, 1, true, some (encAcct0 a0)⟩)]⟩ ?_
         exact ⟨(true), h, wre [1, 2, 3, 4, 8, 30] [(4, 4, false), (8, 8, false)]⟩
       · replace h := cond_f hb114 h
         refine rl 26 false hb114 ?_
         refine ro 15 1 1 ⟨(27, zI a2) :: (26, zB false) :: (25, zB (decide (v112 ≥ 0))) :: (24, zB (decide (v112 ≥ 0))) :: (23, zI v112) :: (22, zI a1) :: (21, encAcct0 a0) :: (20, zB false) :: (19, zB (!v109)) :: (18, zB (!v109)) :: (17, zB v109) :: (16, zI a1) :: (15, zB false) :: (14, zB (a0.fState == 0)) :: (13, zI a0.fState) :: (12, .ptr 4 1 1) :: (9, zB false) :: (8, .ptr 8 1 0) :: (4, .ptr 4 1 0) :: T1, [(8, ⟨1, 1, true, some (.agg [zI 0, zI 0, zI 0, .sl 1 (List.map encInt []), .sl 1 (List.map encRep [])])⟩), (4, ⟨1, 1, true, some (encAcct0 a0)⟩)]⟩ ?_
         obtain ⟨v115, hv116, h⟩ := bindO h
         refine rc 16 ⟨(28, zB v115) :: (27, zI a2) :: (26, zB false) :: (25, zB (decide (v112 ≥ 0))) :: (24, zB (decide (v112 ≥ 0))) :: (23, zI v112) :: (22, zI a1) :: (21, encAcct0 a0) :: (20, zB false) :: (19, zB (!v109)) :: (18, zB (!v109)) :: (17, zB v109) :: (16, zI a1) :: (15, zB false) :: (14, zB (a0.fState == 0)) :: (13, zI a0.fState) :: (12, .ptr 4 1 1) :: (9, zB false) :: (8, .ptr 8 1 0) :: (4, .ptr 4 1 0) :: T1, [(8, ⟨1, 1, true, some (.agg [zI 0, zI 0, zI 0, .sl 1 (List.map encInt []), .sl 1 (List.map encRep [])])⟩), (4, ⟨1, 1, true, some (encAcct0 a0)⟩)]⟩ (impl_isNum_spec a2 v115 hv116) ?_
         refine ro9 17 2 2 ⟨(30, zB (!v115)) :: (29, zB (!v115)) :: (28, zB v115) :: (27, zI a2) :: (26, zB false) :: (25, zB (decide (v112 ≥ 0))) :: (24, zB (decide (v112 ≥ 0))) :: (23, zI v112) :: (22, zI a1) :: (21, encAcct0 a0) :: (20, zB false) :: (19, zB (!v109)) :: (18, zB (!v109)) :: (17, zB v109) :: (16, zI a1) :: (15, zB false) :: (14, zB (a0.fState == 0)) :: (13, zI a0.fState) :: (12, .ptr 4 1 1) :: (9, zB false) :: (8, .ptr 8 1 0) :: (4, .ptr 4 1 0) :: T1, [(8, ⟨1, 1, true, some (.agg [zI 0, zI 0, zI 0, .sl 1 (List.map encInt []), .sl 1 (List.map encRep [])])⟩), (4, ⟨1, 1, true, some (encAcct0 a0)⟩)]⟩ ?_
         exact ⟨(!v115), h, wre [1, 2, 3, 4, 8, 30] [(4, 4, false), (8, 8, false)]⟩

set_option maxRecDepth 100000 in
set_option maxHeartbeats 2000000 in
theorem laws_FnExactAcctRep_spec (a0 : SAcct) (a1 : Int) (a2 : Int) (a3 : Int) (v0 : Bool) (h : laws_FnExactAcctRep a0 a1 a2 a3 = some v0) : Ax.Spec Try.prog 11 none [encAcct0 a0, zI a1, zI a2, zI a3] (zB v0 : X) (.junk : X) := by
 let T1 : List (Nat × X) := [(0, encAcct0 a0), (1, zI a1), (2, zI a2), (3, zI a3)]
 refine walk0 (fn := Try.f11) (fun q0 : Bool => (zB q0 : X)) (fun q0 : Bool => (.junk : X)) v0 ⟨T1, []⟩ Try.func11 rfl (by decide +kernel) fun Γ hn fin => ?_
 rw [laws_FnExactAcctRep] at h
 refine sqr cv hn ?_
 refine ro9 0 2 2 ⟨(8, zB false) :: (4, .ptr 4 1 0) :: T1, [(4, ⟨1, 1, true, some (encAcct0 a0)⟩)]⟩ ?_
 refine sqr cv hn ?_
 refine ro9 0 1 1 ⟨(9, zI 1048576) :: (8, zB false) :: (4, .ptr 4 1 0) :: T1, [(4, ⟨1, 1, true, some (encAcct0 a0)⟩)]⟩ ?_
 refine sqr cv hn ?_
 refine ro 0 2 2 ⟨(21, zI 1048576) :: (20, encAcct0 a0) :: (9, zI 1048576) :: (8, zB false) :: (4, .ptr 4 1 0) :: T1, [(4, ⟨1, 1, true, some (encAcct0 a0)⟩)]⟩ ?_
 obtain ⟨v3, hv4, h⟩ := bindO h
 refine rc 2 ⟨(22, zI v3) :: (21, zI 1048576) :: (20, encAcct0 a0) :: (9, zI 1048576) :: (8, zB false) :: (4, .ptr 4 1 0) :: T1, [(4, ⟨1, 1, true, some (encAcct0 a0)⟩)]⟩ (laws_szAcct_spec a0 1048576 v3 hv4) ?_
 refine ro9 3 1 1 ⟨(9, zI v3) :: (22, zI v3) :: (21, zI 1048576) :: (20, encAcct0 a0) :: (9, zI 1048576) :: (8, zB false) :: (4, .ptr 4 1 0) :: T1, [(4, ⟨1, 1, true, some (encAcct0 a0)⟩)]⟩ ?_
 refine runs_seq ?_
 let T3 : List (Nat × X) := [(9, zI v3), (4, .ptr 4 0 0), (1, zI a1), (2, zI a2), (3, zI a3)]
 let B3 : List (Nat × Bx) := [(4, ⟨0, 0, true, some (encAcct0 a0)⟩)]
 refine wkr [9, 4, 1, 2, 3] [(4, 4, false)] ⟨T3, B3⟩ ?_
 refine sqr cv hn ?_
 refine ro9 0 2 2 ⟨(24, zB (decide (v3 < 0))) :: (23, zI v3) :: T3, B3⟩ ?_
 rcases dich (decide (v3 < 0)) with hb6 | hb6
 · replace h := cond_t hb6 h
   refine ct hb6 ?_
   refine sqr cv hn ?_
   refine ro9 0 1 1 ⟨(8, zB true) :: (24, zB (decide (v3 < 0))) :: (23, zI v3) :: T3, B3⟩ ?_
   refine runs_ret ?_
   exact fin _ _ h (by kernel_rfl)
 · replace h := cond_f hb6 h
   refine cf hb6 ?_
   refine runs_skip ?_
   refine sqr cv hn ?_
   refine ro 0 1 1 ⟨(26, encAcct0 a0) :: (24, zB (decide (v3 < 0))) :: (23, zI v3) :: T3, B3⟩ ?_
   obtain ⟨v11, hv12, h⟩ := bindO h
   refine rc 1 ⟨(27, .agg [zI v11.fHave, zI v11.fState, zI v11.fBy, .view 27 1 [] 0, .view 10027 1 [] 0]) :: (26, encAcct0 a0) :: (24, zB (decide (v3 < 0))) :: (23, zI v3) :: T3, (10027, ⟨1, 1, false, some (.sl 1 (List.map encRep v11.fReps))⟩) :: (27, ⟨1, 1, false, some (.sl 1 (List.map encInt v11.fMarks))⟩) :: B3⟩ (laws_toAcct_spec a0 v11 hv12) ?_
   refine ro 2 3 3 ⟨(30, zI a3) :: (29, zI a2) :: (28, zI a1) :: (27, .agg [zI v11.fHave, zI v11.fState, zI v11.fBy, .view 27 1 [] 0, .view 10027 1 [] 0]) :: (26, encAcct0 a0) :: (24, zB (decide (v3 < 0))) :: (23, zI v3) :: T3, (10027, ⟨1, 1, false, some (.sl 1 (List.map encRep v11.fReps))⟩) :: (27, ⟨1, 1, false, some (.sl 1 (List.map encInt v11.fMarks))⟩) :: B3⟩ ?_
   obtain ⟨v13, hv14, h⟩ := bindO h
   refine rcH 5 [List.map encInt v11.fMarks, List.map encRep v11.fReps] ⟨(31, .tup [.agg [zI v13.1.fHave, zI v13.1.fState, zI v13.1.fBy, .view 31 1 [] 0, .view 10031 1 [] 0], zB v13.2]) :: (30, zI a3) :: (29, zI a2) :: (28, zI a1) :: (27, .agg [zI v11.fHave, zI v11.fState, zI v11.fBy, .view 27 1 [] 0, .view 10027 1 [] 0]) :: (26, encAcct0 a0) :: (24, zB (decide (v3 < 0))) :: (23, zI v3) :: T3, (10031, ⟨1, 1, false, some (.sl 1 (List.map encRep v13.1.fReps))⟩) :: (31, ⟨1, 1, false, some (.sl 1 (List.map encInt v13.1.fMarks))⟩) :: (10027, ⟨1, 1, false, some (.sl 1 (List.map encRep v11.fReps))⟩) :: (27, ⟨1, 1, false, some (.sl 1 (List.map encInt v11.fMarks))⟩) :: B3⟩ [X.rds (List.map encInt v11.fMarks) = true, X.roifys (List.map encInt v11.fMarks) = List.map encInt v11.fMarks, X.rds (List.map encRep v11.fReps) = true, X.roifys (List.map encRep v11.fReps) = List.map encRep v11.fReps, rootsBut (cv 51) 0 [.agg [zI v11.fHave, zI v11.fState, zI v11.fBy, .view 27 1 [] 0, .view 10027 1 [] 0], zI a1, zI a2, zI a3] = false ∨ (X.noRo (.tup [encAcct1 v13.1, zB v13.2] : X) = true ∧ X.noRo (.junk : X) = true)] (spec_AcctRep_spec v11 a1 a2 a3 v13 hv14) ⟨rds_map rde_Int _, ro_map ro_Int _, rds_map rde_Rep _, ro_map ro_Rep _, .inr ⟨(nr_tup (nr_cons (nr_agg (nr_cons rfl (nr_cons rfl (nr_cons rfl (nr_cons (nr_sl (nr_map nr_Int _)) (nr_cons (nr_sl (nr_map nr_Rep _)) nr_nil)))))) (nr_cons rfl nr_nil))), rfl⟩, trivial⟩ ?_
   refine ro9 6 6 6 ⟨(11, zB v13.2) :: (10, .ptr 10 1 0) :: (33, zB v13.2) :: (32, .agg [zI v13.1.fHave, zI v13.1.fState, zI v13.1.fBy, .view 31 1 [] 0, .view 10031 1 [] 0]) :: (25, .tup [.agg [zI v13.1.fHave, zI v13.1.fState, zI v13.1.fBy, .view 31 1 [] 0, .view 10031 1 [] 0], zB v13.2]) :: (31, .tup [.agg [zI v13.1.fHave, zI v13.1.fState, zI v13.1.fBy, .view 31 1 [] 0, .view 10031 1 [] 0], zB v13.2]) :: (30, zI a3) :: (29, zI a2) :: (28, zI a1) :: (27, .agg [zI v11.fHave, zI v11.fState, zI v11.fBy, .view 27 1 [] 0, .view 10027 1 [] 0]) :: (26, encAcct0 a0) :: (24, zB (decide (v3 < 0))) :: (23, zI v3) :: T3, (10, ⟨1, 2, true, some (encAcct1 v13.1)⟩) :: (10031, ⟨1, 2, false, some (.junk)⟩) :: (31, ⟨1, 2, false, some (.junk)⟩) :: (10, ⟨1, 1, true, some (.agg [zI 0, zI 0, zI 0, .sl 1 (List.map encInt []), .sl 1 (List.map encRep [])])⟩) :: (10031, ⟨1, 1, false, some (.sl 1 (List.map encRep v13.1.fReps))⟩) :: (31, ⟨1, 1, false, some (.sl 1 (List.map encInt v13.1.fMarks))⟩) :: (10027, ⟨1, 1, false, some (.sl 1 (List.map encRep v11.fReps))⟩) :: (27, ⟨1, 1, false, some (.sl 1 (List.map encInt v11.fMarks))⟩) :: B3⟩ ?_
   let T5 : List (Nat × X) := [(11, zB v13.2), (10, .ptr 10 0 0), (4, .ptr 4 0 0), (1, zI a1), (2, zI a2), (3, zI a3)]
   let B5 : List (Nat × Bx) := [(10, ⟨0, 0, true, some (encAcct1 v13.1)⟩), (4, ⟨0, 0, true, some (encAcct0 a0)⟩)]
   refine wkr [11, 10, 4, 1, 2, 3] [(10, 10, false), (4, 4, false)] ⟨T5, B5⟩ ?_
   refine sqr cv hn ?_
   refine ro 0 1 1 ⟨(34, encAcct0 a0) :: T5, B5⟩ ?_
   obtain ⟨v17, hv18, h⟩ := bindO h
   refine rc 1 ⟨(35, .agg [zI v17.fHave, zI v17.fState, zI v17.fBy, .view 35 1 [] 0, .view 10035 1 [] 0]) :: (34, encAcct0 a0) :: T5, (10035, ⟨1, 1, false, some (.sl 1 (List.map encRep v17.fReps))⟩) :: (35, ⟨1, 1, false, some (.sl 1 (List.map encInt v17.fMarks))⟩) :: B5⟩ (laws_toAcct_spec a0 v17 hv18) ?_
   refine ro9 2 2 2 ⟨(12, .ptr 12 1 0) :: (35, .agg [zI v17.fHave, zI v17.fState, zI v17.fBy, .view 35 1 [] 0, .view 10035 1 [] 0]) :: (34, encAcct0 a0) :: T5, (12, ⟨1, 2, true, some (encAcct1 v17)⟩) :: (10035, ⟨1, 2, false, some (.junk)⟩) :: (35, ⟨1, 2, false, some (.junk)⟩) :: (12, ⟨1, 1, true, some (.agg [zI 0, zI 0, zI 0, .sl 1 (List.map encInt []), .sl 1 (List.map encRep [])])⟩) :: (10035, ⟨1, 1, false, some (.sl 1 (List.map encRep v17.fReps))⟩) :: (35, ⟨1, 1, false, some (.sl 1 (List.map encInt v17.fMarks))⟩) :: B5⟩ ?_
   let T7 : List (Nat × X) := [(12, .ptr 12 0 0), (11, zB v13.2), (10, .ptr 10 0 0), (4, .ptr 4 0 0), (1, zI a1), (2, zI a2), (3, zI a3)]
   let B7 : List (Nat × Bx) := [(12, ⟨0, 0, true, some (encAcct1 v17)⟩), (10, ⟨0, 0, true, some (encAcct1 v13.1)⟩), (4, ⟨0, 0, true, some (encAcct0 a0)⟩)]
   refine wkr [12, 11, 10, 4, 1, 2, 3] [(12, 12, false), (10, 10, false), (4, 4, false)] ⟨T7, B7⟩ ?_
   refine sqr cv hn ?_
   refine ro 0 4 4 ⟨(40, zI a3) :: (39, zI a2) :: (38, zI a1) :: (37, .agg [zI v17.fHave, zI v17.fState, zI v17.fBy, .view 12 0 [] 3, .view 12 0 [] 4]) :: T7, B7⟩ ?_
   obtain ⟨v21, hv22, h⟩ := bindO h
   refine rcH 4 [List.map encInt v17.fMarks, List.map encRep v17.fReps] ⟨(41, .tup [.agg [zI v21.1.fHave, zI v21.1.fState, zI v21.1.fBy, .view 41 1 [] 0, .view 10041 1 [] 0], zB v21.2]) :: (40, zI a3) :: (39, zI a2) :: (38, zI a1) :: (37, .agg [zI v17.fHave, zI v17.fState, zI v17.fBy, .view 12 0 [] 3, .view 12 0 [] 4]) :: T7, (10041, ⟨1, 1, false, some (.sl 1 (List.map encRep v21.1.fReps))⟩) :: (41, ⟨1, 1, false, some (.sl 1 (List.map encInt v21.1.fMarks))⟩) :: B7⟩ [X.rds (List.map encInt v17.fMarks) = true, X.roifys (List.map encInt v17.fMarks) = List.map encInt v17.fMarks, X.rds (List.map encRep v17.fReps) = true, X.roifys (List.map encRep v17.fReps) = List.map encRep v17.fReps, rootsBut (cv 52) 0 [.agg [zI v17.fHave, zI v17.fState, zI v17.fBy, .view 12 0 [] 3, .view 12 0 [] 4], zI a1, zI a2, zI a3] = false ∨ (X.noRo (.tup [encAcct1 v21.1, zB v21.2] : X) = true ∧ X.noRo (.junk : X) = true)] (impl_AcctRep_spec v17 a1 a2 a3 v21 hv22) ⟨rds_map rde_Int _, ro_map ro_Int _, rds_map rde_Rep _, ro_map ro_Rep _, .inr ⟨(nr_tup (nr_cons (nr_agg (nr_cons rfl (nr_cons rfl (nr_cons rfl (nr_cons (nr_sl (nr_map nr_Int _)) (nr_cons (nr_sl (nr_map nr_Rep _)) nr_nil)))))) (nr_cons rfl nr_nil))), rfl⟩, trivial⟩ ?_
   refine ro9 5 6 6 ⟨(14, zB v21.2) :: (13, .ptr 13 1 0) :: (43, zB v21.2) :: (42, .agg [zI v21.1.fHave, zI v21.1.fState, zI v21.1.fBy, .view 41 1 [] 0, .view 10041 1 [] 0]) :: (36, .tup [.agg [zI v21.1.fHave, zI v21.1.fState, zI v21.1.fBy, .view 41 1 [] 0, .view 10041 1 [] 0], zB v21.2]) :: (41, .tup [.agg [zI v21.1.fHave, zI v21.1.fState, zI v21.1.fBy, .view 41 1 [] 0, .view 10041 1 [] 0], zB v21.2]) :: (40, zI a3) :: (39, zI a2) :: (38, zI a1) :: (37, .agg [zI v17.fHave, zI v17.fState, zI v17.fBy, .view 12 0 [] 3, .view 12 0 [] 4]) :: T7, (13, ⟨1, 2, true, some (encAcct1 v21.1)⟩) :: (10041, ⟨1, 2, false, some (.junk)⟩) :: (41, ⟨1, 2, false, some (.junk)⟩) :: (13, ⟨1, 1, true, some (.agg [zI 0, zI 0, zI 0, .sl 1 (List.map encInt []), .sl 1 (List.map encRep [])])⟩) :: (10041, ⟨1, 1, false, some (.sl 1 (List.map encRep v21.1.fReps))⟩) :: (41, ⟨1, 1, false, some (.sl 1 (List.map encInt v21.1.fMarks))⟩) :: B7⟩ ?_
   refine runs_seq ?_
   let T11 : List (Nat × X) := [(14, zB v21.2), (13, .ptr 13 0 0), (12, .ptr 12 0 0), (11, zB v13.2), (10, .ptr 10 0 0), (4, .ptr 4 0 0), (1, zI a1), (2, zI a2), (3, zI a3)]
   let B11 : List (Nat × Bx) := [(13, ⟨0, 0, true, some (encAcct1 v21.1)⟩), (12, ⟨0, 0, true, some (encAcct1 v17)⟩), (10, ⟨0, 0, true, some (encAcct1 v13.1)⟩), (4, ⟨0, 0, true, some (encAcct0 a0)⟩)]
   refine wkr [14, 13, 12, 11, 10, 4, 1, 2, 3] [(13, 13, false), (12, 12, false), (10, 10, false), (4, 4, false)] ⟨T11, B11⟩ ?_
   refine sqr cv hn ?_
   refine ro 0 2 2 ⟨(45, .agg [zI v13.1.fHave, zI v13.1.fState, zI v13.1.fBy, .view 10 0 [] 3, .view 10 0 [] 4]) :: (44, .agg [zI v21.1.fHave, zI v21.1.fState, zI v21.1.fBy, .view 13 0 [] 3, .view 13 0 [] 4]) :: T11, B11⟩ ?_
   obtain ⟨v27, hv28, h⟩ := bindO h
   refine rcH 2 [List.map encInt v21.1.fMarks, List.map encRep v21.1.fReps, List.map encInt v13.1.fMarks, List.map encRep v13.1.fReps] ⟨(46, zB v27) :: (45, .agg [zI v13.1.fHave, zI v13.1.fState, zI v13.1.fBy, .view 10 0 [] 3, .view 10 0 [] 4]) :: (44, .agg [zI v21.1.fHave, zI v21.1.fState, zI v21.1.fBy, .view 13 0 [] 3, .view 13 0 [] 4]) :: T11, B11⟩ [X.rds (List.map encInt v21.1.fMarks) = true, X.roifys (List.map encInt v21.1.fMarks) = List.map encInt v21.1.fMarks, X.rds (List.map encRep v21.1.fReps) = true, X.roifys (List.map encRep v21.1.fReps) = List.map encRep v21.1.fReps, X.rds (List.map encInt v13.1.fMarks) = true, X.roifys (List.map encInt v13.1.fMarks) = List.map encInt v13.1.fMarks, X.rds (List.map encRep v13.1.fReps) = true, X.roifys (List.map encRep v13.1.fReps) = List.map encRep v13.1.fReps, rootsBut (cv 29) 0 [.agg [zI v21.1.fHave, zI v21.1.fState, zI v21.1.fBy, .view 13 0 [] 3, .view 13 0 [] 4], .agg [zI v13.1.fHave, zI v13.1.fState, zI v13.1.fBy, .view 10 0 [] 3, .view 10 0 [] 4]] = false ∨ (X.noRo (zB v27 : X) = true ∧ X.noRo (.junk : X) = true)] (laws_eqAcct_spec v21.1 v13.1 v27 hv28) ⟨rds_map rde_Int _, ro_map ro_Int _, rds_map rde_Rep _, ro_map ro_Rep _, rds_map rde_Int _, ro_map ro_Int _, rds_map rde_Rep _, ro_map ro_Rep _, .inr ⟨rfl, rfl⟩, trivial⟩ ?_
   refine ro 3 2 2 ⟨(48, zB (!v27)) :: (47, zB (!v27)) :: (46, zB v27) :: (45, .agg [zI v13.1.fHave, zI v13.1.fState, zI v13.1.fBy, .view 10 0 [] 3, .view 10 0 [] 4]) :: (44, .agg [zI v21.1.fHave, zI v21.1.fState, zI v21.1.fBy, .view 13 0 [] 3, .view 13 0 [] 4]) :: T11, B11⟩ ?_
   rcases dich (!v27) with hb29 | hb29
   · replace h := cond_t hb29 h
     refine rl 48 true hb29 ?_
     refine ro9 5 4 1 ⟨(52, zB true) :: (51, .tup []) :: (50, .tup []) :: (49, .tup []) :: (48, zB true) :: (47, zB (!v27)) :: (46, zB v27) :: (45, .agg [zI v13.1.fHave, zI v13.1.fState, zI v13.1.fBy, .view 10 0 [] 3, .view 10 0 [] 4]) :: (44, .agg [zI v21.1.fHave, zI v21.1.fState, zI v21.1.fBy, .view 13 0 [] 3, .view 13 0 [] 4]) :: T11, B11⟩ ?_
     refine cT ?_
     let T12 : List (Nat × X) := [(14, zB v21.2), (13, .ptr 13 0 0), (12, .ptr 12 0 0), (11, zB v13.2), (10, .ptr 10 0 0), (4, .ptr 4 0 0), (1, zI a1), (2, zI a2), (3, zI a3)]
     let B12 : List (Nat × Bx) := [(13, ⟨0, 0, true, some (encAcct1 v21.1)⟩), (12, ⟨0, 0, true, some (encAcct1 v17)⟩), (10, ⟨0, 0, true, some (encAcct1 v13.1)⟩), (4, ⟨0, 0, true, some (encAcct0 a0)⟩)]
     refine wkr [14, 13, 12, 11, 10, 4, 1, 2, 3] [(13, 13, false), (12, 12, false), (10, 10, false), (4, 4, false)] ⟨T12, B12⟩ ?_
     refine sqr cv hn ?_
     refine ro9 0 1 1 ⟨(8, zB false) :: T12, B12⟩ ?_
     refine runs_ret ?_
     exact fin _ _ h (by kernel_rfl)
   · replace h := cond_f hb29 h
     refine rl 48 false hb29 ?_
     refine ro9 5 4 4 ⟨(52, zB (v21.2 != v13.2)) :: (51, zB (v21.2 != v13.2)) :: (50, zB v13.2) :: (49, zB v21.2) :: (48, zB false) :: (47, zB (!v27)) :: (46, zB v27) :: (45, .agg [zI v13.1.fHave, zI v13.1.fState, zI v13.1.fBy, .view 10 0 [] 3, .view 10 0 [] 4]) :: (44, .agg [zI v21.1.fHave, zI v21.1.fState, zI v21.1.fBy, .view 13 0 [] 3, .view 13 0 [] 4]) :: T11, B11⟩ ?_
     rcases dich (v21.2 != v13.2) with hb30 | hb30
     · replace h := cond_t hb30 h
       refine ct hb30 ?_
       let T13 : List (Nat × X) := [(14, zB v21.2), (13, .ptr 13 0 0), (12, .ptr 12 0 0), (11, zB v13.2), (10, .ptr 10 0 0), (4, .ptr 4 0 0), (1, zI a1), (2, zI a2), (3, zI a3)]
       let B13 : List (Nat × Bx) := [(13, ⟨0, 0, true, some (encAcct1 v21.1)⟩), (12, ⟨0, 0, true, some (encAcct1 v17)⟩), (10, ⟨0, 0, true, some (encAcct1 v13.1)⟩), (4, ⟨0, 0, true, some (encAcct0 a0)⟩)]
       refine wkr [14, 13, 12, 11, 10, 4, 1, 2, 3] [(13, 13, false), (12, 12, false), (10, 10, false), (4, 4, false)] ⟨T13, B13⟩ ?_
       refine sqr cv hn ?_
       refine ro9 0 1 1 ⟨(8, zB false) :: T13, B13⟩ ?_
       refine runs_ret ?_
       exact fin _ _ h (by kernel_rfl)
     · replace h := cond_f hb30 h
       refine cf hb30 ?_
       refine runs_skip ?_
       refine runs_seq ?_
       refine runs_seq ?_
       let T16 : List (Nat × X) := [(14, zB v21.2), (13, .ptr 13 0 0), (12, .ptr 12 0 0), (11, zB v13.2), (10, .ptr 10 0 0), (4, .ptr 4 0 0), (1, zI a1), (2, zI a2), (3, zI a3)]
       let B16 : List (Nat × Bx) := [(13, ⟨0, 0, true, some (encAcct1 v21.1)⟩), (12, ⟨0, 0, true, some (encAcct1 v17)⟩), (10, ⟨0, 0, true, some (encAcct1 v13.1)⟩), (4, ⟨0, 0, true, some (encAcct0 a0)⟩)]
       refine wkr [14, 13, 12, 11, 10, 4, 1, 2, 3] [(13, 13, false), (12, 12, false), (10, 10, false), (4, 4, false)] ⟨T16, B16⟩ ?_
       refine rgT cv mixed hn ?_
       refine roT 0 2 2 ⟨(54, encAcct0 a0) :: (53, .agg [zI v17.fHave, zI v17.fState, zI v17.fBy, .view 12 0 [] 3, .view 12 0 [] 4]) :: T16, B16⟩ ?_
       obtain ⟨v36, hv37, h⟩ := bindO h
       refine rcT 2 ⟨(55, .agg [zI v36.fHave, zI v36.fState, zI v36.fBy, .view 55 1 [] 0, .view 10055 1 [] 0]) :: (54, encAcct0 a0) :: (53, .agg [zI v17.fHave, zI v17.fState, zI v17.fBy, .view 12 0 [] 3, .view 12 0 [] 4]) :: T16, (10055, ⟨1, 1, false, some (.sl 1 (List.map encRep v36.fReps))⟩) :: (55, ⟨1, 1, false, some (.sl 1 (List.map encInt v36.fMarks))⟩) :: B16⟩ (laws_toAcct_spec a0 v36 hv37) ?_
       obtain ⟨v38, hv39, h⟩ := bindO h
       refine rcHT 3 [List.map encInt v17.fMarks, List.map encRep v17.fReps, List.map encInt v36.fMarks, List.map encRep v36.fReps] ⟨(56, zB v38) :: (55, .agg [zI v36.fHave, zI v36.fState, zI v36.fBy, .view 55 1 [] 0, .view 10055 1 [] 0]) :: (54, encAcct0 a0) :: (53, .agg [zI v17.fHave, zI v17.fState, zI v17.fBy, .view 12 0 [] 3, .view 12 0 [] 4]) :: T16, (10055, ⟨1, 1, false, some (.sl 1 (List.map encRep v36.fReps))⟩) :: (55, ⟨1, 1, false, some (.sl 1 (List.map encInt v36.fMarks))⟩) :: B16⟩ [X.rds (List.map encInt v17.fMarks) = true, X.roifys (List.map encInt v17.fMarks) = List.map encInt v17.fMarks, X.rds (List.map encRep v17.fReps) = true, X.roifys (List.map encRep v17.fReps) = List.map encRep v17.fReps, X.rds (List.map encInt v36.fMarks) = true, X.roifys (List.map encInt v36.fMarks) = List.map encInt v36.fMarks, X.rds (List.map encRep v36.fReps) = true, X.roifys (List.map encRep v36.fReps) = List.map encRep v36.fReps, rootsBut (cv 29) 0 [.agg [zI v17.fHave, zI v17.fState, zI v17.fBy, .view 12 0 [] 3, .view 12 0 [] 4], .agg [zI v36.fHave, zI v36.fState, zI v36.fBy, .view 55 1 [] 0, .view 10055 1 [] 0]] = false ∨ (X.noRo (zB v38 : X) = true ∧ X.noRo (.junk : X) = true)] (laws_eqAcct_spec v17 v36 v38 hv39) ⟨rds_map rde_Int _, ro_map ro_Int _, rds_map rde_Rep _, ro_map ro_Rep _, rds_map rde_Int _, ro_map ro_Int _, rds_map rde_Rep _, ro_map ro_Rep _, .inr ⟨rfl, rfl⟩, trivial⟩ ?_
       refine roT9 4 1 1 ⟨(57, zB (!v38)) :: (56, zB v38) :: (55, .agg [zI v36.fHave, zI v36.fState, zI v36.fBy, .view 55 1 [] 0, .view 10055 1 [] 0]) :: (54, encAcct0 a0) :: (53, .agg [zI v17.fHave, zI v17.fState, zI v17.fBy, .view 12 0 [] 3, .view 12 0 [] 4]) :: T16, (10055, ⟨1, 1, false, some (.sl 1 (List.map encRep v36.fReps))⟩) :: (55, ⟨1, 1, false, some (.sl 1 (List.map encInt v36.fMarks))⟩) :: B16⟩ ?_
       rcases dich (!v38) with hb40 | hb40
       · replace h := cond_t hb40 h
         refine ct hb40 ?_
         let T17 : List (Nat × X) := [(14, zB v21.2), (13, .ptr 13 0 0), (12, .ptr 12 0 0), (11, zB v13.2), (10, .ptr 10 0 0), (4, .ptr 4 0 0), (1, zI a1), (2, zI a2), (3, zI a3)]
         let B17 : List (Nat × Bx) := [(13, ⟨0, 0, true, some (encAcct1 v21.1)⟩), (12, ⟨0, 0, true, some (encAcct1 v17)⟩), (10, ⟨0, 0, true, some (encAcct1 v13.1)⟩), (4, ⟨0, 0, true, some (encAcct0 a0)⟩)]
         refine wkr [14, 13, 12, 11, 10, 4, 1, 2, 3] [(13, 13, false), (12, 12, false), (10, 10, false), (4, 4, false)] ⟨T17, B17⟩ ?_
         refine sqr cv hn ?_
         refine ro9 0 1 1 ⟨(8, zB false) :: T17, B17⟩ ?_
         refine runs_ret ?_
         exact fin _ _ h (by kernel_rfl)
       · replace h := cond_f hb40 h
         refine cf hb40 ?_
         refine runs_skip ?_
         let T19 : List (Nat × X) := [(14, zB v21.2), (13, .ptr 13 0 0), (12, .ptr 12 0 0), (11, zB v13.2), (10, .ptr 10 0 0), (4, .ptr 4 0 0), (1, zI a1), (2, zI a2), (3, zI a3)]
         let B19 : List (Nat × Bx) := [(13, ⟨0, 0, true, some (encAcct1 v21.1)⟩), (12, ⟨0, 0, true, some (encAcct1 v17)⟩), (10, ⟨0, 0, true, some (encAcct1 v13.1)⟩), (4, ⟨0, 0, true, some (encAcct0 a0)⟩)]
         refine wkr [14, 13, 12, 11, 10, 4, 1, 2, 3] [(13, 13, false), (12, 12, false), (10, 10, false), (4, 4, false)] ⟨T19, B19⟩ ?_
         refine sqr cv hn ?_
         refine ro9 0 1 1 ⟨(15, zI 1) :: T19, B19⟩ ?_
         refine sqr cv hn ?_
         refine ro 0 2 2 ⟨(59, zI 1) :: (58, .agg [zI v17.fHave, zI v17.fState, zI v17.fBy, .view 12 0 [] 3, .view 12 0 [] 4]) :: (15, zI 1) :: T19, B19⟩ ?_
         obtain ⟨v43, hv44, h⟩ := bindO h
         refine rc 2 ⟨(60, zI v43.1) :: (59, zI 1) :: (58, .agg [zI v17.fHave, zI v17.fState, zI v17.fBy, .view 12 0 [] 3, .view 12 0 [] 4]) :: (15, zI 1) :: T19, (12, ⟨0, 1, true, some (.agg [zI v17.fHave, zI v17.fState, zI v17.fBy, .sl 1 (List.map encInt v43.2.fMarks), .sl 1 (List.map encRep v43.2.fReps)])⟩) :: B19⟩ (laws_markAcct_spec v17 1 v43 hv44) ?_
         refine ro9 3 1 1 ⟨(15, zI v43.1) :: (60, zI v43.1) :: (59, zI 1) :: (58, .agg [zI v17.fHave, zI v17.fState, zI v17.fBy, .view 12 0 [] 3, .view 12 0 [] 4]) :: (15, zI 1) :: T19, (12, ⟨0, 1, true, some (.agg [zI v17.fHave, zI v17.fState, zI v17.fBy, .sl 1 (List.map encInt v43.2.fMarks), .sl 1 (List.map encRep v43.2.fReps)])⟩) :: B19⟩ ?_
         refine runs_seq ?_
         let T23 : List (Nat × X) := [(15, zI v43.1), (14, zB v21.2), (13, .ptr 13 0 0), (11, zB v13.2), (10, .ptr 10 0 0), (4, .ptr 4 0 0), (1, zI a1), (2, zI a2), (3, zI a3)]
         let B23 : List (Nat × Bx) := [(13, ⟨0, 0, true, some (encAcct1 v21.1)⟩), (10, ⟨0, 0, true, some (encAcct1 v13.1)⟩), (4, ⟨0, 0, true, some (encAcct0 a0)⟩)]
         refine wkr [15, 14, 13, 11, 10, 4, 1, 2, 3] [(13, 13, false), (10, 10, false), (4, 4, false)] ⟨T23, B23⟩ ?_
         refine sqr cv hn ?_
         refine ro 0 3 3 ⟨(63, zB (decide (v43.1 < 0))) :: (62, zB (decide (v43.1 < 0))) :: (61, zI v43.1) :: T23, B23⟩ ?_
         rcases dich (decide (v43.1 < 0)) with hb49 | hb49
         · replace h := cond_t hb49 h
           refine rl 63 true hb49 ?_
           refine ro9 3 10 3 ⟨(73, zB true) :: (72, .tup []) :: (71, .tup []) :: (70, .tup []) :: (69, zB true) :: (68, zB true) :: (67, .tup []) :: (66, .tup []) :: (65, .tup []) :: (64, .tup []) :: (63, zB true) :: (62, zB (decide (v43.1 < 0))) :: (61, zI v43.1) :: T23, B23⟩ ?_
           refine cT ?_
           let T24 : List (Nat × X) := [(13, .ptr 13 0 0), (11, zB v13.2), (10, .ptr 10 0 0), (4, .ptr 4 0 0), (1, zI a1), (2, zI a2), (3, zI a3)]
           let B24 : List (Nat × Bx) := [(13, ⟨0, 0, true, some (encAcct1 v21.1)⟩), (10, ⟨0, 0, true, some (encAcct1 v13.1)⟩), (4, ⟨0, 0, true, some (encAcct0 a0)⟩)]
           refine wkr [13, 11, 10, 4, 1, 2, 3] [(13, 13, false), (10, 10, false), (4, 4, false)] ⟨T24, B24⟩ ?_
           refine sqr cv hn ?_
           refine ro9 0 1 1 ⟨(8, zB false) :: T24, B24⟩ ?_
           refine runs_ret ?_
           exact fin _ _ h (by kernel_rfl)
         · replace h := cond_f hb49 h
           refine rl 63 false hb49 ?_
           refine ro 3 2 2 ⟨(65, .agg [zI v13.1.fHave, zI v13.1.fState, zI v13.1.fBy, .view 10 0 [] 3, .view 10 0 [] 4]) :: (64, .agg [zI v21.1.fHave, zI v21.1.fState, zI v21.1.fBy, .view 13 0 [] 3, .view 13 0 [] 4]) :: (63, zB false) :: (62, zB (decide (v43.1 < 0))) :: (61, zI v43.1) :: T23, B23⟩ ?_
           obtain ⟨v50, hv51, h⟩ := bindO h
           refine rcH 5 [List.map encInt v21.1.fMarks, List.map encRep v21.1.fReps, List.map encInt v13.1.fMarks, List.map encRep v13.1.fReps] ⟨(66, zB v50) :: (65, .agg [zI v13.1.fHave, zI v13.1.fState, zI v13.1.fBy, .view 10 0 [] 3, .view 10 0 [] 4]) :: (64, .agg [zI v21.1.fHave, zI v21.1.fState, zI v21.1.fBy, .view 13 0 [] 3, .view 13 0 [] 4]) :: (63, zB false) :: (62, zB (decide (v43.1 < 0))) :: (61, zI v43.1) :: T23, B23⟩ [X.rds (List.map encInt v21.1.fMarks) = true, X.roifys (List.map encInt v21.1.fMarks) = List.map encInt v21.1.fMarks, X.rds (List.map encRep v21.1.fReps) = true, X.roifys (List.map encRep v21.1.fReps) = List.map encRep v21.1.fReps, X.rds (List.map encInt v13.1.fMarks) = true, X.roifys (List.map encInt v13.1.fMarks) = List.map encInt v13.1.fMarks, X.rds (List.map encRep v13.1.fReps) = true, X.roifys (List.map encRep v13.1.fReps) = List.map encRep v13.1.fReps, rootsBut (cv 29) 0 [.agg [zI v21.1.fHave, zI v21.1.fState, zI v21.1.fBy, .view 13 0 [] 3, .view 13 0 [] 4], .agg [zI v13.1.fHave, zI v13.1.fState, zI v13.1.fBy, .view 10 0 [] 3, .view 10 0 [] 4]] = false ∨ (X.noRo (zB v50 : X) = true ∧ X.noRo (.junk : X) = true)] (laws_eqAcct_spec v21.1 v13.1 v50 hv51) ⟨rds_map rde_Int _, ro_map ro_Int _, rds_map rde_Rep _, ro_map ro_Rep _, rds_map rde_Int _, ro_map ro_Int _, rds_map rde_Rep _, ro_map ro_Rep _, .inr ⟨rfl, rfl⟩, trivial⟩ ?_
           refine ro 6 3 3 ⟨(69, zB (!v50)) :: (68, zB (!v50)) :: (67, zB (!v50)) :: (66, zB v50) :: (65, .agg [zI v13.1.fHave, zI v13.1.fState, zI v13.1.fBy, .view 10 0 [] 3, .view 10 0 [] 4]) :: (64, .agg [zI v21.1.fHave, zI v21.1.fState, zI v21.1.fBy, .view 13 0 [] 3, .view 13 0 [] 4]) :: (63, zB false) :: (62, zB (decide (v43.1 < 0))) :: (61, zI v43.1) :: T23, B23⟩ ?_
           rcases dich (!v50) with hb52 | hb52
           · replace h := cond_t hb52 h
             refine rl 69 true hb52 ?_
             refine ro9 9 4 1 ⟨(73, zB true) :: (72, .tup []) :: (71, .tup []) :: (70, .tup []) :: (69, zB true) :: (68, zB (!v50)) :: (67, zB (!v50)) :: (66, zB v50) :: (65, .agg [zI v13.1.fHave, zI v13.1.fState, zI v13.1.fBy, .view 10 0 [] 3, .view 10 0 [] 4]) :: (64, .agg [zI v21.1.fHave, zI v21.1.fState, zI v21.1.fBy, .view 13 0 [] 3, .view 13 0 [] 4]) :: (63, zB false) :: (62, zB (decide (v43.1 < 0))) :: (61, zI v43.1) :: T23, B23⟩ ?_
             refine cT ?_
             let T25 : List (Nat × X) := [(13, .ptr 13 0 0), (11, zB v13.2), (10, .ptr 10 0 0), (4, .ptr 4 0 0), (1, zI a1), (2, zI a2), (3, zI a3)]
             let B25 : List (Nat × Bx) := [(13, ⟨0, 0, true, some (encAcct1 v21.1)⟩), (10, ⟨0, 0, true, some (encAcct1 v13.1)⟩), (4, ⟨0, 0, true, some (encAcct0 a0)⟩)]
             refine wkr [13, 11, 10, 4, 1, 2, 3] [(13, 13, false), (10, 10, false), (4, 4, false)] ⟨T25, B25⟩ ?_
             refine sqr cv hn ?_
             refine ro9 0 1 1 ⟨(8, zB false) :: T25, B25⟩ ?_
             refine runs_ret ?_
             exact fin _ _ h (by kernel_rfl)
           · replace h := cond_f hb52 h
             refine rl 69 false hb52 ?_
             refine ro9 9 4 4 ⟨(73, zB (v21.2 != v13.2)) :: (72, zB (v21.2 != v13.2)) :: (71, zB v13.2) :: (70, zB v21.2) :: (69, zB false) :: (68, zB (!v50)) :: (67, zB (!v50)) :: (66, zB v50) :: (65, .agg [zI v13.1.fHave, zI v13.1.fState, zI v13.1.fBy, .view 10 0 [] 3, .view 10 0 [] 4]) :: (64, .agg [zI v21.1.fHave, zI v21.1.fState, zI v21.1.fBy, .view 13 0 [] 3, .view 13 0 [] 4]) :: (63, zB false) :: (62, zB (decide (v43.1 < 0))) :: (61, zI v43.1) :: T23, B23⟩ ?_
             refine cf hb30 ?_
             refine runs_skip ?_
             let T27 : List (Nat × X) := [(13, .ptr 13 0 0), (11, zB v13.2), (10, .ptr 10 0 0), (4, .ptr 4 0 0), (1, zI a1), (2, zI a2), (3, zI a3)]
             let B27 : List (Nat × Bx) := [(13, ⟨0, 0, true, some (encAcct1 v21.1)⟩), (10, ⟨0, 0, true, some (encAcct1 v13.1)⟩), (4, ⟨0, 0, true, some (encAcct0 a0)⟩)]
             refine wkr [13, 11, 10, 4, 1, 2, 3] [(13, 13, false), (10, 10, false), (4, 4, false)] ⟨T27, B27⟩ ?_
             refine sqr cv hn ?_
             refine ro9 0 1 1 ⟨(16, zI 1) :: T27, B27⟩ ?_
             refine sqr cv hn ?_
             refine ro 0 2 2 ⟨(75, zI 1) :: (74, .agg [zI v21.1.fHave, zI v21.1.fState, zI v21.1.fBy, .view 13 0 [] 3, .view 13 0 [] 4]) :: (16, zI 1) :: T27, B27⟩ ?_
             obtain ⟨v55, hv56, h⟩ := bindO h
             refine rc 2 ⟨(76, zI v55.1) :: (75, zI 1) :: (74, .agg [zI v21.1.fHave, zI v21.1.fState, zI v21.1.fBy, .view 13 0 [] 3, .view 13 0 [] 4]) :: (16, zI 1) :: T27, (13, ⟨0, 1, true, some (.agg [zI v21.1.fHave, zI v21.1.fState, zI v21.1.fBy, .sl 1 (List.map encInt v55.2.fMarks), .sl 1 (List.map encRep v55.2.fReps)])⟩) :: B27⟩ (laws_markAcct_spec v21.1 1 v55 hv56) ?_
             refine ro9 3 1 1 ⟨(16, zI v55.1) :: (76, zI v55.1) :: (75, zI 1) :: (74, .agg [zI v21.1.fHave, zI v21.1.fState, zI v21.1.fBy, .view 13 0 [] 3, .view 13 0 [] 4]) :: (16, zI 1) :: T27, (13, ⟨0, 1, true, some (.agg [zI v21.1.fHave, zI v21.1.fState, zI v21.1.fBy, .sl 1 (List.map encInt v55.2.fMarks), .sl 1 (List.map encRep v55.2.fReps)])⟩) :: B27⟩ ?_
             refine sqr cv hn ?_
             refine ro9 0 1 1 ⟨(17, zI 1) :: (16, zI v55.1) :: (76, zI v55.1) :: (75, zI 1) :: (74, .agg [zI v21.1.fHave, zI v21.1.fState, zI v21.1.fBy, .view 13 0 [] 3, .view 13 0 [] 4]) :: (16, zI 1) :: T27, (13, ⟨0, 1, true, some (.agg [zI v21.1.fHave, zI v21.1.fState, zI v21.1.fBy, .sl 1 (List.map encInt v55.2.fMarks), .sl 1 (List.map encRep v55.2.fReps)])⟩) :: B27⟩ ?_
             refine sqr cv hn ?_
             refine ro 0 2 2 ⟨(78, zI 1) :: (77, .agg [zI v21.1.fHave, zI v21.1.fState, zI v21.1.fBy, .view 13 1 [] 3, .view 13 1 [] 4]) :: (17, zI 1) :: (16, zI v55.1) :: (76, zI v55.1) :: (75, zI 1) :: (74, .agg [zI v21.1.fHave, zI v21.1.fState, zI v21.1.fBy, .view 13 0 [] 3, .view 13 0 [] 4]) :: (16, zI 1) :: T27, (13, ⟨0, 1, true, some (.agg [zI v21.1.fHave, zI v21.1.fState, zI v21.1.fBy, .sl 1 (List.map encInt v55.2.fMarks), .sl 1 (List.map encRep v55.2.fReps)])⟩) :: B27⟩ ?_
             obtain ⟨v59, hv60, h⟩ := bindO h
             refine rcH 2 [List.map encInt v55.2.fMarks, List.map encRep v55.2.fReps] ⟨(79, zI v59) :: (78, zI 1) :: (77, .agg [zI v21.1.fHave, zI v21.1.fState, zI v21.1.fBy, .view 13 1 [] 3, .view 13 1 [] 4]) :: (17, zI 1) :: (16, zI v55.1) :: (76, zI v55.1) :: (75, zI 1) :: (74, .agg [zI v21.1.fHave, zI v21.1.fState, zI v21.1.fBy, .view 13 0 [] 3, .view 13 0 [] 4]) :: (16, zI 1) :: T27, (13, ⟨0, 1, true, some (.agg [zI v21.1.fHave, zI v21.1.fState, zI v21.1.fBy, .sl 1 (List.map encInt v55.2.fMarks), .sl 1 (List.map encRep v55.2.fReps)])⟩) :: B27⟩ [X.rds (List.map encInt v55.2.fMarks) = true, X.roifys (List.map encInt v55.2.fMarks) = List.map encInt v55.2.fMarks, X.rds (List.map encRep v55.2.fReps) = true, X.roifys (List.map encRep v55.2.fReps) = List.map encRep v55.2.fReps, rootsBut (cv 31) 0 [.agg [zI v21.1.fHave, zI v21.1.fState, zI v21.1.fBy, .view 13 1 [] 3, .view 13 1 [] 4], zI 1] = false ∨ (X.noRo (zI v59 : X) = true ∧ X.noRo (.junk : X) = true)] (laws_heldAcct_spec { v21.1 with fMarks := v55.2.fMarks, fReps := v55.2.fReps } 1 v59 hv60) ⟨rds_map rde_Int _, ro_map ro_Int _, rds_map rde_Rep _, ro_map ro_Rep _, .inr ⟨rfl, rfl⟩, trivial⟩ ?_
             refine ro9 3 1 1 ⟨(17, zI v59) :: (79, zI v59) :: (78, zI 1) :: (77, .agg [zI v21.1.fHave, zI v21.1.fState, zI v21.1.fBy, .view 13 1 [] 3, .view 13 1 [] 4]) :: (17, zI 1) :: (16, zI v55.1) :: (76, zI v55.1) :: (75, zI 1) :: (74, .agg [zI v21.1.fHave, zI v21.1.fState, zI v21.1.fBy, .view 13 0 [] 3, .view 13 0 [] 4]) :: (16, zI 1) :: T27, (13, ⟨0, 1, true, some (.agg [zI v21.1.fHave, zI v21.1.fState, zI v21.1.fBy, .sl 1 (List.map encInt v55.2.fMarks), .sl 1 (List.map encRep v55.2.fReps)])⟩) :: B27⟩ ?_
             refine runs_seq ?_
             let T29 : List (Nat × X) := [(17, zI v59), (16, zI v55.1), (13, .ptr 13 0 0), (11, zB v13.2), (10, .ptr 10 0 0), (4, .ptr 4 0 0), (1, zI a1), (2, zI a2), (3, zI a3)]
             let B29 : List (Nat × Bx) := [(13, ⟨0, 0, true, some (.agg [zI v21.1.fHave, zI v21.1.fState, zI v21.1.fBy, .sl 1 (List.map encInt v55.2.fMarks), .sl 1 (List.map encRep v55.2.fReps)])⟩), (10, ⟨0, 0, true, some (encAcct1 v13.1)⟩), (4, ⟨0, 0, true, some (encAcct0 a0)⟩)]
             refine wkr [17, 16, 13, 11, 10, 4, 1, 2, 3] [(13, 13, false), (10, 10, false), (4, 4, false)] ⟨T29, B29⟩ ?_
             refine sqr cv hn ?_
             refine ro9 0 2 2 ⟨(81, zB (decide (v59 < 0))) :: (80, zI v59) :: T29, B29⟩ ?_
             rcases dich (decide (v59 < 0)) with hb62 | hb62
             · replace h := cond_t hb62 h
               refine ct hb62 ?_
               refine sqr cv hn ?_
               refine ro9 0 1 1 ⟨(8, zB false) :: (81, zB (decide (v59 < 0))) :: (80, zI v59) :: T29, B29⟩ ?_
               refine runs_ret ?_
               exact fin _ _ h (by kernel_rfl)
             · replace h := cond_f hb62 h
               refine cf hb62 ?_
               refine runs_skip ?_
               refine runs_seq ?_
               refine sqr cv hn ?_
               refine ro9 0 3 3 ⟨(84, zB (v59 != v55.1)) :: (83, zI v55.1) :: (82, zI v59) :: (81, zB (decide (v59 < 0))) :: (80, zI v59) :: T29, B29⟩ ?_
               rcases dich (v59 != v55.1) with hb64 | hb64
               · replace h := cond_t hb64 h
                 refine ct hb64 ?_
                 let T31 : List (Nat × X) := [(17, zI v59), (16, zI v55.1), (13, .ptr 13 0 0), (11, zB v13.2), (10, .ptr 10 0 0), (4, .ptr 4 0 0), (1, zI a1), (2, zI a2), (3, zI a3)]
                 let B31 : List (Nat × Bx) := [(13, ⟨0, 0, true, some (.agg [zI v21.1.fHave, zI v21.1.fState, zI v21.1.fBy, .sl 1 (List.map encInt v55.2.fMarks), .sl 1 (List.map encRep v55.2.fReps)])⟩), (10, ⟨0, 0, true, some (encAcct1 v13.1)⟩), (4, ⟨0, 0, true, some (encAcct0 a0)⟩)]
                 refine wkr [17, 16, 13, 11, 10, 4, 1, 2, 3] [(13, 13, false), (10, 10, false), (4, 4, false)] ⟨T31, B31⟩ ?_
                 refine sqr cv hn ?_
                 refine ro9 0 1 1 ⟨(8, zB false) :: T31, B31⟩ ?_
                 refine runs_ret ?_
                 exact fin _ _ h (by kernel_rfl)
               · replace h := cond_f hb64 h
                 refine cf hb64 ?_
                 refine runs_skip ?_
                 let T33 : List (Nat × X) := [(17, zI v59), (16, zI v55.1), (13, .ptr 13 0 0), (11, zB v13.2), (10, .ptr 10 0 0), (4, .ptr 4 0 0), (1, zI a1), (2, zI a2), (3, zI a3)]
                 let B33 : List (Nat × Bx) := [(13, ⟨0, 0, true, some (.agg [zI v21.1.fHave, zI v21.1.fState, zI v21.1.fBy, .sl 1 (List.map encInt v55.2.fMarks), .sl 1 (List.map encRep v55.2.fReps)])⟩), (10, ⟨0, 0, true, some (encAcct1 v13.1)⟩), (4, ⟨0, 0, true, some (encAcct0 a0)⟩)]
                 refine wkr [17, 16, 13, 11, 10, 4, 1, 2, 3] [(13, 13, false), (10, 10, false), (4, 4, false)] ⟨T33, B33⟩ ?_
                 refine sqr cv hn ?_
                 refine ro 0 1 1 ⟨(86, encAcct0 a0) :: T33, B33⟩ ?_
                 obtain ⟨v69, hv70, h⟩ := bindO h
                 refine rc 1 ⟨(87, .agg [zI v69.fHave, zI v69.fState, zI v69.fBy, .view 87 1 [] 0, .view 10087 1 [] 0]) :: (86, encAcct0 a0) :: T33, (10087, ⟨1, 1, false, some (.sl 1 (List.map encRep v69.fReps))⟩) :: (87, ⟨1, 1, false, some (.sl 1 (List.map encInt v69.fMarks))⟩) :: B33⟩ (laws_toAcct_spec a0 v69 hv70) ?_
                 refine ro 2 3 3 ⟨(90, zI a3) :: (89, zI a2) :: (88, zI a1) :: (87, .agg [zI v69.fHave, zI v69.fState, zI v69.fBy, .view 87 1 [] 0, .view 10087 1 [] 0]) :: (86, encAcct0 a0) :: T33, (10087, ⟨1, 1, false, some (.sl 1 (List.map encRep v69.fReps))⟩) :: (87, ⟨1, 1, false, some (.sl 1 (List.map encInt v69.fMarks))⟩) :: B33⟩ ?_
                 obtain ⟨v71, hv72, h⟩ := bindO h
                 refine rcH 5 [List.map encInt v69.fMarks, List.map encRep v69.fReps] ⟨(91, .tup [.agg [zI v71.1.fHave, zI v71.1.fState, zI v71.1.fBy, .view 91 1 [] 0, .view 10091 1 [] 0], zB v71.2]) :: (90, zI a3) :: (89, zI a2) :: (88, zI a1) :: (87, .agg [zI v69.fHave, zI v69.fState, zI v69.fBy, .view 87 1 [] 0, .view 10087 1 [] 0]) :: (86, encAcct0 a0) :: T33, (10091, ⟨1, 1, false, some (.sl 1 (List.map encRep v71.1.fReps))⟩) :: (91, ⟨1, 1, false, some (.sl 1 (List.map encInt v71.1.fMarks))⟩) :: (10087, ⟨1, 1, false, some (.sl 1 (List.map encRep v69.fReps))⟩) :: (87, ⟨1, 1, false, some (.sl 1 (List.map encInt v69.fMarks))⟩) :: B33⟩ [X.rds (List.map encInt v69.fMarks) = true, X.roifys (List.map encInt v69.fMarks) = List.map encInt v69.fMarks, X.rds (List.map encRep v69.fReps) = true, X.roifys (List.map encRep v69.fReps) = List.map encRep v69.fReps, rootsBut (cv 52) 0 [.agg [zI v69.fHave, zI v69.fState, zI v69.fBy, .view 87 1 [] 0, .view 10087 1 [] 0], zI a1, zI a2, zI a3] = false ∨ (X.noRo (.tup [encAcct1 v71.1, zB v71.2] : X) = true ∧ X.noRo (.junk : X) = true)] (impl_AcctRep_spec v69 a1 a2 a3 v71 hv72) ⟨rds_map rde_Int _, ro_map ro_Int _, rds_map rde_Rep _, ro_map ro_Rep _, .inr ⟨(nr_tup (nr_cons (nr_agg (nr_cons rfl (nr_cons rfl (nr_cons rfl (nr_cons (nr_sl (nr_map nr_Int _)) (nr_cons (nr_sl (nr_map nr_Rep _)) nr_nil)))))) (nr_cons rfl nr_nil))), rfl⟩, trivial⟩ ?_
                 refine ro9 6 6 6 ⟨(19, zB v71.2) :: (18, .ptr 18 1 0) :: (93, zB v71.2) :: (92, .agg [zI v71.1.fHave, zI v71.1.fState, zI v71.1.fBy, .view 91 1 [] 0, .view 10091 1 [] 0]) :: (85, .tup [.agg [zI v71.1.fHave, zI v71.1.fState, zI v71.1.fBy, .view 91 1 [] 0, .view 10091 1 [] 0], zB v71.2]) :: (91, .tup [.agg [zI v71.1.fHave, zI v71.1.fState, zI v71.1.fBy, .view 91 1 [] 0, .view 10091 1 [] 0], zB v71.2]) :: (90, zI a3) :: (89, zI a2) :: (88, zI a1) :: (87, .agg [zI v69.fHave, zI v69.fState, zI v69.fBy, .view 87 1 [] 0, .view 10087 1 [] 0]) :: (86, encAcct0 a0) :: T33, (18, ⟨1, 2, true, some (encAcct1 v71.1)⟩) :: (10091, ⟨1, 2, false, some (.junk)⟩) :: (91, ⟨1, 2, false, some (.junk)⟩) :: (18, ⟨1, 1, true, some (.agg [zI 0, zI 0, zI 0, .sl 1 (List.map encInt []), .sl 1 (List.map encRep [])])⟩) :: (10091, ⟨1, 1, false, some (.sl 1 (List.map encRep v71.1.fReps))⟩) :: (91, ⟨1, 1, false, some (.sl 1 (List.map encInt v71.1.fMarks))⟩) :: (10087, ⟨1, 1, false, some (.sl 1 (List.map encRep v69.fReps))⟩) :: (87, ⟨1, 1, false, some (.sl 1 (List.map encInt v69.fMarks))⟩) :: B33⟩ ?_
                 refine runs_seq ?_
                 let T37 : List (Nat × X) := [(19, zB v71.2), (18, .ptr 18 0 0), (17, zI v59), (16, zI v55.1), (13, .ptr 13 0 0), (11, zB v13.2), (10, .ptr 10 0 0)]
                 let B37 : List (Nat × Bx) := [(18, ⟨0, 0, true, some (encAcct1 v71.1)⟩), (13, ⟨0, 0, true, some (.agg [zI v21.1.fHave, zI v21.1.fState, zI v21.1.fBy, .sl 1 (List.map encInt v55.2.fMarks), .sl 1 (List.map encRep v55.2.fReps)])⟩), (10, ⟨0, 0, true, some (encAcct1 v13.1)⟩)]
                 refine wkr [19, 18, 17, 16, 13, 11, 10] [(18, 18, false), (13, 13, false), (10, 10, false)] ⟨T37, B37⟩ ?_
                 refine sqr cv hn ?_
                 refine ro 0 2 2 ⟨(95, .agg [zI v13.1.fHave, zI v13.1.fState, zI v13.1.fBy, .view 10 0 [] 3, .view 10 0 [] 4]) :: (94, .agg [zI v71.1.fHave, zI v71.1.fState, zI v71.1.fBy, .view 18 0 [] 3, .view 18 0 [] 4]) :: T37, B37⟩ ?_
                 obtain ⟨v77, hv78, h⟩ := bindO h
                 refine rcH 2 [List.map encInt v71.1.fMarks, List.map encRep v71.1.fReps, List.map encInt v13.1.fMarks, List.map encRep v13.1.fReps] ⟨(96, zB v77) :: (95, .agg [zI v13.1.fHave, zI v13.1.fState, zI v13.1.fBy, .view 10 0 [] 3, .view 10 0 [] 4]) :: (94, .agg [zI v71.1.fHave, zI v71.1.fState, zI v71.1.fBy, .view 18 0 [] 3, .view 18 0 [] 4]) :: T37, B37⟩ [X.rds (List.map encInt v71.1.fMarks) = true, X.roifys (List.map encInt v71.1.fMarks) = List.map encInt v71.1.fMarks, X.rds (List.map encRep v71.1.fReps) = true, X.roifys (List.map encRep v71.1.fReps) = List.map encRep v71.1.fReps, X.rds (List.map encInt v13.1.fMarks) = true, X.roifys (List.map encInt v13.1.fMarks) = List.map encInt v13.1.fMarks, X.rds (List.map encRep v13.1.fReps) = true, X.roifys (List.map encRep v13.1.fReps) = List.map encRep v13.1.fReps, rootsBut (cv 29) 0 [.agg [zI v71.1.fHave, zI v71.1.fState, zI v71.1.fBy, .view 18 0 [] 3, .view 18 0 [] 4], .agg [zI v13.1.fHave, zI v13.1.fState, zI v13.1.fBy, .view 10 0 [] 3, .view 10 0 [] 4]] = false ∨ (X.noRo (zB v77 : X) = true ∧ X.noRo (.junk : X) = true)] (laws_eqAcct_spec v71.1 v13.1 v77 hv78) ⟨rds_map rde_Int _, ro_map ro_Int _, rds_map rde_Rep _, ro_map ro_Rep _, rds_map rde_Int _, ro_map ro_Int _, rds_map rde_Rep _, ro_map ro_Rep _, .inr ⟨rfl, rfl⟩, trivial⟩ ?_
                 refine ro 3 2 2 ⟨(98, zB (!v77)) :: (97, zB (!v77)) :: (96, zB v77) :: (95, .agg [zI v13.1.fHave, zI v13.1.fState, zI v13.1.fBy, .view 10 0 [] 3, .view 10 0 [] 4]) :: (94, .agg [zI v71.1.fHave, zI v71.1.fState, zI v71.1.fBy, .view 18 0 [] 3, .view 18 0 [] 4]) :: T37, B37⟩ ?_
                 rcases dich (!v77) with hb79 | hb79
                 · replace h := cond_t hb79 h
                   refine rl 98 true hb79 ?_
                   refine ro9 5 4 1 ⟨(102, zB true) :: (101, .tup []) :: (100, .tup []) :: (99, .tup []) :: (98, zB true) :: (97, zB (!v77)) :: (96, zB v77) :: (95, .agg [zI v13.1.fHave, zI v13.1.fState, zI v13.1.fBy, .view 10 0 [] 3, .view 10 0 [] 4]) :: (94, .agg [zI v71.1.fHave, zI v71.1.fState, zI v71.1.fBy, .view 18 0 [] 3, .view 18 0 [] 4]) :: T37, B37⟩ ?_
                   refine cT ?_
                   let T38 : List (Nat × X) := [(17, zI v59), (16, zI v55.1), (13, .ptr 13 0 0)]
                   let B38 : List (Nat × Bx) := [(13, ⟨0, 0, true, some (.agg [zI v21.1.fHave, zI v21.1.fState, zI v21.1.fBy, .sl 1 (List.map encInt v55.2.fMarks), .sl 1 (List.map encRep v55.2.fReps)])⟩)]
                   refine wkr [17, 16, 13] [(13, 13, false)] ⟨T38, B38⟩ ?_
                   refine sqr cv hn ?_
                   refine ro9 0 1 1 ⟨(8, zB false) :: T38, B38⟩ ?_
                   refine runs_ret ?_
                   exact fin _ _ h (by kernel_rfl)
                 · replace h := cond_f hb79 h
                   refine rl 98 false hb79 ?_
                   refine ro9 5 4 4 ⟨(102, zB (v71.2 != v13.2)) :: (101, zB (v71.2 != v13.2)) :: (100, zB v13.2) :: (99, zB v71.2) :: (98, zB false) :: (97, zB (!v77)) :: (96, zB v77) :: (95, .agg [zI v13.1.fHave, zI v13.1.fState, zI v13.1.fBy, .view 10 0 [] 3, .view 10 0 [] 4]) :: (94, .agg [zI v71.1.fHave, zI v71.1.fState, zI v71.1.fBy, .view 18 0 [] 3, .view 18 0 [] 4]) :: T37, B37⟩ ?_
                   rcases dich (v71.2 != v13.2) with hb80 | hb80
                   · replace h := cond_t hb80 h
                     refine ct hb80 ?_
                     let T39 : List (Nat × X) := [(17, zI v59), (16, zI v55.1), (13, .ptr 13 0 0)]
                     let B39 : List (Nat × Bx) := [(13, ⟨0, 0, true, some (.agg [zI v21.1.fHave, zI v21.1.fState, zI v21.1.fBy, .sl 1 (List.map encInt v55.2.fMarks), .sl 1 (List.map encRep v55.2.fReps)])⟩)]
                     refine wkr [17, 16, 13] [(13, 13, false)] ⟨T39, B39⟩ ?_
                     refine sqr cv hn ?_
                     refine ro9 0 1 1 ⟨(8, zB false) :: T39, B39⟩ ?_
                     refine runs_ret ?_
                     exact fin _ _ h (by kernel_rfl)
                   · replace h := cond_f hb80 h
                     refine cf hb80 ?_
                     refine runs_skip ?_
                     let T41 : List (Nat × X) := [(17, zI v59), (16, zI v55.1), (13, .ptr 13 0 0)]
                     let B41 : List (Nat × Bx) := [(13, ⟨0, 0, true, some (.agg [zI v21.1.fHave, zI v21.1.fState, zI v21.1.fBy, .sl 1 (List.map encInt v55.2.fMarks), .sl 1 (List.map encRep v55.2.fReps)])⟩)]
                     refine wkr [17, 16, 13] [(13, 13, false)] ⟨T41, B41⟩ ?_
                     refine sqr cv hn ?_
                     refine ro9 0 1 1 ⟨(17, zI 1) :: T41, B41⟩ ?_
                     refine sqr cv hn ?_
                     refine ro 0 2 2 ⟨(104, zI 1) :: (103, .agg [zI v21.1.fHave, zI v21.1.fState, zI v21.1.fBy, .view 13 0 [] 3, .view 13 0 [] 4]) :: (17, zI 1) :: T41, B41⟩ ?_
                     obtain ⟨v83, hv84, h⟩ := bindO h
                     refine rcH 2 [List.map encInt v55.2.fMarks, List.map encRep v55.2.fReps] ⟨(105, zI v83) :: (104, zI 1) :: (103, .agg [zI v21.1.fHave, zI v21.1.fState, zI v21.1.fBy, .view 13 0 [] 3, .view 13 0 [] 4]) :: (17, zI 1) :: T41, B41⟩ [X.rds (List.map encInt v55.2.fMarks) = true, X.roifys (List.map encInt v55.2.fMarks) = List.map encInt v55.2.fMarks, X.rds (List.map encRep v55.2.fReps) = true, X.roifys (List.map encRep v55.2.fReps) = List.map encRep v55.2.fReps, rootsBut (cv 31) 0 [.agg [zI v21.1.fHave, zI v21.1.fState, zI v21.1.fBy, .view 13 0 [] 3, .view 13 0 [] 4], zI 1] = false ∨ (X.noRo (zI v83 : X) = true ∧ X.noRo (.junk : X) = true)] (laws_heldAcct_spec { v21.1 with fMarks := v55.2.fMarks, fReps := v55.2.fReps } 1 v83 hv84) ⟨rds_map rde_Int _, ro_map ro_Int _, rds_map rde_Rep _, ro_map ro_Rep _, .inr ⟨rfl, rfl⟩, trivial⟩ ?_
                     refine ro9 3 1 1 ⟨(17, zI v83) :: (105, zI v83) :: (104, zI 1) :: (103, .agg [zI v21.1.fHave, zI v21.1.fState, zI v21.1.fBy, .view 13 0 [] 3, .view 13 0 [] 4]) :: (17, zI 1) :: T41, B41⟩ ?_
                     refine runs_seq ?_
                     refine wkr [17, 16] [] ⟨[(17, zI v83), (16, zI v55.1)], []⟩ ?_
                     refine sqr cv hn ?_
                     refine ro9 0 2 2 ⟨[(107, zB (decide (v83 < 0))), (106, zI v83), (17, zI v83), (16, zI v55.1)], []⟩ ?_
                     rcases dich (decide (v83 < 0)) with hb86 | hb86
                     · replace h := cond_t hb86 h
                       refine ct hb86 ?_
                       refine sqr cv hn ?_
                       refine ro9 0 1 1 ⟨[(8, zB false), (107, zB (decide (v83 < 0))), (106, zI v83), (17, zI v83), (16, zI v55.1)], []⟩ ?_
                       refine runs_ret ?_
                       exact fin _ _ h (by kernel_rfl)
                     · replace h := cond_f hb86 h
                       refine cf hb86 ?_
                       refine runs_skip ?_
                       refine runs_seq ?_
                       refine sqr cv hn ?_
                       refine ro9 0 3 3 ⟨[(110, zB (v83 != v55.1)), (109, zI v55.1), (108, zI v83), (107, zB (decide (v83 < 0))), (106, zI v83), (17, zI v83), (16, zI v55.1)], []⟩ ?_
                       rcases dich (v83 != v55.1) with hb87 | hb87
                       · replace h := cond_t hb87 h
                         refine ct hb87 ?_
                         refine wkr [] [] ⟨[], []⟩ ?_
                         refine sqr cv hn ?_
                         refine ro9 0 1 1 ⟨[(8, zB false)], []⟩ ?_
                         refine runs_ret ?_
                         exact fin _ _ h (by kernel_rfl)
                       · replace h := cond_f hb87 h
                         refine cf hb87 ?_
                         refine runs_skip ?_
                         refine wkr [] [] ⟨[], []⟩ ?_
                         refine sqr cv hn ?_
                         refine ro9 0 1 1 ⟨[(8, zB true)], []⟩ ?_
                         refine runs_ret ?_
                         exact fin _ _ h (by kernel_rfl)

end Go.Proofs.Ytncjcbdbdocjaaa
