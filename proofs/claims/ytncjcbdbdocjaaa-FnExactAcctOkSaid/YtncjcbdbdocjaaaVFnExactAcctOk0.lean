/- The walks: each Go function answers what its plain function says. -/
import Derived.Test.YtncjcbdbdocjaaaUFnExactAcctOk
import Derived.Test.YtncjcbdbdocjaaaProg
set_option linter.unusedVariables false
namespace Go.Proofs.Ytncjcbdbdocjaaa
open Go Ax
abbrev cv : Nat → Option Nat := fun g => bif g == 82 then some 0 else bif g == 46 then some 0 else bif g == 83 then some 0 else bif g == 40 then some 0 else bif g == 30 then some 0 else bif g == 97 then some 0 else bif g == 98 then some 0 else bif g == 113 then some 0 else bif g == 63 then some 0 else none
theorem mixed : Try.prog.follows .mixedOrders = true := by decide +kernel

set_option maxRecDepth 100000 in
set_option maxHeartbeats 2000000 in
theorem laws_szIntS_spec (a0 : (List Int)) (a1 : Int) (v0 : Int) (h : laws_szIntS a0 a1 = some v0) : Ax.Spec Try.prog 72 none [.sl 0 (List.map encInt a0), zI a1] (zI v0 : X) (.junk : X) := by
 let T1 : List (Nat × X) := [(0, .sl 0 (List.map encInt a0)), (1, zI a1)]
 refine walk0 (fn := Try.f72) (fun q0 : Int => (zI q0 : X)) (fun q0 : Int => (.junk : X)) v0 ⟨T1, []⟩ Try.func72 rfl (by decide +kernel) fun Γ hn fin => ?_
 rw [laws_szIntS] at h
 refine sqr cv hn ?_
 refine ro9 0 1 1 ⟨(4, zI 0) :: T1, []⟩ ?_
 refine sqr cv hn ?_
 refine ro9 0 5 5 ⟨(1, zI (w64 (a1 - (a0.length : Int)))) :: (8, zI (w64 (a1 - (a0.length : Int)))) :: (7, zI (a0.length : Int)) :: (6, .sl 0 (List.map encInt a0)) :: (5, zI a1) :: (4, zI 0) :: T1, []⟩ ?_ (he := by rw [show (a0.length : Int) = ((List.map encInt a0).length : Int) from by rw [List.length_map]]; kernel_rfl)
 refine runs_seq ?_
 let T2 : List (Nat × X) := [(1, zI (w64 (a1 - (a0.length : Int))))]
 refine wkr [1] [] ⟨T2, []⟩ ?_
 refine sqr cv hn ?_
 refine ro9 0 2 2 ⟨(10, zB (decide ((w64 (a1 - (a0.length : Int))) < 0))) :: (9, zI (w64 (a1 - (a0.length : Int)))) :: T2, []⟩ ?_
 rcases dich (decide ((w64 (a1 - (a0.length : Int))) < 0)) with hb1 | hb1
 · replace h := cond_t hb1 h
   refine ct hb1 ?_
   refine sqr cv hn ?_
   refine ro9 0 1 1 ⟨(4, zI (-1)) :: (10, zB (decide ((w64 (a1 - (a0.length : Int))) < 0))) :: (9, zI (w64 (a1 - (a0.length : Int)))) :: T2, []⟩ ?_
   refine runs_ret ?_
   exact fin _ _ h (by kernel_rfl)
 · replace h := cond_f hb1 h
   refine cf hb1 ?_
   refine runs_skip ?_
   refine sqr cv hn ?_
   refine ro9 0 2 2 ⟨(4, zI (w64 (a1 - (a0.length : Int)))) :: (11, zI (w64 (a1 - (a0.length : Int)))) :: (10, zB (decide ((w64 (a1 - (a0.length : Int))) < 0))) :: (9, zI (w64 (a1 - (a0.length : Int)))) :: T2, []⟩ ?_
   refine runs_ret ?_
   exact fin _ _ h (by kernel_rfl)

set_option maxRecDepth 100000 in
set_option maxHeartbeats 2000000 in
theorem laws_szRepS_spec (a0 : (List SRep)) (a1 : Int) (v0 : Int) (h : laws_szRepS a0 a1 = some v0) : Ax.Spec Try.prog 73 none [.sl 0 (List.map encRep a0), zI a1] (zI v0 : X) (.junk : X) := by
 let T1 : List (Nat × X) := [(0, .sl 0 (List.map encRep a0)), (1, zI a1)]
 refine walk0 (fn := Try.f73) (fun q0 : Int => (zI q0 : X)) (fun q0 : Int => (.junk : X)) v0 ⟨T1, []⟩ Try.func73 rfl (by decide +kernel) fun Γ hn fin => ?_
 rw [laws_szRepS] at h
 refine sqr cv hn ?_
 refine ro9 0 1 1 ⟨(4, zI 0) :: T1, []⟩ ?_
 refine sqr cv hn ?_
 refine ro9 0 5 5 ⟨(1, zI (w64 (a1 - (a0.length : Int)))) :: (8, zI (w64 (a1 - (a0.length : Int)))) :: (7, zI (a0.length : Int)) :: (6, .sl 0 (List.map encRep a0)) :: (5, zI a1) :: (4, zI 0) :: T1, []⟩ ?_ (he := by rw [show (a0.length : Int) = ((List.map encRep a0).length : Int) from by rw [List.length_map]]; kernel_rfl)
 refine runs_seq ?_
 let T2 : List (Nat × X) := [(1, zI (w64 (a1 - (a0.length : Int))))]
 refine wkr [1] [] ⟨T2, []⟩ ?_
 refine sqr cv hn ?_
 refine ro9 0 2 2 ⟨(10, zB (decide ((w64 (a1 - (a0.length : Int))) < 0))) :: (9, zI (w64 (a1 - (a0.length : Int)))) :: T2, []⟩ ?_
 rcases dich (decide ((w64 (a1 - (a0.length : Int))) < 0)) with hb1 | hb1
 · replace h := cond_t hb1 h
   refine ct hb1 ?_
   refine sqr cv hn ?_
   refine ro9 0 1 1 ⟨(4, zI (-1)) :: (10, zB (decide ((w64 (a1 - (a0.length : Int))) < 0))) :: (9, zI (w64 (a1 - (a0.length : Int)))) :: T2, []⟩ ?_
   refine runs_ret ?_
   exact fin _ _ h (by kernel_rfl)
 · replace h := cond_f hb1 h
   refine cf hb1 ?_
   refine runs_skip ?_
   refine sqr cv hn ?_
   refine ro9 0 2 2 ⟨(4, zI (w64 (a1 - (a0.length : Int)))) :: (11, zI (w64 (a1 - (a0.length : Int)))) :: (10, zB (decide ((w64 (a1 - (a0.length : Int))) < 0))) :: (9, zI (w64 (a1 - (a0.length : Int)))) :: T2, []⟩ ?_
   refine runs_ret ?_
   exact fin _ _ h (by kernel_rfl)

set_option maxRecDepth 100000 in
set_option maxHeartbeats 2000000 in
theorem laws_szAcct_spec (a0 : SAcct) (a1 : Int) (v0 : Int) (h : laws_szAcct a0 a1 = some v0) : Ax.Spec Try.prog 25 none [encAcct0 a0, zI a1] (zI v0 : X) (.junk : X) := by
 refine walk0 (fn := Try.f25) (fun q0 : Int => (zI q0 : X)) (fun q0 : Int => (.junk : X)) v0 ⟨[(0, encAcct0 a0), (1, zI a1)], []⟩ Try.func25 rfl (by decide +kernel) fun Γ hn fin => ?_
 rw [laws_szAcct] at h
 refine sqr cv hn ?_
 refine ro9 0 2 2 ⟨[(4, zI 0), (2, .ptr 2 1 0), (0, encAcct0 a0), (1, zI a1)], [(2, ⟨1, 1, true, some (encAcct0 a0)⟩)]⟩ ?_
 refine sqr cv hn ?_
 refine ro 0 3 3 ⟨[(7, zI a1), (6, .sl 0 (List.map encInt a0.fMarks)), (5, .ptr 2 1 3), (4, zI 0), (2, .ptr 2 1 0), (0, encAcct0 a0), (1, zI a1)], [(2, ⟨1, 1, true, some (encAcct0 a0)⟩)]⟩ ?_
 obtain ⟨v3, hv4, h⟩ := bindO h
 refine rc 3 ⟨[(8, zI v3), (7, zI a1), (6, .sl 0 (List.map encInt a0.fMarks)), (5, .ptr 2 1 3), (4, zI 0), (2, .ptr 2 1 0), (0, encAcct0 a0), (1, zI a1)], [(2, ⟨1, 1, true, some (encAcct0 a0)⟩)]⟩ (laws_szIntS_spec a0.fMarks a1 v3 hv4) ?_
 refine ro9 4 1 1 ⟨[(1, zI v3), (8, zI v3), (7, zI a1), (6, .sl 0 (List.map encInt a0.fMarks)), (5, .ptr 2 1 3), (4, zI 0), (2, .ptr 2 1 0), (0, encAcct0 a0), (1, zI a1)], [(2, ⟨1, 1, true, some (encAcct0 a0)⟩)]⟩ ?_
 refine runs_seq ?_
 let B3 : List (Nat × Bx) := [(2, ⟨0, 0, true, some (encAcct0 a0)⟩)]
 refine wkr [1, 2] [(2, 2, false)] ⟨[(1, zI v3), (2, .ptr 2 0 0)], B3⟩ ?_
 refine sqr cv hn ?_
 refine ro9 0 2 2 ⟨[(10, zB (decide (v3 < 0))), (9, zI v3), (1, zI v3), (2, .ptr 2 0 0)], B3⟩ ?_
 rcases dich (decide (v3 < 0)) with hb6 | hb6
 · replace h := cond_t hb6 h
   refine ct hb6 ?_
   refine sqr cv hn ?_
   refine ro9 0 1 1 ⟨[(4, zI (-1)), (10, zB (decide (v3 < 0))), (9, zI v3), (1, zI v3), (2, .ptr 2 0 0)], B3⟩ ?_
   refine runs_ret ?_
   exact fin _ _ h (by kernel_rfl)
 · replace h := cond_f hb6 h
   refine cf hb6 ?_
   refine runs_skip ?_
   refine sqr cv hn ?_
   refine ro 0 3 3 ⟨[(13, zI v3), (12, .sl 0 (List.map encRep a0.fReps)), (11, .ptr 2 0 4), (10, zB (decide (v3 < 0))), (9, zI v3), (1, zI v3), (2, .ptr 2 0 0)], B3⟩ ?_
   obtain ⟨v9, hv10, h⟩ := bindO h
   refine rc 3 ⟨[(14, zI v9), (13, zI v3), (12, .sl 0 (List.map encRep a0.fReps)), (11, .ptr 2 0 4), (10, zB (decide (v3 < 0))), (9, zI v3), (1, zI v3), (2, .ptr 2 0 0)], B3⟩ (laws_szRepS_spec a0.fReps v3 v9 hv10) ?_
   refine ro9 4 1 1 ⟨[(1, zI v9), (14, zI v9), (13, zI v3), (12, .sl 0 (List.map encRep a0.fReps)), (11, .ptr 2 0 4), (10, zB (decide (v3 < 0))), (9, zI v3), (1, zI v3), (2, .ptr 2 0 0)], B3⟩ ?_
   refine runs_seq ?_
   refine wkr [1] [] ⟨[(1, zI v9)], []⟩ ?_
   refine sqr cv hn ?_
   refine ro9 0 2 2 ⟨[(16, zB (decide (v9 < 0))), (15, zI v9), (1, zI v9)], []⟩ ?_
   rcases dich (decide (v9 < 0)) with hb11 | hb11
   · replace h := cond_t hb11 h
     refine ct hb11 ?_
     refine sqr cv hn ?_
     refine ro9 0 1 1 ⟨[(4, zI (-1)), (16, zB (decide (v9 < 0))), (15, zI v9), (1, zI v9)], []⟩ ?_
     refine runs_ret ?_
     exact fin _ _ h (by kernel_rfl)
   · replace h := cond_f hb11 h
     refine cf hb11 ?_
     refine runs_skip ?_
     refine sqr cv hn ?_
     refine ro9 0 2 2 ⟨[(4, zI v9), (17, zI v9), (16, zB (decide (v9 < 0))), (15, zI v9), (1, zI v9)], []⟩ ?_
     refine runs_ret ?_
     exact fin _ _ h (by kernel_rfl)

set_option maxRecDepth 100000 in
set_option maxHeartbeats 2000000 in
theorem laws_toIntS_spec (a0 : (List Int)) (v0 : (List Int)) (h : laws_toIntS a0 = some v0) : Ax.Spec Try.prog 76 none [.sl 0 (List.map encInt a0)] (.sl 1 (List.map encInt v0) : X) (.junk : X) := by
 let T1 : List (Nat × X) := [(0, .sl 0 (List.map encInt a0))]
 refine walk0 (fn := Try.f76) (fun q0 : (List Int) => (.sl 1 (List.map encInt q0) : X)) (fun q0 : (List Int) => (.junk : X)) v0 ⟨T1, []⟩ Try.func76 rfl (by decide +kernel) fun Γ hn fin => ?_
 rw [laws_toIntS] at h
 refine sqr cv hn ?_
 refine ro9 0 1 1 ⟨(2, .sc (.slice none 0 0)) :: T1, []⟩ ?_
 refine sqr cv hn ?_
 refine ro 0 2 2 ⟨(6, zI (a0.length : Int)) :: (5, .sl 0 (List.map encInt a0)) :: (2, .sc (.slice none 0 0)) :: T1, []⟩ ?_ (he := by rw [show (a0.length : Int) = ((List.map encInt a0).length : Int) from by rw [List.length_map]]; kernel_rfl)
 obtain ⟨hg2, h⟩ := gO_some h
 refine rs 2 ⟨(7, .view 7 1 [] 0) :: (6, zI (a0.length : Int)) :: (5, .sl 0 (List.map encInt a0)) :: (2, .sc (.slice none 0 0)) :: T1, [(7, ⟨1, 1, false, some (.sl 1 (List.map encInt (List.replicate (Int.toNat (a0.length : Int)) 0)))⟩)]⟩ [((a0.length : Int) : Int) = (a0.length : Int) ∧ 0 ≤ ((a0.length : Int) : Int) ∧ tBytes Try.prog 3 * (Int.toNat (a0.length : Int)) ≤ 140737488355328 ∧ (Int.toNat (a0.length : Int)) ≤ 140737488355328] ⟨⟨rfl, hg2.1, mk_side (by kernel_rfl) hg2.2, hg2.2.2⟩, trivial⟩ ?_ (he := by rw [show List.map encInt (List.replicate (Int.toNat (a0.length : Int)) 0) = List.replicate (Int.toNat (a0.length : Int)) (encInt 0) from List.map_replicate]; kernel_rfl)
 refine ro9 3 1 1 ⟨(3, .view 7 1 [] 0) :: (7, .view 7 1 [] 0) :: (6, zI (a0.length : Int)) :: (5, .sl 0 (List.map encInt a0)) :: (2, .sc (.slice none 0 0)) :: T1, [(7, ⟨1, 1, false, some (.sl 1 (List.map encInt (List.replicate (Int.toNat (a0.length : Int)) 0)))⟩)]⟩ ?_
 refine runs_seq ?_
 refine sqr cv hn ?_
 refine ro9 0 1 1 ⟨(4, zI 0) :: (3, .view 7 1 [] 0) :: (7, .view 7 1 [] 0) :: (6, zI (a0.length : Int)) :: (5, .sl 0 (List.map encInt a0)) :: (2, .sc (.slice none 0 0)) :: T1, [(7, ⟨1, 1, false, some (.sl 1 (List.map encInt (List.replicate (Int.toNat (a0.length : Int)) 0)))⟩)]⟩ ?_
 refine runs_block ?_
 refine runs_loopM (σ := List Int × Nat × (List Int)) (fun s => ⟨[(4, zI (s.2.1 : Int)), (3, .view 5000003 0 [] 0), (0, .sl 0 (List.map encInt a0))], [(5000003, ⟨0, 0, false, some (.sl 1 (List.map encInt s.2.2))⟩)]⟩) (fun s => s.1 = List.drop s.2.1 a0 ∧ laws_toIntS_l1 s.1 s.2.1 s.2.2 = some v0) (fun s => s.1.length) (a0, 0, List.replicate (Int.toNat (a0.length : Int)) 0) ⟨rfl, h⟩ (wre [4, 3, 0] [(5000003, 7, false)]) ?_
 rintro ⟨t1, i1, y12⟩ ⟨hd1, h⟩
 refine seq0 ⟨[(4, zI (i1 : Int)), (3, .view 5000003 0 [] 0), (0, .sl 0 (List.map encInt a0))], [(5000003, ⟨0, 0, false, some (.sl 1 (List.map encInt y12))⟩)]⟩ ?_
 refine runs_len 0 (es := List.map encInt a0) (by kernel_rfl) fun hl1 => ?_
 replace hl1 := len_of_map hl1
 cases t1 with
 | nil =>
   rw [laws_toIntS_l1] at h
   have hLn1 := dnil hd1
   refine runs_seq ?_
   refine sqr cv hn ?_
   refine ro9 0 4 4 ⟨[(11, zB (decide ((i1 : Int) < (a0.length : Int)))), (10, zI (a0.length : Int)), (9, .sl 0 (List.map encInt a0)), (8, zI (i1 : Int)), (4, zI (i1 : Int)), (3, .view 5000003 0 [] 0), (0, .sl 0 (List.map encInt a0))], [(5000003, ⟨0, 0, false, some (.sl 1 (List.map encInt y12))⟩)]⟩ ?_ (he := by rw [show (a0.length : Int) = ((List.map encInt a0).length : Int) from by rw [List.length_map]]; kernel_rfl)
   refine cf hLn1 ?_
   refine runs_exit ?_
   repeat refine thenX_exit ?_
   refine block_here ?_
   let B2 : List (Nat × Bx) := [(5000003, ⟨0, 0, false, some (.sl 1 (List.map encInt y12))⟩)]
   refine wkr [3] [(5000003, 5000003, false)] ⟨[(3, .view 5000003 0 [] 0)], B2⟩ ?_
   refine sqr cv hn ?_
   refine ro9 0 2 2 ⟨[(2, .view 5000003 0 [] 0), (21, .view 5000003 0 [] 0), (3, .view 5000003 0 [] 0)], B2⟩ ?_
   refine runs_ret ?_
   exact fin _ _ h (by kernel_rfl)
 | cons x10 t1 =>
   rw [laws_toIntS_l1] at h
   have hLc1 := dcons hd1
   have hx10 := dget hd1
   have hi1 := dinc hd1 hl1
   refine runs_seq ?_
   refine sqr cv hn ?_
   refine ro9 0 4 4 ⟨[(11, zB (decide ((i1 : Int) < (a0.length : Int)))), (10, zI (a0.length : Int)), (9, .sl 0 (List.map encInt a0)), (8, zI (i1 : Int)), (4, zI (i1 : Int)), (3, .view 5000003 0 [] 0), (0, .sl 0 (List.map encInt a0))], [(5000003, ⟨0, 0, false, some (.sl 1 (List.map encInt y12))⟩)]⟩ ?_ (he := by rw [show (a0.length : Int) = ((List.map encInt a0).length : Int) from by rw [List.length_map]]; kernel_rfl)
   refine ct hLc1 ?_
   refine runs_skip ?_
   refine runs_seq ?_
   refine runs_block ?_
   refine rg cv hn ?_
   refine ro 0 4 4 ⟨[(17, zI (i1 : Int)), (16, .sl 0 (List.map encInt a0)), (15, zI (i1 : Int)), (14, .view 5000003 0 [] 0), (11, zB (decide ((i1 : Int) < (a0.length : Int)))), (10, zI (a0.length : Int)), (9, .sl 0 (List.map encInt a0)), (8, zI (i1 : Int)), (4, zI (i1 : Int)), (3, .view 5000003 0 [] 0), (0, .sl 0 (List.map encInt a0))], [(5000003, ⟨0, 0, false, some (.sl 1 (List.map encInt y12))⟩)]⟩ ?_
   refine rix 4 encInt 3 hx10 (ix_nn hx10) ⟨[(18, .rp (zI x10) 0), (17, zI (i1 : Int)), (16, .sl 0 (List.map encInt a0)), (15, zI (i1 : Int)), (14, .view 5000003 0 [] 0), (11, zB (decide ((i1 : Int) < (a0.length : Int)))), (10, zI (a0.length : Int)), (9, .sl 0 (List.map encInt a0)), (8, zI (i1 : Int)), (4, zI (i1 : Int)), (3, .view 5000003 0 [] 0), (0, .sl 0 (List.map encInt a0))], [(5000003, ⟨0, 0, false, some (.sl 1 (List.map encInt y12))⟩)]⟩ ?_
   refine ro 5 1 1 ⟨[(19, zI x10), (18, .rp (zI x10) 0), (17, zI (i1 : Int)), (16, .sl 0 (List.map encInt a0)), (15, zI (i1 : Int)), (14, .view 5000003 0 [] 0), (11, zB (decide ((i1 : Int) < (a0.length : Int)))), (10, zI (a0.length : Int)), (9, .sl 0 (List.map encInt a0)), (8, zI (i1 : Int)), (4, zI (i1 : Int)), (3, .view 5000003 0 [] 0), (0, .sl 0 (List.map encInt a0))], [(5000003, ⟨0, 0, false, some (.sl 1 (List.map encInt y12))⟩)]⟩ ?_
   obtain ⟨x21, hx22, h⟩ := bindO h
   refine rix 6 encInt 3 hx22 (ix_nn hx22) ⟨[(20, .ep 5000003 0 [(0, (Int.toNat (i1 : Int)))] 0), (19, zI x10), (18, .rp (zI x10) 0), (17, zI (i1 : Int)), (16, .sl 0 (List.map encInt a0)), (15, zI (i1 : Int)), (14, .view 5000003 0 [] 0), (11, zB (decide ((i1 : Int) < (a0.length : Int)))), (10, zI (a0.length : Int)), (9, .sl 0 (List.map encInt a0)), (8, zI (i1 : Int)), (4, zI (i1 : Int)), (3, .view 5000003 0 [] 0), (0, .sl 0 (List.map encInt a0))], [(5000003, ⟨0, 0, false, some (.sl 1 (List.map encInt y12))⟩)]⟩ ?_
   refine ra 7 (zI x21 : X) (.sl 1 (List.map encInt (List.set y12 (Int.toNat (i1 : Int)) x10)) : X) ⟨[(20, .ep 5000003 0 [(0, (Int.toNat (i1 : Int)))] 0), (19, zI x10), (18, .rp (zI x10) 0), (17, zI (i1 : Int)), (16, .sl 0 (List.map encInt a0)), (15, zI (i1 : Int)), (14, .view 5000003 0 [] 0), (11, zB (decide ((i1 : Int) < (a0.length : Int)))), (10, zI (a0.length : Int)), (9, .sl 0 (List.map encInt a0)), (8, zI (i1 : Int)), (4, zI (i1 : Int)), (3, .view 5000003 0 [] 0), (0, .sl 0 (List.map encInt a0))], [(5000003, ⟨0, 0, false, some (.sl 1 (List.map encInt (List.set y12 (Int.toNat (i1 : Int)) x10)))⟩), (5000003, ⟨0, 0, false, some (.sl 1 (List.map encInt y12))⟩)]⟩ [X.nav (.sl 1 (List.map encInt y12) : X) [(0, (Int.toNat (i1 : Int)))] = some (zI x21 : X), X.upd false (.sl 1 (List.map encInt y12) : X) [(0, (Int.toNat (i1 : Int)))] (X.puts · 0 [zI x10]) = (.sl 1 (List.map encInt (List.set y12 (Int.toNat (i1 : Int)) x10)) : X)] ⟨nav_one (f := encInt) (t := 0) (by kernel_rfl) hx22, Eq.trans (upd_one (f := encInt) (v := x10) (t := 0) (by kernel_rfl) hx22 (by kernel_rfl)) (by kernel_rfl), trivial⟩ ?_
   refine re0 8 ?_
   refine rg cv hn ?_
   refine ro9 0 3 3 ⟨[(4, zI ((i1 + 1 : Nat) : Int)), (13, zI ((i1 + 1 : Nat) : Int)), (12, zI (i1 : Int)), (20, .ep 5000003 0 [(0, (Int.toNat (i1 : Int)))] 0), (19, zI x10), (18, .rp (zI x10) 0), (17, zI (i1 : Int)), (16, .sl 0 (List.map encInt a0)), (15, zI (i1 : Int)), (14, .view 5000003 0 [] 0), (11, zB (decide ((i1 : Int) < (a0.length : Int)))), (10, zI (a0.length : Int)), (9, .sl 0 (List.map encInt a0)), (8, zI (i1 : Int)), (4, zI (i1 : Int)), (3, .view 5000003 0 [] 0), (0, .sl 0 (List.map encInt a0))], [(5000003, ⟨0, 0, false, some (.sl 1 (List.map encInt (List.set y12 (Int.toNat (i1 : Int)) x10)))⟩), (5000003, ⟨0, 0, false, some (.sl 1 (List.map encInt y12))⟩)]⟩ ?_ (he := by rw [← hi1]; kernel_rfl)
   exact ⟨(t1, i1 + 1, List.set y12 (Int.toNat (i1 : Int)) x10), Nat.lt_succ_self _, ⟨dnext hd1, h⟩, wre [4, 3, 0] [(5000003, 5000003, false)]⟩

set_option maxRecDepth 100000 in
set_option maxHeartbeats 2000000 in
theorem laws_toRep_spec (a0 : SRep) (v0 : SRep) (h : laws_toRep a0 = some v0) : Ax.Spec Try.prog 115 none [encRep a0] (encRep v0 : X) (.junk : X) := by
 refine walk0 (fn := Try.f115) (fun q0 : SRep => (encRep q0 : X)) (fun q0 : SRep => (.junk : X)) v0 ⟨[(0, encRep a0)], []⟩ Try.func115 rfl (by decide +kernel) fun Γ hn fin => ?_
 rw [laws_toRep] at h
 refine sqr cv hn ?_
 refine ro9 0 2 2 ⟨[(2, .ptr 2 1 0), (1, .ptr 1 1 0), (0, encRep a0)], [(2, ⟨1, 1, true, some (.agg [zI 0, zI 0])⟩), (1, ⟨1, 1, true, some (encRep a0)⟩)]⟩ ?_
 refine sqr cv hn ?_
 refine ro9 0 1 1 ⟨[(3, .ptr 3 1 0), (2, .ptr 2 1 0), (1, .ptr 1 1 0), (0, encRep a0)], [(3, ⟨1, 1, true, some (.agg [zI 0, zI 0])⟩), (2, ⟨1, 1, true, some (.agg [zI 0, zI 0])⟩), (1, ⟨1, 1, true, some (encRep a0)⟩)]⟩ ?_
 refine sqr cv hn ?_
 refine ro9 0 4 4 ⟨[(6, .ptr 3 1 0), (5, zI a0.fNode), (4, .ptr 1 1 0), (3, .ptr 3 1 0), (2, .ptr 2 1 0), (1, .ptr 1 1 0), (0, encRep a0)], [(3, ⟨1, 1, true, some (.agg [zI a0.fNode, zI 0])⟩), (3, ⟨1, 1, true, some (.agg [zI 0, zI 0])⟩), (2, ⟨1, 1, true, some (.agg [zI 0, zI 0])⟩), (1, ⟨1, 1, true, some (encRep a0)⟩)]⟩ ?_
 refine sqr cv hn ?_
 refine ro9 0 4 4 ⟨[(9, .ptr 3 1 1), (8, zI a0.fAmt), (7, .ptr 1 1 1), (6, .ptr 3 1 0), (5, zI a0.fNode), (4, .ptr 1 1 0), (3, .ptr 3 1 0), (2, .ptr 2 1 0), (1, .ptr 1 1 0), (0, encRep a0)], [(3, ⟨1, 1, true, some (encRep a0)⟩), (3, ⟨1, 1, true, some (.agg [zI a0.fNode, zI 0])⟩), (3, ⟨1, 1, true, some (.agg [zI 0, zI 0])⟩), (2, ⟨1, 1, true, some (.agg [zI 0, zI 0])⟩), (1, ⟨1, 1, true, some (encRep a0)⟩)]⟩ ?_
 let T2 : List (Nat × X) := [(3, .ptr 3 0 0), (2, .ptr 2 0 0)]
 let B2 : List (Nat × Bx) := [(3, ⟨0, 0, true, some (encRep a0)⟩), (2, ⟨0, 0, true, some (.agg [zI 0, zI 0])⟩)]
 refine wkr [3, 2] [(3, 3, false), (2, 2, false)] ⟨T2, B2⟩ ?_
 refine sqr cv hn ?_
 refine ro9 0 2 2 ⟨(10, encRep a0) :: T2, (2, ⟨0, 0, true, some (encRep a0)⟩) :: B2⟩ ?_
 refine runs_ret ?_
 exact fin _ _ h (by kernel_rfl)

set_option maxRecDepth 100000 in
set_option maxHeartbeats 2000000 in
theorem laws_toRepS_spec (a0 : (List SRep)) (v0 : (List SRep)) (h : laws_toRepS a0 = some v0) : Ax.Spec Try.prog 77 none [.sl 0 (List.map encRep a0)] (.sl 1 (List.map encRep v0) : X) (.junk : X) := by
 let T1 : List (Nat × X) := [(0, .sl 0 (List.map encRep a0))]
 refine walk0 (fn := Try.f77) (fun q0 : (List SRep) => (.sl 1 (List.map encRep q0) : X)) (fun q0 : (List SRep) => (.junk : X)) v0 ⟨T1, []⟩ Try.func77 rfl (by decide +kernel) fun Γ hn fin => ?_
 rw [laws_toRepS] at h
 refine sqr cv hn ?_
 refine ro9 0 1 1 ⟨(2, .sc (.slice none 0 0)) :: T1, []⟩ ?_
 refine sqr cv hn ?_
 refine ro 0 2 2 ⟨(6, zI (a0.length : Int)) :: (5, .sl 0 (List.map encRep a0)) :: (2, .sc (.slice none 0 0)) :: T1, []⟩ ?_ (he := by rw [show (a0.length : Int) = ((List.map encRep a0).length : Int) from by rw [List.length_map]]; kernel_rfl)
 obtain ⟨hg2, h⟩ := gO_some h
 refine rs 2 ⟨(7, .view 7 1 [] 0) :: (6, zI (a0.length : Int)) :: (5, .sl 0 (List.map encRep a0)) :: (2, .sc (.slice none 0 0)) :: T1, [(7, ⟨1, 1, false, some (.sl 1 (List.map encRep (List.replicate (Int.toNat (a0.length : Int)) (SRep.mk 0 0))))⟩)]⟩ [((a0.length : Int) : Int) = (a0.length : Int) ∧ 0 ≤ ((a0.length : Int) : Int) ∧ tBytes Try.prog 119 * (Int.toNat (a0.length : Int)) ≤ 140737488355328 ∧ (Int.toNat (a0.length : Int)) ≤ 140737488355328] ⟨⟨rfl, hg2.1, mk_side (by kernel_rfl) hg2.2, hg2.2.2⟩, trivial⟩ ?_ (he := by rw [show List.map encRep (List.replicate (Int.toNat (a0.length : Int)) (SRep.mk 0 0)) = List.replicate (Int.toNat (a0.length : Int)) (encRep (SRep.mk 0 0)) from List.map_replicate]; kernel_rfl)
 refine ro9 3 1 1 ⟨(3, .view 7 1 [] 0) :: (7, .view 7 1 [] 0) :: (6, zI (a0.length : Int)) :: (5, .sl 0 (List.map encRep a0)) :: (2, .sc (.slice none 0 0)) :: T1, [(7, ⟨1, 1, false, some (.sl 1 (List.map encRep (List.replicate (Int.toNat (a0.length : Int)) (SRep.mk 0 0))))⟩)]⟩ ?_
 refine runs_seq ?_
 refine sqr cv hn ?_
 refine ro9 0 1 1 ⟨(4, zI 0) :: (3, .view 7 1 [] 0) :: (7, .view 7 1 [] 0) :: (6, zI (a0.length : Int)) :: (5, .sl 0 (List.map encRep a0)) :: (2, .sc (.slice none 0 0)) :: T1, [(7, ⟨1, 1, false, some (.sl 1 (List.map encRep (List.replicate (Int.toNat (a0.length : Int)) (SRep.mk 0 0))))⟩)]⟩ ?_
 refine runs_block ?_
 refine runs_loopM (σ := List SRep × Nat × (List SRep)) (fun s => ⟨[(4, zI (s.2.1 : Int)), (3, .view 5000003 0 [] 0), (0, .sl 0 (List.map encRep a0))], [(5000003, ⟨0, 0, false, some (.sl 1 (List.map encRep s.2.2))⟩)]⟩) (fun s => s.1 = List.drop s.2.1 a0 ∧ laws_toRepS_l1 s.1 s.2.1 s.2.2 = some v0) (fun s => s.1.length) (a0, 0, List.replicate (Int.toNat (a0.length : Int)) (SRep.mk 0 0)) ⟨rfl, h⟩ (wre [4, 3, 0] [(5000003, 7, false)]) ?_
 rintro ⟨t1, i1, y14⟩ ⟨hd1, h⟩
 refine seq0 ⟨[(4, zI (i1 : Int)), (3, .view 5000003 0 [] 0), (0, .sl 0 (List.map encRep a0))], [(5000003, ⟨0, 0, false, some (.sl 1 (List.map encRep y14))⟩)]⟩ ?_
 refine runs_len 0 (es := List.map encRep a0) (by kernel_rfl) fun hl1 => ?_
 replace hl1 := len_of_map hl1
 cases t1 with
 | nil =>
   rw [laws_toRepS_l1] at h
   have hLn1 := dnil hd1
   refine runs_seq ?_
   refine sqr cv hn ?_
   refine ro9 0 4 4 ⟨[(11, zB (decide ((i1 : Int) < (a0.length : Int)))), (10, zI (a0.length : Int)), (9, .sl 0 (List.map encRep a0)), (8, zI (i1 : Int)), (4, zI (i1 : Int)), (3, .view 5000003 0 [] 0), (0, .sl 0 (List.map encRep a0))], [(5000003, ⟨0, 0, false, some (.sl 1 (List.map encRep y14))⟩)]⟩ ?_ (he := by rw [show (a0.length : Int) = ((List.map encRep a0).length : Int) from by rw [List.length_map]]; kernel_rfl)
   refine cf hLn1 ?_
   refine runs_exit ?_
   repeat refine thenX_exit ?_
   refine block_here ?_
   let B2 : List (Nat × Bx) := [(5000003, ⟨0, 0, false, some (.sl 1 (List.map encRep y14))⟩)]
   refine wkr [3] [(5000003, 5000003, false)] ⟨[(3, .view 5000003 0 [] 0)], B2⟩ ?_
   refine sqr cv hn ?_
   refine ro9 0 2 2 ⟨[(2, .view 5000003 0 [] 0), (22, .view 5000003 0 [] 0), (3, .view 5000003 0 [] 0)], B2⟩ ?_
   refine runs_ret ?_
   exact fin _ _ h (by kernel_rfl)
 | cons x10 t1 =>
   rw [laws_toRepS_l1] at h
   have hLc1 := dcons hd1
   have hx10 := dget hd1
   have hi1 := dinc hd1 hl1
   refine runs_seq ?_
   refine sqr cv hn ?_
   refine ro9 0 4 4 ⟨[(11, zB (decide ((i1 : Int) < (a0.length : Int)))), (10, zI (a0.length : Int)), (9, .sl 0 (List.map encRep a0)), (8, zI (i1 : Int)), (4, zI (i1 : Int)), (3, .view 5000003 0 [] 0), (0, .sl 0 (List.map encRep a0))], [(5000003, ⟨0, 0, false, some (.sl 1 (List.map encRep y14))⟩)]⟩ ?_ (he := by rw [show (a0.length : Int) = ((List.map encRep a0).length : Int) from by rw [List.length_map]]; kernel_rfl)
   refine ct hLc1 ?_
   refine runs_skip ?_
   refine runs_seq ?_
   refine runs_block ?_
   refine rg cv hn ?_
   refine ro 0 4 4 ⟨[(17, zI (i1 : Int)), (16, .sl 0 (List.map encRep a0)), (15, zI (i1 : Int)), (14, .view 5000003 0 [] 0), (11, zB (decide ((i1 : Int) < (a0.length : Int)))), (10, zI (a0.length : Int)), (9, .sl 0 (List.map encRep a0)), (8, zI (i1 : Int)), (4, zI (i1 : Int)), (3, .view 5000003 0 [] 0), (0, .sl 0 (List.map encRep a0))], [(5000003, ⟨0, 0, false, some (.sl 1 (List.map encRep y14))⟩)]⟩ ?_
   refine rix 4 encRep 136 hx10 (ix_nn hx10) ⟨[(18, .rp (encRep x10) 0), (17, zI (i1 : Int)), (16, .sl 0 (List.map encRep a0)), (15, zI (i1 : Int)), (14, .view 5000003 0 [] 0), (11, zB (decide ((i1 : Int) < (a0.length : Int)))), (10, zI (a0.length : Int)), (9, .sl 0 (List.map encRep a0)), (8, zI (i1 : Int)), (4, zI (i1 : Int)), (3, .view 5000003 0 [] 0), (0, .sl 0 (List.map encRep a0))], [(5000003, ⟨0, 0, false, some (.sl 1 (List.map encRep y14))⟩)]⟩ ?_
   refine ro 5 1 1 ⟨[(19, encRep x10), (18, .rp (encRep x10) 0), (17, zI (i1 : Int)), (16, .sl 0 (List.map encRep a0)), (15, zI (i1 : Int)), (14, .view 5000003 0 [] 0), (11, zB (decide ((i1 : Int) < (a0.length : Int)))), (10, zI (a0.length : Int)), (9, .sl 0 (List.map encRep a0)), (8, zI (i1 : Int)), (4, zI (i1 : Int)), (3, .view 5000003 0 [] 0), (0, .sl 0 (List.map encRep a0))], [(5000003, ⟨0, 0, false, some (.sl 1 (List.map encRep y14))⟩)]⟩ ?_
   obtain ⟨v25, hv26, h⟩ := bindO h
   refine rc 6 ⟨[(20, encRep v25), (19, encRep x10), (18, .rp (encRep x10) 0), (17, zI (i1 : Int)), (16, .sl 0 (List.map encRep a0)), (15, zI (i1 : Int)), (14, .view 5000003 0 [] 0), (11, zB (decide ((i1 : Int) < (a0.length : Int)))), (10, zI (a0.length : Int)), (9, .sl 0 (List.map encRep a0)), (8, zI (i1 : Int)), (4, zI (i1 : Int)), (3, .view 5000003 0 [] 0), (0, .sl 0 (List.map encRep a0))], [(5000003, ⟨0, 0, false, some (.sl 1 (List.map encRep y14))⟩)]⟩ (laws_toRep_spec x10 v25 hv26) ?_
   obtain ⟨x27, hx28, h⟩ := bindO h
   refine rix 7 encRep 119 hx28 (ix_nn hx28) ⟨[(21, .ep 5000003 0 [(0, (Int.toNat (i1 : Int)))] 0), (20, encRep v25), (19, encRep x10), (18, .rp (encRep x10) 0), (17, zI (i1 : Int)), (16, .sl 0 (List.map encRep a0)), (15, zI (i1 : Int)), (14, .view 5000003 0 [] 0), (11, zB (decide ((i1 : Int) < (a0.length : Int)))), (10, zI (a0.length : Int)), (9, .sl 0 (List.map encRep a0)), (8, zI (i1 : Int)), (4, zI (i1 : Int)), (3, .view 5000003 0 [] 0), (0, .sl 0 (List.map encRep a0))], [(5000003, ⟨0, 0, false, some (.sl 1 (List.map encRep y14))⟩)]⟩ ?_
   refine ra 8 (encRep x27 : X) (.sl 1 (List.map encRep (List.set y14 (Int.toNat (i1 : Int)) v25)) : X) ⟨[(21, .ep 5000003 0 [(0, (Int.toNat (i1 : Int)))] 0), (20, encRep v25), (19, encRep x10), (18, .rp (encRep x10) 0), (17, zI (i1 : Int)), (16, .sl 0 (List.map encRep a0)), (15, zI (i1 : Int)), (14, .view 5000003 0 [] 0), (11, zB (decide ((i1 : Int) < (a0.length : Int)))), (10, zI (a0.length : Int)), (9, .sl 0 (List.map encRep a0)), (8, zI (i1 : Int)), (4, zI (i1 : Int)), (3, .view 5000003 0 [] 0), (0, .sl 0 (List.map encRep a0))], [(5000003, ⟨0, 0, false, some (.sl 1 (List.map encRep (List.set y14 (Int.toNat (i1 : Int)) v25)))⟩), (5000003, ⟨0, 0, false, some (.sl 1 (List.map encRep y14))⟩)]⟩ [X.nav (.sl 1 (List.map encRep y14) : X) [(0, (Int.toNat (i1 : Int)))] = some (encRep x27 : X), X.upd false (.sl 1 (List.map encRep y14) : X) [(0, (Int.toNat (i1 : Int)))] (X.puts · 0 [zI v25.fNode, zI v25.fAmt]) = (.sl 1 (List.map encRep (List.set y14 (Int.toNat (i1 : Int)) v25)) : X)] ⟨nav_one (f := encRep) (t := 0) (by kernel_rfl) hx28, Eq.trans (upd_one (f := encRep) (v := v25) (t := 0) (by kernel_rfl) hx28 (by kernel_rfl)) (by kernel_rfl), trivial⟩ ?_
   refine re0 9 ?_
   refine rg cv hn ?_
   refine ro9 0 3 3 ⟨[(4, zI ((i1 + 1 : Nat) : Int)), (13, zI ((i1 + 1 : Nat) : Int)), (12, zI (i1 : Int)), (21, .ep 5000003 0 [(0, (Int.toNat (i1 : Int)))] 0), (20, encRep v25), (19, encRep x10), (18, .rp (encRep x10) 0), (17, zI (i1 : Int)), (16, .sl 0 (List.map encRep a0)), (15, zI (i1 : Int)), (14, .view 5000003 0 [] 0), (11, zB (decide ((i1 : Int) < (a0.length : Int)))), (10, zI (a0.length : Int)), (9, .sl 0 (List.map encRep a0)), (8, zI (i1 : Int)), (4, zI (i1 : Int)), (3, .view 5000003 0 [] 0), (0, .sl 0 (List.map encRep a0))], [(5000003, ⟨0, 0, false, some (.sl 1 (List.map encRep (List.set y14 (Int.toNat (i1 : Int)) v25)))⟩), (5000003, ⟨0, 0, false, some (.sl 1 (List.map encRep y14))⟩)]⟩ ?_ (he := by rw [← hi1]; kernel_rfl)
   exact ⟨(t1, i1 + 1, List.set y14 (Int.toNat (i1 : Int)) v25), Nat.lt_succ_self _, ⟨dnext hd1, h⟩, wre [4, 3, 0] [(5000003, 5000003, false)]⟩

set_option maxRecDepth 100000 in
set_option maxHeartbeats 2000000 in
theorem laws_toAcct_spec (a0 : SAcct) (v0 : SAcct) (h : laws_toAcct a0 = some v0) : Ax.Spec Try.prog 27 none [encAcct0 a0] (encAcct1 v0 : X) (.junk : X) := by
 refine walk0 (fn := Try.f27) (fun q0 : SAcct => (encAcct1 q0 : X)) (fun q0 : SAcct => (.junk : X)) v0 ⟨[(0, encAcct0 a0)], []⟩ Try.func27 rfl (by decide +kernel) fun Γ hn fin => ?_
 rw [laws_toAcct] at h
 refine sqr cv hn ?_
 refine ro9 0 2 2 ⟨[(2, .ptr 2 1 0), (1, .ptr 1 1 0), (0, encAcct0 a0)], [(2, ⟨1, 1, true, some (.agg [zI 0, zI 0, zI 0, .sl 1 (List.map encInt []), .sl 1 (List.map encRep [])])⟩), (1, ⟨1, 1, true, some (encAcct0 a0)⟩)]⟩ ?_
 refine sqr cv hn ?_
 refine ro9 0 1 1 ⟨[(3, .ptr 3 1 0), (2, .ptr 2 1 0), (1, .ptr 1 1 0), (0, encAcct0 a0)], [(3, ⟨1, 1, true, some (.agg [zI 0, zI 0, zI 0, .sl 1 (List.map encInt []), .sl 1 (List.map encRep [])])⟩), (2, ⟨1, 1, true, some (.agg [zI 0, zI 0, zI 0, .sl 1 (List.map encInt []), .sl 1 (List.map encRep [])])⟩), (1, ⟨1, 1, true, some (encAcct0 a0)⟩)]⟩ ?_
 refine sqr cv hn ?_
 refine ro9 0 4 4 ⟨[(6, .ptr 3 1 0), (5, zI a0.fHave), (4, .ptr 1 1 0), (3, .ptr 3 1 0), (2, .ptr 2 1 0), (1, .ptr 1 1 0), (0, encAcct0 a0)], [(3, ⟨1, 1, true, some (.agg [zI a0.fHave, zI 0, zI 0, .sl 1 (List.map encInt []), .sl 1 (List.map encRep [])])⟩), (3, ⟨1, 1, true, some (.agg [zI 0, zI 0, zI 0, .sl 1 (List.map encInt []), .sl 1 (List.map encRep [])])⟩), (2, ⟨1, 1, true, some (.agg [zI 0, zI 0, zI 0, .sl 1 (List.map encInt []), .sl 1 (List.map encRep [])])⟩), (1, ⟨1, 1, true, some (encAcct0 a0)⟩)]⟩ ?_
 refine sqr cv hn ?_
 refine ro9 0 4 4 ⟨[(9, .ptr 3 1 1), (8, zI a0.fState), (7, .ptr 1 1 1), (6, .ptr 3 1 0), (5, zI a0.fHave), (4, .ptr 1 1 0), (3, .ptr 3 1 0), (2, .ptr 2 1 0), (1, .ptr 1 1 0), (0, encAcct0 a0)], [(3, ⟨1, 1, true, some (.agg [zI a0.fHave, zI a0.fState, zI 0, .sl 1 (List.map encInt []), .sl 1 (List.map encRep [])])⟩), (3, ⟨1, 1, true, some (.agg [zI a0.fHave, zI 0, zI 0, .sl 1 (List.map encInt []), .sl 1 (List.map encRep [])])⟩), (3, ⟨1, 1, true, some (.agg [zI 0, zI 0, zI 0, .sl 1 (List.map encInt []), .sl 1 (List.map encRep [])])⟩), (2, ⟨1, 1, true, some (.agg [zI 0, zI 0, zI 0, .sl 1 (List.map encInt []), .sl 1 (List.map encRep [])])⟩), (1, ⟨1, 1, true, some (encAcct0 a0)⟩)]⟩ ?_
 let T3 : List (Nat × X) := [(3, .ptr 3 0 0), (2, .ptr 2 0 0), (1, .ptr 1 0 0)]
 let B3 : List (Nat × Bx) := [(3, ⟨0, 0, true, some (.agg [zI a0.fHave, zI a0.fState, zI 0, .sl 1 (List.map encInt []), .sl 1 (List.map encRep [])])⟩), (2, ⟨0, 0, true, some (.agg [zI 0, zI 0, zI 0, .sl 1 (List.map encInt []), .sl 1 (List.map encRep [])])⟩), (1, ⟨0, 0, true, some (encAcct0 a0)⟩)]
 refine wkr [3, 2, 1] [(3, 3, false), (2, 2, false), (1, 1, false)] ⟨T3, B3⟩ ?_
 refine sqr cv hn ?_
 refine ro9 0 4 4 ⟨(12, .ptr 3 0 2) :: (11, zI a0.fBy) :: (10, .ptr 1 0 2) :: T3, (3, ⟨0, 0, true, some (.agg [zI a0.fHave, zI a0.fState, zI a0.fBy, .sl 1 (List.map encInt []), .sl 1 (List.map encRep [])])⟩) :: B3⟩ ?_
 refine sqr cv hn ?_
 refine ro 0 2 2 ⟨(14, .sl 0 (List.map encInt a0.fMarks)) :: (13, .ptr 1 0 3) :: (12, .ptr 3 0 2) :: (11, zI a0.fBy) :: (10, .ptr 1 0 2) :: T3, (3, ⟨0, 0, true, some (.agg [zI a0.fHave, zI a0.fState, zI a0.fBy, .sl 1 (List.map encInt []), .sl 1 (List.map encRep [])])⟩) :: B3⟩ ?_
 obtain ⟨v3, hv4, h⟩ := bindO h
 refine rc 2 ⟨(15, .view 15 1 [] 0) :: (14, .sl 0 (List.map encInt a0.fMarks)) :: (13, .ptr 1 0 3) :: (12, .ptr 3 0 2) :: (11, zI a0.fBy) :: (10, .ptr 1 0 2) :: T3, (15, ⟨1, 1, false, some (.sl 1 (List.map encInt v3))⟩) :: (3, ⟨0, 0, true, some (.agg [zI a0.fHave, zI a0.fState, zI a0.fBy, .sl 1 (List.map encInt []), .sl 1 (List.map encRep [])])⟩) :: B3⟩ (laws_toIntS_spec a0.fMarks v3 hv4) ?_
 refine ro9 3 2 2 ⟨(16, .ptr 3 0 3) :: (15, .view 15 1 [] 0) :: (14, .sl 0 (List.map encInt a0.fMarks)) :: (13, .ptr 1 0 3) :: (12, .ptr 3 0 2) :: (11, zI a0.fBy) :: (10, .ptr 1 0 2) :: T3, (3, ⟨0, 1, true, some (.agg [zI a0.fHave, zI a0.fState, zI a0.fBy, .sl 1 (List.map encInt v3), .sl 1 (List.map encRep [])])⟩) :: (15, ⟨1, 2, false, some (.junk)⟩) :: (15, ⟨1, 1, false, some (.sl 1 (List.map encInt v3))⟩) :: (3, ⟨0, 0, true, some (.agg [zI a0.fHave, zI a0.fState, zI a0.fBy, .sl 1 (List.map encInt []), .sl 1 (List.map encRep [])])⟩) :: B3⟩ ?_
 let T4 : List (Nat × X) := [(3, .ptr 3 0 0), (2, .ptr 2 0 0), (1, .ptr 1 0 0)]
 let B4 : List (Nat × Bx) := [(3, ⟨0, 0, true, some (.agg [zI a0.fHave, zI a0.fState, zI a0.fBy, .sl 1 (List.map encInt v3), .sl 1 (List.map encRep [])])⟩), (2, ⟨0, 0, true, some (.agg [zI 0, zI 0, zI 0, .sl 1 (List.map encInt []), .sl 1 (List.map encRep [])])⟩), (1, ⟨0, 0, true, some (encAcct0 a0)⟩)]
 refine wkr [3, 2, 1] [(3, 3, false), (2, 2, false), (1, 1, false)] ⟨T4, B4⟩ ?_
 refine sqr cv hn ?_
 refine ro 0 2 2 ⟨(18, .sl 0 (List.map encRep a0.fReps)) :: (17, .ptr 1 0 4) :: T4, B4⟩ ?_
 obtain ⟨v5, hv6, h⟩ := bindO h
 refine rc 2 ⟨(19, .view 19 1 [] 0) :: (18, .sl 0 (List.map encRep a0.fReps)) :: (17, .ptr 1 0 4) :: T4, (19, ⟨1, 1, false, some (.sl 1 (List.map encRep v5))⟩) :: B4⟩ (laws_toRepS_spec a0.fReps v5 hv6) ?_
 refine ro9 3 2 2 ⟨(20, .ptr 3 0 4) :: (19, .view 19 1 [] 0) :: (18, .sl 0 (List.map encRep a0.fReps)) :: (17, .ptr 1 0 4) :: T4, (3, ⟨0, 1, true, some (.agg [zI a0.fHave, zI a0.fState, zI a0.fBy, .sl 1 (List.map encInt v3), .sl 1 (List.map encRep v5)])⟩) :: (19, ⟨1, 2, false, some (.junk)⟩) :: (19, ⟨1, 1, false, some (.sl 1 (List.map encRep v5))⟩) :: B4⟩ ?_
 let T5 : List (Nat × X) := [(3, .ptr 3 0 0), (2, .ptr 2 0 0)]
 let B5 : List (Nat × Bx) := [(3, ⟨0, 0, true, some (.agg [zI a0.fHave, zI a0.fState, zI a0.fBy, .sl 1 (List.map encInt v3), .sl 1 (List.map encRep v5)])⟩), (2, ⟨0, 0, true, some (.agg [zI 0, zI 0, zI 0, .sl 1 (List.map encInt []), .sl 1 (List.map encRep [])])⟩)]
 refine wkr [3, 2] [(3, 3, false), (2, 2, false)] ⟨T5, B5⟩ ?_
 refine sqr cv hn ?_
 refine ro9 0 2 2 ⟨(21, .agg [zI a0.fHave, zI a0.fState, zI a0.fBy, .view 3 0 [] 3, .view 3 0 [] 4]) :: T5, (2, ⟨0, 1, true, some (.agg [zI a0.fHave, zI a0.fState, zI a0.fBy, .sl 1 (List.map encInt v3), .sl 1 (List.map encRep v5)])⟩) :: (3, ⟨0, 2, true, some (.agg [zI a0.fHave, zI a0.fState, zI a0.fBy, .junk, .junk])⟩) :: (3, ⟨0, 1, true, some (.agg [zI a0.fHave, zI a0.fState, zI a0.fBy, .junk, .sl 1 (List.map encRep v5)])⟩) :: B5⟩ ?_
 refine runs_ret ?_
 exact fin _ _ h (by kernel_rfl)

set_option maxRecDepth 100000 in
set_option maxHeartbeats 2000000 in
theorem laws_eqIntS_spec (a0 : (List Int)) (a1 : (List Int)) (v0 : Bool) (h : laws_eqIntS a0 a1 = some v0) : Ax.Spec Try.prog 80 none [.sl 0 (List.map encInt a0), .sl 0 (List.map encInt a1)] (zB v0 : X) (.junk : X) := by
 let T1 : List (Nat × X) := [(0, .sl 0 (List.map encInt a0)), (1, .sl 0 (List.map encInt a1))]
 refine walk0 (fn := Try.f80) (fun q0 : Bool => (zB q0 : X)) (fun q0 : Bool => (.junk : X)) v0 ⟨T1, []⟩ Try.func80 rfl (by decide +kernel) fun Γ hn fin => ?_
 rw [laws_eqIntS] at h
 refine sqr cv hn ?_
 refine ro9 0 1 1 ⟨(4, zB false) :: T1, []⟩ ?_
 refine runs_seq ?_
 refine sqr cv hn ?_
 refine ro9 0 5 5 ⟨(10, zB ((a0.length : Int) != (a1.length : Int))) :: (9, zI (a1.length : Int)) :: (8, .sl 0 (List.map encInt a1)) :: (7, zI (a0.length : Int)) :: (6, .sl 0 (List.map encInt a0)) :: (4, zB false) :: T1, []⟩ ?_ (he := by rw [show (a0.length : Int) = ((List.map encInt a0).length : Int) from by rw [List.length_map]]; rw [show (a1.length : Int) = ((List.map encInt a1).length : Int) from by rw [List.length_map]]; kernel_rfl)
 rcases dich ((a0.length : Int) != (a1.length : Int)) with hb2 | hb2
 · replace h := cond_t hb2 h
   refine ct hb2 ?_
   let T3 : List (Nat × X) := [(0, .sl 0 (List.map encInt a0)), (1, .sl 0 (List.map encInt a1))]
   refine wkr [0, 1] [] ⟨T3, []⟩ ?_
   refine sqr cv hn ?_
   refine ro9 0 1 1 ⟨(4, zB false) :: T3, []⟩ ?_
   refine runs_ret ?_
   exact fin _ _ h (by kernel_rfl)
 · replace h := cond_f hb2 h
   refine cf hb2 ?_
   refine runs_skip ?_
   refine runs_seq ?_
   let T5 : List (Nat × X) := [(0, .sl 0 (List.map encInt a0)), (1, .sl 0 (List.map encInt a1))]
   refine wkr [0, 1] [] ⟨T5, []⟩ ?_
   refine sqr cv hn ?_
   refine ro9 0 1 1 ⟨(5, zI 0) :: T5, []⟩ ?_
   refine runs_block ?_
   refine runs_loopM (σ := List Int × Nat) (fun s => ⟨[(5, zI (s.2 : Int)), (0, .sl 0 (List.map encInt a0)), (1, .sl 0 (List.map encInt a1))], []⟩) (fun s => s.1 = List.drop s.2 a0 ∧ laws_eqIntS_l1 a1 s.1 s.2 = some v0) (fun s => s.1.length) (a0, 0) ⟨rfl, h⟩ (wre [5, 0, 1] []) ?_
   rintro ⟨t1, i1⟩ ⟨hd1, h⟩
   refine seq0 ⟨[(5, zI (i1 : Int)), (0, .sl 0 (List.map encInt a0)), (1, .sl 0 (List.map encInt a1))], []⟩ ?_
   refine runs_len 0 (es := List.map encInt a0) (by kernel_rfl) fun hl1 => ?_
   replace hl1 := len_of_map hl1
   cases t1 with
   | nil =>
     rw [laws_eqIntS_l1] at h
     have hLn1 := dnil hd1
     refine runs_seq ?_
     refine sqr cv hn ?_
     refine ro9 0 4 4 ⟨[(14, zB (decide ((i1 : Int) < (a0.length : Int)))), (13, zI (a0.length : Int)), (12, .sl 0 (List.map encInt a0)), (11, zI (i1 : Int)), (5, zI (i1 : Int)), (0, .sl 0 (List.map encInt a0)), (1, .sl 0 (List.map encInt a1))], []⟩ ?_ (he := by rw [show (a0.length : Int) = ((List.map encInt a0).length : Int) from by rw [List.length_map]]; kernel_rfl)
     refine cf hLn1 ?_
     refine runs_exit ?_
     repeat refine thenX_exit ?_
     refine block_here ?_
     refine wkr [] [] ⟨[], []⟩ ?_
     refine sqr cv hn ?_
     refine ro9 0 1 1 ⟨[(4, zB true)], []⟩ ?_
     refine runs_ret ?_
     exact fin _ _ h (by kernel_rfl)
   | cons x10 t1 =>
     rw [laws_eqIntS_l1] at h
     have hLc1 := dcons hd1
     have hx10 := dget hd1
     have hi1 := dinc hd1 hl1
     refine runs_seq ?_
     refine sqr cv hn ?_
     refine ro9 0 4 4 ⟨[(14, zB (decide ((i1 : Int) < (a0.length : Int)))), (13, zI (a0.length : Int)), (12, .sl 0 (List.map encInt a0)), (11, zI (i1 : Int)), (5, zI (i1 : Int)), (0, .sl 0 (List.map encInt a0)), (1, .sl 0 (List.map encInt a1))], []⟩ ?_ (he := by rw [show (a0.length : Int) = ((List.map encInt a0).length : Int) from by rw [List.length_map]]; kernel_rfl)
     refine ct hLc1 ?_
     refine runs_skip ?_
     refine runs_seq ?_
     refine runs_block ?_
     refine runs_seq ?_
     refine rgT cv mixed hn ?_
     refine roT 0 2 2 ⟨[(18, zI (i1 : Int)), (17, .sl 0 (List.map encInt a0)), (14, zB (decide ((i1 : Int) < (a0.length : Int)))), (13, zI (a0.length : Int)), (12, .sl 0 (List.map encInt a0)), (11, zI (i1 : Int)), (5, zI (i1 : Int)), (0, .sl 0 (List.map encInt a0)), (1, .sl 0 (List.map encInt a1))], []⟩ ?_
     refine rixT 2 encInt 3 hx10 (ix_nn hx10) ⟨[(19, .rp (zI x10) 0), (18, zI (i1 : Int)), (17, .sl 0 (List.map encInt a0)), (14, zB (decide ((i1 : Int) < (a0.length : Int)))), (13, zI (a0.length : Int)), (12, .sl 0 (List.map encInt a0)), (11, zI (i1 : Int)), (5, zI (i1 : Int)), (0, .sl 0 (List.map encInt a0)), (1, .sl 0 (List.map encInt a1))], []⟩ ?_
     refine roT 3 3 3 ⟨[(22, zI (i1 : Int)), (21, .sl 0 (List.map encInt a1)), (20, zI x10), (19, .rp (zI x10) 0), (18, zI (i1 : Int)), (17, .sl 0 (List.map encInt a0)), (14, zB (decide ((i1 : Int) < (a0.length : Int)))), (13, zI (a0.length : Int)), (12, .sl 0 (List.map encInt a0)), (11, zI (i1 : Int)), (5, zI (i1 : Int)), (0, .sl 0 (List.map encInt a0)), (1, .sl 0 (List.map encInt a1))], []⟩ ?_
     obtain ⟨x20, hx21, h⟩ := bindO h
     refine rixT 6 encInt 3 hx21 (ix_nn hx21) ⟨[(23, .rp (zI x20) 0), (22, zI (i1 : Int)), (21, .sl 0 (List.map encInt a1)), (20, zI x10), (19, .rp (zI x10) 0), (18, zI (i1 : Int)), (17, .sl 0 (List.map encInt a0)), (14, zB (decide ((i1 : Int) < (a0.length : Int)))), (13, zI (a0.length : Int)), (12, .sl 0 (List.map encInt a0)), (11, zI (i1 : Int)), (5, zI (i1 : Int)), (0, .sl 0 (List.map encInt a0)), (1, .sl 0 (List.map encInt a1))], []⟩ ?_
     refine roT9 7 2 2 ⟨[(25, zB (x10 != x20)), (24, zI x20), (23, .rp (zI x20) 0), (22, zI (i1 : Int)), (21, .sl 0 (List.map encInt a1)), (20, zI x10), (19, .rp (zI x10) 0), (18, zI (i1 : Int)), (17, .sl 0 (List.map encInt a0)), (14, zB (decide ((i1 : Int) < (a0.length : Int)))), (13, zI (a0.length : Int)), (12, .sl 0 (List.map encInt a0)), (11, zI (i1 : Int)), (5, zI (i1 : Int)), (0, .sl 0 (List.map encInt a0)), (1, .sl 0 (List.map encInt a1))], []⟩ ?_
     rcases dich (x10 != x20) with hb22 | hb22
     · replace h := cond_t hb22 h
       refine ct hb22 ?_
       refine sqr cv hn ?_
       refine ro9 0 1 1 ⟨[(4, zB false), (25, zB (x10 != x20)), (24, zI x20), (23, .rp (zI x20) 0), (22, zI (i1 : Int)), (21, .sl 0 (List.map encInt a1)), (20, zI x10), (19, .rp (zI x10) 0), (18, zI (i1 : Int)), (17, .sl 0 (List.map encInt a0)), (14, zB (decide ((i1 : Int) < (a0.length : Int)))), (13, zI (a0.length : Int)), (12, .sl 0 (List.map encInt a0)), (11, zI (i1 : Int)), (5, zI (i1 : Int)), (0, .sl 0 (List.map encInt a0)), (1, .sl 0 (List.map encInt a1))], []⟩ ?_
       refine runs_ret ?_
       exact fin _ _ h (by kernel_rfl)
     · replace h := cond_f hb22 h
       refine cf hb22 ?_
       refine runs_skip ?_
       refine rg cv hn ?_
       refine ro9 0 3 3 ⟨[(5, zI ((i1 + 1 : Nat) : Int)), (16, zI ((i1 + 1 : Nat) : Int)), (15, zI (i1 : Int)), (25, zB (x10 != x20)), (24, zI x20), (23, .rp (zI x20) 0), (22, zI (i1 : Int)), (21, .sl 0 (List.map encInt a1)), (20, zI x10), (19, .rp (zI x10) 0), (18, zI (i1 : Int)), (17, .sl 0 (List.map encInt a0)), (14, zB (decide ((i1 : Int) < (a0.length : Int)))), (13, zI (a0.length : Int)), (12, .sl 0 (List.map encInt a0)), (11, zI (i1 : Int)), (5, zI (i1 : Int)), (0, .sl 0 (List.map encInt a0)), (1, .sl 0 (List.map encInt a1))], []⟩ ?_ (he := by rw [← hi1]; kernel_rfl)
       exact ⟨(t1, i1 + 1), Nat.lt_succ_self _, ⟨dnext hd1, h⟩, wre [5, 0, 1] []⟩

set_option maxRecDepth 100000 in
set_option maxHeartbeats 2000000 in
theorem laws_eqRep_spec (a0 : SRep) (a1 : SRep) (v0 : Bool) (h : laws_eqRep a0 a1 = some v0) : Ax.Spec Try.prog 116 none [encRep a0, encRep a1] (zB v0 : X) (.junk : X) := by
 refine walk0 (fn := Try.f116) (fun q0 : Bool => (zB q0 : X)) (fun q0 : Bool => (.junk : X)) v0 ⟨[(0, encRep a0), (1, encRep a1)], []⟩ Try.func116 rfl (by decide +kernel) fun Γ hn fin => ?_
 rw [laws_eqRep] at h
 refine sqr cv hn ?_
 refine ro9 0 3 3 ⟨[(4, zB false), (3, .ptr 3 1 0), (2, .ptr 2 1 0), (0, encRep a0), (1, encRep a1)], [(3, ⟨1, 1, true, some (encRep a1)⟩), (2, ⟨1, 1, true, some (encRep a0)⟩)]⟩ ?_
 refine runs_seq ?_
 refine sqr cv hn ?_
 refine ro9 0 5 5 ⟨[(9, zB (a0.fNode != a1.fNode)), (8, zI a1.fNode), (7, .ptr 3 1 0), (6, zI a0.fNode), (5, .ptr 2 1 0), (4, zB false), (3, .ptr 3 1 0), (2, .ptr 2 1 0), (0, encRep a0), (1, encRep a1)], [(3, ⟨1, 1, true, some (encRep a1)⟩), (2, ⟨1, 1, true, some (encRep a0)⟩)]⟩ ?_
 rcases dich (a0.fNode != a1.fNode) with hb2 | hb2
 · replace h := cond_t hb2 h
   refine ct hb2 ?_
   let T3 : List (Nat × X) := [(3, .ptr 3 0 0), (2, .ptr 2 0 0)]
   let B3 : List (Nat × Bx) := [(3, ⟨0, 0, true, some (encRep a1)⟩), (2, ⟨0, 0, true, some (encRep a0)⟩)]
   refine wkr [3, 2] [(3, 3, false), (2, 2, false)] ⟨T3, B3⟩ ?_
   refine sqr cv hn ?_
   refine ro9 0 1 1 ⟨(4, zB false) :: T3, B3⟩ ?_
   refine runs_ret ?_
   exact fin _ _ h (by kernel_rfl)
 · replace h := cond_f hb2 h
   refine cf hb2 ?_
   refine runs_skip ?_
   refine runs_seq ?_
   let T4 : List (Nat × X) := [(3, .ptr 3 0 0), (2, .ptr 2 0 0)]
   let B4 : List (Nat × Bx) := [(3, ⟨0, 0, true, some (encRep a1)⟩), (2, ⟨0, 0, true, some (encRep a0)⟩)]
   refine wkr [3, 2] [(3, 3, false), (2, 2, false)] ⟨T4, B4⟩ ?_
   refine sqr cv hn ?_
   refine ro9 0 5 5 ⟨(14, zB (a0.fAmt != a1.fAmt)) :: (13, zI a1.fAmt) :: (12, .ptr 3 0 1) :: (11, zI a0.fAmt) :: (10, .ptr 2 0 1) :: T4, B4⟩ ?_
   rcases dich (a0.fAmt != a1.fAmt) with hb3 | hb3
   · replace h := cond_t hb3 h
     refine ct hb3 ?_
     refine wkr [] [] ⟨[], []⟩ ?_
     refine sqr cv hn ?_
     refine ro9 0 1 1 ⟨[(4, zB false)], []⟩ ?_
     refine runs_ret ?_
     exact fin _ _ h (by kernel_rfl)
   · replace h := cond_f hb3 h
     refine cf hb3 ?_
     refine runs_skip ?_
     refine wkr [] [] ⟨[], []⟩ ?_
     refine sqr cv hn ?_
     refine ro9 0 1 1 ⟨[(4, zB true)], []⟩ ?_
     refine runs_ret ?_
     exact fin _ _ h (by kernel_rfl)

set_option maxRecDepth 100000 in
set_option maxHeartbeats 2000000 in
theorem laws_eqRepS_spec (a0 : (List SRep)) (a1 : (List SRep)) (v0 : Bool) (h : laws_eqRepS a0 a1 = some v0) : Ax.Spec Try.prog 81 none [.sl 0 (List.map encRep a0), .sl 0 (List.map encRep a1)] (zB v0 : X) (.junk : X) := by
 let T1 : List (Nat × X) := [(0, .sl 0 (List.map encRep a0)), (1, .sl 0 (List.map encRep a1))]
 refine walk0 (fn := Try.f81) (fun q0 : Bool => (zB q0 : X)) (fun q0 : Bool => (.junk : X)) v0 ⟨T1, []⟩ Try.func81 rfl (by decide +kernel) fun Γ hn fin => ?_
 rw [laws_eqRepS] at h
 refine sqr cv hn ?_
 refine ro9 0 1 1 ⟨(4, zB false) :: T1, []⟩ ?_
 refine runs_seq ?_
 refine sqr cv hn ?_
 refine ro9 0 5 5 ⟨(10, zB ((a0.length : Int) != (a1.length : Int))) :: (9, zI (a1.length : Int)) :: (8, .sl 0 (List.map encRep a1)) :: (7, zI (a0.length : Int)) :: (6, .sl 0 (List.map encRep a0)) :: (4, zB false) :: T1, []⟩ ?_ (he := by rw [show (a0.length : Int) = ((List.map encRep a0).length : Int) from by rw [List.length_map]]; rw [show (a1.length : Int) = ((List.map encRep a1).length : Int) from by rw [List.length_map]]; kernel_rfl)
 rcases dich ((a0.length : Int) != (a1.length : Int)) with hb2 | hb2
 · replace h := cond_t hb2 h
   refine ct hb2 ?_
   let T3 : List (Nat × X) := [(0, .sl 0 (List.map encRep a0)), (1, .sl 0 (List.map encRep a1))]
   refine wkr [0, 1] [] ⟨T3, []⟩ ?_
   refine sqr cv hn ?_
   refine ro9 0 1 1 ⟨(4, zB false) :: T3, []⟩ ?_
   refine runs_ret ?_
   exact fin _ _ h (by kernel_rfl)
 · replace h := cond_f hb2 h
   refine cf hb2 ?_
   refine runs_skip ?_
   refine runs_seq ?_
   let T5 : List (Nat × X) := [(0, .sl 0 (List.map encRep a0)), (1, .sl 0 (List.map encRep a1))]
   refine wkr [0, 1] [] ⟨T5, []⟩ ?_
   refine sqr cv hn ?_
   refine ro9 0 1 1 ⟨(5, zI 0) :: T5, []⟩ ?_
   refine runs_block ?_
   refine runs_loopM (σ := List SRep × Nat) (fun s => ⟨[(5, zI (s.2 : Int)), (0, .sl 0 (List.map encRep a0)), (1, .sl 0 (List.map encRep a1))], []⟩) (fun s => s.1 = List.drop s.2 a0 ∧ laws_eqRepS_l1 a1 s.1 s.2 = some v0) (fun s => s.1.length) (a0, 0) ⟨rfl, h⟩ (wre [5, 0, 1] []) ?_
   rintro ⟨t1, i1⟩ ⟨hd1, h⟩
   refine seq0 ⟨[(5, zI (i1 : Int)), (0, .sl 0 (List.map encRep a0)), (1, .sl 0 (List.map encRep a1))], []⟩ ?_
   refine runs_len 0 (es := List.map encRep a0) (by kernel_rfl) fun hl1 => ?_
   replace hl1 := len_of_map hl1
   cases t1 with
   | nil =>
     rw [laws_eqRepS_l1] at h
     have hLn1 := dnil hd1
     refine runs_seq ?_
     refine sqr cv hn ?_
     refine ro9 0 4 4 ⟨[(14, zB (decide ((i1 : Int) < (a0.length : Int)))), (13, zI (a0.length : Int)), (12, .sl 0 (List.map encRep a0)), (11, zI (i1 : Int)), (5, zI (i1 : Int)), (0, .sl 0 (List.map encRep a0)), (1, .sl 0 (List.map encRep a1))], []⟩ ?_ (he := by rw [show (a0.length : Int) = ((List.map encRep a0).length : Int) from by rw [List.length_map]]; kernel_rfl)
     refine cf hLn1 ?_
     refine runs_exit ?_
     repeat refine thenX_exit ?_
     refine block_here ?_
     refine wkr [] [] ⟨[], []⟩ ?_
     refine sqr cv hn ?_
     refine ro9 0 1 1 ⟨[(4, zB true)], []⟩ ?_
     refine runs_ret ?_
     exact fin _ _ h (by kernel_rfl)
   | cons x10 t1 =>
     rw [laws_eqRepS_l1] at h
     have hLc1 := dcons hd1
     have hx10 := dget hd1
     have hi1 := dinc hd1 hl1
     refine runs_seq ?_
     refine sqr cv hn ?_
     refine ro9 0 4 4 ⟨[(14, zB (decide ((i1 : Int) < (a0.length : Int)))), (13, zI (a0.length : Int)), (12, .sl 0 (List.map encRep a0)), (11, zI (i1 : Int)), (5, zI (i1 : Int)), (0, .sl 0 (List.map encRep a0)), (1, .sl 0 (List.map encRep a1))], []⟩ ?_ (he := by rw [show (a0.length : Int) = ((List.map encRep a0).length : Int) from by rw [List.length_map]]; kernel_rfl)
     refine ct hLc1 ?_
     refine runs_skip ?_
     refine runs_seq ?_
     refine runs_block ?_
     refine runs_seq ?_
     refine rgT cv mixed hn ?_
     refine roT 0 2 2 ⟨[(18, zI (i1 : Int)), (17, .sl 0 (List.map encRep a0)), (14, zB (decide ((i1 : Int) < (a0.length : Int)))), (13, zI (a0.length : Int)), (12, .sl 0 (List.map encRep a0)), (11, zI (i1 : Int)), (5, zI (i1 : Int)), (0, .sl 0 (List.map encRep a0)), (1, .sl 0 (List.map encRep a1))], []⟩ ?_
     refine rixT 2 encRep 119 hx10 (ix_nn hx10) ⟨[(19, .rp (encRep x10) 0), (18, zI (i1 : Int)), (17, .sl 0 (List.map encRep a0)), (14, zB (decide ((i1 : Int) < (a0.length : Int)))), (13, zI (a0.length : Int)), (12, .sl 0 (List.map encRep a0)), (11, zI (i1 : Int)), (5, zI (i1 : Int)), (0, .sl 0 (List.map encRep a0)), (1, .sl 0 (List.map encRep a1))], []⟩ ?_
     refine roT 3 3 3 ⟨[(22, zI (i1 : Int)), (21, .sl 0 (List.map encRep a1)), (20, encRep x10), (19, .rp (encRep x10) 0), (18, zI (i1 : Int)), (17, .sl 0 (List.map encRep a0)), (14, zB (decide ((i1 : Int) < (a0.length : Int)))), (13, zI (a0.length : Int)), (12, .sl 0 (List.map encRep a0)), (11, zI (i1 : Int)), (5, zI (i1 : Int)), (0, .sl 0 (List.map encRep a0)), (1, .sl 0 (List.map encRep a1))], []⟩ ?_
     obtain ⟨x24, hx25, h⟩ := bindO h
     refine rixT 6 encRep 119 hx25 (ix_nn hx25) ⟨[(23, .rp (encRep x24) 0), (22, zI (i1 : Int)), (21, .sl 0 (List.map encRep a1)), (20, encRep x10), (19, .rp (encRep x10) 0), (18, zI (i1 : Int)), (17, .sl 0 (List.map encRep a0)), (14, zB (decide ((i1 : Int) < (a0.length : Int)))), (13, zI (a0.length : Int)), (12, .sl 0 (List.map encRep a0)), (11, zI (i1 : Int)), (5, zI (i1 : Int)), (0, .sl 0 (List.map encRep a0)), (1, .sl 0 (List.map encRep a1))], []⟩ ?_
     refine roT 7 1 1 ⟨[(24, encRep x24), (23, .rp (encRep x24) 0), (22, zI (i1 : Int)), (21, .sl 0 (List.map encRep a1)), (20, encRep x10), (19, .rp (encRep x10) 0), (18, zI (i1 : Int)), (17, .sl 0 (List.map encRep a0)), (14, zB (decide ((i1 : Int) < (a0.length : Int)))), (13, zI (a0.length : Int)), (12, .sl 0 (List.map encRep a0)), (11, zI (i1 : Int)), (5, zI (i1 : Int)), (0, .sl 0 (List.map encRep a0)), (1, .sl 0 (List.map encRep a1))], []⟩ ?_
     obtain ⟨v26, hv27, h⟩ := bindO h
     refine rcT 8 ⟨[(25, zB v26), (24, encRep x24), (23, .rp (encRep x24) 0), (22, zI (i1 : Int)), (21, .sl 0 (List.map encRep a1)), (20, encRep x10), (19, .rp (encRep x10) 0), (18, zI (i1 : Int)), (17, .sl 0 (List.map encRep a0)), (14, zB (decide ((i1 : Int) < (a0.length : Int)))), (13, zI (a0.length : Int)), (12, .sl 0 (List.map encRep a0)), (11, zI (i1 : Int)), (5, zI (i1 : Int)), (0, .sl 0 (List.map encRep a0)), (1, .sl 0 (List.map encRep a1))], []⟩ (laws_eqRep_spec x10 x24 v26 hv27) ?_
     refine roT9 9 1 1 ⟨[(26, zB (!v26)), (25, zB v26), (24, encRep x24), (23, .rp (encRep x24) 0), (22, zI (i1 : Int)), (21, .sl 0 (List.map encRep a1)), (20, encRep x10), (19, .rp (encRep x10) 0), (18, zI (i1 : Int)), (17, .sl 0 (List.map encRep a0)), (14, zB (decide ((i1 : Int) < (a0.length : Int)))), (13, zI (a0.length : Int)), (12, .sl 0 (List.map encRep a0)), (11, zI (i1 : Int)), (5, zI (i1 : Int)), (0, .sl 0 (List.map encRep a0)), (1, .sl 0 (List.map encRep a1))], []⟩ ?_
     rcases dich (!v26) with hb28 | hb28
     · replace h := cond_t hb28 h
       refine ct hb28 ?_
       refine sqr cv hn ?_
       refine ro9 0 1 1 ⟨[(4, zB false), (26, zB (!v26)), (25, zB v26), (24, encRep x24), (23, .rp (encRep x24) 0), (22, zI (i1 : Int)), (21, .sl 0 (List.map encRep a1)), (20, encRep x10), (19, .rp (encRep x10) 0), (18, zI (i1 : Int)), (17, .sl 0 (List.map encRep a0)), (14, zB (decide ((i1 : Int) < (a0.length : Int)))), (13, zI (a0.length : Int)), (12, .sl 0 (List.map encRep a0)), (11, zI (i1 : Int)), (5, zI (i1 : Int)), (0, .sl 0 (List.map encRep a0)), (1, .sl 0 (List.map encRep a1))], []⟩ ?_
       refine runs_ret ?_
       exact fin _ _ h (by kernel_rfl)
     · replace h := cond_f hb28 h
       refine cf hb28 ?_
       refine runs_skip ?_
       refine rg cv hn ?_
       refine ro9 0 3 3 ⟨[(5, zI ((i1 + 1 : Nat) : Int)), (16, zI ((i1 + 1 : Nat) : Int)), (15, zI (i1 : Int)), (26, zB (!v26)), (25, zB v26), (24, encRep x24), (23, .rp (encRep x24) 0), (22, zI (i1 : Int)), (21, .sl 0 (List.map encRep a1)), (20, encRep x10), (19, .rp (encRep x10) 0), (18, zI (i1 : Int)), (17, .sl 0 (List.map encRep a0)), (14, zB (decide ((i1 : Int) < (a0.length : Int)))), (13, zI (a0.length : Int)), (12, .sl 0 (List.map encRep a0)), (11, zI (i1 : Int)), (5, zI (i1 : Int)), (0, .sl 0 (List.map encRep a0)), (1, .sl 0 (List.map encRep a1))], []⟩ ?_ (he := by rw [← hi1]; kernel_rfl)
       exact ⟨(t1, i1 + 1), Nat.lt_succ_self _, ⟨dnext hd1, h⟩, wre [5, 0, 1] []⟩

set_option maxRecDepth 100000 in
set_option maxHeartbeats 2000000 in
theorem laws_eqAcct_spec (a0 : SAcct) (a1 : SAcct) (v0 : Bool) (h : laws_eqAcct a0 a1 = some v0) : Ax.Spec Try.prog 29 none [encAcct0 a0, encAcct0 a1] (zB v0 : X) (.junk : X) := by
 let T1 : List (Nat × X) := [(0, encAcct0 a0), (1, encAcct0 a1)]
 refine walk0 (fn := Try.f29) (fun q0 : Bool => (zB q0 : X)) (fun q0 : Bool => (.junk : X)) v0 ⟨T1, []⟩ Try.func29 rfl (by decide +kernel) fun Γ hn fin => ?_
 rw [laws_eqAcct] at h
 refine sqr cv hn ?_
 refine ro9 0 3 3 ⟨(4, zB false) :: (3, .ptr 3 1 0) :: (2, .ptr 2 1 0) :: T1, [(3, ⟨1, 1, true, some (encAcct0 a1)⟩), (2, ⟨1, 1, true, some (encAcct0 a0)⟩)]⟩ ?_
 refine runs_seq ?_
 refine sqr cv hn ?_
 refine ro9 0 5 5 ⟨(9, zB (a0.fHave != a1.fHave)) :: (8, zI a1.fHave) :: (7, .ptr 3 1 0) :: (6, zI a0.fHave) :: (5, .ptr 2 1 0) :: (4, zB false) :: (3, .ptr 3 1 0) :: (2, .ptr 2 1 0) :: T1, [(3, ⟨1, 1, true, some (encAcct0 a1)⟩), (2, ⟨1, 1, true, some (encAcct0 a0)⟩)]⟩ ?_
 rcases dich (a0.fHave != a1.fHave) with hb2 | hb2
 · replace h := cond_t hb2 h
   refine ct hb2 ?_
   let T3 : List (Nat × X) := [(3, .ptr 3 0 0), (2, .ptr 2 0 0)]
   let B3 : List (Nat × Bx) := [(3, ⟨0, 0, true, some (encAcct0 a1)⟩), (2, ⟨0, 0, true, some (encAcct0 a0)⟩)]
   refine wkr [3, 2] [(3, 3, false), (2, 2, false)] ⟨T3, B3⟩ ?_
   refine sqr cv hn ?_
   refine ro9 0 1 1 ⟨(4, zB false) :: T3, B3⟩ ?_
   refine runs_ret ?_
   exact fin _ _ h (by kernel_rfl)
 · replace h := cond_f hb2 h
   refine cf hb2 ?_
   refine runs_skip ?_
   refine runs_seq ?_
   let T6 : List (Nat × X) := [(3, .ptr 3 0 0), (2, .ptr 2 0 0)]
   let B6 : List (Nat × Bx) := [(3, ⟨0, 0, true, some (encAcct0 a1)⟩), (2, ⟨0, 0, true, some (encAcct0 a0)⟩)]
   refine wkr [3, 2] [(3, 3, false), (2, 2, false)] ⟨T6, B6⟩ ?_
   refine sqr cv hn ?_
   refine ro9 0 5 5 ⟨(14, zB (a0.fState != a1.fState)) :: (13, zI a1.fState) :: (12, .ptr 3 0 1) :: (11, zI a0.fState) :: (10, .ptr 2 0 1) :: T6, B6⟩ ?_
   rcases dich (a0.fState != a1.fState) with hb4 | hb4
   · replace h := cond_t hb4 h
     refine ct hb4 ?_
     let T7 : List (Nat × X) := [(3, .ptr 3 0 0), (2, .ptr 2 0 0)]
     let B7 : List (Nat × Bx) := [(3, ⟨0, 0, true, some (encAcct0 a1)⟩), (2, ⟨0, 0, true, some (encAcct0 a0)⟩)]
     refine wkr [3, 2] [(3, 3, false), (2, 2, false)] ⟨T7, B7⟩ ?_
     refine sqr cv hn ?_
     refine ro9 0 1 1 ⟨(4, zB false) :: T7, B7⟩ ?_
     refine runs_ret ?_
     exact fin _ _ h (by kernel_rfl)
   · replace h := cond_f hb4 h
     refine cf hb4 ?_
     refine runs_skip ?_
     refine runs_seq ?_
     let T10 : List (Nat × X) := [(3, .ptr 3 0 0), (2, .ptr 2 0 0)]
     let B10 : List (Nat × Bx) := [(3, ⟨0, 0, true, some (encAcct0 a1)⟩), (2, ⟨0, 0, true, some (encAcct0 a0)⟩)]
     refine wkr [3, 2] [(3, 3, false), (2, 2, false)] ⟨T10, B10⟩ ?_
     refine sqr cv hn ?_
     refine ro9 0 5 5 ⟨(19, zB (a0.fBy != a1.fBy)) :: (18, zI a1.fBy) :: (17, .ptr 3 0 2) :: (16, zI a0.fBy) :: (15, .ptr 2 0 2) :: T10, B10⟩ ?_
     rcases dich (a0.fBy != a1.fBy) with hb6 | hb6
     · replace h := cond_t hb6 h
       refine ct hb6 ?_
       let T11 : List (Nat × X) := [(3, .ptr 3 0 0), (2, .ptr 2 0 0)]
       let B11 : List (Nat × Bx) := [(3, ⟨0, 0, true, some (encAcct0 a1)⟩), (2, ⟨0, 0, true, some (encAcct0 a0)⟩)]
       refine wkr [3, 2] [(3, 3, false), (2, 2, false)] ⟨T11, B11⟩ ?_
       refine sqr cv hn ?_
       refine ro9 0 1 1 ⟨(4, zB false) :: T11, B11⟩ ?_
       refine runs_ret ?_
       exact fin _ _ h (by kernel_rfl)
     · replace h := cond_f hb6 h
       refine cf hb6 ?_
       refine runs_skip ?_
       refine runs_seq ?_
       let T14 : List (Nat × X) := [(3, .ptr 3 0 0), (2, .ptr 2 0 0)]
       let B14 : List (Nat × Bx) := [(3, ⟨0, 0, true, some (encAcct0 a1)⟩), (2, ⟨0, 0, true, some (encAcct0 a0)⟩)]
       refine wkr [3, 2] [(3, 3, false), (2, 2, false)] ⟨T14, B14⟩ ?_
       refine sqr cv hn ?_
       refine ro 0 4 4 ⟨(23, .sl 0 (List.map encInt a1.fMarks)) :: (22, .ptr 3 0 3) :: (21, .sl 0 (List.map encInt a0.fMarks)) :: (20, .ptr 2 0 3) :: T14, B14⟩ ?_
       obtain ⟨v10, hv11, h⟩ := bindO h
       refine rc 4 ⟨(24, zB v10) :: (23, .sl 0 (List.map encInt a1.fMarks)) :: (22, .ptr 3 0 3) :: (21, .sl 0 (List.map encInt a0.fMarks)) :: (20, .ptr 2 0 3) :: T14, B14⟩ (laws_eqIntS_spec a0.fMarks a1.fMarks v10 hv11) ?_
       refine ro9 5 1 1 ⟨(25, zB (!v10)) :: (24, zB v10) :: (23, .sl 0 (List.map encInt a1.fMarks)) :: (22, .ptr 3 0 3) :: (21, .sl 0 (List.map encInt a0.fMarks)) :: (20, .ptr 2 0 3) :: T14, B14⟩ ?_
       rcases dich (!v10) with hb12 | hb12
       · replace h := cond_t hb12 h
         refine ct hb12 ?_
         let T15 : List (Nat × X) := [(3, .ptr 3 0 0), (2, .ptr 2 0 0)]
         let B15 : List (Nat × Bx) := [(3, ⟨0, 0, true, some (encAcct0 a1)⟩), (2, ⟨0, 0, true, some (encAcct0 a0)⟩)]
         refine wkr [3, 2] [(3, 3, false), (2, 2, false)] ⟨T15, B15⟩ ?_
         refine sqr cv hn ?_
         refine ro9 0 1 1 ⟨(4, zB false) :: T15, B15⟩ ?_
         refine runs_ret ?_
         exact fin _ _ h (by kernel_rfl)
       · replace h := cond_f hb12 h
         refine cf hb12 ?_
         refine runs_skip ?_
         refine runs_seq ?_
         let T16 : List (Nat × X) := [(3, .ptr 3 0 0), (2, .ptr 2 0 0)]
         let B16 : List (Nat × Bx) := [(3, ⟨0, 0, true, some (encAcct0 a1)⟩), (2, ⟨0, 0, true, some (encAcct0 a0)⟩)]
         refine wkr [3, 2] [(3, 3, false), (2, 2, false)] ⟨T16, B16⟩ ?_
         refine sqr cv hn ?_
         refine ro 0 4 4 ⟨(29, .sl 0 (List.map encRep a1.fReps)) :: (28, .ptr 3 0 4) :: (27, .sl 0 (List.map encRep a0.fReps)) :: (26, .ptr 2 0 4) :: T16, B16⟩ ?_
         obtain ⟨v13, hv14, h⟩ := bindO h
         refine rc 4 ⟨(30, zB v13) :: (29, .sl 0 (List.map encRep a1.fReps)) :: (28, .ptr 3 0 4) :: (27, .sl 0 (List.map encRep a0.fReps)) :: (26, .ptr 2 0 4) :: T16, B16⟩ (laws_eqRepS_spec a0.fReps a1.fReps v13 hv14) ?_
         refine ro9 5 1 1 ⟨(31, zB (!v13)) :: (30, zB v13) :: (29, .sl 0 (List.map encRep a1.fReps)) :: (28, .ptr 3 0 4) :: (27, .sl 0 (List.map encRep a0.fReps)) :: (26, .ptr 2 0 4) :: T16, B16⟩ ?_
         rcases dich (!v13) with hb15 | hb15
         · replace h := cond_t hb15 h
           refine ct hb15 ?_
           refine wkr [] [] ⟨[], []⟩ ?_
           refine sqr cv hn ?_
           refine ro9 0 1 1 ⟨[(4, zB false)], []⟩ ?_
           refine runs_ret ?_
           exact fin _ _ h (by kernel_rfl)
         · replace h := cond_f hb15 h
           refine cf hb15 ?_
           refine runs_skip ?_
           refine wkr [] [] ⟨[], []⟩ ?_
           refine sqr cv hn ?_
           refine ro9 0 1 1 ⟨[(4, zB true)], []⟩ ?_
           refine runs_ret ?_
           exact fin _ _ h (by kernel_rfl)

set_option maxRecDepth 100000 in
set_option maxHeartbeats 2000000 in
theorem spec_l01In_spec (a0 : Int) (a1 : Int) (a2 : Int) (v0 : Bool) (h : spec_l01In a0 a1 a2 = some v0) : Ax.Spec Try.prog 87 none [zI a0, zI a1, zI a2] (zB v0 : X) (.junk : X) := by
 let T1 : List (Nat × X) := [(0, zI a0), (1, zI a1), (2, zI a2)]
 refine walk0 (fn := Try.f87) (fun q0 : Bool => (zB q0 : X)) (fun q0 : Bool => (.junk : X)) v0 ⟨T1, []⟩ Try.func87 rfl (by decide +kernel) fun Γ hn fin => ?_
 rw [spec_l01In] at h
 refine sqr cv hn ?_
 refine ro9 0 1 1 ⟨(6, zB false) :: T1, []⟩ ?_
 refine sqr cv hn ?_
 refine ro 0 4 4 ⟨(10, zB (decide (a0 ≥ a1))) :: (9, zB (decide (a0 ≥ a1))) :: (8, zI a1) :: (7, zI a0) :: (6, zB false) :: T1, []⟩ ?_
 rcases dich (decide (a0 ≥ a1)) with hb1 | hb1
 · replace h := cond_t hb1 h
   refine rl 10 true hb1 ?_
   refine ro9 4 5 5 ⟨(6, zB (decide (a0 ≤ a2))) :: (14, zB (decide (a0 ≤ a2))) :: (13, zB (decide (a0 ≤ a2))) :: (12, zI a2) :: (11, zI a0) :: (10, zB true) :: (9, zB (decide (a0 ≥ a1))) :: (8, zI a1) :: (7, zI a0) :: (6, zB false) :: T1, []⟩ ?_
   refine runs_ret ?_
   exact fin _ _ h (by kernel_rfl)
 · replace h := cond_f hb1 h
   refine rl 10 false hb1 ?_
   refine ro9 4 5 2 ⟨(6, zB false) :: (14, zB false) :: (13, .tup []) :: (12, .tup []) :: (11, .tup []) :: (10, zB false) :: (9, zB (decide (a0 ≥ a1))) :: (8, zI a1) :: (7, zI a0) :: (6, zB false) :: T1, []⟩ ?_
   refine runs_ret ?_
   exact fin _ _ h (by kernel_rfl)

set_option maxRecDepth 100000 in
set_option maxHeartbeats 2000000 in
theorem spec_l01Has_spec (a0 : (List Int)) (a1 : Int) (v0 : Bool) (h : spec_l01Has a0 a1 = some v0) : Ax.Spec Try.prog 90 none [.sl 0 (List.map encInt a0), zI a1] (zB v0 : X) (.junk : X) := by
 let T1 : List (Nat × X) := [(0, .sl 0 (List.map encInt a0)), (1, zI a1)]
 refine walk0 (fn := Try.f90) (fun q0 : Bool => (zB q0 : X)) (fun q0 : Bool => (.junk : X)) v0 ⟨T1, []⟩ Try.func90 rfl (by decide +kernel) fun Γ hn fin => ?_
 rw [spec_l01Has] at h
 refine sqr cv hn ?_
 refine ro9 0 1 1 ⟨(4, zB false) :: T1, []⟩ ?_
 refine runs_seq ?_
 refine sqr cv hn ?_
 refine ro9 0 3 3 ⟨(9, zI 0) :: (8, zI (a0.length : Int)) :: (7, .sl 0 (List.map encInt a0)) :: (4, zB false) :: T1, []⟩ ?_ (he := by rw [show (a0.length : Int) = ((List.map encInt a0).length : Int) from by rw [List.length_map]]; kernel_rfl)
 refine runs_block ?_
 refine runs_loopM (σ := List Int × Nat) (fun s => ⟨[(9, zI (s.2 : Int)), (8, zI (a0.length : Int)), (7, .sl 0 (List.map encInt a0)), (1, zI a1)], []⟩) (fun s => s.1 = List.drop s.2 a0 ∧ spec_l01Has_l1 a1 s.1 s.2 = some v0) (fun s => s.1.length) (a0, 0) ⟨rfl, h⟩ (wre [9, 8, 7, 1] []) ?_
 rintro ⟨t1, i1⟩ ⟨hd1, h⟩
 refine seq0 ⟨[(9, zI (i1 : Int)), (8, zI (a0.length : Int)), (7, .sl 0 (List.map encInt a0)), (1, zI a1)], []⟩ ?_
 refine runs_len 7 (es := List.map encInt a0) (by kernel_rfl) fun hl1 => ?_
 replace hl1 := len_of_map hl1
 cases t1 with
 | nil =>
   rw [spec_l01Has_l1] at h
   have hLn1 := dnil hd1
   refine sqr cv hn ?_
   refine ro9 0 1 1 ⟨[(10, zB (decide ((i1 : Int) < (a0.length : Int)))), (9, zI (i1 : Int)), (8, zI (a0.length : Int)), (7, .sl 0 (List.map encInt a0)), (1, zI a1)], []⟩ ?_
   refine runs_seq ?_
   refine cf hLn1 ?_
   refine runs_exit ?_
   repeat refine thenX_exit ?_
   refine block_here ?_
   refine wkr [] [] ⟨[], []⟩ ?_
   refine sqr cv hn ?_
   refine ro9 0 1 1 ⟨[(4, zB false)], []⟩ ?_
   refine runs_ret ?_
   exact fin _ _ h (by kernel_rfl)
 | cons x10 t1 =>
   rw [spec_l01Has_l1] at h
   have hLc1 := dcons hd1
   have hx10 := dget hd1
   have hi1 := dinc hd1 hl1
   refine sqr cv hn ?_
   refine ro9 0 1 1 ⟨[(10, zB (decide ((i1 : Int) < (a0.length : Int)))), (9, zI (i1 : Int)), (8, zI (a0.length : Int)), (7, .sl 0 (List.map encInt a0)), (1, zI a1)], []⟩ ?_
   refine runs_seq ?_
   refine ct hLc1 ?_
   refine runs_skip ?_
   refine runs_seq ?_
   refine runs_block ?_
   refine sqr cv hn ?_
   refine rix 0 encInt 3 hx10 (ix_nn hx10) ⟨[(11, .rp (zI x10) 0), (10, zB (decide ((i1 : Int) < (a0.length : Int)))), (9, zI (i1 : Int)), (8, zI (a0.length : Int)), (7, .sl 0 (List.map encInt a0)), (1, zI a1)], []⟩ ?_
   refine ro9 1 2 2 ⟨[(6, zI x10), (12, zI x10), (11, .rp (zI x10) 0), (10, zB (decide ((i1 : Int) < (a0.length : Int)))), (9, zI (i1 : Int)), (8, zI (a0.length : Int)), (7, .sl 0 (List.map encInt a0)), (1, zI a1)], []⟩ ?_
   refine sqr cv hn ?_
   refine ro9 0 3 3 ⟨[(15, zB (x10 == a1)), (14, zI a1), (13, zI x10), (6, zI x10), (12, zI x10), (11, .rp (zI x10) 0), (10, zB (decide ((i1 : Int) < (a0.length : Int)))), (9, zI (i1 : Int)), (8, zI (a0.length : Int)), (7, .sl 0 (List.map encInt a0)), (1, zI a1)], []⟩ ?_
   rcases dich (x10 == a1) with hb18 | hb18
   · replace h := cond_t hb18 h
     refine ct hb18 ?_
     refine sqr cv hn ?_
     refine ro9 0 1 1 ⟨[(4, zB true), (15, zB (x10 == a1)), (14, zI a1), (13, zI x10), (6, zI x10), (12, zI x10), (11, .rp (zI x10) 0), (10, zB (decide ((i1 : Int) < (a0.length : Int)))), (9, zI (i1 : Int)), (8, zI (a0.length : Int)), (7, .sl 0 (List.map encInt a0)), (1, zI a1)], []⟩ ?_
     refine runs_ret ?_
     exact fin _ _ h (by kernel_rfl)
   · replace h := cond_f hb18 h
     refine cf hb18 ?_
     refine runs_skip ?_
     refine rg cv hn ?_
     refine ro9 0 2 2 ⟨[(9, zI ((i1 + 1 : Nat) : Int)), (16, zI ((i1 + 1 : Nat) : Int)), (15, zB (x10 == a1)), (14, zI a1), (13, zI x10), (6, zI x10), (12, zI x10), (11, .rp (zI x10) 0), (10, zB (decide ((i1 : Int) < (a0.length : Int)))), (9, zI (i1 : Int)), (8, zI (a0.length : Int)), (7, .sl 0 (List.map encInt a0)), (1, zI a1)], []⟩ ?_ (he := by rw [← hi1]; kernel_rfl)
     exact ⟨(t1, i1 + 1), Nat.lt_succ_self _, ⟨dnext hd1, h⟩, wre [9, 8, 7, 1] []⟩

set_option maxRecDepth 100000 in
set_option maxHeartbeats 2000000 in
theorem spec_l01Num_spec (a0 : Int) (v0 : Bool) (h : spec_l01Num a0 = some v0) : Ax.Spec Try.prog 100 none [zI a0] (zB v0 : X) (.junk : X) := by
 refine walk0 (fn := Try.f100) (fun q0 : Bool => (zB q0 : X)) (fun q0 : Bool => (.junk : X)) v0 ⟨[(0, zI a0)], []⟩ Try.func100 rfl (by decide +kernel) fun Γ hn fin => ?_
 rw [spec_l01Num] at h
 refine sqr cv hn ?_
 refine ro9 0 1 1 ⟨[(2, zB false), (0, zI a0)], []⟩ ?_
 refine sqr cv hn ?_
 refine ro 0 1 1 ⟨[(3, zI a0), (2, zB false), (0, zI a0)], []⟩ ?_
 obtain ⟨v1, hv2, h⟩ := bindO h
 refine rc 1 ⟨[(4, zB v1), (3, zI a0), (2, zB false), (0, zI a0)], []⟩ (spec_l01In_spec a0 0 1125899906842624 v1 hv2) ?_
 refine ro9 2 1 1 ⟨[(2, zB v1), (4, zB v1), (3, zI a0), (2, zB false), (0, zI a0)], []⟩ ?_
 refine runs_ret ?_
 exact fin _ _ h (by kernel_rfl)

set_option maxRecDepth 100000 in
set_option maxHeartbeats 2000000 in
theorem spec_l07Node_spec (a0 : Int) (v0 : Bool) (h : spec_l07Node a0 = some v0) : Ax.Spec Try.prog 86 none [zI a0] (zB v0 : X) (.junk : X) := by
 refine walk0 (fn := Try.f86) (fun q0 : Bool => (zB q0 : X)) (fun q0 : Bool => (.junk : X)) v0 ⟨[(0, zI a0)], []⟩ Try.func86 rfl (by decide +kernel) fun Γ hn fin => ?_
 rw [spec_l07Node] at h
 refine sqr cv hn ?_
 refine ro9 0 1 1 ⟨[(2, zB false), (0, zI a0)], []⟩ ?_
 refine sqr cv hn ?_
 refine ro 0 1 1 ⟨[(3, zI a0), (2, zB false), (0, zI a0)], []⟩ ?_
 obtain ⟨v1, hv2, h⟩ := bindO h
 refine rc 1 ⟨[(4, zB v1), (3, zI a0), (2, zB false), (0, zI a0)], []⟩ (spec_l01In_spec a0 0 3 v1 hv2) ?_
 refine ro9 2 1 1 ⟨[(2, zB v1), (4, zB v1), (3, zI a0), (2, zB false), (0, zI a0)], []⟩ ?_
 refine runs_ret ?_
 exact fin _ _ h (by kernel_rfl)

set_option maxRecDepth 100000 in
set_option maxHeartbeats 2000000 in
theorem spec_l07Rise_spec (a0 : (List Int)) (v0 : Bool) (h : spec_l07Rise a0 = some v0) : Ax.Spec Try.prog 101 none [.sl 0 (List.map encInt a0)] (zB v0 : X) (.junk : X) := by
 let T1 : List (Nat × X) := [(0, .sl 0 (List.map encInt a0))]
 refine walk0 (fn := Try.f101) (fun q0 : Bool => (zB q0 : X)) (fun q0 : Bool => (.junk : X)) v0 ⟨T1, []⟩ Try.func101 rfl (by decide +kernel) fun Γ hn fin => ?_
 rw [spec_l07Rise] at h
 refine sqr cv hn ?_
 refine ro9 0 1 1 ⟨(2, zB false) :: T1, []⟩ ?_
 refine runs_seq ?_
 refine sqr cv hn ?_
 refine ro9 0 3 3 ⟨(7, zI 0) :: (6, zI (a0.length : Int)) :: (5, .sl 0 (List.map encInt a0)) :: (2, zB false) :: T1, []⟩ ?_ (he := by rw [show (a0.length : Int) = ((List.map encInt a0).length : Int) from by rw [List.length_map]]; kernel_rfl)
 refine runs_block ?_
 refine runs_loopM (σ := List Int × Nat) (fun s => ⟨[(7, zI (s.2 : Int)), (6, zI (a0.length : Int)), (5, .sl 0 (List.map encInt a0)), (0, .sl 0 (List.map encInt a0))], []⟩) (fun s => s.1 = List.drop s.2 a0 ∧ spec_l07Rise_l1 a0 s.1 s.2 = some v0) (fun s => s.1.length) (a0, 0) ⟨rfl, h⟩ (wre [7, 6, 5, 0] []) ?_
 rintro ⟨t1, i1⟩ ⟨hd1, h⟩
 refine seq0 ⟨[(7, zI (i1 : Int)), (6, zI (a0.length : Int)), (5, .sl 0 (List.map encInt a0)), (0, .sl 0 (List.map encInt a0))], []⟩ ?_
 refine runs_len 5 (es := List.map encInt a0) (by kernel_rfl) fun hl1 => ?_
 replace hl1 := len_of_map hl1
 cases t1 with
 | nil =>
   rw [spec_l07Rise_l1] at h
   have hLn1 := dnil hd1
   refine sqr cv hn ?_
   refine ro9 0 1 1 ⟨[(8, zB (decide ((i1 : Int) < (a0.length : Int)))), (7, zI (i1 : Int)), (6, zI (a0.length : Int)), (5, .sl 0 (List.map encInt a0)), (0, .sl 0 (List.map encInt a0))], []⟩ ?_
   refine runs_seq ?_
   refine cf hLn1 ?_
   refine runs_exit ?_
   repeat refine thenX_exit ?_
   refine block_here ?_
   refine wkr [] [] ⟨[], []⟩ ?_
   refine sqr cv hn ?_
   refine ro9 0 1 1 ⟨[(2, zB true)], []⟩ ?_
   refine runs_ret ?_
   exact fin _ _ h (by kernel_rfl)
 | cons x10 t1 =>
   rw [spec_l07Rise_l1] at h
   have hLc1 := dcons hd1
   have hx10 := dget hd1
   have hi1 := dinc hd1 hl1
   refine sqr cv hn ?_
   refine ro9 0 1 1 ⟨[(8, zB (decide ((i1 : Int) < (a0.length : Int)))), (7, zI (i1 : Int)), (6, zI (a0.length : Int)), (5, .sl 0 (List.map encInt a0)), (0, .sl 0 (List.map encInt a0))], []⟩ ?_
   refine runs_seq ?_
   refine ct hLc1 ?_
   refine runs_skip ?_
   refine runs_seq ?_
   refine runs_block ?_
   refine sqr cv hn ?_
   refine ro 0 1 1 ⟨[(9, zI (i1 : Int)), (8, zB (decide ((i1 : Int) < (a0.length : Int)))), (7, zI (i1 : Int)), (6, zI (a0.length : Int)), (5, .sl 0 (List.map encInt a0)), (0, .sl 0 (List.map encInt a0))], []⟩ ?_
   refine rix 1 encInt 3 hx10 (ix_nn hx10) ⟨[(10, .rp (zI x10) 0), (9, zI (i1 : Int)), (8, zB (decide ((i1 : Int) < (a0.length : Int)))), (7, zI (i1 : Int)), (6, zI (a0.length : Int)), (5, .sl 0 (List.map encInt a0)), (0, .sl 0 (List.map encInt a0))], []⟩ ?_
   refine ro9 2 3 3 ⟨[(4, zI x10), (3, zI (i1 : Int)), (11, zI x10), (10, .rp (zI x10) 0), (9, zI (i1 : Int)), (8, zB (decide ((i1 : Int) < (a0.length : Int)))), (7, zI (i1 : Int)), (6, zI (a0.length : Int)), (5, .sl 0 (List.map encInt a0)), (0, .sl 0 (List.map encInt a0))], []⟩ ?_
   refine sqr cv hn ?_
   refine ro 0 1 1 ⟨[(12, zI x10), (4, zI x10), (3, zI (i1 : Int)), (11, zI x10), (10, .rp (zI x10) 0), (9, zI (i1 : Int)), (8, zB (decide ((i1 : Int) < (a0.length : Int)))), (7, zI (i1 : Int)), (6, zI (a0.length : Int)), (5, .sl 0 (List.map encInt a0)), (0, .sl 0 (List.map encInt a0))], []⟩ ?_
   obtain ⟨v26, hv27, h⟩ := bindO h
   refine rc 1 ⟨[(13, zB v26), (12, zI x10), (4, zI x10), (3, zI (i1 : Int)), (11, zI x10), (10, .rp (zI x10) 0), (9, zI (i1 : Int)), (8, zB (decide ((i1 : Int) < (a0.length : Int)))), (7, zI (i1 : Int)), (6, zI (a0.length : Int)), (5, .sl 0 (List.map encInt a0)), (0, .sl 0 (List.map encInt a0))], []⟩ (spec_l07Node_spec x10 v26 hv27) ?_
   refine ro 2 2 2 ⟨[(15, zB (!v26)), (14, zB (!v26)), (13, zB v26), (12, zI x10), (4, zI x10), (3, zI (i1 : Int)), (11, zI x10), (10, .rp (zI x10) 0), (9, zI (i1 : Int)), (8, zB (decide ((i1 : Int) < (a0.length : Int)))), (7, zI (i1 : Int)), (6, zI (a0.length : Int)), (5, .sl 0 (List.map encInt a0)), (0, .sl 0 (List.map encInt a0))], []⟩ ?_
   rcases dich (!v26) with hb28 | hb28
   · replace h := cond_t hb28 h
     refine rl 15 true hb28 ?_
     refine ro9 4 12 1 ⟨[(27, zB true), (26, .tup []), (25, .tup []), (24, .tup []), (23, .tup []), (22, .tup []), (21, .tup []), (20, .tup []), (19, .tup []), (18, .tup []), (17, .tup []), (16, .tup []), (15, zB true), (14, zB (!v26)), (13, zB v26), (12, zI x10), (4, zI x10), (3, zI (i1 : Int)), (11, zI x10), (10, .rp (zI x10) 0), (9, zI (i1 : Int)), (8, zB (decide ((i1 : Int) < (a0.length : Int)))), (7, zI (i1 : Int)), (6, zI (a0.length : Int)), (5, .sl 0 (List.map encInt a0)), (0, .sl 0 (List.map encInt a0))], []⟩ ?_
     refine cT ?_
     refine sqr cv hn ?_
     refine ro9 0 1 1 ⟨[(2, zB false), (27, zB true), (26, .tup []), (25, .tup []), (24, .tup []), (23, .tup []), (22, .tup []), (21, .tup []), (20, .tup []), (19, .tup []), (18, .tup []), (17, .tup []), (16, .tup []), (15, zB true), (14, zB (!v26)), (13, zB v26), (12, zI x10), (4, zI x10), (3, zI (i1 : Int)), (11, zI x10), (10, .rp (zI x10) 0), (9, zI (i1 : Int)), (8, zB (decide ((i1 : Int) < (a0.length : Int)))), (7, zI (i1 : Int)), (6, zI (a0.length : Int)), (5, .sl 0 (List.map encInt a0)), (0, .sl 0 (List.map encInt a0))], []⟩ ?_
     refine runs_ret ?_
     exact fin _ _ h (by kernel_rfl)
   · replace h := cond_f hb28 h
     refine rl 15 false hb28 ?_
     refine ro 4 3 3 ⟨[(18, zB (decide ((i1 : Int) > 0))), (17, zB (decide ((i1 : Int) > 0))), (16, zI (i1 : Int)), (15, zB false), (14, zB (!v26)), (13, zB v26), (12, zI x10), (4, zI x10), (3, zI (i1 : Int)), (11, zI x10), (10, .rp (zI x10) 0), (9, zI (i1 : Int)), (8, zB (decide ((i1 : Int) < (a0.length : Int)))), (7, zI (i1 : Int)), (6, zI (a0.length : Int)), (5, .sl 0 (List.map encInt a0)), (0, .sl 0 (List.map encInt a0))], []⟩ ?_
     rcases dich (decide ((i1 : Int) > 0)) with hb29 | hb29
     · replace h := cond_t hb29 h
       refine rl 18 true hb29 ?_
       refine ro 7 3 3 ⟨[(21, zI (w64 ((i1 : Int) - 1))), (20, zI (i1 : Int)), (19, .sl 0 (List.map encInt a0)), (18, zB true), (17, zB (decide ((i1 : Int) > 0))), (16, zI (i1 : Int)), (15, zB false), (14, zB (!v26)), (13, zB v26), (12, zI x10), (4, zI x10), (3, zI (i1 : Int)), (11, zI x10), (10, .rp (zI x10) 0), (9, zI (i1 : Int)), (8, zB (decide ((i1 : Int) < (a0.length : Int)))), (7, zI (i1 : Int)), (6, zI (a0.length : Int)), (5, .sl 0 (List.map encInt a0)), (0, .sl 0 (List.map encInt a0))], []⟩ ?_
       obtain ⟨x30, hx31, h⟩ := bindO h
       refine rix 10 encInt 3 hx31 (ix_nn hx31) ⟨[(22, .rp (zI x30) 0), (21, zI (w64 ((i1 : Int) - 1))), (20, zI (i1 : Int)), (19, .sl 0 (List.map encInt a0)), (18, zB true), (17, zB (decide ((i1 : Int) > 0))), (16, zI (i1 : Int)), (15, zB false), (14, zB (!v26)), (13, zB v26), (12, zI x10), (4, zI x10), (3, zI (i1 : Int)), (11, zI x10), (10, .rp (zI x10) 0), (9, zI (i1 : Int)), (8, zB (decide ((i1 : Int) < (a0.length : Int)))), (7, zI (i1 : Int)), (6, zI (a0.length : Int)), (5, .sl 0 (List.map encInt a0)), (0, .sl 0 (List.map encInt a0))], []⟩ ?_
       refine ro9 11 5 5 ⟨[(27, zB (decide (x30 ≥ x10))), (26, zB (decide (x30 ≥ x10))), (25, zB (decide (x30 ≥ x10))), (24, zI x10), (23, zI x30), (22, .rp (zI x30) 0), (21, zI (w64 ((i1 : Int) - 1))), (20, zI (i1 : Int)), (19, .sl 0 (List.map encInt a0)), (18, zB true), (17, zB (decide ((i1 : Int) > 0))), (16, zI (i1 : Int)), (15, zB false), (14, zB (!v26)), (13, zB v26), (12, zI x10), (4, zI x10), (3, zI (i1 : Int)), (11, zI x10), (10, .rp (zI x10) 0), (9, zI (i1 : Int)), (8, zB (decide ((i1 : Int) < (a0.length : Int)))), (7, zI (i1 : Int)), (6, zI (a0.length : Int)), (5, .sl 0 (List.map encInt a0)), (0, .sl 0 (List.map encInt a0))], []⟩ ?_
       rcases dich (decide (x30 ≥ x10)) with hb32 | hb32
       · replace h := cond_t hb32 h
         refine ct hb32 ?_
         refine sqr cv hn ?_
         refine ro9 0 1 1 ⟨[(2, zB false), (27, zB (decide (x30 ≥ x10))), (26, zB (decide (x30 ≥ x10))), (25, zB (decide (x30 ≥ x10))), (24, zI x10), (23, zI x30), (22, .rp (zI x30) 0), (21, zI (w64 ((i1 : Int) - 1))), (20, zI (i1 : Int)), (19, .sl 0 (List.map encInt a0)), (18, zB true), (17, zB (decide ((i1 : Int) > 0))), (16, zI (i1 : Int)), (15, zB false), (14, zB (!v26)), (13, zB v26), (12, zI x10), (4, zI x10), (3, zI (i1 : Int)), (11, zI x10), (10, .rp (zI x10) 0), (9, zI (i1 : Int)), (8, zB (decide ((i1 : Int) < (a0.length : Int)))), (7, zI (i1 : Int)), (6, zI (a0.length : Int)), (5, .sl 0 (List.map encInt a0)), (0, .sl 0 (List.map encInt a0))], []⟩ ?_
         refine runs_ret ?_
         exact fin _ _ h (by kernel_rfl)
       · replace h := cond_f hb32 h
         refine cf hb32 ?_
         refine runs_skip ?_
         refine rg cv hn ?_
         refine ro9 0 2 2 ⟨[(7, zI ((i1 + 1 : Nat) : Int)), (28, zI ((i1 + 1 : Nat) : Int)), (27, zB (decide (x30 ≥ x10))), (26, zB (decide (x30 ≥ x10))), (25, zB (decide (x30 ≥ x10))), (24, zI x10), (23, zI x30), (22, .rp (zI x30) 0), (21, zI (w64 ((i1 : Int) - 1))), (20, zI (i1 : Int)), (19, .sl 0 (List.map encInt a0)), (18, zB true), (17, zB (decide ((i1 : Int) > 0))), (16, zI (i1 : Int)), (15, zB false), (14, zB (!v26)), (13, zB v26), (12, zI x10), (4, zI x10), (3, zI (i1 : Int)), (11, zI x10), (10, .rp (zI x10) 0), (9, zI (i1 : Int)), (8, zB (decide ((i1 : Int) < (a0.length : Int)))), (7, zI (i1 : Int)), (6, zI (a0.length : Int)), (5, .sl 0 (List.map encInt a0)), (0, .sl 0 (List.map encInt a0))], []⟩ ?_ (he := by rw [← hi1]; kernel_rfl)
         exact ⟨(t1, i1 + 1), Nat.lt_succ_self _, ⟨dnext hd1, h⟩, wre [7, 6, 5, 0] []⟩
     · replace h := cond_f hb29 h
       refine rl 18 false hb29 ?_
       refine ro9 7 9 2 ⟨[(27, zB false), (26, zB false), (25, .tup []), (24, .tup []), (23, .tup []), (22, .tup []), (21, .tup []), (20, .tup []), (19, .tup []), (18, zB false), (17, zB (decide ((i1 : Int) > 0))), (16, zI (i1 : Int)), (15, zB false), (14, zB (!v26)), (13, zB v26), (12, zI x10), (4, zI x10), (3, zI (i1 : Int)), (11, zI x10), (10, .rp (zI x10) 0), (9, zI (i1 : Int)), (8, zB (decide ((i1 : Int) < (a0.length : Int)))), (7, zI (i1 : Int)), (6, zI (a0.length : Int)), (5, .sl 0 (List.map encInt a0)), (0, .sl 0 (List.map encInt a0))], []⟩ ?_
       refine cF ?_
       refine runs_skip ?_
       refine rg cv hn ?_
       refine ro9 0 2 2 ⟨[(7, zI ((i1 + 1 : Nat) : Int)), (28, zI ((i1 + 1 : Nat) : Int)), (27, zB false), (26, zB false), (25, .tup []), (24, .tup []), (23, .tup []), (22, .tup []), (21, .tup []), (20, .tup []), (19, .tup []), (18, zB false), (17, zB (decide ((i1 : Int) > 0))), (16, zI (i1 : Int)), (15, zB false), (14, zB (!v26)), (13, zB v26), (12, zI x10), (4, zI x10), (3, zI (i1 : Int)), (11, zI x10), (10, .rp (zI x10) 0), (9, zI (i1 : Int)), (8, zB (decide ((i1 : Int) < (a0.length : Int)))), (7, zI (i1 : Int)), (6, zI (a0.length : Int)), (5, .sl 0 (List.map encInt a0)), (0, .sl 0 (List.map encInt a0))], []⟩ ?_ (he := by rw [← hi1]; kernel_rfl)
       exact ⟨(t1, i1 + 1), Nat.lt_succ_self _, ⟨dnext hd1, h⟩, wre [7, 6, 5, 0] []⟩

set_option maxRecDepth 100000 in
set_option maxHeartbeats 2000000 in
theorem spec_AcctOk_spec (a0 : SAcct) (a1 : Int) (a2 : Int) (v0 : Bool) (h : spec_AcctOk a0 a1 a2 = some v0) : Ax.Spec Try.prog 49 none [encAcct0 a0, zI a1, zI a2] (zB v0 : X) (.junk : X) := by
 let T1 : List (Nat × X) := [(0, encAcct0 a0), (1, zI a1), (2, zI a2)]
 refine walk0 (fn := Try.f49) (fun q0 : Bool => (zB q0 : X)) (fun q0 : Bool => (.junk : X)) v0 ⟨T1, []⟩ Try.func49 rfl (by decide +kernel) fun Γ hn fin => ?_
 rw [spec_AcctOk] at h
 refine sqr cv hn ?_
 refine ro9 0 2 2 ⟨(6, zB false) :: (3, .ptr 3 1 0) :: T1, [(3, ⟨1, 1, true, some (encAcct0 a0)⟩)]⟩ ?_
 refine runs_seq ?_
 refine sqr cv hn ?_
 refine ro 0 1 1 ⟨(10, zI a1) :: (6, zB false) :: (3, .ptr 3 1 0) :: T1, [(3, ⟨1, 1, true, some (encAcct0 a0)⟩)]⟩ ?_
 obtain ⟨v10, hv11, h⟩ := bindO h
 refine rc 1 ⟨(11, zB v10) :: (10, zI a1) :: (6, zB false) :: (3, .ptr 3 1 0) :: T1, [(3, ⟨1, 1, true, some (encAcct0 a0)⟩)]⟩ (spec_l01In_spec a1 1 4 v10 hv11) ?_
 refine ro 2 2 2 ⟨(13, zB (!v10)) :: (12, zB (!v10)) :: (11, zB v10) :: (10, zI a1) :: (6, zB false) :: (3, .ptr 3 1 0) :: T1, [(3, ⟨1, 1, true, some (encAcct0 a0)⟩)]⟩ ?_
 rcases dich (!v10) with hb12 | hb12
 · replace h := cond_t hb12 h
   refine rl 13 true hb12 ?_
   refine ro9 4 12 3 ⟨(25, zB true) :: (24, .tup []) :: (23, .tup []) :: (22, .tup []) :: (21, .tup []) :: (20, zB true) :: (19, zB true) :: (18, .tup []) :: (17, .tup []) :: (16, .tup []) :: (15, .tup []) :: (14, .tup []) :: (13, zB true) :: (12, zB (!v10)) :: (11, zB v10) :: (10, zI a1) :: (6, zB false) :: (3, .ptr 3 1 0) :: T1, [(3, ⟨1, 1, true, some (encAcct0 a0)⟩)]⟩ ?_
   refine cT ?_
   let T5 : List (Nat × X) := [(3, .ptr 3 0 0), (1, zI a1), (2, zI a2)]
   let B5 : List (Nat × Bx) := [(3, ⟨0, 0, true, some (encAcct0 a0)⟩)]
   refine wkr [3, 1, 2] [(3, 3, false)] ⟨T5, B5⟩ ?_
   refine sqr cv hn ?_
   refine ro9 0 1 1 ⟨(6, zB false) :: T5, B5⟩ ?_
   refine runs_ret ?_
   exact fin _ _ h (by kernel_rfl)
 · replace h := cond_f hb12 h
   refine rl 13 false hb12 ?_
   refine ro 4 3 3 ⟨(16, zI (w64 (a1 - 1))) :: (15, zI a1) :: (14, zI a2) :: (13, zB false) :: (12, zB (!v10)) :: (11, zB v10) :: (10, zI a1) :: (6, zB false) :: (3, .ptr 3 1 0) :: T1, [(3, ⟨1, 1, true, some (encAcct0 a0)⟩)]⟩ ?_
   obtain ⟨v13, hv14, h⟩ := bindO h
   refine rc 7 ⟨(17, zB v13) :: (16, zI (w64 (a1 - 1))) :: (15, zI a1) :: (14, zI a2) :: (13, zB false) :: (12, zB (!v10)) :: (11, zB v10) :: (10, zI a1) :: (6, zB false) :: (3, .ptr 3 1 0) :: T1, [(3, ⟨1, 1, true, some (encAcct0 a0)⟩)]⟩ (spec_l01In_spec a2 0 (w64 (a1 - 1)) v13 hv14) ?_
   refine ro 8 3 3 ⟨(20, zB (!v13)) :: (19, zB (!v13)) :: (18, zB (!v13)) :: (17, zB v13) :: (16, zI (w64 (a1 - 1))) :: (15, zI a1) :: (14, zI a2) :: (13, zB false) :: (12, zB (!v10)) :: (11, zB v10) :: (10, zI a1) :: (6, zB false) :: (3, .ptr 3 1 0) :: T1, [(3, ⟨1, 1, true, some (encAcct0 a0)⟩)]⟩ ?_
   rcases dich (!v13) with hb15 | hb15
   · replace h := cond_t hb15 h
     refine rl 20 true hb15 ?_
     refine ro9 11 5 1 ⟨(25, zB true) :: (24, .tup []) :: (23, .tup []) :: (22, .tup []) :: (21, .tup []) :: (20, zB true) :: (19, zB (!v13)) :: (18, zB (!v13)) :: (17, zB v13) :: (16, zI (w64 (a1 - 1))) :: (15, zI a1) :: (14, zI a2) :: (13, zB false) :: (12, zB (!v10)) :: (11, zB v10) :: (10, zI a1) :: (6, zB false) :: (3, .ptr 3 1 0) :: T1, [(3, ⟨1, 1, true, some (encAcct0 a0)⟩)]⟩ ?_
     refine cT ?_
     let T6 : List (Nat × X) := [(3, .ptr 3 0 0), (1, zI a1), (2, zI a2)]
     let B6 : List (Nat × Bx) := [(3, ⟨0, 0, true, some (encAcct0 a0)⟩)]
     refine wkr [3, 1, 2] [(3, 3, false)] ⟨T6, B6⟩ ?_
     refine sqr cv hn ?_
     refine ro9 0 1 1 ⟨(6, zB false) :: T6, B6⟩ ?_
     refine runs_ret ?_
     exact fin _ _ h (by kernel_rfl)
   · replace h := cond_f hb15 h
     refine rl 20 false hb15 ?_
     refine ro 11 2 2 ⟨(22, zI a0.fHave) :: (21, .ptr 3 1 0) :: (20, zB false) :: (19, zB (!v13)) :: (18, zB (!v13)) :: (17, zB v13) :: (16, zI (w64 (a1 - 1))) :: (15, zI a1) :: (14, zI a2) :: (13, zB false) :: (12, zB (!v10)) :: (11, zB v10) :: (10, zI a1) :: (6, zB false) :: (3, .ptr 3 1 0) :: T1, [(3, ⟨1, 1, true, some (encAcct0 a0)⟩)]⟩ ?_
     obtain ⟨v16, hv17, h⟩ := bindO h
     refine rc 13 ⟨(23, zB v16) :: (22, zI a0.fHave) :: (21, .ptr 3 1 0) :: (20, zB false) :: (19, zB (!v13)) :: (18, zB (!v13)) :: (17, zB v13) :: (16, zI (w64 (a1 - 1))) :: (15, zI a1) :: (14, zI a2) :: (13, zB false) :: (12, zB (!v10)) :: (11, zB v10) :: (10, zI a1) :: (6, zB false) :: (3, .ptr 3 1 0) :: T1, [(3, ⟨1, 1, true, some (encAcct0 a0)⟩)]⟩ (spec_l01Num_spec a0.fHave v16 hv17) ?_
     refine ro9 14 2 2 ⟨(25, zB (!v16)) :: (24, zB (!v16)) :: (23, zB v16) :: (22, zI a0.fHave) :: (21, .ptr 3 1 0) :: (20, zB false) :: (19, zB (!v13)) :: (18, zB (!v13)) :: (17, zB v13) :: (16, zI (w64 (a1 - 1))) :: (15, zI a1) :: (14, zI a2) :: (13, zB false) :: (12, zB (!v10)) :: (11, zB v10) :: (10, zI a1) :: (6, zB false) :: (3, .ptr 3 1 0) :: T1, [(3, ⟨1, 1, true, some (encAcct0 a0)⟩)]⟩ ?_
     rcases dich (!v16) with hb18 | hb18
     · replace h := cond_t hb18 h
       refine ct hb18 ?_
       let T7 : List (Nat × X) := [(3, .ptr 3 0 0), (1, zI a1), (2, zI a2)]
       let B7 : List (Nat × Bx) := [(3, ⟨0, 0, true, some (encAcct0 a0)⟩)]
       refine wkr [3, 1, 2] [(3, 3, false)] ⟨T7, B7⟩ ?_
       refine sqr cv hn ?_
       refine ro9 0 1 1 ⟨(6, zB false) :: T7, B7⟩ ?_
       refine runs_ret ?_
       exact fin _ _ h (by kernel_rfl)
     · replace h := cond_f hb18 h
       refine cf hb18 ?_
       refine runs_skip ?_
       refine runs_seq ?_
       let T11 : List (Nat × X) := [(3, .ptr 3 0 0), (1, zI a1), (2, zI a2)]
       let B11 : List (Nat × Bx) := [(3, ⟨0, 0, true, some (encAcct0 a0)⟩)]
       refine wkr [3, 1, 2] [(3, 3, false)] ⟨T11, B11⟩ ?_
       refine sqr cv hn ?_
       refine ro9 0 3 3 ⟨(28, zB (a0.fState == 0)) :: (27, zI a0.fState) :: (26, .ptr 3 0 1) :: T11, B11⟩ ?_
       rcases dich (a0.fState == 0) with hb22 | hb22
       · replace h := cond_t hb22 h
         refine ct hb22 ?_
         refine sqr cv hn ?_
         refine ro 0 4 4 ⟨(32, zB (a0.fBy == 0)) :: (31, zB (a0.fBy == 0)) :: (30, zI a0.fBy) :: (29, .ptr 3 0 2) :: (28, zB (a0.fState == 0)) :: (27, zI a0.fState) :: (26, .ptr 3 0 1) :: T11, B11⟩ ?_
         rcases dich (a0.fBy == 0) with hb23 | hb23
         · replace h := cond_t hb23 h
           refine rl 32 true hb23 ?_
           refine ro 4 6 6 ⟨(38, zB ((a0.fMarks.length : Int) == 0)) :: (37, zB ((a0.fMarks.length : Int) == 0)) :: (36, zB ((a0.fMarks.length : Int) == 0)) :: (35, zI (a0.fMarks.length : Int)) :: (34, .sl 0 (List.map encInt a0.fMarks)) :: (33, .ptr 3 0 3) :: (32, zB true) :: (31, zB (a0.fBy == 0)) :: (30, zI a0.fBy) :: (29, .ptr 3 0 2) :: (28, zB (a0.fState == 0)) :: (27, zI a0.fState) :: (26, .ptr 3 0 1) :: T11, B11⟩ ?_ (he := by rw [show (a0.fMarks.length : Int) = ((List.map encInt a0.fMarks).length : Int) from by rw [List.length_map]]; kernel_rfl)
           rcases dich ((a0.fMarks.length : Int) == 0) with hb24 | hb24
           · replace h := cond_t hb24 h
             refine rl 38 true hb24 ?_
             refine ro9 10 6 6 ⟨(6, zB ((a0.fReps.length : Int) == 0)) :: (43, zB ((a0.fReps.length : Int) == 0)) :: (42, zB ((a0.fReps.length : Int) == 0)) :: (41, zI (a0.fReps.length : Int)) :: (40, .sl 0 (List.map encRep a0.fReps)) :: (39, .ptr 3 0 4) :: (38, zB true) :: (37, zB ((a0.fMarks.length : Int) == 0)) :: (36, zB ((a0.fMarks.length : Int) == 0)) :: (35, zI (a0.fMarks.length : Int)) :: (34, .sl 0 (List.map encInt a0.fMarks)) :: (33, .ptr 3 0 3) :: (32, zB true) :: (31, zB (a0.fBy == 0)) :: (30, zI a0.fBy) :: (29, .ptr 3 0 2) :: (28, zB (a0.fState == 0)) :: (27, zI a0.fState) :: (26, .ptr 3 0 1) :: T11, B11⟩ ?_ (he := by rw [show (a0.fReps.length : Int) = ((List.map encRep a0.fReps).length : Int) from by rw [List.length_map]]; kernel_rfl)
             refine runs_ret ?_
             exact fin _ _ h (by kernel_rfl)
           · replace h := cond_f hb24 h
             refine rl 38 false hb24 ?_
             refine ro9 10 6 2 ⟨(6, zB false) :: (43, zB false) :: (42, .tup []) :: (41, .tup []) :: (40, .tup []) :: (39, .tup []) :: (38, zB false) :: (37, zB ((a0.fMarks.length : Int) == 0)) :: (36, zB ((a0.fMarks.length : Int) == 0)) :: (35, zI (a0.fMarks.length : Int)) :: (34, .sl 0 (List.map encInt a0.fMarks)) :: (33, .ptr 3 0 3) :: (32, zB true) :: (31, zB (a0.fBy == 0)) :: (30, zI a0.fBy) :: (29, .ptr 3 0 2) :: (28, zB (a0.fState == 0)) :: (27, zI a0.fState) :: (26, .ptr 3 0 1) :: T11, B11⟩ ?_
             refine runs_ret ?_
             exact fin _ _ h (by kernel_rfl)
         · replace h := cond_f hb23 h
           refine rl 32 false hb23 ?_
           refine ro9 4 12 4 ⟨(6, zB false) :: (43, zB false) :: (42, .tup []) :: (41, .tup []) :: (40, .tup []) :: (39, .tup []) :: (38, zB false) :: (37, zB false) :: (36, .tup []) :: (35, .tup []) :: (34, .tup []) :: (33, .tup []) :: (32, zB false) :: (31, zB (a0.fBy == 0)) :: (30, zI a0.fBy) :: (29, .ptr 3 0 2) :: (28, zB (a0.fState == 0)) :: (27, zI a0.fState) :: (26, .ptr 3 0 1) :: T11, B11⟩ ?_
           refine runs_ret ?_
           exact fin _ _ h (by kernel_rfl)
       · replace h := cond_f hb22 h
         refine cf hb22 ?_
         refine runs_skip ?_
         refine runs_seq ?_
         refine sqr cv hn ?_
         refine ro 0 4 4 ⟨(47, zI (w64 (a1 - 1))) :: (46, zI a1) :: (45, zI a0.fBy) :: (44, .ptr 3 0 2) :: (28, zB (a0.fState == 0)) :: (27, zI a0.fState) :: (26, .ptr 3 0 1) :: T11, B11⟩ ?_
         obtain ⟨v34, hv35, h⟩ := bindO h
         refine rc 4 ⟨(48, zB v34) :: (47, zI (w64 (a1 - 1))) :: (46, zI a1) :: (45, zI a0.fBy) :: (44, .ptr 3 0 2) :: (28, zB (a0.fState == 0)) :: (27, zI a0.fState) :: (26, .ptr 3 0 1) :: T11, B11⟩ (spec_l01In_spec a0.fBy 0 (w64 (a1 - 1)) v34 hv35) ?_
         refine ro 5 2 2 ⟨(50, zB (!v34)) :: (49, zB (!v34)) :: (48, zB v34) :: (47, zI (w64 (a1 - 1))) :: (46, zI a1) :: (45, zI a0.fBy) :: (44, .ptr 3 0 2) :: (28, zB (a0.fState == 0)) :: (27, zI a0.fState) :: (26, .ptr 3 0 1) :: T11, B11⟩ ?_
         rcases dich (!v34) with hb36 | hb36
         · replace h := cond_t hb36 h
           refine rl 50 true hb36 ?_
           refine ro9 7 11 3 ⟨(61, zB true) :: (60, .tup []) :: (59, .tup []) :: (58, .tup []) :: (57, .tup []) :: (56, zB true) :: (55, zB true) :: (54, .tup []) :: (53, .tup []) :: (52, .tup []) :: (51, .tup []) :: (50, zB true) :: (49, zB (!v34)) :: (48, zB v34) :: (47, zI (w64 (a1 - 1))) :: (46, zI a1) :: (45, zI a0.fBy) :: (44, .ptr 3 0 2) :: (28, zB (a0.fState == 0)) :: (27, zI a0.fState) :: (26, .ptr 3 0 1) :: T11, B11⟩ ?_
           refine cT ?_
           let T15 : List (Nat × X) := [(3, .ptr 3 0 0), (1, zI a1), (2, zI a2)]
           let B15 : List (Nat × Bx) := [(3, ⟨0, 0, true, some (encAcct0 a0)⟩)]
           refine wkr [3, 1, 2] [(3, 3, false)] ⟨T15, B15⟩ ?_
           refine sqr cv hn ?_
           refine ro9 0 1 1 ⟨(6, zB false) :: T15, B15⟩ ?_
           refine runs_ret ?_
           exact fin _ _ h (by kernel_rfl)
         · replace h := cond_f hb36 h
           refine rl 50 false hb36 ?_
           refine ro 7 2 2 ⟨(52, .sl 0 (List.map encInt a0.fMarks)) :: (51, .ptr 3 0 3) :: (50, zB false) :: (49, zB (!v34)) :: (48, zB v34) :: (47, zI (w64 (a1 - 1))) :: (46, zI a1) :: (45, zI a0.fBy) :: (44, .ptr 3 0 2) :: (28, zB (a0.fState == 0)) :: (27, zI a0.fState) :: (26, .ptr 3 0 1) :: T11, B11⟩ ?_
           obtain ⟨v37, hv38, h⟩ := bindO h
           refine rc 9 ⟨(53, zB v37) :: (52, .sl 0 (List.map encInt a0.fMarks)) :: (51, .ptr 3 0 3) :: (50, zB false) :: (49, zB (!v34)) :: (48, zB v34) :: (47, zI (w64 (a1 - 1))) :: (46, zI a1) :: (45, zI a0.fBy) :: (44, .ptr 3 0 2) :: (28, zB (a0.fState == 0)) :: (27, zI a0.fState) :: (26, .ptr 3 0 1) :: T11, B11⟩ (spec_l07Rise_spec a0.fMarks v37 hv38) ?_
           refine ro 10 3 3 ⟨(56, zB (!v37)) :: (55, zB (!v37)) :: (54, zB (!v37)) :: (53, zB v37) :: (52, .sl 0 (List.map encInt a0.fMarks)) :: (51, .ptr 3 0 3) :: (50, zB false) :: (49, zB (!v34)) :: (48, zB v34) :: (47, zI (w64 (a1 - 1))) :: (46, zI a1) :: (45, zI a0.fBy) :: (44, .ptr 3 0 2) :: (28, zB (a0.fState == 0)) :: (27, zI a0.fState) :: (26, .ptr 3 0 1) :: T11, B11⟩ ?_
           rcases dich (!v37) with hb39 | hb39
           · replace h := cond_t hb39 h
             refine rl 56 true hb39 ?_
             refine ro9 13 5 1 ⟨(61, zB true) :: (60, .tup []) :: (59, .tup []) :: (58, .tup []) :: (57, .tup []) :: (56, zB true) :: (55, zB (!v37)) :: (54, zB (!v37)) :: (53, zB v37) :: (52, .sl 0 (List.map encInt a0.fMarks)) :: (51, .ptr 3 0 3) :: (50, zB false) :: (49, zB (!v34)) :: (48, zB v34) :: (47, zI (w64 (a1 - 1))) :: (46, zI a1) :: (45, zI a0.fBy) :: (44, .ptr 3 0 2) :: (28, zB (a0.fState == 0)) :: (27, zI a0.fState) :: (26, .ptr 3 0 1) :: T11, B11⟩ ?_
             refine cT ?_
             let T16 : List (Nat × X) := [(3, .ptr 3 0 0), (1, zI a1), (2, zI a2)]
             let B16 : List (Nat × Bx) := [(3, ⟨0, 0, true, some (encAcct0 a0)⟩)]
             refine wkr [3, 1, 2] [(3, 3, false)] ⟨T16, B16⟩ ?_
             refine sqr cv hn ?_
             refine ro9 0 1 1 ⟨(6, zB false) :: T16, B16⟩ ?_
             refine runs_ret ?_
             exact fin _ _ h (by kernel_rfl)
           · replace h := cond_f hb39 h
             refine rl 56 false hb39 ?_
             refine ro 13 3 3 ⟨(59, zI a2) :: (58, .sl 0 (List.map encInt a0.fMarks)) :: (57, .ptr 3 0 3) :: (56, zB false) :: (55, zB (!v37)) :: (54, zB (!v37)) :: (53, zB v37) :: (52, .sl 0 (List.map encInt a0.fMarks)) :: (51, .ptr 3 0 3) :: (50, zB false) :: (49, zB (!v34)) :: (48, zB v34) :: (47, zI (w64 (a1 - 1))) :: (46, zI a1) :: (45, zI a0.fBy) :: (44, .ptr 3 0 2) :: (28, zB (a0.fState == 0)) :: (27, zI a0.fState) :: (26, .ptr 3 0 1) :: T11, B11⟩ ?_
             obtain ⟨v40, hv41, h⟩ := bindO h
             refine rc 16 ⟨(60, zB v40) :: (59, zI a2) :: (58, .sl 0 (List.map encInt a0.fMarks)) :: (57, .ptr 3 0 3) :: (56, zB false) :: (55, zB (!v37)) :: (54, zB (!v37)) :: (53, zB v37) :: (52, .sl 0 (List.map encInt a0.fMarks)) :: (51, .ptr 3 0 3) :: (50, zB false) :: (49, zB (!v34)) :: (48, zB v34) :: (47, zI (w64 (a1 - 1))) :: (46, zI a1) :: (45, zI a0.fBy) :: (44, .ptr 3 0 2) :: (28, zB (a0.fState == 0)) :: (27, zI a0.fState) :: (26, .ptr 3 0 1) :: T11, B11⟩ (spec_l01Has_spec a0.fMarks a2 v40 hv41) ?_
             refine ro9 17 1 1 ⟨(61, zB v40) :: (60, zB v40) :: (59, zI a2) :: (58, .sl 0 (List.map encInt a0.fMarks)) :: (57, .ptr 3 0 3) :: (56, zB false) :: (55, zB (!v37)) :: (54, zB (!v37)) :: (53, zB v37) :: (52, .sl 0 (List.map encInt a0.fMarks)) :: (51, .ptr 3 0 3) :: (50, zB false) :: (49, zB (!v34)) :: (48, zB v34) :: (47, zI (w64 (a1 - 1))) :: (46, zI a1) :: (45, zI a0.fBy) :: (44, .ptr 3 0 2) :: (28, zB (a0.fState == 0)) :: (27, zI a0.fState) :: (26, .ptr 3 0 1) :: T11, B11⟩ ?_
             rcases dich v40 with hb42 | hb42
             · replace h := cond_t hb42 h
               refine ct hb42 ?_
               let T17 : List (Nat × X) := [(3, .ptr 3 0 0), (1, zI a1), (2, zI a2)]
               let B17 : List (Nat × Bx) := [(3, ⟨0, 0, true, some (encAcct0 a0)⟩)]
               refine wkr [3, 1, 2] [(3, 3, false)] ⟨T17, B17⟩ ?_
               refine sqr cv hn ?_
               refine ro9 0 1 1 ⟨(6, zB false) :: T17, B17⟩ ?_
               refine runs_ret ?_
               exact fin _ _ h (by kernel_rfl)
             · replace h := cond_f hb42 h
               refine cf hb42 ?_
               refine runs_skip ?_
               let T19 : List (Nat × X) := [(3, .ptr 3 0 0), (1, zI a1), (2, zI a2)]
               let B19 : List (Nat × Bx) := [(3, ⟨0, 0, true, some (encAcct0 a0)⟩)]
               refine wkr [3, 1, 2] [(3, 3, false)] ⟨T19, B19⟩ ?_
               refine sqr cv hn ?_
               refine ro9 0 1 1 ⟨(7, zB false) :: T19, B19⟩ ?_
               refine runs_seq ?_
               refine sqr cv hn ?_
               refine ro9 0 4 4 ⟨(65, zI 0) :: (64, zI (a0.fReps.length : Int)) :: (63, .sl 0 (List.map encRep a0.fReps)) :: (62, .ptr 3 0 4) :: (7, zB false) :: T19, B19⟩ ?_ (he := by rw [show (a0.fReps.length : Int) = ((List.map encRep a0.fReps).length : Int) from by rw [List.length_map]]; kernel_rfl)
               refine runs_block ?_
               refine runs_loopM (σ := List SRep × Nat × Bool) (fun s => ⟨[(65, zI (s.2.1 : Int)), (64, zI (a0.fReps.length : Int)), (63, .sl 0 (List.map encRep a0.fReps)), (7, zB s.2.2), (3, .ptr 3 0 0), (1, zI a1), (2, zI a2)], [(3, ⟨0, 0, true, some (encAcct0 a0)⟩)]⟩) (fun s => s.1 = List.drop s.2.1 a0.fReps ∧ spec_AcctOk_l1 a0 a1 a2 s.1 s.2.1 s.2.2 = some v0) (fun s => s.1.length) (a0.fReps, 0, false) ⟨rfl, h⟩ (wre [65, 64, 63, 7, 3, 1, 2] [(3, 3, false)]) ?_
               rintro ⟨t1, i1, y158⟩ ⟨hd1, h⟩
               refine seq0 ⟨[(65, zI (i1 : Int)), (64, zI (a0.fReps.length : Int)), (63, .sl 0 (List.map encRep a0.fReps)), (7, zB y158), (3, .ptr 3 0 0), (1, zI a1), (2, zI a2)], [(3, ⟨0, 0, true, some (encAcct0 a0)⟩)]⟩ ?_
               refine runs_len 63 (es := List.map encRep a0.fReps) (by kernel_rfl) fun hl1 => ?_
               replace hl1 := len_of_map hl1
               cases t1 with
               | nil =>
                 rw [spec_AcctOk_l1] at h
                 have hLn1 := dnil hd1
                 refine sqr cv hn ?_
                 refine ro9 0 1 1 ⟨[(66, zB (decide ((i1 : Int) < (a0.fReps.length : Int)))), (65, zI (i1 : Int)), (64, zI (a0.fReps.length : Int)), (63, .sl 0 (List.map encRep a0.fReps)), (7, zB y158), (3, .ptr 3 0 0), (1, zI a1), (2, zI a2)], [(3, ⟨0, 0, true, some (encAcct0 a0)⟩)]⟩ ?_
                 refine runs_seq ?_
                 refine cf hLn1 ?_
                 refine runs_exit ?_
                 repeat refine thenX_exit ?_
                 refine block_here ?_
                 refine runs_seqJ (σ := Unit) (fun s => ⟨[(1, zI a1), (3, .ptr 3 0 0)], [(3, ⟨0, 0, true, some (encAcct0 a0)⟩)]⟩) (fun s => spec_AcctOk_j2 a0 a1 = some v0) ?_ ?_
                 · rintro _ h
                   rw [spec_AcctOk_j2] at h
                   let B27 : List (Nat × Bx) := [(3, ⟨0, 0, true, some (encAcct0 a0)⟩)]
                   refine seq0 ⟨[(1, zI a1), (3, .ptr 3 0 0)], B27⟩ ?_
                   refine runs_seq ?_
                   refine sqr cv hn ?_
                   refine ro9 0 5 5 ⟨[(138, zB ((a0.fReps.length : Int) == a1)), (137, zI a1), (136, zI (a0.fReps.length : Int)), (135, .sl 0 (List.map encRep a0.fReps)), (134, .ptr 3 0 4), (1, zI a1), (3, .ptr 3 0 0)], B27⟩ ?_ (he := by rw [show (a0.fReps.length : Int) = ((List.map encRep a0.fReps).length : Int) from by rw [List.length_map]]; kernel_rfl)
                   rcases dich ((a0.fReps.length : Int) == a1) with hb203 | hb203
                   · replace h := cond_t hb203 h
                     refine ct hb203 ?_
                     let B28 : List (Nat × Bx) := [(3, ⟨0, 0, true, some (encAcct0 a0)⟩)]
                     refine wkr [3] [(3, 3, false)] ⟨[(3, .ptr 3 0 0)], B28⟩ ?_
                     refine sqr cv hn ?_
                     refine ro9 0 4 4 ⟨[(6, zB (a0.fState == 2)), (141, zB (a0.fState == 2)), (140, zI a0.fState), (139, .ptr 3 0 1), (3, .ptr 3 0 0)], B28⟩ ?_
                     refine runs_ret ?_
                     exact fin _ _ h (by kernel_rfl)
                   · replace h := cond_f hb203 h
                     refine cf hb203 ?_
                     refine runs_skip ?_
                     let B29 : List (Nat × Bx) := [(3, ⟨0, 0, true, some (encAcct0 a0)⟩)]
                     refine wkr [3] [(3, 3, false)] ⟨[(3, .ptr 3 0 0)], B29⟩ ?_
                     refine sqr cv hn ?_
                     refine ro9 0 4 4 ⟨[(6, zB (a0.fState == 1)), (144, zB (a0.fState == 1)), (143, zI a0.fState), (142, .ptr 3 0 1), (3, .ptr 3 0 0)], B29⟩ ?_
                     refine runs_ret ?_
                     exact fin _ _ h (by kernel_rfl)
                 · skip
                   let T30 : List (Nat × X) := [(7, zB y158), (3, .ptr 3 0 0), (1, zI a1)]
                   let B30 : List (Nat × Bx) := [(3, ⟨0, 0, true, some (encAcct0 a0)⟩)]
                   refine wkr [7, 3, 1] [(3, 3, false)] ⟨T30, B30⟩ ?_
                   refine sqr cv hn ?_
                   refine ro 0 5 5 ⟨(112, zB (decide ((a0.fMarks.length : Int) > 0))) :: (111, zB (decide ((a0.fMarks.length : Int) > 0))) :: (110, zI (a0.fMarks.length : Int)) :: (109, .sl 0 (List.map encInt a0.fMarks)) :: (108, .ptr 3 0 3) :: T30, B30⟩ ?_ (he := by rw [show (a0.fMarks.length : Int) = ((List.map encInt a0.fMarks).length : Int) from by rw [List.length_map]]; kernel_rfl)
                   rcases dich (decide ((a0.fMarks.length : Int) > 0)) with hb204 | hb204
                   · replace h := cond_t hb204 h
                     refine rl 112 true hb204 ?_
                     refine ro 5 6 6 ⟨(118, zI (w64 ((a0.fMarks.length : Int) - 1))) :: (117, zI (a0.fMarks.length : Int)) :: (116, .sl 0 (List.map encInt a0.fMarks)) :: (115, .ptr 3 0 3) :: (114, .sl 0 (List.map encInt a0.fMarks)) :: (113, .ptr 3 0 3) :: (112, zB true) :: (111, zB (decide ((a0.fMarks.length : Int) > 0))) :: (110, zI (a0.fMarks.length : Int)) :: (109, .sl 0 (List.map encInt a0.fMarks)) :: (108, .ptr 3 0 3) :: T30, B30⟩ ?_ (he := by rw [show (a0.fMarks.length : Int) = ((List.map encInt a0.fMarks).length : Int) from by rw [List.length_map]]; kernel_rfl)
                     obtain ⟨x205, hx206, h⟩ := bindO h
                     refine rix 11 encInt 3 hx206 (ix_nn hx206) ⟨(119, .rp (zI x205) 0) :: (118, zI (w64 ((a0.fMarks.length : Int) - 1))) :: (117, zI (a0.fMarks.length : Int)) :: (116, .sl 0 (List.map encInt a0.fMarks)) :: (115, .ptr 3 0 3) :: (114, .sl 0 (List.map encInt a0.fMarks)) :: (113, .ptr 3 0 3) :: (112, zB true) :: (111, zB (decide ((a0.fMarks.length : Int) > 0))) :: (110, zI (a0.fMarks.length : Int)) :: (109, .sl 0 (List.map encInt a0.fMarks)) :: (108, .ptr 3 0 3) :: T30, B30⟩ ?_
                     refine ro 12 5 5 ⟨(124, zB (decide (x205 ≥ a1))) :: (123, zB (decide (x205 ≥ a1))) :: (122, zB (decide (x205 ≥ a1))) :: (121, zI a1) :: (120, zI x205) :: (119, .rp (zI x205) 0) :: (118, zI (w64 ((a0.fMarks.length : Int) - 1))) :: (117, zI (a0.fMarks.length : Int)) :: (116, .sl 0 (List.map encInt a0.fMarks)) :: (115, .ptr 3 0 3) :: (114, .sl 0 (List.map encInt a0.fMarks)) :: (113, .ptr 3 0 3) :: (112, zB true) :: (111, zB (decide ((a0.fMarks.length : Int) > 0))) :: (110, zI (a0.fMarks.length : Int)) :: (109, .sl 0 (List.map encInt a0.fMarks)) :: (108, .ptr 3 0 3) :: T30, B30⟩ ?_
                     rcases dich (decide (x205 ≥ a1)) with hb207 | hb207
                     · replace h := cond_t hb207 h
                       refine rl 124 true hb207 ?_
                       refine ro9 17 9 1 ⟨(133, zB true) :: (132, .tup []) :: (131, .tup []) :: (130, .tup []) :: (129, .tup []) :: (128, .tup []) :: (127, .tup []) :: (126, .tup []) :: (125, .tup []) :: (124, zB true) :: (123, zB (decide (x205 ≥ a1))) :: (122, zB (decide (x205 ≥ a1))) :: (121, zI a1) :: (120, zI x205) :: (119, .rp (zI x205) 0) :: (118, zI (w64 ((a0.fMarks.length : Int) - 1))) :: (117, zI (a0.fMarks.length : Int)) :: (116, .sl 0 (List.map encInt a0.fMarks)) :: (115, .ptr 3 0 3) :: (114, .sl 0 (List.map encInt a0.fMarks)) :: (113, .ptr 3 0 3) :: (112, zB true) :: (111, zB (decide ((a0.fMarks.length : Int) > 0))) :: (110, zI (a0.fMarks.length : Int)) :: (109, .sl 0 (List.map encInt a0.fMarks)) :: (108, .ptr 3 0 3) :: T30, B30⟩ ?_
                       refine cT ?_
                       let B31 : List (Nat × Bx) := [(3, ⟨0, 0, true, some (encAcct0 a0)⟩)]
                       refine wkr [3, 1] [(3, 3, false)] ⟨[(3, .ptr 3 0 0), (1, zI a1)], B31⟩ ?_
                       refine sqr cv hn ?_
                       refine ro9 0 1 1 ⟨[(6, zB false), (3, .ptr 3 0 0), (1, zI a1)], B31⟩ ?_
                       refine runs_ret ?_
                       exact fin _ _ h (by kernel_rfl)
                     · replace h := cond_f hb207 h
                       refine rl 124 false hb207 ?_
                       refine ro9 17 9 9 ⟨(133, zB (y158 != ((a0.fMarks.length : Int) == (w64 (a1 - 1))))) :: (132, zB (y158 != ((a0.fMarks.length : Int) == (w64 (a1 - 1))))) :: (131, zB ((a0.fMarks.length : Int) == (w64 (a1 - 1)))) :: (130, zI (w64 (a1 - 1))) :: (129, zI a1) :: (128, zI (a0.fMarks.length : Int)) :: (127, .sl 0 (List.map encInt a0.fMarks)) :: (126, .ptr 3 0 3) :: (125, zB y158) :: (124, zB false) :: (123, zB (decide (x205 ≥ a1))) :: (122, zB (decide (x205 ≥ a1))) :: (121, zI a1) :: (120, zI x205) :: (119, .rp (zI x205) 0) :: (118, zI (w64 ((a0.fMarks.length : Int) - 1))) :: (117, zI (a0.fMarks.length : Int)) :: (116, .sl 0 (List.map encInt a0.fMarks)) :: (115, .ptr 3 0 3) :: (114, .sl 0 (List.map encInt a0.fMarks)) :: (113, .ptr 3 0 3) :: (112, zB true) :: (111, zB (decide ((a0.fMarks.length : Int) > 0))) :: (110, zI (a0.fMarks.length : Int)) :: (109, .sl 0 (List.map encInt a0.fMarks)) :: (108, .ptr 3 0 3) :: T30, B30⟩ ?_ (he := by rw [show (a0.fMarks.length : Int) = ((List.map encInt a0.fMarks).length : Int) from by rw [List.length_map]]; kernel_rfl)
                       rcases dich (y158 != ((a0.fMarks.length : Int) == (w64 (a1 - 1)))) with hb208 | hb208
                       · replace h := cond_t hb208 h
                         refine ct hb208 ?_
                         let B32 : List (Nat × Bx) := [(3, ⟨0, 0, true, some (encAcct0 a0)⟩)]
                         refine wkr [3, 1] [(3, 3, false)] ⟨[(3, .ptr 3 0 0), (1, zI a1)], B32⟩ ?_
                         refine sqr cv hn ?_
                         refine ro9 0 1 1 ⟨[(6, zB false), (3, .ptr 3 0 0), (1, zI a1)], B32⟩ ?_
                         refine runs_ret ?_
                         exact fin _ _ h (by kernel_rfl)
                       · replace h := cond_f hb208 h
                         refine cf hb208 ?_
                         refine runs_skip ?_
                         exact ⟨(), h, wre [1, 3] [(3, 3, false)]⟩
                   · replace h := cond_f hb204 h
                     refine rl 112 false hb204 ?_
                     refine ro9 5 21 11 ⟨(133, zB (y158 != ((a0.fMarks.length : Int) == (w64 (a1 - 1))))) :: (132, zB (y158 != ((a0.fMarks.length : Int) == (w64 (a1 - 1))))) :: (131, zB ((a0.fMarks.length : Int) == (w64 (a1 - 1)))) :: (130, zI (w64 (a1 - 1))) :: (129, zI a1) :: (128, zI (a0.fMarks.length : Int)) :: (127, .sl 0 (List.map encInt a0.fMarks)) :: (126, .ptr 3 0 3) :: (125, zB y158) :: (124, zB false) :: (123, zB false) :: (122, .tup []) :: (121, .tup []) :: (120, .tup []) :: (119, .tup []) :: (118, .tup []) :: (117, .tup []) :: (116, .tup []) :: (115, .tup []) :: (114, .tup []) :: (113, .tup []) :: (112, zB false) :: (111, zB (decide ((a0.fMarks.length : Int) > 0))) :: (110, zI (a0.fMarks.length : Int)) :: (109, .sl 0 (List.map encInt a0.fMarks)) :: (108, .ptr 3 0 3) :: T30, B30⟩ ?_ (he := by rw [show (a0.fMarks.length : Int) = ((List.map encInt a0.fMarks).length : Int) from by rw [List.length_map]]; kernel_rfl)
                     rcases dich (y158 != ((a0.fMarks.length : Int) == (w64 (a1 - 1)))) with hb209 | hb209
                     · replace h := cond_t hb209 h
                       refine ct hb209 ?_
                       let B33 : List (Nat × Bx) := [(3, ⟨0, 0, true, some (encAcct0 a0)⟩)]
                       refine wkr [3, 1] [(3, 3, false)] ⟨[(3, .ptr 3 0 0), (1, zI a1)], B33⟩ ?_
                       refine sqr cv hn ?_
                       refine ro9 0 1 1 ⟨[(6, zB false), (3, .ptr 3 0 0), (1, zI a1)], B33⟩ ?_
                       refine runs_ret ?_
                       exact fin _ _ h (by kernel_rfl)
                     · replace h := cond_f hb209 h
                       refine cf hb209 ?_
                       refine runs_skip ?_
                       exact ⟨(), h, wre [1, 3] [(3, 3, false)]⟩
               | cons x10 t1 =>
                 rw [spec_AcctOk_l1] at h
                 have hLc1 := dcons hd1
                 have hx10 := dget hd1
                 have hi1 := dinc hd1 hl1
                 refine sqr cv hn ?_
                 refine ro9 0 1 1 ⟨[(66, zB (decide ((i1 : Int) < (a0.fReps.length : Int)))), (65, zI (i1 : Int)), (64, zI (a0.fReps.length : Int)), (63, .sl 0 (List.map encRep a0.fReps)), (7, zB y158), (3, .ptr 3 0 0), (1, zI a1), (2, zI a2)], [(3, ⟨0, 0, true, some (encAcct0 a0)⟩)]⟩ ?_
                 refine runs_seq ?_
                 refine ct hLc1 ?_
                 refine runs_skip ?_
                 refine runs_seq ?_
                 refine runs_block ?_
                 refine sqr cv hn ?_
                 refine ro 0 1 1 ⟨[(67, zI (i1 : Int)), (66, zB (decide ((i1 : Int) < (a0.fReps.length : Int)))), (65, zI (i1 : Int)), (64, zI (a0.fReps.length : Int)), (63, .sl 0 (List.map encRep a0.fReps)), (7, zB y158), (3, .ptr 3 0 0), (1, zI a1), (2, zI a2)], [(3, ⟨0, 0, true, some (encAcct0 a0)⟩)]⟩ ?_
                 refine rix 1 encRep 119 hx10 (ix_nn hx10) ⟨[(68, .rp (encRep x10) 0), (67, zI (i1 : Int)), (66, zB (decide ((i1 : Int) < (a0.fReps.length : Int)))), (65, zI (i1 : Int)), (64, zI (a0.fReps.length : Int)), (63, .sl 0 (List.map encRep a0.fReps)), (7, zB y158), (3, .ptr 3 0 0), (1, zI a1), (2, zI a2)], [(3, ⟨0, 0, true, some (encAcct0 a0)⟩)]⟩ ?_
                 refine ro9 2 4 4 ⟨[(8, zI (i1 : Int)), (9, .ptr 9 1 0), (69, encRep x10), (68, .rp (encRep x10) 0), (67, zI (i1 : Int)), (66, zB (decide ((i1 : Int) < (a0.fReps.length : Int)))), (65, zI (i1 : Int)), (64, zI (a0.fReps.length : Int)), (63, .sl 0 (List.map encRep a0.fReps)), (7, zB y158), (3, .ptr 3 0 0), (1, zI a1), (2, zI a2)], [(9, ⟨1, 1, true, some (encRep x10)⟩), (9, ⟨1, 1, true, some (.agg [zI 0, zI 0])⟩), (3, ⟨0, 0, true, some (encAcct0 a0)⟩)]⟩ ?_
                 refine runs_seqJ (σ := Bool × Bool × Bool × Bool × Bool × Bool × Bool × Bool) (fun s => ⟨[(1, zI a1), (2, zI a2), (3, .ptr 3 0 0), (7, zB y158), (8, zI (i1 : Int)), (9, .ptr 9 0 0), (63, .sl 0 (List.map encRep a0.fReps)), (64, zI (a0.fReps.length : Int)), (65, zI (i1 : Int)), (66, zB (decide ((i1 : Int) < (a0.fReps.length : Int)))), (67, zI (i1 : Int)), (68, .rp (encRep x10) 0), (69, encRep x10), (70, .ptr 9 0 0), (71, zI x10.fNode), (72, zI a1), (73, zI (w64 (a1 - 1))), (74, zB s.1), (75, zB s.2.1), (76, zB false), (77, .ptr 9 0 1), (78, zI x10.fAmt), (79, zB s.2.2.1), (80, zB s.2.2.2.1), (81, zB s.2.2.2.2.1), (82, zB false), (83, zI (i1 : Int)), (84, zB (decide ((i1 : Int) > 0))), (85, zB s.2.2.2.2.2.1), (96, zB s.2.2.2.2.2.2.1), (97, zB s.2.2.2.2.2.2.2)], [(3, ⟨0, 0, true, some (encAcct0 a0)⟩), (9, ⟨0, 0, true, some (encRep x10)⟩)]⟩) (fun s => spec_AcctOk_j3 a0 a2 y158 (spec_AcctOk_l1 a0 a1 a2 t1 (i1 + 1)) x10 s.1 s.2.1 s.2.2.1 s.2.2.2.1 s.2.2.2.2.1 s.2.2.2.2.2.1 s.2.2.2.2.2.2.1 s.2.2.2.2.2.2.2 = some v0) ?_ ?_
                 · rintro ⟨y220, y221, y222, y223, y224, y225, y226, y227⟩ h
                   rw [spec_AcctOk_j3] at h
                   let T34 : List (Nat × X) := [(1, zI a1), (2, zI a2), (3, .ptr 3 0 0), (7, zB y158), (8, zI (i1 : Int)), (9, .ptr 9 0 0), (63, .sl 0 (List.map encRep a0.fReps)), (64, zI (a0.fReps.length : Int)), (65, zI (i1 : Int)), (66, zB (decide ((i1 : Int) < (a0.fReps.length : Int)))), (67, zI (i1 : Int)), (68, .rp (encRep x10) 0), (69, encRep x10), (70, .ptr 9 0 0), (71, zI x10.fNode), (72, zI a1), (73, zI (w64 (a1 - 1))), (74, zB y220), (75, zB y221), (76, zB false), (77, .ptr 9 0 1), (78, zI x10.fAmt), (79, zB y222), (80, zB y223), (81, zB y224), (82, zB false), (83, zI (i1 : Int)), (84, zB (decide ((i1 : Int) > 0))), (85, zB y225), (96, zB y226), (97, zB y227)]
                   let B34 : List (Nat × Bx) := [(3, ⟨0, 0, true, some (encAcct0 a0)⟩), (9, ⟨0, 0, true, some (encRep x10)⟩)]
                   refine seq0 ⟨T34, B34⟩ ?_
                   refine sqr cv hn ?_
                   refine ro9 0 4 4 ⟨(101, zB (x10.fNode == a2)) :: (100, zI a2) :: (99, zI x10.fNode) :: (98, .ptr 9 0 0) :: T34, B34⟩ ?_
                   rcases dich (x10.fNode == a2) with hb228 | hb228
                   · replace h := cond_t hb228 h
                     refine ct hb228 ?_
                     refine sqr cv hn ?_
                     refine ro9 0 1 1 ⟨(7, zB true) :: (101, zB (x10.fNode == a2)) :: (100, zI a2) :: (99, zI x10.fNode) :: (98, .ptr 9 0 0) :: T34, B34⟩ ?_
                     refine sqr cv hn ?_
                     refine ro9 0 5 5 ⟨(106, zB (x10.fAmt != a0.fHave)) :: (105, zI a0.fHave) :: (104, .ptr 3 0 0) :: (103, zI x10.fAmt) :: (102, .ptr 9 0 1) :: (7, zB true) :: (101, zB (x10.fNode == a2)) :: (100, zI a2) :: (99, zI x10.fNode) :: (98, .ptr 9 0 0) :: T34, B34⟩ ?_
                     rcases dich (x10.fAmt != a0.fHave) with hb229 | hb229
                     · replace h := cond_t hb229 h
                       refine ct hb229 ?_
                       refine sqr cv hn ?_
                       refine ro9 0 1 1 ⟨(6, zB false) :: (106, zB (x10.fAmt != a0.fHave)) :: (105, zI a0.fHave) :: (104, .ptr 3 0 0) :: (103, zI x10.fAmt) :: (102, .ptr 9 0 1) :: (7, zB true) :: (101, zB (x10.fNode == a2)) :: (100, zI a2) :: (99, zI x10.fNode) :: (98, .ptr 9 0 0) :: T34, B34⟩ ?_
                       refine runs_ret ?_
                       exact fin _ _ h (by kernel_rfl)
                     · replace h := cond_f hb229 h
                       refine cf hb229 ?_
                       refine runs_skip ?_
                       refine rg cv hn ?_
                       refine ro9 0 2 2 ⟨(65, zI ((i1 + 1 : Nat) : Int)) :: (107, zI ((i1 + 1 : Nat) : Int)) :: (106, zB (x10.fAmt != a0.fHave)) :: (105, zI a0.fHave) :: (104, .ptr 3 0 0) :: (103, zI x10.fAmt) :: (102, .ptr 9 0 1) :: (7, zB true) :: (101, zB (x10.fNode == a2)) :: (100, zI a2) :: (99, zI x10.fNode) :: (98, .ptr 9 0 0) :: T34, B34⟩ ?_ (he := by rw [← hi1]; kernel_rfl)
                       exact ⟨(t1, i1 + 1, true), Nat.lt_succ_self _, ⟨dnext hd1, h⟩, wre [65, 64, 63, 7, 3, 1, 2] [(3, 3, false)]⟩
                   · replace h := cond_f hb228 h
                     refine cf hb228 ?_
                     refine runs_skip ?_
                     refine rg cv hn ?_
                     refine ro9 0 2 2 ⟨(65, zI ((i1 + 1 : Nat) : Int)) :: (107, zI ((i1 + 1 : Nat) : Int)) :: (101, zB (x10.fNode == a2)) :: (100, zI a2) :: (99, zI x10.fNode) :: (98, .ptr 9 0 0) :: T34, B34⟩ ?_ (he := by rw [← hi1]; kernel_rfl)
                     exact ⟨(t1, i1 + 1, y158), Nat.lt_succ_self _, ⟨dnext hd1, h⟩, wre [65, 64, 63, 7, 3, 1, 2] [(3, 3, false)]⟩
                 · skip
                   refine runs_seq ?_
                   refine rgT cv mixed hn ?_
                   refine roT 0 4 4 ⟨[(73, zI (w64 (a1 - 1))), (72, zI a1), (71, zI x10.fNode), (70, .ptr 9 1 0), (8, zI (i1 : Int)), (9, .ptr 9 1 0), (69, encRep x10), (68, .rp (encRep x10) 0), (67, zI (i1 : Int)), (66, zB (decide ((i1 : Int) < (a0.fReps.length : Int)))), (65, zI (i1 : Int)), (64, zI (a0.fReps.length : Int)), (63, .sl 0 (List.map encRep a0.fReps)), (7, zB y158), (3, .ptr 3 0 0), (1, zI a1), (2, zI a2)], [(9, ⟨1, 1, true, some (encRep x10)⟩), (9, ⟨1, 1, true, some (.agg [zI 0, zI 0])⟩), (3, ⟨0, 0, true, some (encAcct0 a0)⟩)]⟩ ?_
                   obtain ⟨v230, hv231, h⟩ := bindO h
                   refine rcT 4 ⟨[(74, zB v230), (73, zI (w64 (a1 - 1))), (72, zI a1), (71, zI x10.fNode), (70, .ptr 9 1 0), (8, zI (i1 : Int)), (9, .ptr 9 1 0), (69, encRep x10), (68, .rp (encRep x10) 0), (67, zI (i1 : Int)), (66, zB (decide ((i1 : Int) < (a0.fReps.length : Int)))), (65, zI (i1 : Int)), (64, zI (a0.fReps.length : Int)), (63, .sl 0 (List.map encRep a0.fReps)), (7, zB y158), (3, .ptr 3 0 0), (1, zI a1), (2, zI a2)], [(9, ⟨1, 1, true, some (encRep x10)⟩), (9, ⟨1, 1, true, some (.agg [zI 0, zI 0])⟩), (3, ⟨0, 0, true, some (encAcct0 a0)⟩)]⟩ (spec_l01In_spec x10.fNode 0 (w64 (a1 - 1)) v230 hv231) ?_
                   refine roT 5 2 2 ⟨[(76, zB (!v230)), (75, zB (!v230)), (74, zB v230), (73, zI (w64 (a1 - 1))), (72, zI a1), (71, zI x10.fNode), (70, .ptr 9 1 0), (8, zI (i1 : Int)), (9, .ptr 9 1 0), (69, encRep x10), (68, .rp (encRep x10) 0), (67, zI (i1 : Int)), (66, zB (decide ((i1 : Int) < (a0.fReps.length : Int)))), (65, zI (i1 : Int)), (64, zI (a0.fReps.length : Int)), (63, .sl 0 (List.map encRep a0.fReps)), (7, zB y158), (3, .ptr 3 0 0), (1, zI a1), (2, zI a2)], [(9, ⟨1, 1, true, some (encRep x10)⟩), (9, ⟨1, 1, true, some (.agg [zI 0, zI 0])⟩), (3, ⟨0, 0, true, some (encAcct0 a0)⟩)]⟩ ?_
                   rcases dich (!v230) with hb232 | hb232
                   · replace h := cond_t hb232 h
                     refine rlT 76 true hb232 ?_
                     refine roT9 7 21 3 ⟨[(97, zB true), (96, .tup []), (95, .tup []), (94, .tup []), (93, .tup []), (92, .tup []), (91, .tup []), (90, .tup []), (89, .tup []), (88, .tup []), (87, .tup []), (86, .tup []), (85, .tup []), (84, .tup []), (83, .tup []), (82, zB true), (81, zB true), (80, .tup []), (79, .tup []), (78, .tup []), (77, .tup []), (76, zB true), (75, zB (!v230)), (74, zB v230), (73, zI (w64 (a1 - 1))), (72, zI a1), (71, zI x10.fNode), (70, .ptr 9 1 0), (8, zI (i1 : Int)), (9, .ptr 9 1 0), (69, encRep x10), (68, .rp (encRep x10) 0), (67, zI (i1 : Int)), (66, zB (decide ((i1 : Int) < (a0.fReps.length : Int)))), (65, zI (i1 : Int)), (64, zI (a0.fReps.length : Int)), (63, .sl 0 (List.map encRep a0.fReps)), (7, zB y158), (3, .ptr 3 0 0), (1, zI a1), (2, zI a2)], [(9, ⟨1, 1, true, some (encRep x10)⟩), (9, ⟨1, 1, true, some (.agg [zI 0, zI 0])⟩), (3, ⟨0, 0, true, some (encAcct0 a0)⟩)]⟩ ?_
                     refine cT ?_
                     refine sqr cv hn ?_
                     refine ro9 0 1 1 ⟨[(6, zB false), (97, zB true), (96, .tup []), (95, .tup []), (94, .tup []), (93, .tup []), (92, .tup []), (91, .tup []), (90, .tup []), (89, .tup []), (88, .tup []), (87, .tup []), (86, .tup []), (85, .tup []), (84, .tup []), (83, .tup []), (82, zB true), (81, zB true), (80, .tup []), (79, .tup []), (78, .tup []), (77, .tup []), (76, zB true), (75, zB (!v230)), (74, zB v230), (73, zI (w64 (a1 - 1))), (72, zI a1), (71, zI x10.fNode), (70, .ptr 9 1 0), (8, zI (i1 : Int)), (9, .ptr 9 1 0), (69, encRep x10), (68, .rp (encRep x10) 0), (67, zI (i1 : Int)), (66, zB (decide ((i1 : Int) < (a0.fReps.length : Int)))), (65, zI (i1 : Int)), (64, zI (a0.fReps.length : Int)), (63, .sl 0 (List.map encRep a0.fReps)), (7, zB y158), (3, .ptr 3 0 0), (1, zI a1), (2, zI a2)], [(9, ⟨1, 1, true, some (encRep x10)⟩), (9, ⟨1, 1, true, some (.agg [zI 0, zI 0])⟩), (3, ⟨0, 0, true, some (encAcct0 a0)⟩)]⟩ ?_
                     refine runs_ret ?_
                     exact fin _ _ h (by kernel_rfl)
                   · replace h := cond_f hb232 h
                     refine rlT 76 false hb232 ?_
                     refine roT 7 2 2 ⟨[(78, zI x10.fAmt), (77, .ptr 9 1 1), (76, zB false), (75, zB (!v230)), (74, zB v230), (73, zI (w64 (a1 - 1))), (72, zI a1), (71, zI x10.fNode), (70, .ptr 9 1 0), (8, zI (i1 : Int)), (9, .ptr 9 1 0), (69, encRep x10), (68, .rp (encRep x10) 0), (67, zI (i1 : Int)), (66, zB (decide ((i1 : Int) < (a0.fReps.length : Int)))), (65, zI (i1 : Int)), (64, zI (a0.fReps.length : Int)), (63, .sl 0 (List.map encRep a0.fReps)), (7, zB y158), (3, .ptr 3 0 0), (1, zI a1), (2, zI a2)], [(9, ⟨1, 1, true, some (encRep x10)⟩), (9, ⟨1, 1, true, some (.agg [zI 0, zI 0])⟩), (3, ⟨0, 0, true, some (encAcct0 a0)⟩)]⟩ ?_
                     obtain ⟨v233, hv234, h⟩ := bindO h
                     refine rcT 9 ⟨[(79, zB v233), (78, zI x10.fAmt), (77, .ptr 9 1 1), (76, zB false), (75, zB (!v230)), (74, zB v230), (73, zI (w64 (a1 - 1))), (72, zI a1), (71, zI x10.fNode), (70, .ptr 9 1 0), (8, zI (i1 : Int)), (9, .ptr 9 1 0), (69, encRep x10), (68, .rp (encRep x10) 0), (67, zI (i1 : Int)), (66, zB (decide ((i1 : Int) < (a0.fReps.length : Int)))), (65, zI (i1 : Int)), (64, zI (a0.fReps.length : Int)), (63, .sl 0 (List.map encRep a0.fReps)), (7, zB y158), (3, .ptr 3 0 0), (1, zI a1), (2, zI a2)], [(9, ⟨1, 1, true, some (encRep x10)⟩), (9, ⟨1, 1, true, some (.agg [zI 0, zI 0])⟩), (3, ⟨0, 0, true, some (encAcct0 a0)⟩)]⟩ (spec_l01Num_spec x10.fAmt v233 hv234) ?_
                     refine roT 10 3 3 ⟨[(82, zB (!v233)), (81, zB (!v233)), (80, zB (!v233)), (79, zB v233), (78, zI x10.fAmt), (77, .ptr 9 1 1), (76, zB false), (75, zB (!v230)), (74, zB v230), (73, zI (w64 (a1 - 1))), (72, zI a1), (71, zI x10.fNode), (70, .ptr 9 1 0), (8, zI (i1 : Int)), (9, .ptr 9 1 0), (69, encRep x10), (68, .rp (encRep x10) 0), (67, zI (i1 : Int)), (66, zB (decide ((i1 : Int) < (a0.fReps.length : Int)))), (65, zI (i1 : Int)), (64, zI (a0.fReps.length : Int)), (63, .sl 0 (List.map encRep a0.fReps)), (7, zB y158), (3, .ptr 3 0 0), (1, zI a1), (2, zI a2)], [(9, ⟨1, 1, true, some (encRep x10)⟩), (9, ⟨1, 1, true, some (.agg [zI 0, zI 0])⟩), (3, ⟨0, 0, true, some (encAcct0 a0)⟩)]⟩ ?_
                     rcases dich (!v233) with hb235 | hb235
                     · replace h := cond_t hb235 h
                       refine rlT 82 true hb235 ?_
                       refine roT9 13 15 1 ⟨[(97, zB true), (96, .tup []), (95, .tup []), (94, .tup []), (93, .tup []), (92, .tup []), (91, .tup []), (90, .tup []), (89, .tup []), (88, .tup []), (87, .tup []), (86, .tup []), (85, .tup []), (84, .tup []), (83, .tup []), (82, zB true), (81, zB (!v233)), (80, zB (!v233)), (79, zB v233), (78, zI x10.fAmt), (77, .ptr 9 1 1), (76, zB false), (75, zB (!v230)), (74, zB v230), (73, zI (w64 (a1 - 1))), (72, zI a1), (71, zI x10.fNode), (70, .ptr 9 1 0), (8, zI (i1 : Int)), (9, .ptr 9 1 0), (69, encRep x10), (68, .rp (encRep x10) 0), (67, zI (i1 : Int)), (66, zB (decide ((i1 : Int) < (a0.fReps.length : Int)))), (65, zI (i1 : Int)), (64, zI (a0.fReps.length : Int)), (63, .sl 0 (List.map encRep a0.fReps)), (7, zB y158), (3, .ptr 3 0 0), (1, zI a1), (2, zI a2)], [(9, ⟨1, 1, true, some (encRep x10)⟩), (9, ⟨1, 1, true, some (.agg [zI 0, zI 0])⟩), (3, ⟨0, 0, true, some (encAcct0 a0)⟩)]⟩ ?_
                       refine cT ?_
                       refine sqr cv hn ?_
                       refine ro9 0 1 1 ⟨[(6, zB false), (97, zB true), (96, .tup []), (95, .tup []), (94, .tup []), (93, .tup []), (92, .tup []), (91, .tup []), (90, .tup []), (89, .tup []), (88, .tup []), (87, .tup []), (86, .tup []), (85, .tup []), (84, .tup []), (83, .tup []), (82, zB true), (81, zB (!v233)), (80, zB (!v233)), (79, zB v233), (78, zI x10.fAmt), (77, .ptr 9 1 1), (76, zB false), (75, zB (!v230)), (74, zB v230), (73, zI (w64 (a1 - 1))), (72, zI a1), (71, zI x10.fNode), (70, .ptr 9 1 0), (8, zI (i1 : Int)), (9, .ptr 9 1 0), (69, encRep x10), (68, .rp (encRep x10) 0), (67, zI (i1 : Int)), (66, zB (decide ((i1 : Int) < (a0.fReps.length : Int)))), (65, zI (i1 : Int)), (64, zI (a0.fReps.length : Int)), (63, .sl 0 (List.map encRep a0.fReps)), (7, zB y158), (3, .ptr 3 0 0), (1, zI a1), (2, zI a2)], [(9, ⟨1, 1, true, some (encRep x10)⟩), (9, ⟨1, 1, true, some (.agg [zI 0, zI 0])⟩), (3, ⟨0, 0, true, some (encAcct0 a0)⟩)]⟩ ?_
                       refine runs_ret ?_
                       exact fin _ _ h (by kernel_rfl)
                     · replace h := cond_f hb235 h
                       refine rlT 82 false hb235 ?_
                       refine roT 13 3 3 ⟨[(85, zB (decide ((i1 : Int) > 0))), (84, zB (decide ((i1 : Int) > 0))), (83, zI (i1 : Int)), (82, zB false), (81, zB (!v233)), (80, zB (!v233)), (79, zB v233), (78, zI x10.fAmt), (77, .ptr 9 1 1), (76, zB false), (75, zB (!v230)), (74, zB v230), (73, zI (w64 (a1 - 1))), (72, zI a1), (71, zI x10.fNode), (70, .ptr 9 1 0), (8, zI (i1 : Int)), (9, .ptr 9 1 0), (69, encRep x10), (68, .rp (encRep x10) 0), (67, zI (i1 : Int)), (66, zB (decide ((i1 : Int) < (a0.fReps.length : Int)))), (65, zI (i1 : Int)), (64, zI (a0.fReps.length : Int)), (63, .sl 0 (List.map encRep a0.fReps)), (7, zB y158), (3, .ptr 3 0 0), (1, zI a1), (2, zI a2)], [(9, ⟨1, 1, true, some (encRep x10)⟩), (9, ⟨1, 1, true, some (.agg [zI 0, zI 0])⟩), (3, ⟨0, 0, true, some (encAcct0 a0)⟩)]⟩ ?_
                       rcases dich (decide ((i1 : Int) > 0)) with hb236 | hb236
                       · replace h := cond_t hb236 h
                         refine rlT 85 true hb236 ?_
                         refine roT 16 4 4 ⟨[(89, zI (w64 ((i1 : Int) - 1))), (88, zI (i1 : Int)), (87, .sl 0 (List.map encRep a0.fReps)), (86, .ptr 3 0 4), (85, zB true), (84, zB (decide ((i1 : Int) > 0))), (83, zI (i1 : Int)), (82, zB false), (81, zB (!v233)), (80, zB (!v233)), (79, zB v233), (78, zI x10.fAmt), (77, .ptr 9 1 1), (76, zB false), (75, zB (!v230)), (74, zB v230), (73, zI (w64 (a1 - 1))), (72, zI a1), (71, zI x10.fNode), (70, .ptr 9 1 0), (8, zI (i1 : Int)), (9, .ptr 9 1 0), (69, encRep x10), (68, .rp (encRep x10) 0), (67, zI (i1 : Int)), (66, zB (decide ((i1 : Int) < (a0.fReps.length : Int)))), (65, zI (i1 : Int)), (64, zI (a0.fReps.length : Int)), (63, .sl 0 (List.map encRep a0.fReps)), (7, zB y158), (3, .ptr 3 0 0), (1, zI a1), (2, zI a2)], [(9, ⟨1, 1, true, some (encRep x10)⟩), (9, ⟨1, 1, true, some (.agg [zI 0, zI 0])⟩), (3, ⟨0, 0, true, some (encAcct0 a0)⟩)]⟩ ?_
                         obtain ⟨x237, hx238, h⟩ := bindO h
                         refine rixT 20 encRep 119 hx238 (ix_nn hx238) ⟨[(90, .rp (encRep x237) 0), (89, zI (w64 ((i1 : Int) - 1))), (88, zI (i1 : Int)), (87, .sl 0 (List.map encRep a0.fReps)), (86, .ptr 3 0 4), (85, zB true), (84, zB (decide ((i1 : Int) > 0))), (83, zI (i1 : Int)), (82, zB false), (81, zB (!v233)), (80, zB (!v233)), (79, zB v233), (78, zI x10.fAmt), (77, .ptr 9 1 1), (76, zB false), (75, zB (!v230)), (74, zB v230), (73, zI (w64 (a1 - 1))), (72, zI a1), (71, zI x10.fNode), (70, .ptr 9 1 0), (8, zI (i1 : Int)), (9, .ptr 9 1 0), (69, encRep x10), (68, .rp (encRep x10) 0), (67, zI (i1 : Int)), (66, zB (decide ((i1 : Int) < (a0.fReps.length : Int)))), (65, zI (i1 : Int)), (64, zI (a0.fReps.length : Int)), (63, .sl 0 (List.map encRep a0.fReps)), (7, zB y158), (3, .ptr 3 0 0), (1, zI a1), (2, zI a2)], [(9, ⟨1, 1, true, some (encRep x10)⟩), (9, ⟨1, 1, true, some (.agg [zI 0, zI 0])⟩), (3, ⟨0, 0, true, some (encAcct0 a0)⟩)]⟩ ?_
                         refine roT9 21 7 7 ⟨[(97, zB (decide (x237.fNode ≥ x10.fNode))), (96, zB (decide (x237.fNode ≥ x10.fNode))), (95, zB (decide (x237.fNode ≥ x10.fNode))), (94, zI x10.fNode), (93, .ptr 9 1 0), (92, zI x237.fNode), (91, .rp (encRep x237) 0), (90, .rp (encRep x237) 0), (89, zI (w64 ((i1 : Int) - 1))), (88, zI (i1 : Int)), (87, .sl 0 (List.map encRep a0.fReps)), (86, .ptr 3 0 4), (85, zB true), (84, zB (decide ((i1 : Int) > 0))), (83, zI (i1 : Int)), (82, zB false), (81, zB (!v233)), (80, zB (!v233)), (79, zB v233), (78, zI x10.fAmt), (77, .ptr 9 1 1), (76, zB false), (75, zB (!v230)), (74, zB v230), (73, zI (w64 (a1 - 1))), (72, zI a1), (71, zI x10.fNode), (70, .ptr 9 1 0), (8, zI (i1 : Int)), (9, .ptr 9 1 0), (69, encRep x10), (68, .rp (encRep x10) 0), (67, zI (i1 : Int)), (66, zB (decide ((i1 : Int) < (a0.fReps.length : Int)))), (65, zI (i1 : Int)), (64, zI (a0.fReps.length : Int)), (63, .sl 0 (List.map encRep a0.fReps)), (7, zB y158), (3, .ptr 3 0 0), (1, zI a1), (2, zI a2)], [(9, ⟨1, 1, true, some (encRep x10)⟩), (9, ⟨1, 1, true, some (.agg [zI 0, zI 0])⟩), (3, ⟨0, 0, true, some (encAcct0 a0)⟩)]⟩ ?_
                         rcases dich (decide (x237.fNode ≥ x10.fNode)) with hb239 | hb239
                         · replace h := cond_t hb239 h
                           refine ct hb239 ?_
                           refine sqr cv hn ?_
                           refine ro9 0 1 1 ⟨[(6, zB false), (97, zB (decide (x237.fNode ≥ x10.fNode))), (96, zB (decide (x237.fNode ≥ x10.fNode))), (95, zB (decide (x237.fNode ≥ x10.fNode))), (94, zI x10.fNode), (93, .ptr 9 1 0), (92, zI x237.fNode), (91, .rp (encRep x237) 0), (90, .rp (encRep x237) 0), (89, zI (w64 ((i1 : Int) - 1))), (88, zI (i1 : Int)), (87, .sl 0 (List.map encRep a0.fReps)), (86, .ptr 3 0 4), (85, zB true), (84, zB (decide ((i1 : Int) > 0))), (83, zI (i1 : Int)), (82, zB false), (81, zB (!v233)), (80, zB (!v233)), (79, zB v233), (78, zI x10.fAmt), (77, .ptr 9 1 1), (76, zB false), (75, zB (!v230)), (74, zB v230), (73, zI (w64 (a1 - 1))), (72, zI a1), (71, zI x10.fNode), (70, .ptr 9 1 0), (8, zI (i1 : Int)), (9, .ptr 9 1 0), (69, encRep x10), (68, .rp (encRep x10) 0), (67, zI (i1 : Int)), (66, zB (decide ((i1 : Int) < (a0.fReps.length : Int)))), (65, zI (i1 : Int)), (64, zI (a0.fReps.length : Int)), (63, .sl 0 (List.map encRep a0.fReps)), (7, zB y158), (3, .ptr 3 0 0), (1, zI a1), (2, zI a2)], [(9, ⟨1, 1, true, some (encRep x10)⟩), (9, ⟨1, 1, true, some (.agg [zI 0, zI 0])⟩), (3, ⟨0, 0, true, some (encAcct0 a0)⟩)]⟩ ?_
                           refine runs_ret ?_
                           exact fin _ _ h (by kernel_rfl)
                         · replace h := cond_f hb239 h
                           refine cf hb239 ?_
                           refine runs_skip ?_
                           exact ⟨(v230, !v230, v233, !v233, !v233, true, decide (x237.fNode ≥ x10.fNode), decide (x237.fNode ≥ x10.fNode)), h, wre [1, 2, 3, 7, 8, 9, 63, 64, 65, 66, 67, 68, 69, 70, 71, 72, 73, 74, 75, 76, 77, 78, 79, 80, 81, 82, 83, 84, 85, 96, 97] [(3, 3, false), (9, 9, false)]⟩
                       · replace h := cond_f hb236 h
                         refine rlT 85 false hb236 ?_
                         refine roT9 16 12 2 ⟨[(97, zB false), (96, zB false), (95, .tup []), (94, .tup []), (93, .tup []), (92, .tup []), (91, .tup []), (90, .tup []), (89, .tup []), (88, .tup []), (87, .tup []), (86, .tup []), (85, zB false), (84, zB (decide ((i1 : Int) > 0))), (83, zI (i1 : Int)), (82, zB false), (81, zB (!v233)), (80, zB (!v233)), (79, zB v233), (78, zI x10.fAmt), (77, .ptr 9 1 1), (76, zB false), (75, zB (!v230)), (74, zB v230), (73, zI (w64 (a1 - 1))), (72, zI a1), (71, zI x10.fNode), (70, .ptr 9 1 0), (8, zI (i1 : Int)), (9, .ptr 9 1 0), (69, encRep x10), (68, .rp (encRep x10) 0), (67, zI (i1 : Int)), (66, zB (decide ((i1 : Int) < (a0.fReps.length : Int)))), (65, zI (i1 : Int)), (64, zI (a0.fReps.length : Int)), (63, .sl 0 (List.map encRep a0.fReps)), (7, zB y158), (3, .ptr 3 0 0), (1, zI a1), (2, zI a2)], [(9, ⟨1, 1, true, some (encRep x10)⟩), (9, ⟨1, 1, true, some (.agg [zI 0, zI 0])⟩), (3, ⟨0, 0, true, some (encAcct0 a0)⟩)]⟩ ?_
                         refine cF ?_
                         refine runs_skip ?_
                         exact ⟨(v230, !v230, v233, !v233, !v233, false, false, false), h, wre [1, 2, 3, 7, 8, 9, 63, 64, 65, 66, 67, 68, 69, 70, 71, 72, 73, 74, 75, 76, 77, 78, 79, 80, 81, 82, 83, 84, 85, 96, 97] [(3, 3, false), (9, 9, false)]⟩

set_option maxRecDepth 100000 in
set_option maxHeartbeats 2000000 in
theorem impl_in_spec (a0 : Int) (a1 : Int) (a2 : Int) (v0 : Bool) (h : impl_in a0 a1 a2 = some v0) : Ax.Spec Try.prog 60 none [zI a0, zI a1, zI a2] (zB v0 : X) (.junk : X) := by
 let T1 : List (Nat × X) := [(0, zI a0), (1, zI a1), (2, zI a2)]
 refine walk0 (fn := Try.f60) (fun q0 : Bool => (zB q0 : X)) (fun q0 : Bool => (.junk : X)) v0 ⟨T1, []⟩ Try.func60 rfl (by decide +kernel) fun Γ hn fin => ?_
 rw [impl_in] at h
 refine sqr cv hn ?_
 refine ro9 0 1 1 ⟨(6, zB false) :: T1, []⟩ ?_
 refine sqr cv hn ?_
 refine ro 0 4 4 ⟨(10, zB (decide (a0 ≥ a1))) :: (9, zB (decide (a0 ≥ a1))) :: (8, zI a1) :: (7, zI a0) :: (6, zB false) :: T1, []⟩ ?_
 rcases dich (decide (a0 ≥ a1)) with hb1 | hb1
 · replace h := cond_t hb1 h
   refine rl 10 true hb1 ?_
   refine ro9 4 5 5 ⟨(6, zB (decide (a0 ≤ a2))) :: (14, zB (decide (a0 ≤ a2))) :: (13, zB (decide (a0 ≤ a2))) :: (12, zI a2) :: (11, zI a0) :: (10, zB true) :: (9, zB (decide (a0 ≥ a1))) :: (8, zI a1) :: (7, zI a0) :: (6, zB false) :: T1, []⟩ ?_
   refine runs_ret ?_
   exact fin _ _ h (by kernel_rfl)
 · replace h := cond_f hb1 h
   refine rl 10 false hb1 ?_
   refine ro9 4 5 2 ⟨(6, zB false) :: (14, zB false) :: (13, .tup []) :: (12, .tup []) :: (11, .tup []) :: (10, zB false) :: (9, zB (decide (a0 ≥ a1))) :: (8, zI a1) :: (7, zI a0) :: (6, zB false) :: T1, []⟩ ?_
   refine runs_ret ?_
   exact fin _ _ h (by kernel_rfl)

set_option maxRecDepth 100000 in
set_option maxHeartbeats 2000000 in
theorem impl_isNum_spec (a0 : Int) (v0 : Bool) (h : impl_isNum a0 = some v0) : Ax.Spec Try.prog 65 none [zI a0] (zB v0 : X) (.junk : X) := by
 refine walk0 (fn := Try.f65) (fun q0 : Bool => (zB q0 : X)) (fun q0 : Bool => (.junk : X)) v0 ⟨[(0, zI a0)], []⟩ Try.func65 rfl (by decide +kernel) fun Γ hn fin => ?_
 rw [impl_isNum] at h
 refine sqr cv hn ?_
 refine ro9 0 1 1 ⟨[(2, zB false), (0, zI a0)], []⟩ ?_
 refine sqr cv hn ?_
 refine ro 0 1 1 ⟨[(3, zI a0), (2, zB false), (0, zI a0)], []⟩ ?_
 obtain ⟨v1, hv2, h⟩ := bindO h
 refine rc 1 ⟨[(4, zB v1), (3, zI a0), (2, zB false), (0, zI a0)], []⟩ (impl_in_spec a0 0 1125899906842624 v1 hv2) ?_
 refine ro9 2 1 1 ⟨[(2, zB v1), (4, zB v1), (3, zI a0), (2, zB false), (0, zI a0)], []⟩ ?_
 refine runs_ret ?_
 exact fin _ _ h (by kernel_rfl)

set_option maxRecDepth 100000 in
set_option maxHeartbeats 2000000 in
theorem impl_hasInt_spec (a0 : (List Int)) (a1 : Int) (v0 : Bool) (h : impl_hasInt a0 a1 = some v0) : Ax.Spec Try.prog 67 none [.sl 0 (List.map encInt a0), zI a1] (zB v0 : X) (.junk : X) := by
 let T1 : List (Nat × X) := [(0, .sl 0 (List.map encInt a0)), (1, zI a1)]
 refine walk0 (fn := Try.f67) (fun q0 : Bool => (zB q0 : X)) (fun q0 : Bool => (.junk : X)) v0 ⟨T1, []⟩ Try.func67 rfl (by decide +kernel) fun Γ hn fin => ?_
 rw [impl_hasInt] at h
 refine sqr cv hn ?_
 refine ro9 0 1 1 ⟨(4, zB false) :: T1, []⟩ ?_
 refine runs_seq ?_
 refine sqr cv hn ?_
 refine ro9 0 3 3 ⟨(9, zI 0) :: (8, zI (a0.length : Int)) :: (7, .sl 0 (List.map encInt a0)) :: (4, zB false) :: T1, []⟩ ?_ (he := by rw [show (a0.length : Int) = ((List.map encInt a0).length : Int) from by rw [List.length_map]]; kernel_rfl)
 refine runs_block ?_
 refine runs_loopM (σ := List Int × Nat) (fun s => ⟨[(9, zI (s.2 : Int)), (8, zI (a0.length : Int)), (7, .sl 0 (List.map encInt a0)), (1, zI a1)], []⟩) (fun s => s.1 = List.drop s.2 a0 ∧ impl_hasInt_l1 a1 s.1 s.2 = some v0) (fun s => s.1.length) (a0, 0) ⟨rfl, h⟩ (wre [9, 8, 7, 1] []) ?_
 rintro ⟨t1, i1⟩ ⟨hd1, h⟩
 refine seq0 ⟨[(9, zI (i1 : Int)), (8, zI (a0.length : Int)), (7, .sl 0 (List.map encInt a0)), (1, zI a1)], []⟩ ?_
 refine runs_len 7 (es := List.map encInt a0) (by kernel_rfl) fun hl1 => ?_
 replace hl1 := len_of_map hl1
 cases t1 with
 | nil =>
   rw [impl_hasInt_l1] at h
   have hLn1 := dnil hd1
   refine sqr cv hn ?_
   refine ro9 0 1 1 ⟨[(10, zB (decide ((i1 : Int) < (a0.length : Int)))), (9, zI (i1 : Int)), (8, zI (a0.length : Int)), (7, .sl 0 (List.map encInt a0)), (1, zI a1)], []⟩ ?_
   refine runs_seq ?_
   refine cf hLn1 ?_
   refine runs_exit ?_
   repeat refine thenX_exit ?_
   refine block_here ?_
   refine wkr [] [] ⟨[], []⟩ ?_
   refine sqr cv hn ?_
   refine ro9 0 1 1 ⟨[(4, zB false)], []⟩ ?_
   refine runs_ret ?_
   exact fin _ _ h (by kernel_rfl)
 | cons x10 t1 =>
   rw [impl_hasInt_l1] at h
   have hLc1 := dcons hd1
   have hx10 := dget hd1
   have hi1 := dinc hd1 hl1
   refine sqr cv hn ?_
   refine ro9 0 1 1 ⟨[(10, zB (decide ((i1 : Int) < (a0.length : Int)))), (9, zI (i1 : Int)), (8, zI (a0.length : Int)), (7, .sl 0 (List.map encInt a0)), (1, zI a1)], []⟩ ?_
   refine runs_seq ?_
   refine ct hLc1 ?_
   refine runs_skip ?_
   refine runs_seq ?_
   refine runs_block ?_
   refine sqr cv hn ?_
   refine rix 0 encInt 3 hx10 (ix_nn hx10) ⟨[(11, .rp (zI x10) 0), (10, zB (decide ((i1 : Int) < (a0.length : Int)))), (9, zI (i1 : Int)), (8, zI (a0.length : Int)), (7, .sl 0 (List.map encInt a0)), (1, zI a1)], []⟩ ?_
   refine ro9 1 2 2 ⟨[(6, zI x10), (12, zI x10), (11, .rp (zI x10) 0), (10, zB (decide ((i1 : Int) < (a0.length : Int)))), (9, zI (i1 : Int)), (8, zI (a0.length : Int)), (7, .sl 0 (List.map encInt a0)), (1, zI a1)], []⟩ ?_
   refine sqr cv hn ?_
   refine ro9 0 3 3 ⟨[(15, zB (x10 == a1)), (14, zI a1), (13, zI x10), (6, zI x10), (12, zI x10), (11, .rp (zI x10) 0), (10, zB (decide ((i1 : Int) < (a0.length : Int)))), (9, zI (i1 : Int)), (8, zI (a0.length : Int)), (7, .sl 0 (List.map encInt a0)), (1, zI a1)], []⟩ ?_
   rcases dich (x10 == a1) with hb18 | hb18
   · replace h := cond_t hb18 h
     refine ct hb18 ?_
     refine sqr cv hn ?_
     refine ro9 0 1 1 ⟨[(4, zB true), (15, zB (x10 == a1)), (14, zI a1), (13, zI x10), (6, zI x10), (12, zI x10), (11, .rp (zI x10) 0), (10, zB (decide ((i1 : Int) < (a0.length : Int)))), (9, zI (i1 : Int)), (8, zI (a0.length : Int)), (7, .sl 0 (List.map encInt a0)), (1, zI a1)], []⟩ ?_
     refine runs_ret ?_
     exact fin _ _ h (by kernel_rfl)
   · replace h := cond_f hb18 h
     refine cf hb18 ?_
     refine runs_skip ?_
     refine rg cv hn ?_
     refine ro9 0 2 2 ⟨[(9, zI ((i1 + 1 : Nat) : Int)), (16, zI ((i1 + 1 : Nat) : Int)), (15, zB (x10 == a1)), (14, zI a1), (13, zI x10), (6, zI x10), (12, zI x10), (11, .rp (zI x10) 0), (10, zB (decide ((i1 : Int) < (a0.length : Int)))), (9, zI (i1 : Int)), (8, zI (a0.length : Int)), (7, .sl 0 (List.map encInt a0)), (1, zI a1)], []⟩ ?_ (he := by rw [← hi1]; kernel_rfl)
     exact ⟨(t1, i1 + 1), Nat.lt_succ_self _, ⟨dnext hd1, h⟩, wre [9, 8, 7, 1] []⟩

set_option maxRecDepth 100000 in
set_option maxHeartbeats 2000000 in
theorem impl_nodesOk_spec (a0 : (List Int)) (a1 : Int) (v0 : Bool) (h : impl_nodesOk a0 a1 = some v0) : Ax.Spec Try.prog 71 none [.sl 0 (List.map encInt a0), zI a1] (zB v0 : X) (.junk : X) := by
 let T1 : List (Nat × X) := [(0, .sl 0 (List.map encInt a0)), (1, zI a1)]
 refine walk0 (fn := Try.f71) (fun q0 : Bool => (zB q0 : X)) (fun q0 : Bool => (.junk : X)) v0 ⟨T1, []⟩ Try.func71 rfl (by decide +kernel) fun Γ hn fin => ?_
 rw [impl_nodesOk] at h
 refine sqr cv hn ?_
 refine ro9 0 1 1 ⟨(4, zB false) :: T1, []⟩ ?_
 refine runs_seq ?_
 refine sqr cv hn ?_
 refine ro9 0 3 3 ⟨(9, zI 0) :: (8, zI (a0.length : Int)) :: (7, .sl 0 (List.map encInt a0)) :: (4, zB false) :: T1, []⟩ ?_ (he := by rw [show (a0.length : Int) = ((List.map encInt a0).length : Int) from by rw [List.length_map]]; kernel_rfl)
 refine runs_block ?_
 refine runs_loopM (σ := List Int × Nat) (fun s => ⟨[(9, zI (s.2 : Int)), (8, zI (a0.length : Int)), (7, .sl 0 (List.map encInt a0)), (0, .sl 0 (List.map encInt a0)), (1, zI a1)], []⟩) (fun s => s.1 = List.drop s.2 a0 ∧ impl_nodesOk_l1 a0 a1 s.1 s.2 = some v0) (fun s => s.1.length) (a0, 0) ⟨rfl, h⟩ (wre [9, 8, 7, 0, 1] []) ?_
 rintro ⟨t1, i1⟩ ⟨hd1, h⟩
 refine seq0 ⟨[(9, zI (i1 : Int)), (8, zI (a0.length : Int)), (7, .sl 0 (List.map encInt a0)), (0, .sl 0 (List.map encInt a0)), (1, zI a1)], []⟩ ?_
 refine runs_len 7 (es := List.map encInt a0) (by kernel_rfl) fun hl1 => ?_
 replace hl1 := len_of_map hl1
 cases t1 with
 | nil =>
   rw [impl_nodesOk_l1] at h
   have hLn1 := dnil hd1
   refine sqr cv hn ?_
   refine ro9 0 1 1 ⟨[(10, zB (decide ((i1 : Int) < (a0.length : Int)))), (9, zI (i1 : Int)), (8, zI (a0.length : Int)), (7, .sl 0 (List.map encInt a0)), (0, .sl 0 (List.map encInt a0)), (1, zI a1)], []⟩ ?_
   refine runs_seq ?_
   refine cf hLn1 ?_
   refine runs_exit ?_
   repeat refine thenX_exit ?_
   refine block_here ?_
   refine wkr [] [] ⟨[], []⟩ ?_
   refine sqr cv hn ?_
   refine ro9 0 1 1 ⟨[(4, zB true)], []⟩ ?_
   refine runs_ret ?_
   exact fin _ _ h (by kernel_rfl)
 | cons x10 t1 =>
   rw [impl_nodesOk_l1] at h
   have hLc1 := dcons hd1
   have hx10 := dget hd1
   have hi1 := dinc hd1 hl1
   refine sqr cv hn ?_
   refine ro9 0 1 1 ⟨[(10, zB (decide ((i1 : Int) < (a0.length : Int)))), (9, zI (i1 : Int)), (8, zI (a0.length : Int)), (7, .sl 0 (List.map encInt a0)), (0, .sl 0 (List.map encInt a0)), (1, zI a1)], []⟩ ?_
   refine runs_seq ?_
   refine ct hLc1 ?_
   refine runs_skip ?_
   refine runs_seq ?_
   refine runs_block ?_
   refine sqr cv hn ?_
   refine ro 0 1 1 ⟨[(11, zI (i1 : Int)), (10, zB (decide ((i1 : Int) < (a0.length : Int)))), (9, zI (i1 : Int)), (8, zI (a0.length : Int)), (7, .sl 0 (List.map encInt a0)), (0, .sl 0 (List.map encInt a0)), (1, zI a1)], []⟩ ?_
   refine rix 1 encInt 3 hx10 (ix_nn hx10) ⟨[(12, .rp (zI x10) 0), (11, zI (i1 : Int)), (10, zB (decide ((i1 : Int) < (a0.length : Int)))), (9, zI (i1 : Int)), (8, zI (a0.length : Int)), (7, .sl 0 (List.map encInt a0)), (0, .sl 0 (List.map encInt a0)), (1, zI a1)], []⟩ ?_
   refine ro9 2 3 3 ⟨[(6, zI x10), (5, zI (i1 : Int)), (13, zI x10), (12, .rp (zI x10) 0), (11, zI (i1 : Int)), (10, zB (decide ((i1 : Int) < (a0.length : Int)))), (9, zI (i1 : Int)), (8, zI (a0.length : Int)), (7, .sl 0 (List.map encInt a0)), (0, .sl 0 (List.map encInt a0)), (1, zI a1)], []⟩ ?_
   refine sqr cv hn ?_
   refine ro 0 3 3 ⟨[(16, zI (w64 (a1 - 1))), (15, zI a1), (14, zI x10), (6, zI x10), (5, zI (i1 : Int)), (13, zI x10), (12, .rp (zI x10) 0), (11, zI (i1 : Int)), (10, zB (decide ((i1 : Int) < (a0.length : Int)))), (9, zI (i1 : Int)), (8, zI (a0.length : Int)), (7, .sl 0 (List.map encInt a0)), (0, .sl 0 (List.map encInt a0)), (1, zI a1)], []⟩ ?_
   obtain ⟨v26, hv27, h⟩ := bindO h
   refine rc 3 ⟨[(17, zB v26), (16, zI (w64 (a1 - 1))), (15, zI a1), (14, zI x10), (6, zI x10), (5, zI (i1 : Int)), (13, zI x10), (12, .rp (zI x10) 0), (11, zI (i1 : Int)), (10, zB (decide ((i1 : Int) < (a0.length : Int)))), (9, zI (i1 : Int)), (8, zI (a0.length : Int)), (7, .sl 0 (List.map encInt a0)), (0, .sl 0 (List.map encInt a0)), (1, zI a1)], []⟩ (impl_in_spec x10 0 (w64 (a1 - 1)) v26 hv27) ?_
   refine ro 4 2 2 ⟨[(19, zB (!v26)), (18, zB (!v26)), (17, zB v26), (16, zI (w64 (a1 - 1))), (15, zI a1), (14, zI x10), (6, zI x10), (5, zI (i1 : Int)), (13, zI x10), (12, .rp (zI x10) 0), (11, zI (i1 : Int)), (10, zB (decide ((i1 : Int) < (a0.length : Int)))), (9, zI (i1 : Int)), (8, zI (a0.length : Int)), (7, .sl 0 (List.map encInt a0)), (0, .sl 0 (List.map encInt a0)), (1, zI a1)], []⟩ ?_
   rcases dich (!v26) with hb28 | hb28
   · replace h := cond_t hb28 h
     refine rl 19 true hb28 ?_
     refine ro9 6 12 1 ⟨[(31, zB true), (30, .tup []), (29, .tup []), (28, .tup []), (27, .tup []), (26, .tup []), (25, .tup []), (24, .tup []), (23, .tup []), (22, .tup []), (21, .tup []), (20, .tup []), (19, zB true), (18, zB (!v26)), (17, zB v26), (16, zI (w64 (a1 - 1))), (15, zI a1), (14, zI x10), (6, zI x10), (5, zI (i1 : Int)), (13, zI x10), (12, .rp (zI x10) 0), (11, zI (i1 : Int)), (10, zB (decide ((i1 : Int) < (a0.length : Int)))), (9, zI (i1 : Int)), (8, zI (a0.length : Int)), (7, .sl 0 (List.map encInt a0)), (0, .sl 0 (List.map encInt a0)), (1, zI a1)], []⟩ ?_
     refine cT ?_
     refine sqr cv hn ?_
     refine ro9 0 1 1 ⟨[(4, zB false), (31, zB true), (30, .tup []), (29, .tup []), (28, .tup []), (27, .tup []), (26, .tup []), (25, .tup []), (24, .tup []), (23, .tup []), (22, .tup []), (21, .tup []), (20, .tup []), (19, zB true), (18, zB (!v26)), (17, zB v26), (16, zI (w64 (a1 - 1))), (15, zI a1), (14, zI x10), (6, zI x10), (5, zI (i1 : Int)), (13, zI x10), (12, .rp (zI x10) 0), (11, zI (i1 : Int)), (10, zB (decide ((i1 : Int) < (a0.length : Int)))), (9, zI (i1 : Int)), (8, zI (a0.length : Int)), (7, .sl 0 (List.map encInt a0)), (0, .sl 0 (List.map encInt a0)), (1, zI a1)], []⟩ ?_
     refine runs_ret ?_
     exact fin _ _ h (by kernel_rfl)
   · replace h := cond_f hb28 h
     refine rl 19 false hb28 ?_
     refine ro 6 3 3 ⟨[(22, zB (decide ((i1 : Int) > 0))), (21, zB (decide ((i1 : Int) > 0))), (20, zI (i1 : Int)), (19, zB false), (18, zB (!v26)), (17, zB v26), (16, zI (w64 (a1 - 1))), (15, zI a1), (14, zI x10), (6, zI x10), (5, zI (i1 : Int)), (13, zI x10), (12, .rp (zI x10) 0), (11, zI (i1 : Int)), (10, zB (decide ((i1 : Int) < (a0.length : Int)))), (9, zI (i1 : Int)), (8, zI (a0.length : Int)), (7, .sl 0 (List.map encInt a0)), (0, .sl 0 (List.map encInt a0)), (1, zI a1)], []⟩ ?_
     rcases dich (decide ((i1 : Int) > 0)) with hb29 | hb29
     · replace h := cond_t hb29 h
       refine rl 22 true hb29 ?_
       refine ro 9 3 3 ⟨[(25, zI (w64 ((i1 : Int) - 1))), (24, zI (i1 : Int)), (23, .sl 0 (List.map encInt a0)), (22, zB true), (21, zB (decide ((i1 : Int) > 0))), (20, zI (i1 : Int)), (19, zB false), (18, zB (!v26)), (17, zB v26), (16, zI (w64 (a1 - 1))), (15, zI a1), (14, zI x10), (6, zI x10), (5, zI (i1 : Int)), (13, zI x10), (12, .rp (zI x10) 0), (11, zI (i1 : Int)), (10, zB (decide ((i1 : Int) < (a0.length : Int)))), (9, zI (i1 : Int)), (8, zI (a0.length : Int)), (7, .sl 0 (List.map encInt a0)), (0, .sl 0 (List.map encInt a0)), (1, zI a1)], []⟩ ?_
       obtain ⟨x30, hx31, h⟩ := bindO h
       refine rix 12 encInt 3 hx31 (ix_nn hx31) ⟨[(26, .rp (zI x30) 0), (25, zI (w64 ((i1 : Int) - 1))), (24, zI (i1 : Int)), (23, .sl 0 (List.map encInt a0)), (22, zB true), (21, zB (decide ((i1 : Int) > 0))), (20, zI (i1 : Int)), (19, zB false), (18, zB (!v26)), (17, zB v26), (16, zI (w64 (a1 - 1))), (15, zI a1), (14, zI x10), (6, zI x10), (5, zI (i1 : Int)), (13, zI x10), (12, .rp (zI x10) 0), (11, zI (i1 : Int)), (10, zB (decide ((i1 : Int) < (a0.length : Int)))), (9, zI (i1 : Int)), (8, zI (a0.length : Int)), (7, .sl 0 (List.map encInt a0)), (0, .sl 0 (List.map encInt a0)), (1, zI a1)], []⟩ ?_
       refine ro9 13 5 5 ⟨[(31, zB (decide (x30 ≥ x10))), (30, zB (decide (x30 ≥ x10))), (29, zB (decide (x30 ≥ x10))), (28, zI x10), (27, zI x30), (26, .rp (zI x30) 0), (25, zI (w64 ((i1 : Int) - 1))), (24, zI (i1 : Int)), (23, .sl 0 (List.map encInt a0)), (22, zB true), (21, zB (decide ((i1 : Int) > 0))), (20, zI (i1 : Int)), (19, zB false), (18, zB (!v26)), (17, zB v26), (16, zI (w64 (a1 - 1))), (15, zI a1), (14, zI x10), (6, zI x10), (5, zI (i1 : Int)), (13, zI x10), (12, .rp (zI x10) 0), (11, zI (i1 : Int)), (10, zB (decide ((i1 : Int) < (a0.length : Int)))), (9, zI (i1 : Int)), (8, zI (a0.length : Int)), (7, .sl 0 (List.map encInt a0)), (0, .sl 0 (List.map encInt a0)), (1, zI a1)], []⟩ ?_
       rcases dich (decide (x30 ≥ x10)) with hb32 | hb32
       · replace h := cond_t hb32 h
         refine ct hb32 ?_
         refine sqr cv hn ?_
         refine ro9 0 1 1 ⟨[(4, zB false), (31, zB (decide (x30 ≥ x10))), (30, zB (decide (x30 ≥ x10))), (29, zB (decide (x30 ≥ x10))), (28, zI x10), (27, zI x30), (26, .rp (zI x30) 0), (25, zI (w64 ((i1 : Int) - 1))), (24, zI (i1 : Int)), (23, .sl 0 (List.map encInt a0)), (22, zB true), (21, zB (decide ((i1 : Int) > 0))), (20, zI (i1 : Int)), (19, zB false), (18, zB (!v26)), (17, zB v26), (16, zI (w64 (a1 - 1))), (15, zI a1), (14, zI x10), (6, zI x10), (5, zI (i1 : Int)), (13, zI x10), (12, .rp (zI x10) 0), (11, zI (i1 : Int)), (10, zB (decide ((i1 : Int) < (a0.length : Int)))), (9, zI (i1 : Int)), (8, zI (a0.length : Int)), (7, .sl 0 (List.map encInt a0)), (0, .sl 0 (List.map encInt a0)), (1, zI a1)], []⟩ ?_
         refine runs_ret ?_
         exact fin _ _ h (by kernel_rfl)
       · replace h := cond_f hb32 h
         refine cf hb32 ?_
         refine runs_skip ?_
         refine rg cv hn ?_
         refine ro9 0 2 2 ⟨[(9, zI ((i1 + 1 : Nat) : Int)), (32, zI ((i1 + 1 : Nat) : Int)), (31, zB (decide (x30 ≥ x10))), (30, zB (decide (x30 ≥ x10))), (29, zB (decide (x30 ≥ x10))), (28, zI x10), (27, zI x30), (26, .rp (zI x30) 0), (25, zI (w64 ((i1 : Int) - 1))), (24, zI (i1 : Int)), (23, .sl 0 (List.map encInt a0)), (22, zB true), (21, zB (decide ((i1 : Int) > 0))), (20, zI (i1 : Int)), (19, zB false), (18, zB (!v26)), (17, zB v26), (16, zI (w64 (a1 - 1))), (15, zI a1), (14, zI x10), (6, zI x10), (5, zI (i1 : Int)), (13, zI x10), (12, .rp (zI x10) 0), (11, zI (i1 : Int)), (10, zB (decide ((i1 : Int) < (a0.length : Int)))), (9, zI (i1 : Int)), (8, zI (a0.length : Int)), (7, .sl 0 (List.map encInt a0)), (0, .sl 0 (List.map encInt a0)), (1, zI a1)], []⟩ ?_ (he := by rw [← hi1]; kernel_rfl)
         exact ⟨(t1, i1 + 1), Nat.lt_succ_self _, ⟨dnext hd1, h⟩, wre [9, 8, 7, 0, 1] []⟩
     · replace h := cond_f hb29 h
       refine rl 22 false hb29 ?_
       refine ro9 9 9 2 ⟨[(31, zB false), (30, zB false), (29, .tup []), (28, .tup []), (27, .tup []), (26, .tup []), (25, .tup []), (24, .tup []), (23, .tup []), (22, zB false), (21, zB (decide ((i1 : Int) > 0))), (20, zI (i1 : Int)), (19, zB false), (18, zB (!v26)), (17, zB v26), (16, zI (w64 (a1 - 1))), (15, zI a1), (14, zI x10), (6, zI x10), (5, zI (i1 : Int)), (13, zI x10), (12, .rp (zI x10) 0), (11, zI (i1 : Int)), (10, zB (decide ((i1 : Int) < (a0.length : Int)))), (9, zI (i1 : Int)), (8, zI (a0.length : Int)), (7, .sl 0 (List.map encInt a0)), (0, .sl 0 (List.map encInt a0)), (1, zI a1)], []⟩ ?_
       refine cF ?_
       refine runs_skip ?_
       refine rg cv hn ?_
       refine ro9 0 2 2 ⟨[(9, zI ((i1 + 1 : Nat) : Int)), (32, zI ((i1 + 1 : Nat) : Int)), (31, zB false), (30, zB false), (29, .tup []), (28, .tup []), (27, .tup []), (26, .tup []), (25, .tup []), (24, .tup []), (23, .tup []), (22, zB false), (21, zB (decide ((i1 : Int) > 0))), (20, zI (i1 : Int)), (19, zB false), (18, zB (!v26)), (17, zB v26), (16, zI (w64 (a1 - 1))), (15, zI a1), (14, zI x10), (6, zI x10), (5, zI (i1 : Int)), (13, zI x10), (12, .rp (zI x10) 0), (11, zI (i1 : Int)), (10, zB (decide ((i1 : Int) < (a0.length : Int)))), (9, zI (i1 : Int)), (8, zI (a0.length : Int)), (7, .sl 0 (List.map encInt a0)), (0, .sl 0 (List.map encInt a0)), (1, zI a1)], []⟩ ?_ (he := by rw [← hi1]; kernel_rfl)
       exact ⟨(t1, i1 + 1), Nat.lt_succ_self _, ⟨dnext hd1, h⟩, wre [9, 8, 7, 0, 1] []⟩

set_option maxRecDepth 100000 in
set_option maxHeartbeats 2000000 in
theorem impl_repsOk_spec (a0 : SAcct) (a1 : Int) (v0 : Bool) (h : impl_repsOk a0 a1 = some v0) : Ax.Spec Try.prog 102 none [encAcct0 a0, zI a1] (zB v0 : X) (.junk : X) := by
 refine walk0 (fn := Try.f102) (fun q0 : Bool => (zB q0 : X)) (fun q0 : Bool => (.junk : X)) v0 ⟨[(0, encAcct0 a0), (1, zI a1)], []⟩ Try.func102 rfl (by decide +kernel) fun Γ hn fin => ?_
 rw [impl_repsOk] at h
 refine sqr cv hn ?_
 refine ro9 0 2 2 ⟨[(4, zB false), (2, .ptr 2 1 0), (0, encAcct0 a0), (1, zI a1)], [(2, ⟨1, 1, true, some (encAcct0 a0)⟩)]⟩ ?_
 refine runs_seq ?_
 refine sqr cv hn ?_
 refine ro9 0 4 4 ⟨[(10, zI 0), (9, zI (a0.fReps.length : Int)), (8, .sl 0 (List.map encRep a0.fReps)), (7, .ptr 2 1 4), (4, zB false), (2, .ptr 2 1 0), (0, encAcct0 a0), (1, zI a1)], [(2, ⟨1, 1, true, some (encAcct0 a0)⟩)]⟩ ?_ (he := by rw [show (a0.fReps.length : Int) = ((List.map encRep a0.fReps).length : Int) from by rw [List.length_map]]; kernel_rfl)
 refine runs_block ?_
 refine runs_loopM (σ := List SRep × Nat) (fun s => ⟨[(10, zI (s.2 : Int)), (9, zI (a0.fReps.length : Int)), (8, .sl 0 (List.map encRep a0.fReps)), (2, .ptr 2 0 0), (1, zI a1)], [(2, ⟨0, 0, true, some (encAcct0 a0)⟩)]⟩) (fun s => s.1 = List.drop s.2 a0.fReps ∧ impl_repsOk_l1 a0 a1 s.1 s.2 = some v0) (fun s => s.1.length) (a0.fReps, 0) ⟨rfl, h⟩ (wre [10, 9, 8, 2, 1] [(2, 2, false)]) ?_
 rintro ⟨t1, i1⟩ ⟨hd1, h⟩
 refine seq0 ⟨[(10, zI (i1 : Int)), (9, zI (a0.fReps.length : Int)), (8, .sl 0 (List.map encRep a0.fReps)), (2, .ptr 2 0 0), (1, zI a1)], [(2, ⟨0, 0, true, some (encAcct0 a0)⟩)]⟩ ?_
 refine runs_len 8 (es := List.map encRep a0.fReps) (by kernel_rfl) fun hl1 => ?_
 replace hl1 := len_of_map hl1
 cases t1 with
 | nil =>
   rw [impl_repsOk_l1] at h
   have hLn1 := dnil hd1
   refine sqr cv hn ?_
   refine ro9 0 1 1 ⟨[(11, zB (decide ((i1 : Int) < (a0.fReps.length : Int)))), (10, zI (i1 : Int)), (9, zI (a0.fReps.length : Int)), (8, .sl 0 (List.map encRep a0.fReps)), (2, .ptr 2 0 0), (1, zI a1)], [(2, ⟨0, 0, true, some (encAcct0 a0)⟩)]⟩ ?_
   refine runs_seq ?_
   refine cf hLn1 ?_
   refine runs_exit ?_
   repeat refine thenX_exit ?_
   refine block_here ?_
   refine wkr [] [] ⟨[], []⟩ ?_
   refine sqr cv hn ?_
   refine ro9 0 1 1 ⟨[(4, zB true)], []⟩ ?_
   refine runs_ret ?_
   exact fin _ _ h (by kernel_rfl)
 | cons x10 t1 =>
   rw [impl_repsOk_l1] at h
   have hLc1 := dcons hd1
   have hx10 := dget hd1
   have hi1 := dinc hd1 hl1
   refine sqr cv hn ?_
   refine ro9 0 1 1 ⟨[(11, zB (decide ((i1 : Int) < (a0.fReps.length : Int)))), (10, zI (i1 : Int)), (9, zI (a0.fReps.length : Int)), (8, .sl 0 (List.map encRep a0.fReps)), (2, .ptr 2 0 0), (1, zI a1)], [(2, ⟨0, 0, true, some (encAcct0 a0)⟩)]⟩ ?_
   refine runs_seq ?_
   refine ct hLc1 ?_
   refine runs_skip ?_
   refine runs_seq ?_
   refine runs_block ?_
   refine sqr cv hn ?_
   refine ro 0 1 1 ⟨[(12, zI (i1 : Int)), (11, zB (decide ((i1 : Int) < (a0.fReps.length : Int)))), (10, zI (i1 : Int)), (9, zI (a0.fReps.length : Int)), (8, .sl 0 (List.map encRep a0.fReps)), (2, .ptr 2 0 0), (1, zI a1)], [(2, ⟨0, 0, true, some (encAcct0 a0)⟩)]⟩ ?_
   refine rix 1 encRep 119 hx10 (ix_nn hx10) ⟨[(13, .rp (encRep x10) 0), (12, zI (i1 : Int)), (11, zB (decide ((i1 : Int) < (a0.fReps.length : Int)))), (10, zI (i1 : Int)), (9, zI (a0.fReps.length : Int)), (8, .sl 0 (List.map encRep a0.fReps)), (2, .ptr 2 0 0), (1, zI a1)], [(2, ⟨0, 0, true, some (encAcct0 a0)⟩)]⟩ ?_
   refine ro9 2 4 4 ⟨[(5, zI (i1 : Int)), (6, .ptr 6 1 0), (14, encRep x10), (13, .rp (encRep x10) 0), (12, zI (i1 : Int)), (11, zB (decide ((i1 : Int) < (a0.fReps.length : Int)))), (10, zI (i1 : Int)), (9, zI (a0.fReps.length : Int)), (8, .sl 0 (List.map encRep a0.fReps)), (2, .ptr 2 0 0), (1, zI a1)], [(6, ⟨1, 1, true, some (encRep x10)⟩), (6, ⟨1, 1, true, some (.agg [zI 0, zI 0])⟩), (2, ⟨0, 0, true, some (encAcct0 a0)⟩)]⟩ ?_
   refine runs_seq ?_
   refine rgT cv mixed hn ?_
   refine roT 0 4 4 ⟨[(18, zI (w64 (a1 - 1))), (17, zI a1), (16, zI x10.fNode), (15, .ptr 6 1 0), (5, zI (i1 : Int)), (6, .ptr 6 1 0), (14, encRep x10), (13, .rp (encRep x10) 0), (12, zI (i1 : Int)), (11, zB (decide ((i1 : Int) < (a0.fReps.length : Int)))), (10, zI (i1 : Int)), (9, zI (a0.fReps.length : Int)), (8, .sl 0 (List.map encRep a0.fReps)), (2, .ptr 2 0 0), (1, zI a1)], [(6, ⟨1, 1, true, some (encRep x10)⟩), (6, ⟨1, 1, true, some (.agg [zI 0, zI 0])⟩), (2, ⟨0, 0, true, some (encAcct0 a0)⟩)]⟩ ?_
   obtain ⟨v32, hv33, h⟩ := bindO h
   refine rcT 4 ⟨[(19, zB v32), (18, zI (w64 (a1 - 1))), (17, zI a1), (16, zI x10.fNode), (15, .ptr 6 1 0), (5, zI (i1 : Int)), (6, .ptr 6 1 0), (14, encRep x10), (13, .rp (encRep x10) 0), (12, zI (i1 : Int)), (11, zB (decide ((i1 : Int) < (a0.fReps.length : Int)))), (10, zI (i1 : Int)), (9, zI (a0.fReps.length : Int)), (8, .sl 0 (List.map encRep a0.fReps)), (2, .ptr 2 0 0), (1, zI a1)], [(6, ⟨1, 1, true, some (encRep x10)⟩), (6, ⟨1, 1, true, some (.agg [zI 0, zI 0])⟩), (2, ⟨0, 0, true, some (encAcct0 a0)⟩)]⟩ (impl_in_spec x10.fNode 0 (w64 (a1 - 1)) v32 hv33) ?_
   refine roT 5 2 2 ⟨[(21, zB (!v32)), (20, zB (!v32)), (19, zB v32), (18, zI (w64 (a1 - 1))), (17, zI a1), (16, zI x10.fNode), (15, .ptr 6 1 0), (5, zI (i1 : Int)), (6, .ptr 6 1 0), (14, encRep x10), (13, .rp (encRep x10) 0), (12, zI (i1 : Int)), (11, zB (decide ((i1 : Int) < (a0.fReps.length : Int)))), (10, zI (i1 : Int)), (9, zI (a0.fReps.length : Int)), (8, .sl 0 (List.map encRep a0.fReps)), (2, .ptr 2 0 0), (1, zI a1)], [(6, ⟨1, 1, true, some (encRep x10)⟩), (6, ⟨1, 1, true, some (.agg [zI 0, zI 0])⟩), (2, ⟨0, 0, true, some (encAcct0 a0)⟩)]⟩ ?_
   rcases dich (!v32) with hb34 | hb34
   · replace h := cond_t hb34 h
     refine rlT 21 true hb34 ?_
     refine roT9 7 21 3 ⟨[(42, zB true), (41, .tup []), (40, .tup []), (39, .tup []), (38, .tup []), (37, .tup []), (36, .tup []), (35, .tup []), (34, .tup []), (33, .tup []), (32, .tup []), (31, .tup []), (30, .tup []), (29, .tup []), (28, .tup []), (27, zB true), (26, zB true), (25, .tup []), (24, .tup []), (23, .tup []), (22, .tup []), (21, zB true), (20, zB (!v32)), (19, zB v32), (18, zI (w64 (a1 - 1))), (17, zI a1), (16, zI x10.fNode), (15, .ptr 6 1 0), (5, zI (i1 : Int)), (6, .ptr 6 1 0), (14, encRep x10), (13, .rp (encRep x10) 0), (12, zI (i1 : Int)), (11, zB (decide ((i1 : Int) < (a0.fReps.length : Int)))), (10, zI (i1 : Int)), (9, zI (a0.fReps.length : Int)), (8, .sl 0 (List.map encRep a0.fReps)), (2, .ptr 2 0 0), (1, zI a1)], [(6, ⟨1, 1, true, some (encRep x10)⟩), (6, ⟨1, 1, true, some (.agg [zI 0, zI 0])⟩), (2, ⟨0, 0, true, some (encAcct0 a0)⟩)]⟩ ?_
     refine cT ?_
     refine sqr cv hn ?_
     refine ro9 0 1 1 ⟨[(4, zB false), (42, zB true), (41, .tup []), (40, .tup []), (39, .tup []), (38, .tup []), (37, .tup []), (36, .tup []), (35, .tup []), (34, .tup []), (33, .tup []), (32, .tup []), (31, .tup []), (30, .tup []), (29, .tup []), (28, .tup []), (27, zB true), (26, zB true), (25, .tup []), (24, .tup []), (23, .tup []), (22, .tup []), (21, zB true), (20, zB (!v32)), (19, zB v32), (18, zI (w64 (a1 - 1))), (17, zI a1), (16, zI x10.fNode), (15, .ptr 6 1 0), (5, zI (i1 : Int)), (6, .ptr 6 1 0), (14, encRep x10), (13, .rp (encRep x10) 0), (12, zI (i1 : Int)), (11, zB (decide ((i1 : Int) < (a0.fReps.length : Int)))), (10, zI (i1 : Int)), (9, zI (a0.fReps.length : Int)), (8, .sl 0 (List.map encRep a0.fReps)), (2, .ptr 2 0 0), (1, zI a1)], [(6, ⟨1, 1, true, some (encRep x10)⟩), (6, ⟨1, 1, true, some (.agg [zI 0, zI 0])⟩), (2, ⟨0, 0, true, some (encAcct0 a0)⟩)]⟩ ?_
     refine runs_ret ?_
     exact fin _ _ h (by kernel_rfl)
   · replace h := cond_f hb34 h
     refine rlT 21 false hb34 ?_
     refine roT 7 2 2 ⟨[(23, zI x10.fAmt), (22, .ptr 6 1 1), (21, zB false), (20, zB (!v32)), (19, zB v32), (18, zI (w64 (a1 - 1))), (17, zI a1), (16, zI x10.fNode), (15, .ptr 6 1 0), (5, zI (i1 : Int)), (6, .ptr 6 1 0), (14, encRep x10), (13, .rp (encRep x10) 0), (12, zI (i1 : Int)), (11, zB (decide ((i1 : Int) < (a0.fReps.length : Int)))), (10, zI (i1 : Int)), (9, zI (a0.fReps.length : Int)), (8, .sl 0 (List.map encRep a0.fReps)), (2, .ptr 2 0 0), (1, zI a1)], [(6, ⟨1, 1, true, some (encRep x10)⟩), (6, ⟨1, 1, true, some (.agg [zI 0, zI 0])⟩), (2, ⟨0, 0, true, some (encAcct0 a0)⟩)]⟩ ?_
     obtain ⟨v35, hv36, h⟩ := bindO h
     refine rcT 9 ⟨[(24, zB v35), (23, zI x10.fAmt), (22, .ptr 6 1 1), (21, zB false), (20, zB (!v32)), (19, zB v32), (18, zI (w64 (a1 - 1))), (17, zI a1), (16, zI x10.fNode), (15, .ptr 6 1 0), (5, zI (i1 : Int)), (6, .ptr 6 1 0), (14, encRep x10), (13, .rp (encRep x10) 0), (12, zI (i1 : Int)), (11, zB (decide ((i1 : Int) < (a0.fReps.length : Int)))), (10, zI (i1 : Int)), (9, zI (a0.fReps.length : Int)), (8, .sl 0 (List.map encRep a0.fReps)), (2, .ptr 2 0 0), (1, zI a1)], [(6, ⟨1, 1, true, some (encRep x10)⟩), (6, ⟨1, 1, true, some (.agg [zI 0, zI 0])⟩), (2, ⟨0, 0, true, some (encAcct0 a0)⟩)]⟩ (impl_isNum_spec x10.fAmt v35 hv36) ?_
     refine roT 10 3 3 ⟨[(27, zB (!v35)), (26, zB (!v35)), (25, zB (!v35)), (24, zB v35), (23, zI x10.fAmt), (22, .ptr 6 1 1), (21, zB false), (20, zB (!v32)), (19, zB v32), (18, zI (w64 (a1 - 1))), (17, zI a1), (16, zI x10.fNode), (15, .ptr 6 1 0), (5, zI (i1 : Int)), (6, .ptr 6 1 0), (14, encRep x10), (13, .rp (encRep x10) 0), (12, zI (i1 : Int)), (11, zB (decide ((i1 : Int) < (a0.fReps.length : Int)))), (10, zI (i1 : Int)), (9, zI (a0.fReps.length : Int)), (8, .sl 0 (List.map encRep a0.fReps)), (2, .ptr 2 0 0), (1, zI a1)], [(6, ⟨1, 1, true, some (encRep x10)⟩), (6, ⟨1, 1, true, some (.agg [zI 0, zI 0])⟩), (2, ⟨0, 0, true, some (encAcct0 a0)⟩)]⟩ ?_
     rcases dich (!v35) with hb37 | hb37
     · replace h := cond_t hb37 h
       refine rlT 27 true hb37 ?_
       refine roT9 13 15 1 ⟨[(42, zB true), (41, .tup []), (40, .tup []), (39, .tup []), (38, .tup []), (37, .tup []), (36, .tup []), (35, .tup []), (34, .tup []), (33, .tup []), (32, .tup []), (31, .tup []), (30, .tup []), (29, .tup []), (28, .tup []), (27, zB true), (26, zB (!v35)), (25, zB (!v35)), (24, zB v35), (23, zI x10.fAmt), (22, .ptr 6 1 1), (21, zB false), (20, zB (!v32)), (19, zB v32), (18, zI (w64 (a1 - 1))), (17, zI a1), (16, zI x10.fNode), (15, .ptr 6 1 0), (5, zI (i1 : Int)), (6, .ptr 6 1 0), (14, encRep x10), (13, .rp (encRep x10) 0), (12, zI (i1 : Int)), (11, zB (decide ((i1 : Int) < (a0.fReps.length : Int)))), (10, zI (i1 : Int)), (9, zI (a0.fReps.length : Int)), (8, .sl 0 (List.map encRep a0.fReps)), (2, .ptr 2 0 0), (1, zI a1)], [(6, ⟨1, 1, true, some (encRep x10)⟩), (6, ⟨1, 1, true, some (.agg [zI 0, zI 0])⟩), (2, ⟨0, 0, true, some (encAcct0 a0)⟩)]⟩ ?_
       refine cT ?_
       refine sqr cv hn ?_
       refine ro9 0 1 1 ⟨[(4, zB false), (42, zB true), (41, .tup []), (40, .tup []), (39, .tup []), (38, .tup []), (37, .tup []), (36, .tup []), (35, .tup []), (34, .tup []), (33, .tup []), (32, .tup []), (31, .tup []), (30, .tup []), (29, .tup []), (28, .tup []), (27, zB true), (26, zB (!v35)), (25, zB (!v35)), (24, zB v35), (23, zI x10.fAmt), (22, .ptr 6 1 1), (21, zB false), (20, zB (!v32)), (19, zB v32), (18, zI (w64 (a1 - 1))), (17, zI a1), (16, zI x10.fNode), (15, .ptr 6 1 0), (5, zI (i1 : Int)), (6, .ptr 6 1 0), (14, encRep x10), (13, .rp (encRep x10) 0), (12, zI (i1 : Int)), (11, zB (decide ((i1 : Int) < (a0.fReps.length : Int)))), (10, zI (i1 : Int)), (9, zI (a0.fReps.length : Int)), (8, .sl 0 (List.map encRep a0.fReps)), (2, .ptr 2 0 0), (1, zI a1)], [(6, ⟨1, 1, true, some (encRep x10)⟩), (6, ⟨1, 1, true, some (.agg [zI 0, zI 0])⟩), (2, ⟨0, 0, true, some (encAcct0 a0)⟩)]⟩ ?_
       refine runs_ret ?_
       exact fin _ _ h (by kernel_rfl)
     · replace h := cond_f hb37 h
       refine rlT 27 false hb37 ?_
       refine roT 13 3 3 ⟨[(30, zB (decide ((i1 : Int) > 0))), (29, zB (decide ((i1 : Int) > 0))), (28, zI (i1 : Int)), (27, zB false), (26, zB (!v35)), (25, zB (!v35)), (24, zB v35), (23, zI x10.fAmt), (22, .ptr 6 1 1), (21, zB false), (20, zB (!v32)), (19, zB v32), (18, zI (w64 (a1 - 1))), (17, zI a1), (16, zI x10.fNode), (15, .ptr 6 1 0), (5, zI (i1 : Int)), (6, .ptr 6 1 0), (14, encRep x10), (13, .rp (encRep x10) 0), (12, zI (i1 : Int)), (11, zB (decide ((i1 : Int) < (a0.fReps.length : Int)))), (10, zI (i1 : Int)), (9, zI (a0.fReps.length : Int)), (8, .sl 0 (List.map encRep a0.fReps)), (2, .ptr 2 0 0), (1, zI a1)], [(6, ⟨1, 1, true, some (encRep x10)⟩), (6, ⟨1, 1, true, some (.agg [zI 0, zI 0])⟩), (2, ⟨0, 0, true, some (encAcct0 a0)⟩)]⟩ ?_
       rcases dich (decide ((i1 : Int) > 0)) with hb38 | hb38
       · replace h := cond_t hb38 h
         refine rlT 30 true hb38 ?_
         refine roT 16 4 4 ⟨[(34, zI (w64 ((i1 : Int) - 1))), (33, zI (i1 : Int)), (32, .sl 0 (List.map encRep a0.fReps)), (31, .ptr 2 0 4), (30, zB true), (29, zB (decide ((i1 : Int) > 0))), (28, zI (i1 : Int)), (27, zB false), (26, zB (!v35)), (25, zB (!v35)), (24, zB v35), (23, zI x10.fAmt), (22, .ptr 6 1 1), (21, zB false), (20, zB (!v32)), (19, zB v32), (18, zI (w64 (a1 - 1))), (17, zI a1), (16, zI x10.fNode), (15, .ptr 6 1 0), (5, zI (i1 : Int)), (6, .ptr 6 1 0), (14, encRep x10), (13, .rp (encRep x10) 0), (12, zI (i1 : Int)), (11, zB (decide ((i1 : Int) < (a0.fReps.length : Int)))), (10, zI (i1 : Int)), (9, zI (a0.fReps.length : Int)), (8, .sl 0 (List.map encRep a0.fReps)), (2, .ptr 2 0 0), (1, zI a1)], [(6, ⟨1, 1, true, some (encRep x10)⟩), (6, ⟨1, 1, true, some (.agg [zI 0, zI 0])⟩), (2, ⟨0, 0, true, some (encAcct0 a0)⟩)]⟩ ?_
         obtain ⟨x39, hx40, h⟩ := bindO h
         refine rixT 20 encRep 119 hx40 (ix_nn hx40) ⟨[(35, .rp (encRep x39) 0), (34, zI (w64 ((i1 : Int) - 1))), (33, zI (i1 : Int)), (32, .sl 0 (List.map encRep a0.fReps)), (31, .ptr 2 0 4), (30, zB true), (29, zB (decide ((i1 : Int) > 0))), (28, zI (i1 : Int)), (27, zB false), (26, zB (!v35)), (25, zB (!v35)), (24, zB v35), (23, zI x10.fAmt), (22, .ptr 6 1 1), (21, zB false), (20, zB (!v32)), (19, zB v32), (18, zI (w64 (a1 - 1))), (17, zI a1), (16, zI x10.fNode), (15, .ptr 6 1 0), (5, zI (i1 : Int)), (6, .ptr 6 1 0), (14, encRep x10), (13, .rp (encRep x10) 0), (12, zI (i1 : Int)), (11, zB (decide ((i1 : Int) < (a0.fReps.length : Int)))), (10, zI (i1 : Int)), (9, zI (a0.fReps.length : Int)), (8, .sl 0 (List.map encRep a0.fReps)), (2, .ptr 2 0 0), (1, zI a1)], [(6, ⟨1, 1, true, some (encRep x10)⟩), (6, ⟨1, 1, true, some (.agg [zI 0, zI 0])⟩), (2, ⟨0, 0, true, some (encAcct0 a0)⟩)]⟩ ?_
         refine roT9 21 7 7 ⟨[(42, zB (decide (x39.fNode ≥ x10.fNode))), (41, zB (decide (x39.fNode ≥ x10.fNode))), (40, zB (decide (x39.fNode ≥ x10.fNode))), (39, zI x10.fNode), (38, .ptr 6 1 0), (37, zI x39.fNode), (36, .rp (encRep x39) 0), (35, .rp (encRep x39) 0), (34, zI (w64 ((i1 : Int) - 1))), (33, zI (i1 : Int)), (32, .sl 0 (List.map encRep a0.fReps)), (31, .ptr 2 0 4), (30, zB true), (29, zB (decide ((i1 : Int) > 0))), (28, zI (i1 : Int)), (27, zB false), (26, zB (!v35)), (25, zB (!v35)), (24, zB v35), (23, zI x10.fAmt), (22, .ptr 6 1 1), (21, zB false), (20, zB (!v32)), (19, zB v32), (18, zI (w64 (a1 - 1))), (17, zI a1), (16, zI x10.fNode), (15, .ptr 6 1 0), (5, zI (i1 : Int)), (6, .ptr 6 1 0), (14, encRep x10), (13, .rp (encRep x10) 0), (12, zI (i1 : Int)), (11, zB (decide ((i1 : Int) < (a0.fReps.length : Int)))), (10, zI (i1 : Int)), (9, zI (a0.fReps.length : Int)), (8, .sl 0 (List.map encRep a0.fReps)), (2, .ptr 2 0 0), (1, zI a1)], [(6, ⟨1, 1, true, some (encRep x10)⟩), (6, ⟨1, 1, true, some (.agg [zI 0, zI 0])⟩), (2, ⟨0, 0, true, some (encAcct0 a0)⟩)]⟩ ?_
         rcases dich (decide (x39.fNode ≥ x10.fNode)) with hb41 | hb41
         · replace h := cond_t hb41 h
           refine ct hb41 ?_
           refine sqr cv hn ?_
           refine ro9 0 1 1 ⟨[(4, zB false), (42, zB (decide (x39.fNode ≥ x10.fNode))), (41, zB (decide (x39.fNode ≥ x10.fNode))), (40, zB (decide (x39.fNode ≥ x10.fNode))), (39, zI x10.fNode), (38, .ptr 6 1 0), (37, zI x39.fNode), (36, .rp (encRep x39) 0), (35, .rp (encRep x39) 0), (34, zI (w64 ((i1 : Int) - 1))), (33, zI (i1 : Int)), (32, .sl 0 (List.map encRep a0.fReps)), (31, .ptr 2 0 4), (30, zB true), (29, zB (decide ((i1 : Int) > 0))), (28, zI (i1 : Int)), (27, zB false), (26, zB (!v35)), (25, zB (!v35)), (24, zB v35), (23, zI x10.fAmt), (22, .ptr 6 1 1), (21, zB false), (20, zB (!v32)), (19, zB v32), (18, zI (w64 (a1 - 1))), (17, zI a1), (16, zI x10.fNode), (15, .ptr 6 1 0), (5, zI (i1 : Int)), (6, .ptr 6 1 0), (14, encRep x10), (13, .rp (encRep x10) 0), (12, zI (i1 : Int)), (11, zB (decide ((i1 : Int) < (a0.fReps.length : Int)))), (10, zI (i1 : Int)), (9, zI (a0.fReps.length : Int)), (8, .sl 0 (List.map encRep a0.fReps)), (2, .ptr 2 0 0), (1, zI a1)], [(6, ⟨1, 1, true, some (encRep x10)⟩), (6, ⟨1, 1, true, some (.agg [zI 0, zI 0])⟩), (2, ⟨0, 0, true, some (encAcct0 a0)⟩)]⟩ ?_
           refine runs_ret ?_
           exact fin _ _ h (by kernel_rfl)
         · replace h := cond_f hb41 h
           refine cf hb41 ?_
           refine runs_skip ?_
           refine rg cv hn ?_
           refine ro9 0 2 2 ⟨[(10, zI ((i1 + 1 : Nat) : Int)), (43, zI ((i1 + 1 : Nat) : Int)), (42, zB (decide (x39.fNode ≥ x10.fNode))), (41, zB (decide (x39.fNode ≥ x10.fNode))), (40, zB (decide (x39.fNode ≥ x10.fNode))), (39, zI x10.fNode), (38, .ptr 6 1 0), (37, zI x39.fNode), (36, .rp (encRep x39) 0), (35, .rp (encRep x39) 0), (34, zI (w64 ((i1 : Int) - 1))), (33, zI (i1 : Int)), (32, .sl 0 (List.map encRep a0.fReps)), (31, .ptr 2 0 4), (30, zB true), (29, zB (decide ((i1 : Int) > 0))), (28, zI (i1 : Int)), (27, zB false), (26, zB (!v35)), (25, zB (!v35)), (24, zB v35), (23, zI x10.fAmt), (22, .ptr 6 1 1), (21, zB false), (20, zB (!v32)), (19, zB v32), (18, zI (w64 (a1 - 1))), (17, zI a1), (16, zI x10.fNode), (15, .ptr 6 1 0), (5, zI (i1 : Int)), (6, .ptr 6 1 0), (14, encRep x10), (13, .rp (encRep x10) 0), (12, zI (i1 : Int)), (11, zB (decide ((i1 : Int) < (a0.fReps.length : Int)))), (10, zI (i1 : Int)), (9, zI (a0.fReps.length : Int)), (8, .sl 0 (List.map encRep a0.fReps)), (2, .ptr 2 0 0), (1, zI a1)], [(6, ⟨1, 1, true, some (encRep x10)⟩), (6, ⟨1, 1, true, some (.agg [zI 0, zI 0])⟩), (2, ⟨0, 0, true, some (encAcct0 a0)⟩)]⟩ ?_ (he := by rw [← hi1]; kernel_rfl)
           exact ⟨(t1, i1 + 1), Nat.lt_succ_self _, ⟨dnext hd1, h⟩, wre [10, 9, 8, 2, 1] [(2, 2, false)]⟩
       · replace h := cond_f hb38 h
         refine rlT 30 false hb38 ?_
         refine roT9 16 12 2 ⟨[(42, zB false), (41, zB false), (40, .tup []), (39, .tup []), (38, .tup []), (37, .tup []), (36, .tup []), (35, .tup []), (34, .tup []), (33, .tup []), (32, .tup []), (31, .tup []), (30, zB false), (29, zB (decide ((i1 : Int) > 0))), (28, zI (i1 : Int)), (27, zB false), (26, zB (!v35)), (25, zB (!v35)), (24, zB v35), (23, zI x10.fAmt), (22, .ptr 6 1 1), (21, zB false), (20, zB (!v32)), (19, zB v32), (18, zI (w64 (a1 - 1))), (17, zI a1), (16, zI x10.fNode), (15, .ptr 6 1 0), (5, zI (i1 : Int)), (6, .ptr 6 1 0), (14, encRep x10), (13, .rp (encRep x10) 0), (12, zI (i1 : Int)), (11, zB (decide ((i1 : Int) < (a0.fReps.length : Int)))), (10, zI (i1 : Int)), (9, zI (a0.fReps.length : Int)), (8, .sl 0 (List.map encRep a0.fReps)), (2, .ptr 2 0 0), (1, zI a1)], [(6, ⟨1, 1, true, some (encRep x10)⟩), (6, ⟨1, 1, true, some (.agg [zI 0, zI 0])⟩), (2, ⟨0, 0, true, some (encAcct0 a0)⟩)]⟩ ?_
         refine cF ?_
         refine runs_skip ?_
         refine rg cv hn ?_
         refine ro9 0 2 2 ⟨[(10, zI ((i1 + 1 : Nat) : Int)), (43, zI ((i1 + 1 : Nat) : Int)), (42, zB false), (41, zB false), (40, .tup []), (39, .tup []), (38, .tup []), (37, .tup []), (36, .tup []), (35, .tup []), (34, .tup []), (33, .tup []), (32, .tup []), (31, .tup []), (30, zB false), (29, zB (decide ((i1 : Int) > 0))), (28, zI (i1 : Int)), (27, zB false), (26, zB (!v35)), (25, zB (!v35)), (24, zB v35), (23, zI x10.fAmt), (22, .ptr 6 1 1), (21, zB false), (20, zB (!v32)), (19, zB v32), (18, zI (w64 (a1 - 1))), (17, zI a1), (16, zI x10.fNode), (15, .ptr 6 1 0), (5, zI (i1 : Int)), (6, .ptr 6 1 0), (14, encRep x10), (13, .rp (encRep x10) 0), (12, zI (i1 : Int)), (11, zB (decide ((i1 : Int) < (a0.fReps.length : Int)))), (10, zI (i1 : Int)), (9, zI (a0.fReps.length : Int)), (8, .sl 0 (List.map encRep a0.fReps)), (2, .ptr 2 0 0), (1, zI a1)], [(6, ⟨1, 1, true, some (encRep x10)⟩), (6, ⟨1, 1, true, some (.agg [zI 0, zI 0])⟩), (2, ⟨0, 0, true, some (encAcct0 a0)⟩)]⟩ ?_ (he := by rw [← hi1]; kernel_rfl)
         exact ⟨(t1, i1 + 1), Nat.lt_succ_self _, ⟨dnext hd1, h⟩, wre [10, 9, 8, 2, 1] [(2, 2, false)]⟩

set_option maxRecDepth 100000 in
set_option maxHeartbeats 2000000 in
theorem impl_repAt_spec (a0 : SAcct) (a1 : Int) (v0 : Int) (h : impl_repAt a0 a1 = some v0) : Ax.Spec Try.prog 103 none [encAcct0 a0, zI a1] (zI v0 : X) (.junk : X) := by
 refine walk0 (fn := Try.f103) (fun q0 : Int => (zI q0 : X)) (fun q0 : Int => (.junk : X)) v0 ⟨[(0, encAcct0 a0), (1, zI a1)], []⟩ Try.func103 rfl (by decide +kernel) fun Γ hn fin => ?_
 rw [impl_repAt] at h
 refine sqr cv hn ?_
 refine ro9 0 2 2 ⟨[(4, zI 0), (2, .ptr 2 1 0), (0, encAcct0 a0), (1, zI a1)], [(2, ⟨1, 1, true, some (encAcct0 a0)⟩)]⟩ ?_
 refine runs_seq ?_
 refine sqr cv hn ?_
 refine ro9 0 4 4 ⟨[(10, zI 0), (9, zI (a0.fReps.length : Int)), (8, .sl 0 (List.map encRep a0.fReps)), (7, .ptr 2 1 4), (4, zI 0), (2, .ptr 2 1 0), (0, encAcct0 a0), (1, zI a1)], [(2, ⟨1, 1, true, some (encAcct0 a0)⟩)]⟩ ?_ (he := by rw [show (a0.fReps.length : Int) = ((List.map encRep a0.fReps).length : Int) from by rw [List.length_map]]; kernel_rfl)
 refine runs_block ?_
 refine runs_loopM (σ := List SRep × Nat) (fun s => ⟨[(10, zI (s.2 : Int)), (9, zI (a0.fReps.length : Int)), (8, .sl 0 (List.map encRep a0.fReps)), (1, zI a1)], []⟩) (fun s => s.1 = List.drop s.2 a0.fReps ∧ impl_repAt_l1 a1 s.1 s.2 = some v0) (fun s => s.1.length) (a0.fReps, 0) ⟨rfl, h⟩ (wre [10, 9, 8, 1] []) ?_
 rintro ⟨t1, i1⟩ ⟨hd1, h⟩
 refine seq0 ⟨[(10, zI (i1 : Int)), (9, zI (a0.fReps.length : Int)), (8, .sl 0 (List.map encRep a0.fReps)), (1, zI a1)], []⟩ ?_
 refine runs_len 8 (es := List.map encRep a0.fReps) (by kernel_rfl) fun hl1 => ?_
 replace hl1 := len_of_map hl1
 cases t1 with
 | nil =>
   rw [impl_repAt_l1] at h
   have hLn1 := dnil hd1
   refine sqr cv hn ?_
   refine ro9 0 1 1 ⟨[(11, zB (decide ((i1 : Int) < (a0.fReps.length : Int)))), (10, zI (i1 : Int)), (9, zI (a0.fReps.length : Int)), (8, .sl 0 (List.map encRep a0.fReps)), (1, zI a1)], []⟩ ?_
   refine runs_seq ?_
   refine cf hLn1 ?_
   refine runs_exit ?_
   repeat refine thenX_exit ?_
   refine block_here ?_
   refine wkr [] [] ⟨[], []⟩ ?_
   refine sqr cv hn ?_
   refine ro9 0 1 1 ⟨[(4, zI (-1))], []⟩ ?_
   refine runs_ret ?_
   exact fin _ _ h (by kernel_rfl)
 | cons x10 t1 =>
   rw [impl_repAt_l1] at h
   have hLc1 := dcons hd1
   have hx10 := dget hd1
   have hi1 := dinc hd1 hl1
   refine sqr cv hn ?_
   refine ro9 0 1 1 ⟨[(11, zB (decide ((i1 : Int) < (a0.fReps.length : Int)))), (10, zI (i1 : Int)), (9, zI (a0.fReps.length : Int)), (8, .sl 0 (List.map encRep a0.fReps)), (1, zI a1)], []⟩ ?_
   refine runs_seq ?_
   refine ct hLc1 ?_
   refine runs_skip ?_
   refine runs_seq ?_
   refine runs_block ?_
   refine sqr cv hn ?_
   refine ro 0 1 1 ⟨[(12, zI (i1 : Int)), (11, zB (decide ((i1 : Int) < (a0.fReps.length : Int)))), (10, zI (i1 : Int)), (9, zI (a0.fReps.length : Int)), (8, .sl 0 (List.map encRep a0.fReps)), (1, zI a1)], []⟩ ?_
   refine rix 1 encRep 119 hx10 (ix_nn hx10) ⟨[(13, .rp (encRep x10) 0), (12, zI (i1 : Int)), (11, zB (decide ((i1 : Int) < (a0.fReps.length : Int)))), (10, zI (i1 : Int)), (9, zI (a0.fReps.length : Int)), (8, .sl 0 (List.map encRep a0.fReps)), (1, zI a1)], []⟩ ?_
   refine ro9 2 4 4 ⟨[(5, zI (i1 : Int)), (6, .ptr 6 1 0), (14, encRep x10), (13, .rp (encRep x10) 0), (12, zI (i1 : Int)), (11, zB (decide ((i1 : Int) < (a0.fReps.length : Int)))), (10, zI (i1 : Int)), (9, zI (a0.fReps.length : Int)), (8, .sl 0 (List.map encRep a0.fReps)), (1, zI a1)], [(6, ⟨1, 1, true, some (encRep x10)⟩), (6, ⟨1, 1, true, some (.agg [zI 0, zI 0])⟩)]⟩ ?_
   refine sqr cv hn ?_
   refine ro9 0 4 4 ⟨[(18, zB (x10.fNode == a1)), (17, zI a1), (16, zI x10.fNode), (15, .ptr 6 1 0), (5, zI (i1 : Int)), (6, .ptr 6 1 0), (14, encRep x10), (13, .rp (encRep x10) 0), (12, zI (i1 : Int)), (11, zB (decide ((i1 : Int) < (a0.fReps.length : Int)))), (10, zI (i1 : Int)), (9, zI (a0.fReps.length : Int)), (8, .sl 0 (List.map encRep a0.fReps)), (1, zI a1)], [(6, ⟨1, 1, true, some (encRep x10)⟩), (6, ⟨1, 1, true, some (.agg [zI 0, zI 0])⟩)]⟩ ?_
   rcases dich (x10.fNode == a1) with hb18 | hb18
   · replace h := cond_t hb18 h
     refine ct hb18 ?_
     refine sqr cv hn ?_
     refine ro9 0 2 2 ⟨[(4, zI (i1 : Int)), (19, zI (i1 : Int)), (18, zB (x10.fNode == a1)), (17, zI a1), (16, zI x10.fNode), (15, .ptr 6 1 0), (5, zI (i1 : Int)), (6, .ptr 6 1 0), (14, encRep x10), (13, .rp (encRep x10) 0), (12, zI (i1 : Int)), (11, zB (decide ((i1 : Int) < (a0.fReps.length : Int)))), (10, zI (i1 : Int)), (9, zI (a0.fReps.length : Int)), (8, .sl 0 (List.map encRep a0.fReps)), (1, zI a1)], [(6, ⟨1, 1, true, some (encRep x10)⟩), (6, ⟨1, 1, true, some (.agg [zI 0, zI 0])⟩)]⟩ ?_
     refine runs_ret ?_
     exact fin _ _ h (by kernel_rfl)
   · replace h := cond_f hb18 h
     refine cf hb18 ?_
     refine runs_skip ?_
     refine rg cv hn ?_
     refine ro9 0 2 2 ⟨[(10, zI ((i1 + 1 : Nat) : Int)), (20, zI ((i1 + 1 : Nat) : Int)), (18, zB (x10.fNode == a1)), (17, zI a1), (16, zI x10.fNode), (15, .ptr 6 1 0), (5, zI (i1 : Int)), (6, .ptr 6 1 0), (14, encRep x10), (13, .rp (encRep x10) 0), (12, zI (i1 : Int)), (11, zB (decide ((i1 : Int) < (a0.fReps.length : Int)))), (10, zI (i1 : Int)), (9, zI (a0.fReps.length : Int)), (8, .sl 0 (List.map encRep a0.fReps)), (1, zI a1)], [(6, ⟨1, 1, true, some (encRep x10)⟩), (6, ⟨1, 1, true, some (.agg [zI 0, zI 0])⟩)]⟩ ?_ (he := by rw [← hi1]; kernel_rfl)
     exact ⟨(t1, i1 + 1), Nat.lt_succ_self _, ⟨dnext hd1, h⟩, wre [10, 9, 8, 1] []⟩

set_option maxRecDepth 100000 in
set_option maxHeartbeats 2000000 in
theorem impl_AcctOk_spec (a0 : SAcct) (a1 : Int) (a2 : Int) (v0 : Bool) (h : impl_AcctOk a0 a1 a2 = some v0) : Ax.Spec Try.prog 50 none [encAcct0 a0, zI a1, zI a2] (zB v0 : X) (.junk : X) := by
 let T1 : List (Nat × X) := [(0, encAcct0 a0), (1, zI a1), (2, zI a2)]
 refine walk0 (fn := Try.f50) (fun q0 : Bool => (zB q0 : X)) (fun q0 : Bool => (.junk : X)) v0 ⟨T1, []⟩ Try.func50 rfl (by decide +kernel) fun Γ hn fin => ?_
 rw [impl_AcctOk] at h
 refine sqr cv hn ?_
 refine ro9 0 2 2 ⟨(6, zB false) :: (3, .ptr 3 1 0) :: T1, [(3, ⟨1, 1, true, some (encAcct0 a0)⟩)]⟩ ?_
 refine runs_seq ?_
 refine sqr cv hn ?_
 refine ro 0 1 1 ⟨(8, zI a1) :: (6, zB false) :: (3, .ptr 3 1 0) :: T1, [(3, ⟨1, 1, true, some (encAcct0 a0)⟩)]⟩ ?_
 obtain ⟨v10, hv11, h⟩ := bindO h
 refine rc 1 ⟨(9, zB v10) :: (8, zI a1) :: (6, zB false) :: (3, .ptr 3 1 0) :: T1, [(3, ⟨1, 1, true, some (encAcct0 a0)⟩)]⟩ (impl_in_spec a1 1 4 v10 hv11) ?_
 refine ro 2 2 2 ⟨(11, zB (!v10)) :: (10, zB (!v10)) :: (9, zB v10) :: (8, zI a1) :: (6, zB false) :: (3, .ptr 3 1 0) :: T1, [(3, ⟨1, 1, true, some (encAcct0 a0)⟩)]⟩ ?_
 rcases dich (!v10) with hb12 | hb12
 · replace h := cond_t hb12 h
   refine rl 11 true hb12 ?_
   refine ro9 4 12 3 ⟨(23, zB true) :: (22, .tup []) :: (21, .tup []) :: (20, .tup []) :: (19, .tup []) :: (18, zB true) :: (17, zB true) :: (16, .tup []) :: (15, .tup []) :: (14, .tup []) :: (13, .tup []) :: (12, .tup []) :: (11, zB true) :: (10, zB (!v10)) :: (9, zB v10) :: (8, zI a1) :: (6, zB false) :: (3, .ptr 3 1 0) :: T1, [(3, ⟨1, 1, true, some (encAcct0 a0)⟩)]⟩ ?_
   refine cT ?_
   let T5 : List (Nat × X) := [(3, .ptr 3 0 0), (1, zI a1), (2, zI a2)]
   let B5 : List (Nat × Bx) := [(3, ⟨0, 0, true, some (encAcct0 a0)⟩)]
   refine wkr [3, 1, 2] [(3, 3, false)] ⟨T5, B5⟩ ?_
   refine sqr cv hn ?_
   refine ro9 0 1 1 ⟨(6, zB false) :: T5, B5⟩ ?_
   refine runs_ret ?_
   exact fin _ _ h (by kernel_rfl)
 · replace h := cond_f hb12 h
   refine rl 11 false hb12 ?_
   refine ro 4 3 3 ⟨(14, zI (w64 (a1 - 1))) :: (13, zI a1) :: (12, zI a2) :: (11, zB false) :: (10, zB (!v10)) :: (9, zB v10) :: (8, zI a1) :: (6, zB false) :: (3, .ptr 3 1 0) :: T1, [(3, ⟨1, 1, true, some (encAcct0 a0)⟩)]⟩ ?_
   obtain ⟨v13, hv14, h⟩ := bindO h
   refine rc 7 ⟨(15, zB v13) :: (14, zI (w64 (a1 - 1))) :: (13, zI a1) :: (12, zI a2) :: (11, zB false) :: (10, zB (!v10)) :: (9, zB v10) :: (8, zI a1) :: (6, zB false) :: (3, .ptr 3 1 0) :: T1, [(3, ⟨1, 1, true, some (encAcct0 a0)⟩)]⟩ (impl_in_spec a2 0 (w64 (a1 - 1)) v13 hv14) ?_
   refine ro 8 3 3 ⟨(18, zB (!v13)) :: (17, zB (!v13)) :: (16, zB (!v13)) :: (15, zB v13) :: (14, zI (w64 (a1 - 1))) :: (13, zI a1) :: (12, zI a2) :: (11, zB false) :: (10, zB (!v10)) :: (9, zB v10) :: (8, zI a1) :: (6, zB false) :: (3, .ptr 3 1 0) :: T1, [(3, ⟨1, 1, true, some (encAcct0 a0)⟩)]⟩ ?_
   rcases dich (!v13) with hb15 | hb15
   · replace h := cond_t hb15 h
     refine rl 18 true hb15 ?_
     refine ro9 11 5 1 ⟨(23, zB true) :: (22, .tup []) :: (21, .tup []) :: (20, .tup []) :: (19, .tup []) :: (18, zB true) :: (17, zB (!v13)) :: (16, zB (!v13)) :: (15, zB v13) :: (14, zI (w64 (a1 - 1))) :: (13, zI a1) :: (12, zI a2) :: (11, zB false) :: (10, zB (!v10)) :: (9, zB v10) :: (8, zI a1) :: (6, zB false) :: (3, .ptr 3 1 0) :: T1, [(3, ⟨1, 1, true, some (encAcct0 a0)⟩)]⟩ ?_
     refine cT ?_
     let T6 : List (Nat × X) := [(3, .ptr 3 0 0), (1, zI a1), (2, zI a2)]
     let B6 : List (Nat × Bx) := [(3, ⟨0, 0, true, some (encAcct0 a0)⟩)]
     refine wkr [3, 1, 2] [(3, 3, false)] ⟨T6, B6⟩ ?_
     refine sqr cv hn ?_
     refine ro9 0 1 1 ⟨(6, zB false) :: T6, B6⟩ ?_
     refine runs_ret ?_
     exact fin _ _ h (by kernel_rfl)
   · replace h := cond_f hb15 h
     refine rl 18 false hb15 ?_
     refine ro 11 2 2 ⟨(20, zI a0.fHave) :: (19, .ptr 3 1 0) :: (18, zB false) :: (17, zB (!v13)) :: (16, zB (!v13)) :: (15, zB v13) :: (14, zI (w64 (a1 - 1))) :: (13, zI a1) :: (12, zI a2) :: (11, zB false) :: (10, zB (!v10)) :: (9, zB v10) :: (8, zI a1) :: (6, zB false) :: (3, .ptr 3 1 0) :: T1, [(3, ⟨1, 1, true, some (encAcct0 a0)⟩)]⟩ ?_
     obtain ⟨v16, hv17, h⟩ := bindO h
     refine rc 13 ⟨(21, zB v16) :: (20, zI a0.fHave) :: (19, .ptr 3 1 0) :: (18, zB false) :: (17, zB (!v13)) :: (16, zB (!v13)) :: (15, zB v13) :: (14, zI (w64 (a1 - 1))) :: (13, zI a1) :: (12, zI a2) :: (11, zB false) :: (10, zB (!v10)) :: (9, zB v10) :: (8, zI a1) :: (6, zB false) :: (3, .ptr 3 1 0) :: T1, [(3, ⟨1, 1, true, some (encAcct0 a0)⟩)]⟩ (impl_isNum_spec a0.fHave v16 hv17) ?_
     refine ro9 14 2 2 ⟨(23, zB (!v16)) :: (22, zB (!v16)) :: (21, zB v16) :: (20, zI a0.fHave) :: (19, .ptr 3 1 0) :: (18, zB false) :: (17, zB (!v13)) :: (16, zB (!v13)) :: (15, zB v13) :: (14, zI (w64 (a1 - 1))) :: (13, zI a1) :: (12, zI a2) :: (11, zB false) :: (10, zB (!v10)) :: (9, zB v10) :: (8, zI a1) :: (6, zB false) :: (3, .ptr 3 1 0) :: T1, [(3, ⟨1, 1, true, some (encAcct0 a0)⟩)]⟩ ?_
     rcases dich (!v16) with hb18 | hb18
     · replace h := cond_t hb18 h
       refine ct hb18 ?_
       let T7 : List (Nat × X) := [(3, .ptr 3 0 0), (1, zI a1), (2, zI a2)]
       let B7 : List (Nat × Bx) := [(3, ⟨0, 0, true, some (encAcct0 a0)⟩)]
       refine wkr [3, 1, 2] [(3, 3, false)] ⟨T7, B7⟩ ?_
       refine sqr cv hn ?_
       refine ro9 0 1 1 ⟨(6, zB false) :: T7, B7⟩ ?_
       refine runs_ret ?_
       exact fin _ _ h (by kernel_rfl)
     · replace h := cond_f hb18 h
       refine cf hb18 ?_
       refine runs_skip ?_
       refine runs_seq ?_
       let T11 : List (Nat × X) := [(3, .ptr 3 0 0), (1, zI a1), (2, zI a2)]
       let B11 : List (Nat × Bx) := [(3, ⟨0, 0, true, some (encAcct0 a0)⟩)]
       refine wkr [3, 1, 2] [(3, 3, false)] ⟨T11, B11⟩ ?_
       refine sqr cv hn ?_
       refine ro9 0 3 3 ⟨(26, zB (a0.fState == 0)) :: (25, zI a0.fState) :: (24, .ptr 3 0 1) :: T11, B11⟩ ?_
       rcases dich (a0.fState == 0) with hb22 | hb22
       · replace h := cond_t hb22 h
         refine ct hb22 ?_
         refine sqr cv hn ?_
         refine ro 0 4 4 ⟨(30, zB (a0.fBy == 0)) :: (29, zB (a0.fBy == 0)) :: (28, zI a0.fBy) :: (27, .ptr 3 0 2) :: (26, zB (a0.fState == 0)) :: (25, zI a0.fState) :: (24, .ptr 3 0 1) :: T11, B11⟩ ?_
         rcases dich (a0.fBy == 0) with hb23 | hb23
         · replace h := cond_t hb23 h
           refine rl 30 true hb23 ?_
           refine ro 4 6 6 ⟨(36, zB ((a0.fMarks.length : Int) == 0)) :: (35, zB ((a0.fMarks.length : Int) == 0)) :: (34, zB ((a0.fMarks.length : Int) == 0)) :: (33, zI (a0.fMarks.length : Int)) :: (32, .sl 0 (List.map encInt a0.fMarks)) :: (31, .ptr 3 0 3) :: (30, zB true) :: (29, zB (a0.fBy == 0)) :: (28, zI a0.fBy) :: (27, .ptr 3 0 2) :: (26, zB (a0.fState == 0)) :: (25, zI a0.fState) :: (24, .ptr 3 0 1) :: T11, B11⟩ ?_ (he := by rw [show (a0.fMarks.length : Int) = ((List.map encInt a0.fMarks).length : Int) from by rw [List.length_map]]; kernel_rfl)
           rcases dich ((a0.fMarks.length : Int) == 0) with hb24 | hb24
           · replace h := cond_t hb24 h
             refine rl 36 true hb24 ?_
             refine ro9 10 6 6 ⟨(6, zB ((a0.fReps.length : Int) == 0)) :: (41, zB ((a0.fReps.length : Int) == 0)) :: (40, zB ((a0.fReps.length : Int) == 0)) :: (39, zI (a0.fReps.length : Int)) :: (38, .sl 0 (List.map encRep a0.fReps)) :: (37, .ptr 3 0 4) :: (36, zB true) :: (35, zB ((a0.fMarks.length : Int) == 0)) :: (34, zB ((a0.fMarks.length : Int) == 0)) :: (33, zI (a0.fMarks.length : Int)) :: (32, .sl 0 (List.map encInt a0.fMarks)) :: (31, .ptr 3 0 3) :: (30, zB true) :: (29, zB (a0.fBy == 0)) :: (28, zI a0.fBy) :: (27, .ptr 3 0 2) :: (26, zB (a0.fState == 0)) :: (25, zI a0.fState) :: (24, .ptr 3 0 1) :: T11, B11⟩ ?_ (he := by rw [show (a0.fReps.length : Int) = ((List.map encRep a0.fReps).length : Int) from by rw [List.length_map]]; kernel_rfl)
             refine runs_ret ?_
             exact fin _ _ h (by kernel_rfl)
           · replace h := cond_f hb24 h
             refine rl 36 false hb24 ?_
             refine ro9 10 6 2 ⟨(6, zB false) :: (41, zB false) :: (40, .tup []) :: (39, .tup []) :: (38, .tup []) :: (37, .tup []) :: (36, zB false) :: (35, zB ((a0.fMarks.length : Int) == 0)) :: (34, zB ((a0.fMarks.length : Int) == 0)) :: (33, zI (a0.fMarks.length : Int)) :: (32, .sl 0 (List.map encInt a0.fMarks)) :: (31, .ptr 3 0 3) :: (30, zB true) :: (29, zB (a0.fBy == 0)) :: (28, zI a0.fBy) :: (27, .ptr 3 0 2) :: (26, zB (a0.fState == 0)) :: (25, zI a0.fState) :: (24, .ptr 3 0 1) :: T11, B11⟩ ?_
             refine runs_ret ?_
             exact fin _ _ h (by kernel_rfl)
         · replace h := cond_f hb23 h
           refine rl 30 false hb23 ?_
           refine ro9 4 12 4 ⟨(6, zB false) :: (41, zB false) :: (40, .tup []) :: (39, .tup []) :: (38, .tup []) :: (37, .tup []) :: (36, zB false) :: (35, zB false) :: (34, .tup []) :: (33, .tup []) :: (32, .tup []) :: (31, .tup []) :: (30, zB false) :: (29, zB (a0.fBy == 0)) :: (28, zI a0.fBy) :: (27, .ptr 3 0 2) :: (26, zB (a0.fState == 0)) :: (25, zI a0.fState) :: (24, .ptr 3 0 1) :: T11, B11⟩ ?_
           refine runs_ret ?_
           exact fin _ _ h (by kernel_rfl)
       · replace h := cond_f hb22 h
         refine cf hb22 ?_
         refine runs_skip ?_
         refine runs_seq ?_
         refine sqr cv hn ?_
         refine ro 0 4 4 ⟨(45, zI (w64 (a1 - 1))) :: (44, zI a1) :: (43, zI a0.fBy) :: (42, .ptr 3 0 2) :: (26, zB (a0.fState == 0)) :: (25, zI a0.fState) :: (24, .ptr 3 0 1) :: T11, B11⟩ ?_
         obtain ⟨v37, hv38, h⟩ := bindO h
         refine rc 4 ⟨(46, zB v37) :: (45, zI (w64 (a1 - 1))) :: (44, zI a1) :: (43, zI a0.fBy) :: (42, .ptr 3 0 2) :: (26, zB (a0.fState == 0)) :: (25, zI a0.fState) :: (24, .ptr 3 0 1) :: T11, B11⟩ (impl_in_spec a0.fBy 0 (w64 (a1 - 1)) v37 hv38) ?_
         refine ro 5 2 2 ⟨(48, zB (!v37)) :: (47, zB (!v37)) :: (46, zB v37) :: (45, zI (w64 (a1 - 1))) :: (44, zI a1) :: (43, zI a0.fBy) :: (42, .ptr 3 0 2) :: (26, zB (a0.fState == 0)) :: (25, zI a0.fState) :: (24, .ptr 3 0 1) :: T11, B11⟩ ?_
         rcases dich (!v37) with hb39 | hb39
         · replace h := cond_t hb39 h
           refine rl 48 true hb39 ?_
           refine ro9 7 18 5 ⟨(66, zB true) :: (65, .tup []) :: (64, .tup []) :: (63, .tup []) :: (62, .tup []) :: (61, zB true) :: (60, zB true) :: (59, .tup []) :: (58, .tup []) :: (57, .tup []) :: (56, .tup []) :: (55, zB true) :: (54, zB true) :: (53, .tup []) :: (52, .tup []) :: (51, .tup []) :: (50, .tup []) :: (49, .tup []) :: (48, zB true) :: (47, zB (!v37)) :: (46, zB v37) :: (45, zI (w64 (a1 - 1))) :: (44, zI a1) :: (43, zI a0.fBy) :: (42, .ptr 3 0 2) :: (26, zB (a0.fState == 0)) :: (25, zI a0.fState) :: (24, .ptr 3 0 1) :: T11, B11⟩ ?_
           refine cT ?_
           let T16 : List (Nat × X) := [(3, .ptr 3 0 0), (1, zI a1), (2, zI a2)]
           let B16 : List (Nat × Bx) := [(3, ⟨0, 0, true, some (encAcct0 a0)⟩)]
           refine wkr [3, 1, 2] [(3, 3, false)] ⟨T16, B16⟩ ?_
           refine sqr cv hn ?_
           refine ro9 0 1 1 ⟨(6, zB false) :: T16, B16⟩ ?_
           refine runs_ret ?_
           exact fin _ _ h (by kernel_rfl)
         · replace h := cond_f hb39 h
           refine rl 48 false hb39 ?_
           refine ro 7 3 3 ⟨(51, zI a1) :: (50, .sl 0 (List.map encInt a0.fMarks)) :: (49, .ptr 3 0 3) :: (48, zB false) :: (47, zB (!v37)) :: (46, zB v37) :: (45, zI (w64 (a1 - 1))) :: (44, zI a1) :: (43, zI a0.fBy) :: (42, .ptr 3 0 2) :: (26, zB (a0.fState == 0)) :: (25, zI a0.fState) :: (24, .ptr 3 0 1) :: T11, B11⟩ ?_
           obtain ⟨v40, hv41, h⟩ := bindO h
           refine rc 10 ⟨(52, zB v40) :: (51, zI a1) :: (50, .sl 0 (List.map encInt a0.fMarks)) :: (49, .ptr 3 0 3) :: (48, zB false) :: (47, zB (!v37)) :: (46, zB v37) :: (45, zI (w64 (a1 - 1))) :: (44, zI a1) :: (43, zI a0.fBy) :: (42, .ptr 3 0 2) :: (26, zB (a0.fState == 0)) :: (25, zI a0.fState) :: (24, .ptr 3 0 1) :: T11, B11⟩ (impl_nodesOk_spec a0.fMarks a1 v40 hv41) ?_
           refine ro 11 3 3 ⟨(55, zB (!v40)) :: (54, zB (!v40)) :: (53, zB (!v40)) :: (52, zB v40) :: (51, zI a1) :: (50, .sl 0 (List.map encInt a0.fMarks)) :: (49, .ptr 3 0 3) :: (48, zB false) :: (47, zB (!v37)) :: (46, zB v37) :: (45, zI (w64 (a1 - 1))) :: (44, zI a1) :: (43, zI a0.fBy) :: (42, .ptr 3 0 2) :: (26, zB (a0.fState == 0)) :: (25, zI a0.fState) :: (24, .ptr 3 0 1) :: T11, B11⟩ ?_
           rcases dich (!v40) with hb42 | hb42
           · replace h := cond_t hb42 h
             refine rl 55 true hb42 ?_
             refine ro9 14 11 3 ⟨(66, zB true) :: (65, .tup []) :: (64, .tup []) :: (63, .tup []) :: (62, .tup []) :: (61, zB true) :: (60, zB true) :: (59, .tup []) :: (58, .tup []) :: (57, .tup []) :: (56, .tup []) :: (55, zB true) :: (54, zB (!v40)) :: (53, zB (!v40)) :: (52, zB v40) :: (51, zI a1) :: (50, .sl 0 (List.map encInt a0.fMarks)) :: (49, .ptr 3 0 3) :: (48, zB false) :: (47, zB (!v37)) :: (46, zB v37) :: (45, zI (w64 (a1 - 1))) :: (44, zI a1) :: (43, zI a0.fBy) :: (42, .ptr 3 0 2) :: (26, zB (a0.fState == 0)) :: (25, zI a0.fState) :: (24, .ptr 3 0 1) :: T11, B11⟩ ?_
             refine cT ?_
             let T17 : List (Nat × X) := [(3, .ptr 3 0 0), (1, zI a1), (2, zI a2)]
             let B17 : List (Nat × Bx) := [(3, ⟨0, 0, true, some (encAcct0 a0)⟩)]
             refine wkr [3, 1, 2] [(3, 3, false)] ⟨T17, B17⟩ ?_
             refine sqr cv hn ?_
             refine ro9 0 1 1 ⟨(6, zB false) :: T17, B17⟩ ?_
             refine runs_ret ?_
             exact fin _ _ h (by kernel_rfl)
           · replace h := cond_f hb42 h
             refine rl 55 false hb42 ?_
             refine ro 14 3 3 ⟨(58, zI a2) :: (57, .sl 0 (List.map encInt a0.fMarks)) :: (56, .ptr 3 0 3) :: (55, zB false) :: (54, zB (!v40)) :: (53, zB (!v40)) :: (52, zB v40) :: (51, zI a1) :: (50, .sl 0 (List.map encInt a0.fMarks)) :: (49, .ptr 3 0 3) :: (48, zB false) :: (47, zB (!v37)) :: (46, zB v37) :: (45, zI (w64 (a1 - 1))) :: (44, zI a1) :: (43, zI a0.fBy) :: (42, .ptr 3 0 2) :: (26, zB (a0.fState == 0)) :: (25, zI a0.fState) :: (24, .ptr 3 0 1) :: T11, B11⟩ ?_
             obtain ⟨v43, hv44, h⟩ := bindO h
             refine rc 17 ⟨(59, zB v43) :: (58, zI a2) :: (57, .sl 0 (List.map encInt a0.fMarks)) :: (56, .ptr 3 0 3) :: (55, zB false) :: (54, zB (!v40)) :: (53, zB (!v40)) :: (52, zB v40) :: (51, zI a1) :: (50, .sl 0 (List.map encInt a0.fMarks)) :: (49, .ptr 3 0 3) :: (48, zB false) :: (47, zB (!v37)) :: (46, zB v37) :: (45, zI (w64 (a1 - 1))) :: (44, zI a1) :: (43, zI a0.fBy) :: (42, .ptr 3 0 2) :: (26, zB (a0.fState == 0)) :: (25, zI a0.fState) :: (24, .ptr 3 0 1) :: T11, B11⟩ (impl_hasInt_spec a0.fMarks a2 v43 hv44) ?_
             refine ro 18 2 2 ⟨(61, zB v43) :: (60, zB v43) :: (59, zB v43) :: (58, zI a2) :: (57, .sl 0 (List.map encInt a0.fMarks)) :: (56, .ptr 3 0 3) :: (55, zB false) :: (54, zB (!v40)) :: (53, zB (!v40)) :: (52, zB v40) :: (51, zI a1) :: (50, .sl 0 (List.map encInt a0.fMarks)) :: (49, .ptr 3 0 3) :: (48, zB false) :: (47, zB (!v37)) :: (46, zB v37) :: (45, zI (w64 (a1 - 1))) :: (44, zI a1) :: (43, zI a0.fBy) :: (42, .ptr 3 0 2) :: (26, zB (a0.fState == 0)) :: (25, zI a0.fState) :: (24, .ptr 3 0 1) :: T11, B11⟩ ?_
             rcases dich v43 with hb45 | hb45
             · replace h := cond_t hb45 h
               refine rl 61 true hb45 ?_
               refine ro9 20 5 1 ⟨(66, zB true) :: (65, .tup []) :: (64, .tup []) :: (63, .tup []) :: (62, .tup []) :: (61, zB true) :: (60, zB v43) :: (59, zB v43) :: (58, zI a2) :: (57, .sl 0 (List.map encInt a0.fMarks)) :: (56, .ptr 3 0 3) :: (55, zB false) :: (54, zB (!v40)) :: (53, zB (!v40)) :: (52, zB v40) :: (51, zI a1) :: (50, .sl 0 (List.map encInt a0.fMarks)) :: (49, .ptr 3 0 3) :: (48, zB false) :: (47, zB (!v37)) :: (46, zB v37) :: (45, zI (w64 (a1 - 1))) :: (44, zI a1) :: (43, zI a0.fBy) :: (42, .ptr 3 0 2) :: (26, zB (a0.fState == 0)) :: (25, zI a0.fState) :: (24, .ptr 3 0 1) :: T11, B11⟩ ?_
               refine cT ?_
               let T18 : List (Nat × X) := [(3, .ptr 3 0 0), (1, zI a1), (2, zI a2)]
               let B18 : List (Nat × Bx) := [(3, ⟨0, 0, true, some (encAcct0 a0)⟩)]
               refine wkr [3, 1, 2] [(3, 3, false)] ⟨T18, B18⟩ ?_
               refine sqr cv hn ?_
               refine ro9 0 1 1 ⟨(6, zB false) :: T18, B18⟩ ?_
               refine runs_ret ?_
               exact fin _ _ h (by kernel_rfl)
             · replace h := cond_f hb45 h
               refine rl 61 false hb45 ?_
               refine ro 20 2 2 ⟨(63, zI a1) :: (62, encAcct0 a0) :: (61, zB false) :: (60, zB v43) :: (59, zB v43) :: (58, zI a2) :: (57, .sl 0 (List.map encInt a0.fMarks)) :: (56, .ptr 3 0 3) :: (55, zB false) :: (54, zB (!v40)) :: (53, zB (!v40)) :: (52, zB v40) :: (51, zI a1) :: (50, .sl 0 (List.map encInt a0.fMarks)) :: (49, .ptr 3 0 3) :: (48, zB false) :: (47, zB (!v37)) :: (46, zB v37) :: (45, zI (w64 (a1 - 1))) :: (44, zI a1) :: (43, zI a0.fBy) :: (42, .ptr 3 0 2) :: (26, zB (a0.fState == 0)) :: (25, zI a0.fState) :: (24, .ptr 3 0 1) :: T11, B11⟩ ?_
               obtain ⟨v46, hv47, h⟩ := bindO h
               refine rc 22 ⟨(64, zB v46) :: (63, zI a1) :: (62, encAcct0 a0) :: (61, zB false) :: (60, zB v43) :: (59, zB v43) :: (58, zI a2) :: (57, .sl 0 (List.map encInt a0.fMarks)) :: (56, .ptr 3 0 3) :: (55, zB false) :: (54, zB (!v40)) :: (53, zB (!v40)) :: (52, zB v40) :: (51, zI a1) :: (50, .sl 0 (List.map encInt a0.fMarks)) :: (49, .ptr 3 0 3) :: (48, zB false) :: (47, zB (!v37)) :: (46, zB v37) :: (45, zI (w64 (a1 - 1))) :: (44, zI a1) :: (43, zI a0.fBy) :: (42, .ptr 3 0 2) :: (26, zB (a0.fState == 0)) :: (25, zI a0.fState) :: (24, .ptr 3 0 1) :: T11, B11⟩ (impl_repsOk_spec a0 a1 v46 hv47) ?_
               refine ro9 23 2 2 ⟨(66, zB (!v46)) :: (65, zB (!v46)) :: (64, zB v46) :: (63, zI a1) :: (62, encAcct0 a0) :: (61, zB false) :: (60, zB v43) :: (59, zB v43) :: (58, zI a2) :: (57, .sl 0 (List.map encInt a0.fMarks)) :: (56, .ptr 3 0 3) :: (55, zB false) :: (54, zB (!v40)) :: (53, zB (!v40)) :: (52, zB v40) :: (51, zI a1) :: (50, .sl 0 (List.map encInt a0.fMarks)) :: (49, .ptr 3 0 3) :: (48, zB false) :: (47, zB (!v37)) :: (46, zB v37) :: (45, zI (w64 (a1 - 1))) :: (44, zI a1) :: (43, zI a0.fBy) :: (42, .ptr 3 0 2) :: (26, zB (a0.fState == 0)) :: (25, zI a0.fState) :: (24, .ptr 3 0 1) :: T11, B11⟩ ?_
               rcases dich (!v46) with hb48 | hb48
               · replace h := cond_t hb48 h
                 refine ct hb48 ?_
                 let T19 : List (Nat × X) := [(3, .ptr 3 0 0), (1, zI a1), (2, zI a2)]
                 let B19 : List (Nat × Bx) := [(3, ⟨0, 0, true, some (encAcct0 a0)⟩)]
                 refine wkr [3, 1, 2] [(3, 3, false)] ⟨T19, B19⟩ ?_
                 refine sqr cv hn ?_
                 refine ro9 0 1 1 ⟨(6, zB false) :: T19, B19⟩ ?_
                 refine runs_ret ?_
                 exact fin _ _ h (by kernel_rfl)
               · replace h := cond_f hb48 h
                 refine cf hb48 ?_
                 refine runs_skip ?_
                 let T21 : List (Nat × X) := [(3, .ptr 3 0 0), (1, zI a1), (2, zI a2)]
                 let B21 : List (Nat × Bx) := [(3, ⟨0, 0, true, some (encAcct0 a0)⟩)]
                 refine wkr [3, 1, 2] [(3, 3, false)] ⟨T21, B21⟩ ?_
                 refine sqr cv hn ?_
                 refine ro 0 2 2 ⟨(68, zI a2) :: (67, encAcct0 a0) :: T21, B21⟩ ?_
                 obtain ⟨v51, hv52, h⟩ := bindO h
                 refine rc 2 ⟨(69, zI v51) :: (68, zI a2) :: (67, encAcct0 a0) :: T21, B21⟩ (impl_repAt_spec a0 a2 v51 hv52) ?_
                 refine ro9 3 1 1 ⟨(7, zI v51) :: (69, zI v51) :: (68, zI a2) :: (67, encAcct0 a0) :: T21, B21⟩ ?_
                 refine runs_seqJ (σ := Unit) (fun s => ⟨[(1, zI a1), (3, .ptr 3 0 0)], [(3, ⟨0, 0, true, some (encAcct0 a0)⟩)]⟩) (fun s => impl_AcctOk_j1 a0 a1 = some v0) ?_ ?_
                 · rintro _ h
                   rw [impl_AcctOk_j1] at h
                   let B24 : List (Nat × Bx) := [(3, ⟨0, 0, true, some (encAcct0 a0)⟩)]
                   refine seq0 ⟨[(1, zI a1), (3, .ptr 3 0 0)], B24⟩ ?_
                   refine runs_seq ?_
                   refine sqr cv hn ?_
                   refine ro9 0 5 5 ⟨[(98, zB ((a0.fReps.length : Int) == a1)), (97, zI a1), (96, zI (a0.fReps.length : Int)), (95, .sl 0 (List.map encRep a0.fReps)), (94, .ptr 3 0 4), (1, zI a1), (3, .ptr 3 0 0)], B24⟩ ?_ (he := by rw [show (a0.fReps.length : Int) = ((List.map encRep a0.fReps).length : Int) from by rw [List.length_map]]; kernel_rfl)
                   rcases dich ((a0.fReps.length : Int) == a1) with hb58 | hb58
                   · replace h := cond_t hb58 h
                     refine ct hb58 ?_
                     let B25 : List (Nat × Bx) := [(3, ⟨0, 0, true, some (encAcct0 a0)⟩)]
                     refine wkr [3] [(3, 3, false)] ⟨[(3, .ptr 3 0 0)], B25⟩ ?_
                     refine sqr cv hn ?_
                     refine ro9 0 4 4 ⟨[(6, zB (a0.fState == 2)), (101, zB (a0.fState == 2)), (100, zI a0.fState), (99, .ptr 3 0 1), (3, .ptr 3 0 0)], B25⟩ ?_
                     refine runs_ret ?_
                     exact fin _ _ h (by kernel_rfl)
                   · replace h := cond_f hb58 h
                     refine cf hb58 ?_
                     refine runs_skip ?_
                     let B26 : List (Nat × Bx) := [(3, ⟨0, 0, true, some (encAcct0 a0)⟩)]
                     refine wkr [3] [(3, 3, false)] ⟨[(3, .ptr 3 0 0)], B26⟩ ?_
                     refine sqr cv hn ?_
                     refine ro9 0 4 4 ⟨[(6, zB (a0.fState == 1)), (104, zB (a0.fState == 1)), (103, zI a0.fState), (102, .ptr 3 0 1), (3, .ptr 3 0 0)], B26⟩ ?_
                     refine runs_ret ?_
                     exact fin _ _ h (by kernel_rfl)
                 · skip
                   refine runs_seq ?_
                   refine rgT cv mixed hn ?_
                   refine roT 0 10 10 ⟨(79, zB ((decide (v51 ≥ 0)) != ((a0.fMarks.length : Int) == (w64 (a1 - 1))))) :: (78, zB ((decide (v51 ≥ 0)) != ((a0.fMarks.length : Int) == (w64 (a1 - 1))))) :: (77, zB ((a0.fMarks.length : Int) == (w64 (a1 - 1)))) :: (76, zI (w64 (a1 - 1))) :: (75, zI a1) :: (74, zI (a0.fMarks.length : Int)) :: (73, .sl 0 (List.map encInt a0.fMarks)) :: (72, .ptr 3 0 3) :: (71, zB (decide (v51 ≥ 0))) :: (70, zI v51) :: (7, zI v51) :: (69, zI v51) :: (68, zI a2) :: (67, encAcct0 a0) :: T21, B21⟩ ?_ (he := by rw [show (a0.fMarks.length : Int) = ((List.map encInt a0.fMarks).length : Int) from by rw [List.length_map]]; kernel_rfl)
                   rcases dich ((decide (v51 ≥ 0)) != ((a0.fMarks.length : Int) == (w64 (a1 - 1)))) with hb59 | hb59
                   · replace h := cond_t hb59 h
                     refine rlT 79 true hb59 ?_
                     refine roT9 10 14 1 ⟨(93, zB true) :: (92, .tup []) :: (91, .tup []) :: (90, .tup []) :: (89, .tup []) :: (88, .tup []) :: (87, .tup []) :: (86, .tup []) :: (85, .tup []) :: (84, .tup []) :: (83, .tup []) :: (82, .tup []) :: (81, .tup []) :: (80, .tup []) :: (79, zB true) :: (78, zB ((decide (v51 ≥ 0)) != ((a0.fMarks.length : Int) == (w64 (a1 - 1))))) :: (77, zB ((a0.fMarks.length : Int) == (w64 (a1 - 1)))) :: (76, zI (w64 (a1 - 1))) :: (75, zI a1) :: (74, zI (a0.fMarks.length : Int)) :: (73, .sl 0 (List.map encInt a0.fMarks)) :: (72, .ptr 3 0 3) :: (71, zB (decide (v51 ≥ 0))) :: (70, zI v51) :: (7, zI v51) :: (69, zI v51) :: (68, zI a2) :: (67, encAcct0 a0) :: T21, B21⟩ ?_
                     refine cT ?_
                     let B27 : List (Nat × Bx) := [(3, ⟨0, 0, true, some (encAcct0 a0)⟩)]
                     refine wkr [3, 1] [(3, 3, false)] ⟨[(3, .ptr 3 0 0), (1, zI a1)], B27⟩ ?_
                     refine sqr cv hn ?_
                     refine ro9 0 1 1 ⟨[(6, zB false), (3, .ptr 3 0 0), (1, zI a1)], B27⟩ ?_
                     refine runs_ret ?_
                     exact fin _ _ h (by kernel_rfl)
                   · replace h := cond_f hb59 h
                     refine rlT 79 false hb59 ?_
                     refine roT 10 3 3 ⟨(82, zB (decide (v51 ≥ 0))) :: (81, zB (decide (v51 ≥ 0))) :: (80, zI v51) :: (79, zB false) :: (78, zB ((decide (v51 ≥ 0)) != ((a0.fMarks.length : Int) == (w64 (a1 - 1))))) :: (77, zB ((a0.fMarks.length : Int) == (w64 (a1 - 1)))) :: (76, zI (w64 (a1 - 1))) :: (75, zI a1) :: (74, zI (a0.fMarks.length : Int)) :: (73, .sl 0 (List.map encInt a0.fMarks)) :: (72, .ptr 3 0 3) :: (71, zB (decide (v51 ≥ 0))) :: (70, zI v51) :: (7, zI v51) :: (69, zI v51) :: (68, zI a2) :: (67, encAcct0 a0) :: T21, B21⟩ ?_
                     rcases dich (decide (v51 ≥ 0)) with hb60 | hb60
                     · replace h := cond_t hb60 h
                       refine rlT 82 true hb60 ?_
                       refine roT 13 3 3 ⟨(85, zI v51) :: (84, .sl 0 (List.map encRep a0.fReps)) :: (83, .ptr 3 0 4) :: (82, zB true) :: (81, zB (decide (v51 ≥ 0))) :: (80, zI v51) :: (79, zB false) :: (78, zB ((decide (v51 ≥ 0)) != ((a0.fMarks.length : Int) == (w64 (a1 - 1))))) :: (77, zB ((a0.fMarks.length : Int) == (w64 (a1 - 1)))) :: (76, zI (w64 (a1 - 1))) :: (75, zI a1) :: (74, zI (a0.fMarks.length : Int)) :: (73, .sl 0 (List.map encInt a0.fMarks)) :: (72, .ptr 3 0 3) :: (71, zB (decide (v51 ≥ 0))) :: (70, zI v51) :: (7, zI v51) :: (69, zI v51) :: (68, zI a2) :: (67, encAcct0 a0) :: T21, B21⟩ ?_
                       obtain ⟨x61, hx62, h⟩ := bindO h
                       refine rixT 16 encRep 119 hx62 (ix_nn hx62) ⟨(86, .rp (encRep x61) 0) :: (85, zI v51) :: (84, .sl 0 (List.map encRep a0.fReps)) :: (83, .ptr 3 0 4) :: (82, zB true) :: (81, zB (decide (v51 ≥ 0))) :: (80, zI v51) :: (79, zB false) :: (78, zB ((decide (v51 ≥ 0)) != ((a0.fMarks.length : Int) == (w64 (a1 - 1))))) :: (77, zB ((a0.fMarks.length : Int) == (w64 (a1 - 1)))) :: (76, zI (w64 (a1 - 1))) :: (75, zI a1) :: (74, zI (a0.fMarks.length : Int)) :: (73, .sl 0 (List.map encInt a0.fMarks)) :: (72, .ptr 3 0 3) :: (71, zB (decide (v51 ≥ 0))) :: (70, zI v51) :: (7, zI v51) :: (69, zI v51) :: (68, zI a2) :: (67, encAcct0 a0) :: T21, B21⟩ ?_
                       refine roT9 17 7 7 ⟨(93, zB (x61.fAmt != a0.fHave)) :: (92, zB (x61.fAmt != a0.fHave)) :: (91, zB (x61.fAmt != a0.fHave)) :: (90, zI a0.fHave) :: (89, .ptr 3 0 0) :: (88, zI x61.fAmt) :: (87, .rp (encRep x61) 1) :: (86, .rp (encRep x61) 0) :: (85, zI v51) :: (84, .sl 0 (List.map encRep a0.fReps)) :: (83, .ptr 3 0 4) :: (82, zB true) :: (81, zB (decide (v51 ≥ 0))) :: (80, zI v51) :: (79, zB false) :: (78, zB ((decide (v51 ≥ 0)) != ((a0.fMarks.length : Int) == (w64 (a1 - 1))))) :: (77, zB ((a0.fMarks.length : Int) == (w64 (a1 - 1)))) :: (76, zI (w64 (a1 - 1))) :: (75, zI a1) :: (74, zI (a0.fMarks.length : Int)) :: (73, .sl 0 (List.map encInt a0.fMarks)) :: (72, .ptr 3 0 3) :: (71, zB (decide (v51 ≥ 0))) :: (70, zI v51) :: (7, zI v51) :: (69, zI v51) :: (68, zI a2) :: (67, encAcct0 a0) :: T21, B21⟩ ?_
                       rcases dich (x61.fAmt != a0.fHave) with hb63 | hb63
                       · replace h := cond_t hb63 h
                         refine ct hb63 ?_
                         let B28 : List (Nat × Bx) := [(3, ⟨0, 0, true, some (encAcct0 a0)⟩)]
                         refine wkr [3, 1] [(3, 3, false)] ⟨[(3, .ptr 3 0 0), (1, zI a1)], B28⟩ ?_
                         refine sqr cv hn ?_
                         refine ro9 0 1 1 ⟨[(6, zB false), (3, .ptr 3 0 0), (1, zI a1)], B28⟩ ?_
                         refine runs_ret ?_
                         exact fin _ _ h (by kernel_rfl)
                       · replace h := cond_f hb63 h
                         refine cf hb63 ?_
                         refine runs_skip ?_
                         exact ⟨(), h, wre [1, 3] [(3, 3, false)]⟩
                     · replace h := cond_f hb60 h
                       refine rlT 82 false hb60 ?_
                       refine roT9 13 11 2 ⟨(93, zB false) :: (92, zB false) :: (91, .tup []) :: (90, .tup []) :: (89, .tup []) :: (88, .tup []) :: (87, .tup []) :: (86, .tup []) :: (85, .tup []) :: (84, .tup []) :: (83, .tup []) :: (82, zB false) :: (81, zB (decide (v51 ≥ 0))) :: (80, zI v51) :: (79, zB false) :: (78, zB ((decide (v51 ≥ 0)) != ((a0.fMarks.length : Int) == (w64 (a1 - 1))))) :: (77, zB ((a0.fMarks.length : Int) == (w64 (a1 - 1)))) :: (76, zI (w64 (a1 - 1))) :: (75, zI a1) :: (74, zI (a0.fMarks.length : Int)) :: (73, .sl 0 (List.map encInt a0.fMarks)) :: (72, .ptr 3 0 3) :: (71, zB (decide (v51 ≥ 0))) :: (70, zI v51) :: (7, zI v51) :: (69, zI v51) :: (68, zI a2) :: (67, encAcct0 a0) :: T21, B21⟩ ?_
                       refine cF ?_
                       refine runs_skip ?_
                       exact ⟨(), h, wre [1, 3] [(3, 3, false)]⟩

set_option maxRecDepth 100000 in
set_option maxHeartbeats 2000000 in
theorem laws_FnExactAcctOk_spec (a0 : SAcct) (a1 : Int) (a2 : Int) (v0 : Bool) (h : laws_FnExactAcctOk a0 a1 a2 = some v0) : Ax.Spec Try.prog 10 none [encAcct0 a0, zI a1, zI a2] (zB v0 : X) (.junk : X) := by
 let T1 : List (Nat × X) := [(0, encAcct0 a0), (1, zI a1), (2, zI a2)]
 refine walk0 (fn := Try.f10) (fun q0 : Bool => (zB q0 : X)) (fun q0 : Bool => (.junk : X)) v0 ⟨T1, []⟩ Try.func10 rfl (by decide +kernel) fun Γ hn fin => ?_
 rw [laws_FnExactAcctOk] at h
 refine sqr cv hn ?_
 refine ro9 0 2 2 ⟨(6, zB false) :: (3, .ptr 3 1 0) :: T1, [(3, ⟨1, 1, true, some (encAcct0 a0)⟩)]⟩ ?_
 refine sqr cv hn ?_
 refine ro9 0 1 1 ⟨(7, zI 1048576) :: (6, zB false) :: (3, .ptr 3 1 0) :: T1, [(3, ⟨1, 1, true, some (encAcct0 a0)⟩)]⟩ ?_
 refine sqr cv hn ?_
 refine ro 0 2 2 ⟨(12, zI 1048576) :: (11, encAcct0 a0) :: (7, zI 1048576) :: (6, zB false) :: (3, .ptr 3 1 0) :: T1, [(3, ⟨1, 1, true, some (encAcct0 a0)⟩)]⟩ ?_
 obtain ⟨v3, hv4, h⟩ := bindO h
 refine rc 2 ⟨(13, zI v3) :: (12, zI 1048576) :: (11, encAcct0 a0) :: (7, zI 1048576) :: (6, zB false) :: (3, .ptr 3 1 0) :: T1, [(3, ⟨1, 1, true, some (encAcct0 a0)⟩)]⟩ (laws_szAcct_spec a0 1048576 v3 hv4) ?_
 refine ro9 3 1 1 ⟨(7, zI v3) :: (13, zI v3) :: (12, zI 1048576) :: (11, encAcct0 a0) :: (7, zI 1048576) :: (6, zB false) :: (3, .ptr 3 1 0) :: T1, [(3, ⟨1, 1, true, some (encAcct0 a0)⟩)]⟩ ?_
 refine runs_seq ?_
 let T3 : List (Nat × X) := [(7, zI v3), (3, .ptr 3 0 0), (1, zI a1), (2, zI a2)]
 let B3 : List (Nat × Bx) := [(3, ⟨0, 0, true, some (encAcct0 a0)⟩)]
 refine wkr [7, 3, 1, 2] [(3, 3, false)] ⟨T3, B3⟩ ?_
 refine sqr cv hn ?_
 refine ro9 0 2 2 ⟨(15, zB (decide (v3 < 0))) :: (14, zI v3) :: T3, B3⟩ ?_
 rcases dich (decide (v3 < 0)) with hb6 | hb6
 · replace h := cond_t hb6 h
   refine ct hb6 ?_
   refine sqr cv hn ?_
   refine ro9 0 1 1 ⟨(6, zB true) :: (15, zB (decide (v3 < 0))) :: (14, zI v3) :: T3, B3⟩ ?_
   refine runs_ret ?_
   exact fin _ _ h (by kernel_rfl)
 · replace h := cond_f hb6 h
   refine cf hb6 ?_
   refine runs_skip ?_
   refine sqr cv hn ?_
   refine ro 0 1 1 ⟨(16, encAcct0 a0) :: (15, zB (decide (v3 < 0))) :: (14, zI v3) :: T3, B3⟩ ?_
   obtain ⟨v11, hv12, h⟩ := bindO h
   refine rc 1 ⟨(17, .agg [zI v11.fHave, zI v11.fState, zI v11.fBy, .view 17 1 [] 0, .view 10017 1 [] 0]) :: (16, encAcct0 a0) :: (15, zB (decide (v3 < 0))) :: (14, zI v3) :: T3, (10017, ⟨1, 1, false, some (.sl 1 (List.map encRep v11.fReps))⟩) :: (17, ⟨1, 1, false, some (.sl 1 (List.map encInt v11.fMarks))⟩) :: B3⟩ (laws_toAcct_spec a0 v11 hv12) ?_
   refine ro 2 2 2 ⟨(19, zI a2) :: (18, zI a1) :: (17, .agg [zI v11.fHave, zI v11.fState, zI v11.fBy, .view 17 1 [] 0, .view 10017 1 [] 0]) :: (16, encAcct0 a0) :: (15, zB (decide (v3 < 0))) :: (14, zI v3) :: T3, (10017, ⟨1, 1, false, some (.sl 1 (List.map encRep v11.fReps))⟩) :: (17, ⟨1, 1, false, some (.sl 1 (List.map encInt v11.fMarks))⟩) :: B3⟩ ?_
   obtain ⟨v13, hv14, h⟩ := bindO h
   refine rcH 4 [List.map encInt v11.fMarks, List.map encRep v11.fReps] ⟨(20, zB v13) :: (19, zI a2) :: (18, zI a1) :: (17, .agg [zI v11.fHave, zI v11.fState, zI v11.fBy, .view 17 1 [] 0, .view 10017 1 [] 0]) :: (16, encAcct0 a0) :: (15, zB (decide (v3 < 0))) :: (14, zI v3) :: T3, (10017, ⟨1, 1, false, some (.sl 1 (List.map encRep v11.fReps))⟩) :: (17, ⟨1, 1, false, some (.sl 1 (List.map encInt v11.fMarks))⟩) :: B3⟩ [X.rds (List.map encInt v11.fMarks) = true, X.roifys (List.map encInt v11.fMarks) = List.map encInt v11.fMarks, X.rds (List.map encRep v11.fReps) = true, X.roifys (List.map encRep v11.fReps) = List.map encRep v11.fReps, rootsBut (cv 49) 0 [.agg [zI v11.fHave, zI v11.fState, zI v11.fBy, .view 17 1 [] 0, .view 10017 1 [] 0], zI a1, zI a2] = false ∨ (X.noRo (zB v13 : X) = true ∧ X.noRo (.junk : X) = true)] (spec_AcctOk_spec v11 a1 a2 v13 hv14) ⟨rds_map rde_Int _, ro_map ro_Int _, rds_map rde_Rep _, ro_map ro_Rep _, .inr ⟨rfl, rfl⟩, trivial⟩ ?_
   refine ro9 5 1 1 ⟨(8, zB v13) :: (20, zB v13) :: (19, zI a2) :: (18, zI a1) :: (17, .agg [zI v11.fHave, zI v11.fState, zI v11.fBy, .view 17 1 [] 0, .view 10017 1 [] 0]) :: (16, encAcct0 a0) :: (15, zB (decide (v3 < 0))) :: (14, zI v3) :: T3, (10017, ⟨1, 1, false, some (.sl 1 (List.map encRep v11.fReps))⟩) :: (17, ⟨1, 1, false, some (.sl 1 (List.map encInt v11.fMarks))⟩) :: B3⟩ ?_
   let T5 : List (Nat × X) := [(8, zB v13), (3, .ptr 3 0 0), (1, zI a1), (2, zI a2)]
   let B5 : List (Nat × Bx) := [(3, ⟨0, 0, true, some (encAcct0 a0)⟩)]
   refine wkr [8, 3, 1, 2] [(3, 3, false)] ⟨T5, B5⟩ ?_
   refine sqr cv hn ?_
   refine ro 0 1 1 ⟨(21, encAcct0 a0) :: T5, B5⟩ ?_
   obtain ⟨v17, hv18, h⟩ := bindO h
   refine rc 1 ⟨(22, .agg [zI v17.fHave, zI v17.fState, zI v17.fBy, .view 22 1 [] 0, .view 10022 1 [] 0]) :: (21, encAcct0 a0) :: T5, (10022, ⟨1, 1, false, some (.sl 1 (List.map encRep v17.fReps))⟩) :: (22, ⟨1, 1, false, some (.sl 1 (List.map encInt v17.fMarks))⟩) :: B5⟩ (laws_toAcct_spec a0 v17 hv18) ?_
   refine ro9 2 2 2 ⟨(9, .ptr 9 1 0) :: (22, .agg [zI v17.fHave, zI v17.fState, zI v17.fBy, .view 22 1 [] 0, .view 10022 1 [] 0]) :: (21, encAcct0 a0) :: T5, (9, ⟨1, 2, true, some (encAcct1 v17)⟩) :: (10022, ⟨1, 2, false, some (.junk)⟩) :: (22, ⟨1, 2, false, some (.junk)⟩) :: (9, ⟨1, 1, true, some (.agg [zI 0, zI 0, zI 0, .sl 1 (List.map encInt []), .sl 1 (List.map encRep [])])⟩) :: (10022, ⟨1, 1, false, some (.sl 1 (List.map encRep v17.fReps))⟩) :: (22, ⟨1, 1, false, some (.sl 1 (List.map encInt v17.fMarks))⟩) :: B5⟩ ?_
   let T7 : List (Nat × X) := [(9, .ptr 9 0 0), (8, zB v13), (3, .ptr 3 0 0), (1, zI a1), (2, zI a2)]
   let B7 : List (Nat × Bx) := [(9, ⟨0, 0, true, some (encAcct1 v17)⟩), (3, ⟨0, 0, true, some (encAcct0 a0)⟩)]
   refine wkr [9, 8, 3, 1, 2] [(9, 9, false), (3, 3, false)] ⟨T7, B7⟩ ?_
   refine sqr cv hn ?_
   refine ro 0 3 3 ⟨(25, zI a2) :: (24, zI a1) :: (23, .agg [zI v17.fHave, zI v17.fState, zI v17.fBy, .view 9 0 [] 3, .view 9 0 [] 4]) :: T7, B7⟩ ?_
   obtain ⟨v21, hv22, h⟩ := bindO h
   refine rcH 3 [List.map encInt v17.fMarks, List.map encRep v17.fReps] ⟨(26, zB v21) :: (25, zI a2) :: (24, zI a1) :: (23, .agg [zI v17.fHave, zI v17.fState, zI v17.fBy, .view 9 0 [] 3, .view 9 0 [] 4]) :: T7, B7⟩ [X.rds (List.map encInt v17.fMarks) = true, X.roifys (List.map encInt v17.fMarks) = List.map encInt v17.fMarks, X.rds (List.map encRep v17.fReps) = true, X.roifys (List.map encRep v17.fReps) = List.map encRep v17.fReps, rootsBut (cv 50) 0 [.agg [zI v17.fHave, zI v17.fState, zI v17.fBy, .view 9 0 [] 3, .view 9 0 [] 4], zI a1, zI a2] = false ∨ (X.noRo (zB v21 : X) = true ∧ X.noRo (.junk : X) = true)] (impl_AcctOk_spec v17 a1 a2 v21 hv22) ⟨rds_map rde_Int _, ro_map ro_Int _, rds_map rde_Rep _, ro_map ro_Rep _, .inr ⟨rfl, rfl⟩, trivial⟩ ?_
   refine ro9 4 1 1 ⟨(10, zB v21) :: (26, zB v21) :: (25, zI a2) :: (24, zI a1) :: (23, .agg [zI v17.fHave, zI v17.fState, zI v17.fBy, .view 9 0 [] 3, .view 9 0 [] 4]) :: T7, B7⟩ ?_
   refine runs_seq ?_
   let T10 : List (Nat × X) := [(10, zB v21), (9, .ptr 9 0 0), (8, zB v13), (3, .ptr 3 0 0)]
   let B10 : List (Nat × Bx) := [(9, ⟨0, 0, true, some (encAcct1 v17)⟩), (3, ⟨0, 0, true, some (encAcct0 a0)⟩)]
   refine wkr [10, 9, 8, 3] [(9, 9, false), (3, 3, false)] ⟨T10, B10⟩ ?_
   refine sqr cv hn ?_
   refine ro9 0 3 3 ⟨(29, zB (v21 != v13)) :: (28, zB v13) :: (27, zB v21) :: T10, B10⟩ ?_
   rcases dich (v21 != v13) with hb24 | hb24
   · replace h := cond_t hb24 h
     refine ct hb24 ?_
     let T11 : List (Nat × X) := [(9, .ptr 9 0 0), (3, .ptr 3 0 0)]
     let B11 : List (Nat × Bx) := [(9, ⟨0, 0, true, some (encAcct1 v17)⟩), (3, ⟨0, 0, true, some (encAcct0 a0)⟩)]
     refine wkr [9, 3] [(9, 9, false), (3, 3, false)] ⟨T11, B11⟩ ?_
     refine sqr cv hn ?_
     refine ro9 0 1 1 ⟨(6, zB false) :: T11, B11⟩ ?_
     refine runs_ret ?_
     exact fin _ _ h (by kernel_rfl)
   · replace h := cond_f hb24 h
     refine cf hb24 ?_
     refine runs_skip ?_
     refine runs_seq ?_
     refine runs_seq ?_
     let T12 : List (Nat × X) := [(9, .ptr 9 0 0), (3, .ptr 3 0 0)]
     let B12 : List (Nat × Bx) := [(9, ⟨0, 0, true, some (encAcct1 v17)⟩), (3, ⟨0, 0, true, some (encAcct0 a0)⟩)]
     refine wkr [9, 3] [(9, 9, false), (3, 3, false)] ⟨T12, B12⟩ ?_
     refine rgT cv mixed hn ?_
     refine roT 0 2 2 ⟨(31, encAcct0 a0) :: (30, .agg [zI v17.fHave, zI v17.fState, zI v17.fBy, .view 9 0 [] 3, .view 9 0 [] 4]) :: T12, B12⟩ ?_
     obtain ⟨v25, hv26, h⟩ := bindO h
     refine rcT 2 ⟨(32, .agg [zI v25.fHave, zI v25.fState, zI v25.fBy, .view 32 1 [] 0, .view 10032 1 [] 0]) :: (31, encAcct0 a0) :: (30, .agg [zI v17.fHave, zI v17.fState, zI v17.fBy, .view 9 0 [] 3, .view 9 0 [] 4]) :: T12, (10032, ⟨1, 1, false, some (.sl 1 (List.map encRep v25.fReps))⟩) :: (32, ⟨1, 1, false, some (.sl 1 (List.map encInt v25.fMarks))⟩) :: B12⟩ (laws_toAcct_spec a0 v25 hv26) ?_
     obtain ⟨v27, hv28, h⟩ := bindO h
     refine rcHT 3 [List.map encInt v17.fMarks, List.map encRep v17.fReps, List.map encInt v25.fMarks, List.map encRep v25.fReps] ⟨(33, zB v27) :: (32, .agg [zI v25.fHave, zI v25.fState, zI v25.fBy, .view 32 1 [] 0, .view 10032 1 [] 0]) :: (31, encAcct0 a0) :: (30, .agg [zI v17.fHave, zI v17.fState, zI v17.fBy, .view 9 0 [] 3, .view 9 0 [] 4]) :: T12, (10032, ⟨1, 1, false, some (.sl 1 (List.map encRep v25.fReps))⟩) :: (32, ⟨1, 1, false, some (.sl 1 (List.map encInt v25.fMarks))⟩) :: B12⟩ [X.rds (List.map encInt v17.fMarks) = true, X.roifys (List.map encInt v17.fMarks) = List.map encInt v17.fMarks, X.rds (List.map encRep v17.fReps) = true, X.roifys (List.map encRep v17.fReps) = List.map encRep v17.fReps, X.rds (List.map encInt v25.fMarks) = true, X.roifys (List.map encInt v25.fMarks) = List.map encInt v25.fMarks, X.rds (List.map encRep v25.fReps) = true, X.roifys (List.map encRep v25.fReps) = List.map encRep v25.fReps, rootsBut (cv 29) 0 [.agg [zI v17.fHave, zI v17.fState, zI v17.fBy, .view 9 0 [] 3, .view 9 0 [] 4], .agg [zI v25.fHave, zI v25.fState, zI v25.fBy, .view 32 1 [] 0, .view 10032 1 [] 0]] = false ∨ (X.noRo (zB v27 : X) = true ∧ X.noRo (.junk : X) = true)] (laws_eqAcct_spec v17 v25 v27 hv28) ⟨rds_map rde_Int _, ro_map ro_Int _, rds_map rde_Rep _, ro_map ro_Rep _, rds_map rde_Int _, ro_map ro_Int _, rds_map rde_Rep _, ro_map ro_Rep _, .inr ⟨rfl, rfl⟩, trivial⟩ ?_
     refine roT9 4 1 1 ⟨(34, zB (!v27)) :: (33, zB v27) :: (32, .agg [zI v25.fHave, zI v25.fState, zI v25.fBy, .view 32 1 [] 0, .view 10032 1 [] 0]) :: (31, encAcct0 a0) :: (30, .agg [zI v17.fHave, zI v17.fState, zI v17.fBy, .view 9 0 [] 3, .view 9 0 [] 4]) :: T12, (10032, ⟨1, 1, false, some (.sl 1 (List.map encRep v25.fReps))⟩) :: (32, ⟨1, 1, false, some (.sl 1 (List.map encInt v25.fMarks))⟩) :: B12⟩ ?_
     rcases dich (!v27) with hb29 | hb29
     · replace h := cond_t hb29 h
       refine ct hb29 ?_
       refine wkr [] [] ⟨[], []⟩ ?_
       refine sqr cv hn ?_
       refine ro9 0 1 1 ⟨[(6, zB false)], []⟩ ?_
       refine runs_ret ?_
       exact fin _ _ h (by kernel_rfl)
     · replace h := cond_f hb29 h
       refine cf hb29 ?_
       refine runs_skip ?_
       refine wkr [] [] ⟨[], []⟩ ?_
       refine sqr cv hn ?_
       refine ro9 0 1 1 ⟨[(6, zB true)], []⟩ ?_
       refine runs_ret ?_
       exact fin _ _ h (by kernel_rfl)

end Go.Proofs.Ytncjcbdbdocjaaa
