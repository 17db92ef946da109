/- The walks: each Go function answers what its plain function says. -/
import Derived.Test.YteolobihfindjaaUFnExactAcctSame
import Derived.Test.YteolobihfindjaaProg
set_option linter.unusedVariables false
namespace Go.Proofs.Yteolobihfindjaa
open Go Ax
abbrev cv : Nat → Option Nat := fun g => bif g == 77 then some 0 else bif g == 60 then some 0 else bif g == 98 then some 0 else bif g == 63 then some 0 else none
theorem mixed : Try.prog.follows .mixedOrders = true := by decide +kernel
theorem eqok110 : EqOK Try.prog 110 := eqok_of (by kernel_rfl) (by kernel_rfl)

set_option maxRecDepth 100000 in
set_option maxHeartbeats 2000000 in
theorem laws_szIntS_spec (a0 : (List Int)) (a1 : Int) (v0 : Int) (h : laws_szIntS a0 a1 = some v0) : Ax.Spec Try.prog 69 none [.sl 0 (List.map encInt a0), zI a1] (zI v0 : X) (.junk : X) := by
 let T1 : List (Nat × X) := [(0, .sl 0 (List.map encInt a0)), (1, zI a1)]
 refine walk0 (fn := Try.f69) (fun q0 : Int => (zI q0 : X)) (fun q0 : Int => (.junk : X)) v0 ⟨T1, []⟩ Try.func69 rfl (by decide +kernel) fun Γ hn fin => ?_
 rw [laws_szIntS] at h
 refine sqr cv hn ?_
 refine ro9 0 1 1 ⟨(4, zI 0) :: T1, []⟩ ?_
 refine sqr cv hn ?_
 refine ro9 0 5 5 ⟨(1, zI (w64 (a1 - (a0.length : Int)))) :: (8, zI (w64 (a1 - (a0.length : Int)))) :: (7, zI (a0.length : Int)) :: (6, .sl 0 (List.map encInt a0)) :: (5, zI a1) :: (4, zI 0) :: T1, []⟩ ?_ (he := by rw [show (a0.length : Int) = ((List.map encInt a0).length : Int) from by rw [List.length_map]]; kernel_rfl)
 refine runs_seq ?_
 let T2 : List (Nat × X) := [(1, zI (w64 (a1 - (a0.length : Int))))]
 refine wkr [1] [] ⟨T2, []⟩ ?_
 refine sqr cv hn ?_
 refine ro9 0 2 2 ⟨(10, zB (decide ((w64 (a1 - (a0.length : Int))) < 0))) :: (9, zI (w64 (a1 - (a0.length : Int)))) :: T2, []⟩ ?_
 rcases dich (decide ((w64 (a1 - (a0.length : Int))) < 0)) with hb1 | hb1
 · replace h := cond_t hb1 h
   refine ct hb1 ?_
   refine sqr cv hn ?_
   refine ro9 0 1 1 ⟨(4, zI (-1)) :: (10, zB (decide ((w64 (a1 - (a0.length : Int))) < 0))) :: (9, zI (w64 (a1 - (a0.length : Int)))) :: T2, []⟩ ?_
   refine runs_ret ?_
   exact fin _ _ h (by kernel_rfl)
 · replace h := cond_f hb1 h
   refine cf hb1 ?_
   refine runs_skip ?_
   refine sqr cv hn ?_
   refine ro9 0 2 2 ⟨(4, zI (w64 (a1 - (a0.length : Int)))) :: (11, zI (w64 (a1 - (a0.length : Int)))) :: (10, zB (decide ((w64 (a1 - (a0.length : Int))) < 0))) :: (9, zI (w64 (a1 - (a0.length : Int)))) :: T2, []⟩ ?_
   refine runs_ret ?_
   exact fin _ _ h (by kernel_rfl)

set_option maxRecDepth 100000 in
set_option maxHeartbeats 2000000 in
theorem laws_szRepS_spec (a0 : (List SRep)) (a1 : Int) (v0 : Int) (h : laws_szRepS a0 a1 = some v0) : Ax.Spec Try.prog 88 none [.sl 0 (List.map encRep a0), zI a1] (zI v0 : X) (.junk : X) := by
 let T1 : List (Nat × X) := [(0, .sl 0 (List.map encRep a0)), (1, zI a1)]
 refine walk0 (fn := Try.f88) (fun q0 : Int => (zI q0 : X)) (fun q0 : Int => (.junk : X)) v0 ⟨T1, []⟩ Try.func88 rfl (by decide +kernel) fun Γ hn fin => ?_
 rw [laws_szRepS] at h
 refine sqr cv hn ?_
 refine ro9 0 1 1 ⟨(4, zI 0) :: T1, []⟩ ?_
 refine sqr cv hn ?_
 refine ro9 0 5 5 ⟨(1, zI (w64 (a1 - (a0.length : Int)))) :: (8, zI (w64 (a1 - (a0.length : Int)))) :: (7, zI (a0.length : Int)) :: (6, .sl 0 (List.map encRep a0)) :: (5, zI a1) :: (4, zI 0) :: T1, []⟩ ?_ (he := by rw [show (a0.length : Int) = ((List.map encRep a0).length : Int) from by rw [List.length_map]]; kernel_rfl)
 refine runs_seq ?_
 let T2 : List (Nat × X) := [(1, zI (w64 (a1 - (a0.length : Int))))]
 refine wkr [1] [] ⟨T2, []⟩ ?_
 refine sqr cv hn ?_
 refine ro9 0 2 2 ⟨(10, zB (decide ((w64 (a1 - (a0.length : Int))) < 0))) :: (9, zI (w64 (a1 - (a0.length : Int)))) :: T2, []⟩ ?_
 rcases dich (decide ((w64 (a1 - (a0.length : Int))) < 0)) with hb1 | hb1
 · replace h := cond_t hb1 h
   refine ct hb1 ?_
   refine sqr cv hn ?_
   refine ro9 0 1 1 ⟨(4, zI (-1)) :: (10, zB (decide ((w64 (a1 - (a0.length : Int))) < 0))) :: (9, zI (w64 (a1 - (a0.length : Int)))) :: T2, []⟩ ?_
   refine runs_ret ?_
   exact fin _ _ h (by kernel_rfl)
 · replace h := cond_f hb1 h
   refine cf hb1 ?_
   refine runs_skip ?_
   refine sqr cv hn ?_
   refine ro9 0 2 2 ⟨(4, zI (w64 (a1 - (a0.length : Int)))) :: (11, zI (w64 (a1 - (a0.length : Int)))) :: (10, zB (decide ((w64 (a1 - (a0.length : Int))) < 0))) :: (9, zI (w64 (a1 - (a0.length : Int)))) :: T2, []⟩ ?_
   refine runs_ret ?_
   exact fin _ _ h (by kernel_rfl)

set_option maxRecDepth 100000 in
set_option maxHeartbeats 2000000 in
theorem laws_szAcct_spec (a0 : SAcct) (a1 : Int) (v0 : Int) (h : laws_szAcct a0 a1 = some v0) : Ax.Spec Try.prog 42 none [encAcct0 a0, zI a1] (zI v0 : X) (.junk : X) := by
 refine walk0 (fn := Try.f42) (fun q0 : Int => (zI q0 : X)) (fun q0 : Int => (.junk : X)) v0 ⟨[(0, encAcct0 a0), (1, zI a1)], []⟩ Try.func42 rfl (by decide +kernel) fun Γ hn fin => ?_
 rw [laws_szAcct] at h
 refine sqr cv hn ?_
 refine ro9 0 2 2 ⟨[(4, zI 0), (2, .ptr 2 1 0), (0, encAcct0 a0), (1, zI a1)], [(2, ⟨1, 1, true, some (encAcct0 a0)⟩)]⟩ ?_
 refine sqr cv hn ?_
 refine ro 0 3 3 ⟨[(7, zI a1), (6, .sl 0 (List.map encInt a0.fMarks)), (5, .ptr 2 1 3), (4, zI 0), (2, .ptr 2 1 0), (0, encAcct0 a0), (1, zI a1)], [(2, ⟨1, 1, true, some (encAcct0 a0)⟩)]⟩ ?_
 obtain ⟨v3, hv4, h⟩ := bindO h
 refine rc 3 ⟨[(8, zI v3), (7, zI a1), (6, .sl 0 (List.map encInt a0.fMarks)), (5, .ptr 2 1 3), (4, zI 0), (2, .ptr 2 1 0), (0, encAcct0 a0), (1, zI a1)], [(2, ⟨1, 1, true, some (encAcct0 a0)⟩)]⟩ (laws_szIntS_spec a0.fMarks a1 v3 hv4) ?_
 refine ro9 4 1 1 ⟨[(1, zI v3), (8, zI v3), (7, zI a1), (6, .sl 0 (List.map encInt a0.fMarks)), (5, .ptr 2 1 3), (4, zI 0), (2, .ptr 2 1 0), (0, encAcct0 a0), (1, zI a1)], [(2, ⟨1, 1, true, some (encAcct0 a0)⟩)]⟩ ?_
 refine runs_seq ?_
 let B3 : List (Nat × Bx) := [(2, ⟨0, 0, true, some (encAcct0 a0)⟩)]
 refine wkr [1, 2] [(2, 2, false)] ⟨[(1, zI v3), (2, .ptr 2 0 0)], B3⟩ ?_
 refine sqr cv hn ?_
 refine ro9 0 2 2 ⟨[(10, zB (decide (v3 < 0))), (9, zI v3), (1, zI v3), (2, .ptr 2 0 0)], B3⟩ ?_
 rcases dich (decide (v3 < 0)) with hb6 | hb6
 · replace h := cond_t hb6 h
   refine ct hb6 ?_
   refine sqr cv hn ?_
   refine ro9 0 1 1 ⟨[(4, zI (-1)), (10, zB (decide (v3 < 0))), (9, zI v3), (1, zI v3), (2, .ptr 2 0 0)], B3⟩ ?_
   refine runs_ret ?_
   exact fin _ _ h (by kernel_rfl)
 · replace h := cond_f hb6 h
   refine cf hb6 ?_
   refine runs_skip ?_
   refine sqr cv hn ?_
   refine ro 0 3 3 ⟨[(13, zI v3), (12, .sl 0 (List.map encRep a0.fReps)), (11, .ptr 2 0 4), (10, zB (decide (v3 < 0))), (9, zI v3), (1, zI v3), (2, .ptr 2 0 0)], B3⟩ ?_
   obtain ⟨v9, hv10, h⟩ := bindO h
   refine rc 3 ⟨[(14, zI v9), (13, zI v3), (12, .sl 0 (List.map encRep a0.fReps)), (11, .ptr 2 0 4), (10, zB (decide (v3 < 0))), (9, zI v3), (1, zI v3), (2, .ptr 2 0 0)], B3⟩ (laws_szRepS_spec a0.fReps v3 v9 hv10) ?_
   refine ro9 4 1 1 ⟨[(1, zI v9), (14, zI v9), (13, zI v3), (12, .sl 0 (List.map encRep a0.fReps)), (11, .ptr 2 0 4), (10, zB (decide (v3 < 0))), (9, zI v3), (1, zI v3), (2, .ptr 2 0 0)], B3⟩ ?_
   refine runs_seq ?_
   refine wkr [1] [] ⟨[(1, zI v9)], []⟩ ?_
   refine sqr cv hn ?_
   refine ro9 0 2 2 ⟨[(16, zB (decide (v9 < 0))), (15, zI v9), (1, zI v9)], []⟩ ?_
   rcases dich (decide (v9 < 0)) with hb11 | hb11
   · replace h := cond_t hb11 h
     refine ct hb11 ?_
     refine sqr cv hn ?_
     refine ro9 0 1 1 ⟨[(4, zI (-1)), (16, zB (decide (v9 < 0))), (15, zI v9), (1, zI v9)], []⟩ ?_
     refine runs_ret ?_
     exact fin _ _ h (by kernel_rfl)
   · replace h := cond_f hb11 h
     refine cf hb11 ?_
     refine runs_skip ?_
     refine sqr cv hn ?_
     refine ro9 0 2 2 ⟨[(4, zI v9), (17, zI v9), (16, zB (decide (v9 < 0))), (15, zI v9), (1, zI v9)], []⟩ ?_
     refine runs_ret ?_
     exact fin _ _ h (by kernel_rfl)

set_option maxRecDepth 100000 in
set_option maxHeartbeats 2000000 in
theorem laws_toIntS_spec (a0 : (List Int)) (v0 : (List Int)) (h : laws_toIntS a0 = some v0) : Ax.Spec Try.prog 73 none [.sl 0 (List.map encInt a0)] (.sl 1 (List.map encInt v0) : X) (.junk : X) := by
 let T1 : List (Nat × X) := [(0, .sl 0 (List.map encInt a0))]
 refine walk0 (fn := Try.f73) (fun q0 : (List Int) => (.sl 1 (List.map encInt q0) : X)) (fun q0 : (List Int) => (.junk : X)) v0 ⟨T1, []⟩ Try.func73 rfl (by decide +kernel) fun Γ hn fin => ?_
 rw [laws_toIntS] at h
 refine sqr cv hn ?_
 refine ro9 0 1 1 ⟨(2, .sc (.slice none 0 0)) :: T1, []⟩ ?_
 refine sqr cv hn ?_
 refine ro 0 2 2 ⟨(6, zI (a0.length : Int)) :: (5, .sl 0 (List.map encInt a0)) :: (2, .sc (.slice none 0 0)) :: T1, []⟩ ?_ (he := by rw [show (a0.length : Int) = ((List.map encInt a0).length : Int) from by rw [List.length_map]]; kernel_rfl)
 obtain ⟨hg2, h⟩ := gO_some h
 refine rs 2 ⟨(7, .view 7 1 [] 0) :: (6, zI (a0.length : Int)) :: (5, .sl 0 (List.map encInt a0)) :: (2, .sc (.slice none 0 0)) :: T1, [(7, ⟨1, 1, false, some (.sl 1 (List.map encInt (List.replicate (Int.toNat (a0.length : Int)) 0)))⟩)]⟩ [((a0.length : Int) : Int) = (a0.length : Int) ∧ 0 ≤ ((a0.length : Int) : Int) ∧ tBytes Try.prog 3 * (Int.toNat (a0.length : Int)) ≤ 140737488355328 ∧ (Int.toNat (a0.length : Int)) ≤ 140737488355328] ⟨⟨rfl, hg2.1, mk_side (by kernel_rfl) hg2.2, hg2.2.2⟩, trivial⟩ ?_ (he := by rw [show List.map encInt (List.replicate (Int.toNat (a0.length : Int)) 0) = List.replicate (Int.toNat (a0.length : Int)) (encInt 0) from List.map_replicate]; kernel_rfl)
 refine ro9 3 1 1 ⟨(3, .view 7 1 [] 0) :: (7, .view 7 1 [] 0) :: (6, zI (a0.length : Int)) :: (5, .sl 0 (List.map encInt a0)) :: (2, .sc (.slice none 0 0)) :: T1, [(7, ⟨1, 1, false, some (.sl 1 (List.map encInt (List.replicate (Int.toNat (a0.length : Int)) 0)))⟩)]⟩ ?_
 refine runs_seq ?_
 refine sqr cv hn ?_
 refine ro9 0 1 1 ⟨(4, zI 0) :: (3, .view 7 1 [] 0) :: (7, .view 7 1 [] 0) :: (6, zI (a0.length : Int)) :: (5, .sl 0 (List.map encInt a0)) :: (2, .sc (.slice none 0 0)) :: T1, [(7, ⟨1, 1, false, some (.sl 1 (List.map encInt (List.replicate (Int.toNat (a0.length : Int)) 0)))⟩)]⟩ ?_
 refine runs_block ?_
 refine runs_loopM (σ := List Int × Nat × (List Int)) (fun s => ⟨[(4, zI (s.2.1 : Int)), (3, .view 5000003 0 [] 0), (0, .sl 0 (List.map encInt a0))], [(5000003, ⟨0, 0, false, some (.sl 1 (List.map encInt s.2.2))⟩)]⟩) (fun s => s.1 = List.drop s.2.1 a0 ∧ laws_toIntS_l1 s.1 s.2.1 s.2.2 = some v0) (fun s => s.1.length) (a0, 0, List.replicate (Int.toNat (a0.length : Int)) 0) ⟨rfl, h⟩ (wre [4, 3, 0] [(5000003, 7, false)]) ?_
 rintro ⟨t1, i1, y12⟩ ⟨hd1, h⟩
 refine seq0 ⟨[(4, zI (i1 : Int)), (3, .view 5000003 0 [] 0), (0, .sl 0 (List.map encInt a0))], [(5000003, ⟨0, 0, false, some (.sl 1 (List.map encInt y12))⟩)]⟩ ?_
 refine runs_len 0 (es := List.map encInt a0) (by kernel_rfl) fun hl1 => ?_
 replace hl1 := len_of_map hl1
 cases t1 with
 | nil =>
   rw [laws_toIntS_l1] at h
   have hLn1 := dnil hd1
   refine runs_seq ?_
   refine sqr cv hn ?_
   refine ro9 0 4 4 ⟨[(11, zB (decide ((i1 : Int) < (a0.length : Int)))), (10, zI (a0.length : Int)), (9, .sl 0 (List.map encInt a0)), (8, zI (i1 : Int)), (4, zI (i1 : Int)), (3, .view 5000003 0 [] 0), (0, .sl 0 (List.map encInt a0))], [(5000003, ⟨0, 0, false, some (.sl 1 (List.map encInt y12))⟩)]⟩ ?_ (he := by rw [show (a0.length : Int) = ((List.map encInt a0).length : Int) from by rw [List.length_map]]; kernel_rfl)
   refine cf hLn1 ?_
   refine runs_exit ?_
   repeat refine thenX_exit ?_
   refine block_here ?_
   let B2 : List (Nat × Bx) := [(5000003, ⟨0, 0, false, some (.sl 1 (List.map encInt y12))⟩)]
   refine wkr [3] [(5000003, 5000003, false)] ⟨[(3, .view 5000003 0 [] 0)], B2⟩ ?_
   refine sqr cv hn ?_
   refine ro9 0 2 2 ⟨[(2, .view 5000003 0 [] 0), (21, .view 5000003 0 [] 0), (3, .view 5000003 0 [] 0)], B2⟩ ?_
   refine runs_ret ?_
   exact fin _ _ h (by kernel_rfl)
 | cons x10 t1 =>
   rw [laws_toIntS_l1] at h
   have hLc1 := dcons hd1
   have hx10 := dget hd1
   have hi1 := dinc hd1 hl1
   refine runs_seq ?_
   refine sqr cv hn ?_
   refine ro9 0 4 4 ⟨[(11, zB (decide ((i1 : Int) < (a0.length : Int)))), (10, zI (a0.length : Int)), (9, .sl 0 (List.map encInt a0)), (8, zI (i1 : Int)), (4, zI (i1 : Int)), (3, .view 5000003 0 [] 0), (0, .sl 0 (List.map encInt a0))], [(5000003, ⟨0, 0, false, some (.sl 1 (List.map encInt y12))⟩)]⟩ ?_ (he := by rw [show (a0.length : Int) = ((List.map encInt a0).length : Int) from by rw [List.length_map]]; kernel_rfl)
   refine ct hLc1 ?_
   refine runs_skip ?_
   refine runs_seq ?_
   refine runs_block ?_
   refine rg cv hn ?_
   refine ro 0 4 4 ⟨[(17, zI (i1 : Int)), (16, .sl 0 (List.map encInt a0)), (15, zI (i1 : Int)), (14, .view 5000003 0 [] 0), (11, zB (decide ((i1 : Int) < (a0.length : Int)))), (10, zI (a0.length : Int)), (9, .sl 0 (List.map encInt a0)), (8, zI (i1 : Int)), (4, zI (i1 : Int)), (3, .view 5000003 0 [] 0), (0, .sl 0 (List.map encInt a0))], [(5000003, ⟨0, 0, false, some (.sl 1 (List.map encInt y12))⟩)]⟩ ?_
   refine rix 4 encInt 3 hx10 (ix_nn hx10) ⟨[(18, .rp (zI x10) 0), (17, zI (i1 : Int)), (16, .sl 0 (List.map encInt a0)), (15, zI (i1 : Int)), (14, .view 5000003 0 [] 0), (11, zB (decide ((i1 : Int) < (a0.length : Int)))), (10, zI (a0.length : Int)), (9, .sl 0 (List.map encInt a0)), (8, zI (i1 : Int)), (4, zI (i1 : Int)), (3, .view 5000003 0 [] 0), (0, .sl 0 (List.map encInt a0))], [(5000003, ⟨0, 0, false, some (.sl 1 (List.map encInt y12))⟩)]⟩ ?_
   refine ro 5 1 1 ⟨[(19, zI x10), (18, .rp (zI x10) 0), (17, zI (i1 : Int)), (16, .sl 0 (List.map encInt a0)), (15, zI (i1 : Int)), (14, .view 5000003 0 [] 0), (11, zB (decide ((i1 : Int) < (a0.length : Int)))), (10, zI (a0.length : Int)), (9, .sl 0 (List.map encInt a0)), (8, zI (i1 : Int)), (4, zI (i1 : Int)), (3, .view 5000003 0 [] 0), (0, .sl 0 (List.map encInt a0))], [(5000003, ⟨0, 0, false, some (.sl 1 (List.map encInt y12))⟩)]⟩ ?_
   obtain ⟨x21, hx22, h⟩ := bindO h
   refine rix 6 encInt 3 hx22 (ix_nn hx22) ⟨[(20, .ep 5000003 0 [(0, (Int.toNat (i1 : Int)))] 0), (19, zI x10), (18, .rp (zI x10) 0), (17, zI (i1 : Int)), (16, .sl 0 (List.map encInt a0)), (15, zI (i1 : Int)), (14, .view 5000003 0 [] 0), (11, zB (decide ((i1 : Int) < (a0.length : Int)))), (10, zI (a0.length : Int)), (9, .sl 0 (List.map encInt a0)), (8, zI (i1 : Int)), (4, zI (i1 : Int)), (3, .view 5000003 0 [] 0), (0, .sl 0 (List.map encInt a0))], [(5000003, ⟨0, 0, false, some (.sl 1 (List.map encInt y12))⟩)]⟩ ?_
   refine ra 7 (zI x21 : X) (.sl 1 (List.map encInt (List.set y12 (Int.toNat (i1 : Int)) x10)) : X) ⟨[(20, .ep 5000003 0 [(0, (Int.toNat (i1 : Int)))] 0), (19, zI x10), (18, .rp (zI x10) 0), (17, zI (i1 : Int)), (16, .sl 0 (List.map encInt a0)), (15, zI (i1 : Int)), (14, .view 5000003 0 [] 0), (11, zB (decide ((i1 : Int) < (a0.length : Int)))), (10, zI (a0.length : Int)), (9, .sl 0 (List.map encInt a0)), (8, zI (i1 : Int)), (4, zI (i1 : Int)), (3, .view 5000003 0 [] 0), (0, .sl 0 (List.map encInt a0))], [(5000003, ⟨0, 0, false, some (.sl 1 (List.map encInt (List.set y12 (Int.toNat (i1 : Int)) x10)))⟩), (5000003, ⟨0, 0, false, some (.sl 1 (List.map encInt y12))⟩)]⟩ [X.nav (.sl 1 (List.map encInt y12) : X) [(0, (Int.toNat (i1 : Int)))] = some (zI x21 : X), X.upd false (.sl 1 (List.map encInt y12) : X) [(0, (Int.toNat (i1 : Int)))] (X.puts · 0 [zI x10]) = (.sl 1 (List.map encInt (List.set y12 (Int.toNat (i1 : Int)) x10)) : X)] ⟨nav_one (f := encInt) (t := 0) (by kernel_rfl) hx22, Eq.trans (upd_one (f := encInt) (v := x10) (t := 0) (by kernel_rfl) hx22 (by kernel_rfl)) (by kernel_rfl), trivial⟩ ?_
   refine re0 8 ?_
   refine rg cv hn ?_
   refine ro9 0 3 3 ⟨[(4, zI ((i1 + 1 : Nat) : Int)), (13, zI ((i1 + 1 : Nat) : Int)), (12, zI (i1 : Int)), (20, .ep 5000003 0 [(0, (Int.toNat (i1 : Int)))] 0), (19, zI x10), (18, .rp (zI x10) 0), (17, zI (i1 : Int)), (16, .sl 0 (List.map encInt a0)), (15, zI (i1 : Int)), (14, .view 5000003 0 [] 0), (11, zB (decide ((i1 : Int) < (a0.length : Int)))), (10, zI (a0.length : Int)), (9, .sl 0 (List.map encInt a0)), (8, zI (i1 : Int)), (4, zI (i1 : Int)), (3, .view 5000003 0 [] 0), (0, .sl 0 (List.map encInt a0))], [(5000003, ⟨0, 0, false, some (.sl 1 (List.map encInt (List.set y12 (Int.toNat (i1 : Int)) x10)))⟩), (5000003, ⟨0, 0, false, some (.sl 1 (List.map encInt y12))⟩)]⟩ ?_ (he := by rw [← hi1]; kernel_rfl)
   exact ⟨(t1, i1 + 1, List.set y12 (Int.toNat (i1 : Int)) x10), Nat.lt_succ_self _, ⟨dnext hd1, h⟩, wre [4, 3, 0] [(5000003, 5000003, false)]⟩

set_option maxRecDepth 100000 in
set_option maxHeartbeats 2000000 in
theorem laws_toRep_spec (a0 : SRep) (v0 : SRep) (h : laws_toRep a0 = some v0) : Ax.Spec Try.prog 99 none [encRep a0] (encRep v0 : X) (.junk : X) := by
 refine walk0 (fn := Try.f99) (fun q0 : SRep => (encRep q0 : X)) (fun q0 : SRep => (.junk : X)) v0 ⟨[(0, encRep a0)], []⟩ Try.func99 rfl (by decide +kernel) fun Γ hn fin => ?_
 rw [laws_toRep] at h
 refine sqr cv hn ?_
 refine ro9 0 2 2 ⟨[(2, .ptr 2 1 0), (1, .ptr 1 1 0), (0, encRep a0)], [(2, ⟨1, 1, true, some (.agg [zI 0, zI 0])⟩), (1, ⟨1, 1, true, some (encRep a0)⟩)]⟩ ?_
 refine sqr cv hn ?_
 refine ro9 0 1 1 ⟨[(3, .ptr 3 1 0), (2, .ptr 2 1 0), (1, .ptr 1 1 0), (0, encRep a0)], [(3, ⟨1, 1, true, some (.agg [zI 0, zI 0])⟩), (2, ⟨1, 1, true, some (.agg [zI 0, zI 0])⟩), (1, ⟨1, 1, true, some (encRep a0)⟩)]⟩ ?_
 refine sqr cv hn ?_
 refine ro9 0 4 4 ⟨[(6, .ptr 3 1 0), (5, zI a0.fNode), (4, .ptr 1 1 0), (3, .ptr 3 1 0), (2, .ptr 2 1 0), (1, .ptr 1 1 0), (0, encRep a0)], [(3, ⟨1, 1, true, some (.agg [zI a0.fNode, zI 0])⟩), (3, ⟨1, 1, true, some (.agg [zI 0, zI 0])⟩), (2, ⟨1, 1, true, some (.agg [zI 0, zI 0])⟩), (1, ⟨1, 1, true, some (encRep a0)⟩)]⟩ ?_
 refine sqr cv hn ?_
 refine ro9 0 4 4 ⟨[(9, .ptr 3 1 1), (8, zI a0.fAmt), (7, .ptr 1 1 1), (6, .ptr 3 1 0), (5, zI a0.fNode), (4, .ptr 1 1 0), (3, .ptr 3 1 0), (2, .ptr 2 1 0), (1, .ptr 1 1 0), (0, encRep a0)], [(3, ⟨1, 1, true, some (encRep a0)⟩), (3, ⟨1, 1, true, some (.agg [zI a0.fNode, zI 0])⟩), (3, ⟨1, 1, true, some (.agg [zI 0, zI 0])⟩), (2, ⟨1, 1, true, some (.agg [zI 0, zI 0])⟩), (1, ⟨1, 1, true, some (encRep a0)⟩)]⟩ ?_
 let T2 : List (Nat × X) := [(3, .ptr 3 0 0), (2, .ptr 2 0 0)]
 let B2 : List (Nat × Bx) := [(3, ⟨0, 0, true, some (encRep a0)⟩), (2, ⟨0, 0, true, some (.agg [zI 0, zI 0])⟩)]
 refine wkr [3, 2] [(3, 3, false), (2, 2, false)] ⟨T2, B2⟩ ?_
 refine sqr cv hn ?_
 refine ro9 0 2 2 ⟨(10, encRep a0) :: T2, (2, ⟨0, 0, true, some (encRep a0)⟩) :: B2⟩ ?_
 refine runs_ret ?_
 exact fin _ _ h (by kernel_rfl)

set_option maxRecDepth 100000 in
set_option maxHeartbeats 2000000 in
theorem laws_toRepS_spec (a0 : (List SRep)) (v0 : (List SRep)) (h : laws_toRepS a0 = some v0) : Ax.Spec Try.prog 89 none [.sl 0 (List.map encRep a0)] (.sl 1 (List.map encRep v0) : X) (.junk : X) := by
 let T1 : List (Nat × X) := [(0, .sl 0 (List.map encRep a0))]
 refine walk0 (fn := Try.f89) (fun q0 : (List SRep) => (.sl 1 (List.map encRep q0) : X)) (fun q0 : (List SRep) => (.junk : X)) v0 ⟨T1, []⟩ Try.func89 rfl (by decide +kernel) fun Γ hn fin => ?_
 rw [laws_toRepS] at h
 refine sqr cv hn ?_
 refine ro9 0 1 1 ⟨(2, .sc (.slice none 0 0)) :: T1, []⟩ ?_
 refine sqr cv hn ?_
 refine ro 0 2 2 ⟨(6, zI (a0.length : Int)) :: (5, .sl 0 (List.map encRep a0)) :: (2, .sc (.slice none 0 0)) :: T1, []⟩ ?_ (he := by rw [show (a0.length : Int) = ((List.map encRep a0).length : Int) from by rw [List.length_map]]; kernel_rfl)
 obtain ⟨hg2, h⟩ := gO_some h
 refine rs 2 ⟨(7, .view 7 1 [] 0) :: (6, zI (a0.length : Int)) :: (5, .sl 0 (List.map encRep a0)) :: (2, .sc (.slice none 0 0)) :: T1, [(7, ⟨1, 1, false, some (.sl 1 (List.map encRep (List.replicate (Int.toNat (a0.length : Int)) (SRep.mk 0 0))))⟩)]⟩ [((a0.length : Int) : Int) = (a0.length : Int) ∧ 0 ≤ ((a0.length : Int) : Int) ∧ tBytes Try.prog 110 * (Int.toNat (a0.length : Int)) ≤ 140737488355328 ∧ (Int.toNat (a0.length : Int)) ≤ 140737488355328] ⟨⟨rfl, hg2.1, mk_side (by kernel_rfl) hg2.2, hg2.2.2⟩, trivial⟩ ?_ (he := by rw [show List.map encRep (List.replicate (Int.toNat (a0.length : Int)) (SRep.mk 0 0)) = List.replicate (Int.toNat (a0.length : Int)) (encRep (SRep.mk 0 0)) from List.map_replicate]; kernel_rfl)
 refine ro9 3 1 1 ⟨(3, .view 7 1 [] 0) :: (7, .view 7 1 [] 0) :: (6, zI (a0.length : Int)) :: (5, .sl 0 (List.map encRep a0)) :: (2, .sc (.slice none 0 0)) :: T1, [(7, ⟨1, 1, false, some (.sl 1 (List.map encRep (List.replicate (Int.toNat (a0.length : Int)) (SRep.mk 0 0))))⟩)]⟩ ?_
 refine runs_seq ?_
 refine sqr cv hn ?_
 refine ro9 0 1 1 ⟨(4, zI 0) :: (3, .view 7 1 [] 0) :: (7, .view 7 1 [] 0) :: (6, zI (a0.length : Int)) :: (5, .sl 0 (List.map encRep a0)) :: (2, .sc (.slice none 0 0)) :: T1, [(7, ⟨1, 1, false, some (.sl 1 (List.map encRep (List.replicate (Int.toNat (a0.length : Int)) (SRep.mk 0 0))))⟩)]⟩ ?_
 refine runs_block ?_
 refine runs_loopM (σ := List SRep × Nat × (List SRep)) (fun s => ⟨[(4, zI (s.2.1 : Int)), (3, .view 5000003 0 [] 0), (0, .sl 0 (List.map encRep a0))], [(5000003, ⟨0, 0, false, some (.sl 1 (List.map encRep s.2.2))⟩)]⟩) (fun s => s.1 = List.drop s.2.1 a0 ∧ laws_toRepS_l1 s.1 s.2.1 s.2.2 = some v0) (fun s => s.1.length) (a0, 0, List.replicate (Int.toNat (a0.length : Int)) (SRep.mk 0 0)) ⟨rfl, h⟩ (wre [4, 3, 0] [(5000003, 7, false)]) ?_
 rintro ⟨t1, i1, y14⟩ ⟨hd1, h⟩
 refine seq0 ⟨[(4, zI (i1 : Int)), (3, .view 5000003 0 [] 0), (0, .sl 0 (List.map encRep a0))], [(5000003, ⟨0, 0, false, some (.sl 1 (List.map encRep y14))⟩)]⟩ ?_
 refine runs_len 0 (es := List.map encRep a0) (by kernel_rfl) fun hl1 => ?_
 replace hl1 := len_of_map hl1
 cases t1 with
 | nil =>
   rw [laws_toRepS_l1] at h
   have hLn1 := dnil hd1
   refine runs_seq ?_
   refine sqr cv hn ?_
   refine ro9 0 4 4 ⟨[(11, zB (decide ((i1 : Int) < (a0.length : Int)))), (10, zI (a0.length : Int)), (9, .sl 0 (List.map encRep a0)), (8, zI (i1 : Int)), (4, zI (i1 : Int)), (3, .view 5000003 0 [] 0), (0, .sl 0 (List.map encRep a0))], [(5000003, ⟨0, 0, false, some (.sl 1 (List.map encRep y14))⟩)]⟩ ?_ (he := by rw [show (a0.length : Int) = ((List.map encRep a0).length : Int) from by rw [List.length_map]]; kernel_rfl)
   refine cf hLn1 ?_
   refine runs_exit ?_
   repeat refine thenX_exit ?_
   refine block_here ?_
   let B2 : List (Nat × Bx) := [(5000003, ⟨0, 0, false, some (.sl 1 (List.map encRep y14))⟩)]
   refine wkr [3] [(5000003, 5000003, false)] ⟨[(3, .view 5000003 0 [] 0)], B2⟩ ?_
   refine sqr cv hn ?_
   refine ro9 0 2 2 ⟨[(2, .view 5000003 0 [] 0), (22, .view 5000003 0 [] 0), (3, .view 5000003 0 [] 0)], B2⟩ ?_
   refine runs_ret ?_
   exact fin _ _ h (by kernel_rfl)
 | cons x10 t1 =>
   rw [laws_toRepS_l1] at h
   have hLc1 := dcons hd1
   have hx10 := dget hd1
   have hi1 := dinc hd1 hl1
   refine runs_seq ?_
   refine sqr cv hn ?_
   refine ro9 0 4 4 ⟨[(11, zB (decide ((i1 : Int) < (a0.length : Int)))), (10, zI (a0.length : Int)), (9, .sl 0 (List.map encRep a0)), (8, zI (i1 : Int)), (4, zI (i1 : Int)), (3, .view 5000003 0 [] 0), (0, .sl 0 (List.map encRep a0))], [(5000003, ⟨0, 0, false, some (.sl 1 (List.map encRep y14))⟩)]⟩ ?_ (he := by rw [show (a0.length : Int) = ((List.map encRep a0).length : Int) from by rw [List.length_map]]; kernel_rfl)
   refine ct hLc1 ?_
   refine runs_skip ?_
   refine runs_seq ?_
   refine runs_block ?_
   refine rg cv hn ?_
   refine ro 0 4 4 ⟨[(17, zI (i1 : Int)), (16, .sl 0 (List.map encRep a0)), (15, zI (i1 : Int)), (14, .view 5000003 0 [] 0), (11, zB (decide ((i1 : Int) < (a0.length : Int)))), (10, zI (a0.length : Int)), (9, .sl 0 (List.map encRep a0)), (8, zI (i1 : Int)), (4, zI (i1 : Int)), (3, .view 5000003 0 [] 0), (0, .sl 0 (List.map encRep a0))], [(5000003, ⟨0, 0, false, some (.sl 1 (List.map encRep y14))⟩)]⟩ ?_
   refine rix 4 encRep 119 hx10 (ix_nn hx10) ⟨[(18, .rp (encRep x10) 0), (17, zI (i1 : Int)), (16, .sl 0 (List.map encRep a0)), (15, zI (i1 : Int)), (14, .view 5000003 0 [] 0), (11, zB (decide ((i1 : Int) < (a0.length : Int)))), (10, zI (a0.length : Int)), (9, .sl 0 (List.map encRep a0)), (8, zI (i1 : Int)), (4, zI (i1 : Int)), (3, .view 5000003 0 [] 0), (0, .sl 0 (List.map encRep a0))], [(5000003, ⟨0, 0, false, some (.sl 1 (List.map encRep y14))⟩)]⟩ ?_
   refine ro 5 1 1 ⟨[(19, encRep x10), (18, .rp (encRep x10) 0), (17, zI (i1 : Int)), (16, .sl 0 (List.map encRep a0)), (15, zI (i1 : Int)), (14, .view 5000003 0 [] 0), (11, zB (decide ((i1 : Int) < (a0.length : Int)))), (10, zI (a0.length : Int)), (9, .sl 0 (List.map encRep a0)), (8, zI (i1 : Int)), (4, zI (i1 : Int)), (3, .view 5000003 0 [] 0), (0, .sl 0 (List.map encRep a0))], [(5000003, ⟨0, 0, false, some (.sl 1 (List.map encRep y14))⟩)]⟩ ?_
   obtain ⟨v25, hv26, h⟩ := bindO h
   refine rc 6 ⟨[(20, encRep v25), (19, encRep x10), (18, .rp (encRep x10) 0), (17, zI (i1 : Int)), (16, .sl 0 (List.map encRep a0)), (15, zI (i1 : Int)), (14, .view 5000003 0 [] 0), (11, zB (decide ((i1 : Int) < (a0.length : Int)))), (10, zI (a0.length : Int)), (9, .sl 0 (List.map encRep a0)), (8, zI (i1 : Int)), (4, zI (i1 : Int)), (3, .view 5000003 0 [] 0), (0, .sl 0 (List.map encRep a0))], [(5000003, ⟨0, 0, false, some (.sl 1 (List.map encRep y14))⟩)]⟩ (laws_toRep_spec x10 v25 hv26) ?_
   obtain ⟨x27, hx28, h⟩ := bindO h
   refine rix 7 encRep 110 hx28 (ix_nn hx28) ⟨[(21, .ep 5000003 0 [(0, (Int.toNat (i1 : Int)))] 0), (20, encRep v25), (19, encRep x10), (18, .rp (encRep x10) 0), (17, zI (i1 : Int)), (16, .sl 0 (List.map encRep a0)), (15, zI (i1 : Int)), (14, .view 5000003 0 [] 0), (11, zB (decide ((i1 : Int) < (a0.length : Int)))), (10, zI (a0.length : Int)), (9, .sl 0 (List.map encRep a0)), (8, zI (i1 : Int)), (4, zI (i1 : Int)), (3, .view 5000003 0 [] 0), (0, .sl 0 (List.map encRep a0))], [(5000003, ⟨0, 0, false, some (.sl 1 (List.map encRep y14))⟩)]⟩ ?_
   refine ra 8 (encRep x27 : X) (.sl 1 (List.map encRep (List.set y14 (Int.toNat (i1 : Int)) v25)) : X) ⟨[(21, .ep 5000003 0 [(0, (Int.toNat (i1 : Int)))] 0), (20, encRep v25), (19, encRep x10), (18, .rp (encRep x10) 0), (17, zI (i1 : Int)), (16, .sl 0 (List.map encRep a0)), (15, zI (i1 : Int)), (14, .view 5000003 0 [] 0), (11, zB (decide ((i1 : Int) < (a0.length : Int)))), (10, zI (a0.length : Int)), (9, .sl 0 (List.map encRep a0)), (8, zI (i1 : Int)), (4, zI (i1 : Int)), (3, .view 5000003 0 [] 0), (0, .sl 0 (List.map encRep a0))], [(5000003, ⟨0, 0, false, some (.sl 1 (List.map encRep (List.set y14 (Int.toNat (i1 : Int)) v25)))⟩), (5000003, ⟨0, 0, false, some (.sl 1 (List.map encRep y14))⟩)]⟩ [X.nav (.sl 1 (List.map encRep y14) : X) [(0, (Int.toNat (i1 : Int)))] = some (encRep x27 : X), X.upd false (.sl 1 (List.map encRep y14) : X) [(0, (Int.toNat (i1 : Int)))] (X.puts · 0 [zI v25.fNode, zI v25.fAmt]) = (.sl 1 (List.map encRep (List.set y14 (Int.toNat (i1 : Int)) v25)) : X)] ⟨nav_one (f := encRep) (t := 0) (by kernel_rfl) hx28, Eq.trans (upd_one (f := encRep) (v := v25) (t := 0) (by kernel_rfl) hx28 (by kernel_rfl)) (by kernel_rfl), trivial⟩ ?_
   refine re0 9 ?_
   refine rg cv hn ?_
   refine ro9 0 3 3 ⟨[(4, zI ((i1 + 1 : Nat) : Int)), (13, zI ((i1 + 1 : Nat) : Int)), (12, zI (i1 : Int)), (21, .ep 5000003 0 [(0, (Int.toNat (i1 : Int)))] 0), (20, encRep v25), (19, encRep x10), (18, .rp (encRep x10) 0), (17, zI (i1 : Int)), (16, .sl 0 (List.map encRep a0)), (15, zI (i1 : Int)), (14, .view 5000003 0 [] 0), (11, zB (decide ((i1 : Int) < (a0.length : Int)))), (10, zI (a0.length : Int)), (9, .sl 0 (List.map encRep a0)), (8, zI (i1 : Int)), (4, zI (i1 : Int)), (3, .view 5000003 0 [] 0), (0, .sl 0 (List.map encRep a0))], [(5000003, ⟨0, 0, false, some (.sl 1 (List.map encRep (List.set y14 (Int.toNat (i1 : Int)) v25)))⟩), (5000003, ⟨0, 0, false, some (.sl 1 (List.map encRep y14))⟩)]⟩ ?_ (he := by rw [← hi1]; kernel_rfl)
   exact ⟨(t1, i1 + 1, List.set y14 (Int.toNat (i1 : Int)) v25), Nat.lt_succ_self _, ⟨dnext hd1, h⟩, wre [4, 3, 0] [(5000003, 5000003, false)]⟩

set_option maxRecDepth 100000 in
set_option maxHeartbeats 2000000 in
theorem laws_toAcct_spec (a0 : SAcct) (v0 : SAcct) (h : laws_toAcct a0 = some v0) : Ax.Spec Try.prog 44 none [encAcct0 a0] (encAcct1 v0 : X) (.junk : X) := by
 refine walk0 (fn := Try.f44) (fun q0 : SAcct => (encAcct1 q0 : X)) (fun q0 : SAcct => (.junk : X)) v0 ⟨[(0, encAcct0 a0)], []⟩ Try.func44 rfl (by decide +kernel) fun Γ hn fin => ?_
 rw [laws_toAcct] at h
 refine sqr cv hn ?_
 refine ro9 0 2 2 ⟨[(2, .ptr 2 1 0), (1, .ptr 1 1 0), (0, encAcct0 a0)], [(2, ⟨1, 1, true, some (.agg [zI 0, zI 0, zI 0, .sl 1 (List.map encInt []), .sl 1 (List.map encRep [])])⟩), (1, ⟨1, 1, true, some (encAcct0 a0)⟩)]⟩ ?_
 refine sqr cv hn ?_
 refine ro9 0 1 1 ⟨[(3, .ptr 3 1 0), (2, .ptr 2 1 0), (1, .ptr 1 1 0), (0, encAcct0 a0)], [(3, ⟨1, 1, true, some (.agg [zI 0, zI 0, zI 0, .sl 1 (List.map encInt []), .sl 1 (List.map encRep [])])⟩), (2, ⟨1, 1, true, some (.agg [zI 0, zI 0, zI 0, .sl 1 (List.map encInt []), .sl 1 (List.map encRep [])])⟩), (1, ⟨1, 1, true, some (encAcct0 a0)⟩)]⟩ ?_
 refine sqr cv hn ?_
 refine ro9 0 4 4 ⟨[(6, .ptr 3 1 0), (5, zI a0.fHave), (4, .ptr 1 1 0), (3, .ptr 3 1 0), (2, .ptr 2 1 0), (1, .ptr 1 1 0), (0, encAcct0 a0)], [(3, ⟨1, 1, true, some (.agg [zI a0.fHave, zI 0, zI 0, .sl 1 (List.map encInt []), .sl 1 (List.map encRep [])])⟩), (3, ⟨1, 1, true, some (.agg [zI 0, zI 0, zI 0, .sl 1 (List.map encInt []), .sl 1 (List.map encRep [])])⟩), (2, ⟨1, 1, true, some (.agg [zI 0, zI 0, zI 0, .sl 1 (List.map encInt []), .sl 1 (List.map encRep [])])⟩), (1, ⟨1, 1, true, some (encAcct0 a0)⟩)]⟩ ?_
 refine sqr cv hn ?_
 refine ro9 0 4 4 ⟨[(9, .ptr 3 1 1), (8, zI a0.fState), (7, .ptr 1 1 1), (6, .ptr 3 1 0), (5, zI a0.fHave), (4, .ptr 1 1 0), (3, .ptr 3 1 0), (2, .ptr 2 1 0), (1, .ptr 1 1 0), (0, encAcct0 a0)], [(3, ⟨1, 1, true, some (.agg [zI a0.fHave, zI a0.fState, zI 0, .sl 1 (List.map encInt []), .sl 1 (List.map encRep [])])⟩), (3, ⟨1, 1, true, some (.agg [zI a0.fHave, zI 0, zI 0, .sl 1 (List.map encInt []), .sl 1 (List.map encRep [])])⟩), (3, ⟨1, 1, true, some (.agg [zI 0, zI 0, zI 0, .sl 1 (List.map encInt []), .sl 1 (List.map encRep [])])⟩), (2, ⟨1, 1, true, some (.agg [zI 0, zI 0, zI 0, .sl 1 (List.map encInt []), .sl 1 (List.map encRep [])])⟩), (1, ⟨1, 1, true, some (encAcct0 a0)⟩)]⟩ ?_
 let T3 : List (Nat × X) := [(3, .ptr 3 0 0), (2, .ptr 2 0 0), (1, .ptr 1 0 0)]
 let B3 : List (Nat × Bx) := [(3, ⟨0, 0, true, some (.agg [zI a0.fHave, zI a0.fState, zI 0, .sl 1 (List.map encInt []), .sl 1 (List.map encRep [])])⟩), (2, ⟨0, 0, true, some (.agg [zI 0, zI 0, zI 0, .sl 1 (List.map encInt []), .sl 1 (List.map encRep [])])⟩), (1, ⟨0, 0, true, some (encAcct0 a0)⟩)]
 refine wkr [3, 2, 1] [(3, 3, false), (2, 2, false), (1, 1, false)] ⟨T3, B3⟩ ?_
 refine sqr cv hn ?_
 refine ro9 0 4 4 ⟨(12, .ptr 3 0 2) :: (11, zI a0.fBy) :: (10, .ptr 1 0 2) :: T3, (3, ⟨0, 0, true, some (.agg [zI a0.fHave, zI a0.fState, zI a0.fBy, .sl 1 (List.map encInt []), .sl 1 (List.map encRep [])])⟩) :: B3⟩ ?_
 refine sqr cv hn ?_
 refine ro 0 2 2 ⟨(14, .sl 0 (List.map encInt a0.fMarks)) :: (13, .ptr 1 0 3) :: (12, .ptr 3 0 2) :: (11, zI a0.fBy) :: (10, .ptr 1 0 2) :: T3, (3, ⟨0, 0, true, some (.agg [zI a0.fHave, zI a0.fState, zI a0.fBy, .sl 1 (List.map encInt []), .sl 1 (List.map encRep [])])⟩) :: B3⟩ ?_
 obtain ⟨v3, hv4, h⟩ := bindO h
 refine rc 2 ⟨(15, .view 15 1 [] 0) :: (14, .sl 0 (List.map encInt a0.fMarks)) :: (13, .ptr 1 0 3) :: (12, .ptr 3 0 2) :: (11, zI a0.fBy) :: (10, .ptr 1 0 2) :: T3, (15, ⟨1, 1, false, some (.sl 1 (List.map encInt v3))⟩) :: (3, ⟨0, 0, true, some (.agg [zI a0.fHave, zI a0.fState, zI a0.fBy, .sl 1 (List.map encInt []), .sl 1 (List.map encRep [])])⟩) :: B3⟩ (laws_toIntS_spec a0.fMarks v3 hv4) ?_
 refine ro9 3 2 2 ⟨(16, .ptr 3 0 3) :: (15, .view 15 1 [] 0) :: (14, .sl 0 (List.map encInt a0.fMarks)) :: (13, .ptr 1 0 3) :: (12, .ptr 3 0 2) :: (11, zI a0.fBy) :: (10, .ptr 1 0 2) :: T3, (3, ⟨0, 1, true, some (.agg [zI a0.fHave, zI a0.fState, zI a0.fBy, .sl 1 (List.map encInt v3), .sl 1 (List.map encRep [])])⟩) :: (15, ⟨1, 2, false, some (.junk)⟩) :: (15, ⟨1, 1, false, some (.sl 1 (List.map encInt v3))⟩) :: (3, ⟨0, 0, true, some (.agg [zI a0.fHave, zI a0.fState, zI a0.fBy, .sl 1 (List.map encInt []), .sl 1 (List.map encRep [])])⟩) :: B3⟩ ?_
 let T4 : List (Nat × X) := [(3, .ptr 3 0 0), (2, .ptr 2 0 0), (1, .ptr 1 0 0)]
 let B4 : List (Nat × Bx) := [(3, ⟨0, 0, true, some (.agg [zI a0.fHave, zI a0.fState, zI a0.fBy, .sl 1 (List.map encInt v3), .sl 1 (List.map encRep [])])⟩), (2, ⟨0, 0, true, some (.agg [zI 0, zI 0, zI 0, .sl 1 (List.map encInt []), .sl 1 (List.map encRep [])])⟩), (1, ⟨0, 0, true, some (encAcct0 a0)⟩)]
 refine wkr [3, 2, 1] [(3, 3, false), (2, 2, false), (1, 1, false)] ⟨T4, B4⟩ ?_
 refine sqr cv hn ?_
 refine ro 0 2 2 ⟨(18, .sl 0 (List.map encRep a0.fReps)) :: (17, .ptr 1 0 4) :: T4, B4⟩ ?_
 obtain ⟨v5, hv6, h⟩ := bindO h
 refine rc 2 ⟨(19, .view 19 1 [] 0) :: (18, .sl 0 (List.map encRep a0.fReps)) :: (17, .ptr 1 0 4) :: T4, (19, ⟨1, 1, false, some (.sl 1 (List.map encRep v5))⟩) :: B4⟩ (laws_toRepS_spec a0.fReps v5 hv6) ?_
 refine ro9 3 2 2 ⟨(20, .ptr 3 0 4) :: (19, .view 19 1 [] 0) :: (18, .sl 0 (List.map encRep a0.fReps)) :: (17, .ptr 1 0 4) :: T4, (3, ⟨0, 1, true, some (.agg [zI a0.fHave, zI a0.fState, zI a0.fBy, .sl 1 (List.map encInt v3), .sl 1 (List.map encRep v5)])⟩) :: (19, ⟨1, 2, false, some (.junk)⟩) :: (19, ⟨1, 1, false, some (.sl 1 (List.map encRep v5))⟩) :: B4⟩ ?_
 let T5 : List (Nat × X) := [(3, .ptr 3 0 0), (2, .ptr 2 0 0)]
 let B5 : List (Nat × Bx) := [(3, ⟨0, 0, true, some (.agg [zI a0.fHave, zI a0.fState, zI a0.fBy, .sl 1 (List.map encInt v3), .sl 1 (List.map encRep v5)])⟩), (2, ⟨0, 0, true, some (.agg [zI 0, zI 0, zI 0, .sl 1 (List.map encInt []), .sl 1 (List.map encRep [])])⟩)]
 refine wkr [3, 2] [(3, 3, false), (2, 2, false)] ⟨T5, B5⟩ ?_
 refine sqr cv hn ?_
 refine ro9 0 2 2 ⟨(21, .agg [zI a0.fHave, zI a0.fState, zI a0.fBy, .view 3 0 [] 3, .view 3 0 [] 4]) :: T5, (2, ⟨0, 1, true, some (.agg [zI a0.fHave, zI a0.fState, zI a0.fBy, .sl 1 (List.map encInt v3), .sl 1 (List.map encRep v5)])⟩) :: (3, ⟨0, 2, true, some (.agg [zI a0.fHave, zI a0.fState, zI a0.fBy, .junk, .junk])⟩) :: (3, ⟨0, 1, true, some (.agg [zI a0.fHave, zI a0.fState, zI a0.fBy, .junk, .sl 1 (List.map encRep v5)])⟩) :: B5⟩ ?_
 refine runs_ret ?_
 exact fin _ _ h (by kernel_rfl)

set_option maxRecDepth 100000 in
set_option maxHeartbeats 2000000 in
theorem laws_eqIntS_spec (a0 : (List Int)) (a1 : (List Int)) (v0 : Bool) (h : laws_eqIntS a0 a1 = some v0) : Ax.Spec Try.prog 75 none [.sl 0 (List.map encInt a0), .sl 0 (List.map encInt a1)] (zB v0 : X) (.junk : X) := by
 let T1 : List (Nat × X) := [(0, .sl 0 (List.map encInt a0)), (1, .sl 0 (List.map encInt a1))]
 refine walk0 (fn := Try.f75) (fun q0 : Bool => (zB q0 : X)) (fun q0 : Bool => (.junk : X)) v0 ⟨T1, []⟩ Try.func75 rfl (by decide +kernel) fun Γ hn fin => ?_
 rw [laws_eqIntS] at h
 refine sqr cv hn ?_
 refine ro9 0 1 1 ⟨(4, zB false) :: T1, []⟩ ?_
 refine runs_seq ?_
 refine sqr cv hn ?_
 refine ro9 0 5 5 ⟨(10, zB ((a0.length : Int) != (a1.length : Int))) :: (9, zI (a1.length : Int)) :: (8, .sl 0 (List.map encInt a1)) :: (7, zI (a0.length : Int)) :: (6, .sl 0 (List.map encInt a0)) :: (4, zB false) :: T1, []⟩ ?_ (he := by rw [show (a0.length : Int) = ((List.map encInt a0).length : Int) from by rw [List.length_map]]; rw [show (a1.length : Int) = ((List.map encInt a1).length : Int) from by rw [List.length_map]]; kernel_rfl)
 rcases dich ((a0.length : Int) != (a1.length : Int)) with hb2 | hb2
 · replace h := cond_t hb2 h
   refine ct hb2 ?_
   let T3 : List (Nat × X) := [(0, .sl 0 (List.map encInt a0)), (1, .sl 0 (List.map encInt a1))]
   refine wkr [0, 1] [] ⟨T3, []⟩ ?_
   refine sqr cv hn ?_
   refine ro9 0 1 1 ⟨(4, zB false) :: T3, []⟩ ?_
   refine runs_ret ?_
   exact fin _ _ h (by kernel_rfl)
 · replace h := cond_f hb2 h
   refine cf hb2 ?_
   refine runs_skip ?_
   refine runs_seq ?_
   let T5 : List (Nat × X) := [(0, .sl 0 (List.map encInt a0)), (1, .sl 0 (List.map encInt a1))]
   refine wkr [0, 1] [] ⟨T5, []⟩ ?_
   refine sqr cv hn ?_
   refine ro9 0 1 1 ⟨(5, zI 0) :: T5, []⟩ ?_
   refine runs_block ?_
   refine runs_loopM (σ := List Int × Nat) (fun s => ⟨[(5, zI (s.2 : Int)), (0, .sl 0 (List.map encInt a0)), (1, .sl 0 (List.map encInt a1))], []⟩) (fun s => s.1 = List.drop s.2 a0 ∧ laws_eqIntS_l1 a1 s.1 s.2 = some v0) (fun s => s.1.length) (a0, 0) ⟨rfl, h⟩ (wre [5, 0, 1] []) ?_
   rintro ⟨t1, i1⟩ ⟨hd1, h⟩
   refine seq0 ⟨[(5, zI (i1 : Int)), (0, .sl 0 (List.map encInt a0)), (1, .sl 0 (List.map encInt a1))], []⟩ ?_
   refine runs_len 0 (es := List.map encInt a0) (by kernel_rfl) fun hl1 => ?_
   replace hl1 := len_of_map hl1
   cases t1 with
   | nil =>
     rw [laws_eqIntS_l1] at h
     have hLn1 := dnil hd1
     refine runs_seq ?_
     refine sqr cv hn ?_
     refine ro9 0 4 4 ⟨[(14, zB (decide ((i1 : Int) < (a0.length : Int)))), (13, zI (a0.length : Int)), (12, .sl 0 (List.map encInt a0)), (11, zI (i1 : Int)), (5, zI (i1 : Int)), (0, .sl 0 (List.map encInt a0)), (1, .sl 0 (List.map encInt a1))], []⟩ ?_ (he := by rw [show (a0.length : Int) = ((List.map encInt a0).length : Int) from by rw [List.length_map]]; kernel_rfl)
     refine cf hLn1 ?_
     refine runs_exit ?_
     repeat refine thenX_exit ?_
     refine block_here ?_
     refine wkr [] [] ⟨[], []⟩ ?_
     refine sqr cv hn ?_
     refine ro9 0 1 1 ⟨[(4, zB true)], []⟩ ?_
     refine runs_ret ?_
     exact fin _ _ h (by kernel_rfl)
   | cons x10 t1 =>
     rw [laws_eqIntS_l1] at h
     have hLc1 := dcons hd1
     have hx10 := dget hd1
     have hi1 := dinc hd1 hl1
     refine runs_seq ?_
     refine sqr cv hn ?_
     refine ro9 0 4 4 ⟨[(14, zB (decide ((i1 : Int) < (a0.length : Int)))), (13, zI (a0.length : Int)), (12, .sl 0 (List.map encInt a0)), (11, zI (i1 : Int)), (5, zI (i1 : Int)), (0, .sl 0 (List.map encInt a0)), (1, .sl 0 (List.map encInt a1))], []⟩ ?_ (he := by rw [show (a0.length : Int) = ((List.map encInt a0).length : Int) from by rw [List.length_map]]; kernel_rfl)
     refine ct hLc1 ?_
     refine runs_skip ?_
     refine runs_seq ?_
     refine runs_block ?_
     refine runs_seq ?_
     refine rgT cv mixed hn ?_
     refine roT 0 2 2 ⟨[(18, zI (i1 : Int)), (17, .sl 0 (List.map encInt a0)), (14, zB (decide ((i1 : Int) < (a0.length : Int)))), (13, zI (a0.length : Int)), (12, .sl 0 (List.map encInt a0)), (11, zI (i1 : Int)), (5, zI (i1 : Int)), (0, .sl 0 (List.map encInt a0)), (1, .sl 0 (List.map encInt a1))], []⟩ ?_
     refine rixT 2 encInt 3 hx10 (ix_nn hx10) ⟨[(19, .rp (zI x10) 0), (18, zI (i1 : Int)), (17, .sl 0 (List.map encInt a0)), (14, zB (decide ((i1 : Int) < (a0.length : Int)))), (13, zI (a0.length : Int)), (12, .sl 0 (List.map encInt a0)), (11, zI (i1 : Int)), (5, zI (i1 : Int)), (0, .sl 0 (List.map encInt a0)), (1, .sl 0 (List.map encInt a1))], []⟩ ?_
     refine roT 3 3 3 ⟨[(22, zI (i1 : Int)), (21, .sl 0 (List.map encInt a1)), (20, zI x10), (19, .rp (zI x10) 0), (18, zI (i1 : Int)), (17, .sl 0 (List.map encInt a0)), (14, zB (decide ((i1 : Int) < (a0.length : Int)))), (13, zI (a0.length : Int)), (12, .sl 0 (List.map encInt a0)), (11, zI (i1 : Int)), (5, zI (i1 : Int)), (0, .sl 0 (List.map encInt a0)), (1, .sl 0 (List.map encInt a1))], []⟩ ?_
     obtain ⟨x20, hx21, h⟩ := bindO h
     refine rixT 6 encInt 3 hx21 (ix_nn hx21) ⟨[(23, .rp (zI x20) 0), (22, zI (i1 : Int)), (21, .sl 0 (List.map encInt a1)), (20, zI x10), (19, .rp (zI x10) 0), (18, zI (i1 : Int)), (17, .sl 0 (List.map encInt a0)), (14, zB (decide ((i1 : Int) < (a0.length : Int)))), (13, zI (a0.length : Int)), (12, .sl 0 (List.map encInt a0)), (11, zI (i1 : Int)), (5, zI (i1 : Int)), (0, .sl 0 (List.map encInt a0)), (1, .sl 0 (List.map encInt a1))], []⟩ ?_
     refine roT9 7 2 2 ⟨[(25, zB (x10 != x20)), (24, zI x20), (23, .rp (zI x20) 0), (22, zI (i1 : Int)), (21, .sl 0 (List.map encInt a1)), (20, zI x10), (19, .rp (zI x10) 0), (18, zI (i1 : Int)), (17, .sl 0 (List.map encInt a0)), (14, zB (decide ((i1 : Int) < (a0.length : Int)))), (13, zI (a0.length : Int)), (12, .sl 0 (List.map encInt a0)), (11, zI (i1 : Int)), (5, zI (i1 : Int)), (0, .sl 0 (List.map encInt a0)), (1, .sl 0 (List.map encInt a1))], []⟩ ?_
     rcases dich (x10 != x20) with hb22 | hb22
     · replace h := cond_t hb22 h
       refine ct hb22 ?_
       refine sqr cv hn ?_
       refine ro9 0 1 1 ⟨[(4, zB false), (25, zB (x10 != x20)), (24, zI x20), (23, .rp (zI x20) 0), (22, zI (i1 : Int)), (21, .sl 0 (List.map encInt a1)), (20, zI x10), (19, .rp (zI x10) 0), (18, zI (i1 : Int)), (17, .sl 0 (List.map encInt a0)), (14, zB (decide ((i1 : Int) < (a0.length : Int)))), (13, zI (a0.length : Int)), (12, .sl 0 (List.map encInt a0)), (11, zI (i1 : Int)), (5, zI (i1 : Int)), (0, .sl 0 (List.map encInt a0)), (1, .sl 0 (List.map encInt a1))], []⟩ ?_
       refine runs_ret ?_
       exact fin _ _ h (by kernel_rfl)
     · replace h := cond_f hb22 h
       refine cf hb22 ?_
       refine runs_skip ?_
       refine rg cv hn ?_
       refine ro9 0 3 3 ⟨[(5, zI ((i1 + 1 : Nat) : Int)), (16, zI ((i1 + 1 : Nat) : Int)), (15, zI (i1 : Int)), (25, zB (x10 != x20)), (24, zI x20), (23, .rp (zI x20) 0), (22, zI (i1 : Int)), (21, .sl 0 (List.map encInt a1)), (20, zI x10), (19, .rp (zI x10) 0), (18, zI (i1 : Int)), (17, .sl 0 (List.map encInt a0)), (14, zB (decide ((i1 : Int) < (a0.length : Int)))), (13, zI (a0.length : Int)), (12, .sl 0 (List.map encInt a0)), (11, zI (i1 : Int)), (5, zI (i1 : Int)), (0, .sl 0 (List.map encInt a0)), (1, .sl 0 (List.map encInt a1))], []⟩ ?_ (he := by rw [← hi1]; kernel_rfl)
       exact ⟨(t1, i1 + 1), Nat.lt_succ_self _, ⟨dnext hd1, h⟩, wre [5, 0, 1] []⟩

set_option maxRecDepth 100000 in
set_option maxHeartbeats 2000000 in
theorem laws_eqRep_spec (a0 : SRep) (a1 : SRep) (v0 : Bool) (h : laws_eqRep a0 a1 = some v0) : Ax.Spec Try.prog 100 none [encRep a0, encRep a1] (zB v0 : X) (.junk : X) := by
 refine walk0 (fn := Try.f100) (fun q0 : Bool => (zB q0 : X)) (fun q0 : Bool => (.junk : X)) v0 ⟨[(0, encRep a0), (1, encRep a1)], []⟩ Try.func100 rfl (by decide +kernel) fun Γ hn fin => ?_
 rw [laws_eqRep] at h
 refine sqr cv hn ?_
 refine ro9 0 3 3 ⟨[(4, zB false), (3, .ptr 3 1 0), (2, .ptr 2 1 0), (0, encRep a0), (1, encRep a1)], [(3, ⟨1, 1, true, some (encRep a1)⟩), (2, ⟨1, 1, true, some (encRep a0)⟩)]⟩ ?_
 refine runs_seq ?_
 refine sqr cv hn ?_
 refine ro9 0 5 5 ⟨[(9, zB (a0.fNode != a1.fNode)), (8, zI a1.fNode), (7, .ptr 3 1 0), (6, zI a0.fNode), (5, .ptr 2 1 0), (4, zB false), (3, .ptr 3 1 0), (2, .ptr 2 1 0), (0, encRep a0), (1, encRep a1)], [(3, ⟨1, 1, true, some (encRep a1)⟩), (2, ⟨1, 1, true, some (encRep a0)⟩)]⟩ ?_
 rcases dich (a0.fNode != a1.fNode) with hb2 | hb2
 · replace h := cond_t hb2 h
   refine ct hb2 ?_
   let T3 : List (Nat × X) := [(3, .ptr 3 0 0), (2, .ptr 2 0 0)]
   let B3 : List (Nat × Bx) := [(3, ⟨0, 0, true, some (encRep a1)⟩), (2, ⟨0, 0, true, some (encRep a0)⟩)]
   refine wkr [3, 2] [(3, 3, false), (2, 2, false)] ⟨T3, B3⟩ ?_
   refine sqr cv hn ?_
   refine ro9 0 1 1 ⟨(4, zB false) :: T3, B3⟩ ?_
   refine runs_ret ?_
   exact fin _ _ h (by kernel_rfl)
 · replace h := cond_f hb2 h
   refine cf hb2 ?_
   refine runs_skip ?_
   refine runs_seq ?_
   let T4 : List (Nat × X) := [(3, .ptr 3 0 0), (2, .ptr 2 0 0)]
   let B4 : List (Nat × Bx) := [(3, ⟨0, 0, true, some (encRep a1)⟩), (2, ⟨0, 0, true, some (encRep a0)⟩)]
   refine wkr [3, 2] [(3, 3, false), (2, 2, false)] ⟨T4, B4⟩ ?_
   refine sqr cv hn ?_
   refine ro9 0 5 5 ⟨(14, zB (a0.fAmt != a1.fAmt)) :: (13, zI a1.fAmt) :: (12, .ptr 3 0 1) :: (11, zI a0.fAmt) :: (10, .ptr 2 0 1) :: T4, B4⟩ ?_
   rcases dich (a0.fAmt != a1.fAmt) with hb3 | hb3
   · replace h := cond_t hb3 h
     refine ct hb3 ?_
     refine wkr [] [] ⟨[], []⟩ ?_
     refine sqr cv hn ?_
     refine ro9 0 1 1 ⟨[(4, zB false)], []⟩ ?_
     refine runs_ret ?_
     exact fin _ _ h (by kernel_rfl)
   · replace h := cond_f hb3 h
     refine cf hb3 ?_
     refine runs_skip ?_
     refine wkr [] [] ⟨[], []⟩ ?_
     refine sqr cv hn ?_
     refine ro9 0 1 1 ⟨[(4, zB true)], []⟩ ?_
     refine runs_ret ?_
     exact fin _ _ h (by kernel_rfl)

set_option maxRecDepth 100000 in
set_option maxHeartbeats 2000000 in
theorem laws_eqRepS_spec (a0 : (List SRep)) (a1 : (List SRep)) (v0 : Bool) (h : laws_eqRepS a0 a1 = some v0) : Ax.Spec Try.prog 90 none [.sl 0 (List.map encRep a0), .sl 0 (List.map encRep a1)] (zB v0 : X) (.junk : X) := by
 let T1 : List (Nat × X) := [(0, .sl 0 (List.map encRep a0)), (1, .sl 0 (List.map encRep a1))]
 refine walk0 (fn := Try.f90) (fun q0 : Bool => (zB q0 : X)) (fun q0 : Bool => (.junk : X)) v0 ⟨T1, []⟩ Try.func90 rfl (by decide +kernel) fun Γ hn fin => ?_
 rw [laws_eqRepS] at h
 refine sqr cv hn ?_
 refine ro9 0 1 1 ⟨(4, zB false) :: T1, []⟩ ?_
 refine runs_seq ?_
 refine sqr cv hn ?_
 refine ro9 0 5 5 ⟨(10, zB ((a0.length : Int) != (a1.length : Int))) :: (9, zI (a1.length : Int)) :: (8, .sl 0 (List.map encRep a1)) :: (7, zI (a0.length : Int)) :: (6, .sl 0 (List.map encRep a0)) :: (4, zB false) :: T1, []⟩ ?_ (he := by rw [show (a0.length : Int) = ((List.map encRep a0).length : Int) from by rw [List.length_map]]; rw [show (a1.length : Int) = ((List.map encRep a1).length : Int) from by rw [List.length_map]]; kernel_rfl)
 rcases dich ((a0.length : Int) != (a1.length : Int)) with hb2 | hb2
 · replace h := cond_t hb2 h
   refine ct hb2 ?_
   let T3 : List (Nat × X) := [(0, .sl 0 (List.map encRep a0)), (1, .sl 0 (List.map encRep a1))]
   refine wkr [0, 1] [] ⟨T3, []⟩ ?_
   refine sqr cv hn ?_
   refine ro9 0 1 1 ⟨(4, zB false) :: T3, []⟩ ?_
   refine runs_ret ?_
   exact fin _ _ h (by kernel_rfl)
 · replace h := cond_f hb2 h
   refine cf hb2 ?_
   refine runs_skip ?_
   refine runs_seq ?_
   let T5 : List (Nat × X) := [(0, .sl 0 (List.map encRep a0)), (1, .sl 0 (List.map encRep a1))]
   refine wkr [0, 1] [] ⟨T5, []⟩ ?_
   refine sqr cv hn ?_
   refine ro9 0 1 1 ⟨(5, zI 0) :: T5, []⟩ ?_
   refine runs_block ?_
   refine runs_loopM (σ := List SRep × Nat) (fun s => ⟨[(5, zI (s.2 : Int)), (0, .sl 0 (List.map encRep a0)), (1, .sl 0 (List.map encRep a1))], []⟩) (fun s => s.1 = List.drop s.2 a0 ∧ laws_eqRepS_l1 a1 s.1 s.2 = some v0) (fun s => s.1.length) (a0, 0) ⟨rfl, h⟩ (wre [5, 0, 1] []) ?_
   rintro ⟨t1, i1⟩ ⟨hd1, h⟩
   refine seq0 ⟨[(5, zI (i1 : Int)), (0, .sl 0 (List.map encRep a0)), (1, .sl 0 (List.map encRep a1))], []⟩ ?_
   refine runs_len 0 (es := List.map encRep a0) (by kernel_rfl) fun hl1 => ?_
   replace hl1 := len_of_map hl1
   cases t1 with
   | nil =>
     rw [laws_eqRepS_l1] at h
     have hLn1 := dnil hd1
     refine runs_seq ?_
     refine sqr cv hn ?_
     refine ro9 0 4 4 ⟨[(14, zB (decide ((i1 : Int) < (a0.length : Int)))), (13, zI (a0.length : Int)), (12, .sl 0 (List.map encRep a0)), (11, zI (i1 : Int)), (5, zI (i1 : Int)), (0, .sl 0 (List.map encRep a0)), (1, .sl 0 (List.map encRep a1))], []⟩ ?_ (he := by rw [show (a0.length : Int) = ((List.map encRep a0).length : Int) from by rw [List.length_map]]; kernel_rfl)
     refine cf hLn1 ?_
     refine runs_exit ?_
     repeat refine thenX_exit ?_
     refine block_here ?_
     refine wkr [] [] ⟨[], []⟩ ?_
     refine sqr cv hn ?_
     refine ro9 0 1 1 ⟨[(4, zB true)], []⟩ ?_
     refine runs_ret ?_
     exact fin _ _ h (by kernel_rfl)
   | cons x10 t1 =>
     rw [laws_eqRepS_l1] at h
     have hLc1 := dcons hd1
     have hx10 := dget hd1
     have hi1 := dinc hd1 hl1
     refine runs_seq ?_
     refine sqr cv hn ?_
     refine ro9 0 4 4 ⟨[(14, zB (decide ((i1 : Int) < (a0.length : Int)))), (13, zI (a0.length : Int)), (12, .sl 0 (List.map encRep a0)), (11, zI (i1 : Int)), (5, zI (i1 : Int)), (0, .sl 0 (List.map encRep a0)), (1, .sl 0 (List.map encRep a1))], []⟩ ?_ (he := by rw [show (a0.length : Int) = ((List.map encRep a0).length : Int) from by rw [List.length_map]]; kernel_rfl)
     refine ct hLc1 ?_
     refine runs_skip ?_
     refine runs_seq ?_
     refine runs_block ?_
     refine runs_seq ?_
     refine rgT cv mixed hn ?_
     refine roT 0 2 2 ⟨[(18, zI (i1 : Int)), (17, .sl 0 (List.map encRep a0)), (14, zB (decide ((i1 : Int) < (a0.length : Int)))), (13, zI (a0.length : Int)), (12, .sl 0 (List.map encRep a0)), (11, zI (i1 : Int)), (5, zI (i1 : Int)), (0, .sl 0 (List.map encRep a0)), (1, .sl 0 (List.map encRep a1))], []⟩ ?_
     refine rixT 2 encRep 110 hx10 (ix_nn hx10) ⟨[(19, .rp (encRep x10) 0), (18, zI (i1 : Int)), (17, .sl 0 (List.map encRep a0)), (14, zB (decide ((i1 : Int) < (a0.length : Int)))), (13, zI (a0.length : Int)), (12, .sl 0 (List.map encRep a0)), (11, zI (i1 : Int)), (5, zI (i1 : Int)), (0, .sl 0 (List.map encRep a0)), (1, .sl 0 (List.map encRep a1))], []⟩ ?_
     refine roT 3 3 3 ⟨[(22, zI (i1 : Int)), (21, .sl 0 (List.map encRep a1)), (20, encRep x10), (19, .rp (encRep x10) 0), (18, zI (i1 : Int)), (17, .sl 0 (List.map encRep a0)), (14, zB (decide ((i1 : Int) < (a0.length : Int)))), (13, zI (a0.length : Int)), (12, .sl 0 (List.map encRep a0)), (11, zI (i1 : Int)), (5, zI (i1 : Int)), (0, .sl 0 (List.map encRep a0)), (1, .sl 0 (List.map encRep a1))], []⟩ ?_
     obtain ⟨x24, hx25, h⟩ := bindO h
     refine rixT 6 encRep 110 hx25 (ix_nn hx25) ⟨[(23, .rp (encRep x24) 0), (22, zI (i1 : Int)), (21, .sl 0 (List.map encRep a1)), (20, encRep x10), (19, .rp (encRep x10) 0), (18, zI (i1 : Int)), (17, .sl 0 (List.map encRep a0)), (14, zB (decide ((i1 : Int) < (a0.length : Int)))), (13, zI (a0.length : Int)), (12, .sl 0 (List.map encRep a0)), (11, zI (i1 : Int)), (5, zI (i1 : Int)), (0, .sl 0 (List.map encRep a0)), (1, .sl 0 (List.map encRep a1))], []⟩ ?_
     refine roT 7 1 1 ⟨[(24, encRep x24), (23, .rp (encRep x24) 0), (22, zI (i1 : Int)), (21, .sl 0 (List.map encRep a1)), (20, encRep x10), (19, .rp (encRep x10) 0), (18, zI (i1 : Int)), (17, .sl 0 (List.map encRep a0)), (14, zB (decide ((i1 : Int) < (a0.length : Int)))), (13, zI (a0.length : Int)), (12, .sl 0 (List.map encRep a0)), (11, zI (i1 : Int)), (5, zI (i1 : Int)), (0, .sl 0 (List.map encRep a0)), (1, .sl 0 (List.map encRep a1))], []⟩ ?_
     obtain ⟨v26, hv27, h⟩ := bindO h
     refine rcT 8 ⟨[(25, zB v26), (24, encRep x24), (23, .rp (encRep x24) 0), (22, zI (i1 : Int)), (21, .sl 0 (List.map encRep a1)), (20, encRep x10), (19, .rp (encRep x10) 0), (18, zI (i1 : Int)), (17, .sl 0 (List.map encRep a0)), (14, zB (decide ((i1 : Int) < (a0.length : Int)))), (13, zI (a0.length : Int)), (12, .sl 0 (List.map encRep a0)), (11, zI (i1 : Int)), (5, zI (i1 : Int)), (0, .sl 0 (List.map encRep a0)), (1, .sl 0 (List.map encRep a1))], []⟩ (laws_eqRep_spec x10 x24 v26 hv27) ?_
     refine roT9 9 1 1 ⟨[(26, zB (!v26)), (25, zB v26), (24, encRep x24), (23, .rp (encRep x24) 0), (22, zI (i1 : Int)), (21, .sl 0 (List.map encRep a1)), (20, encRep x10), (19, .rp (encRep x10) 0), (18, zI (i1 : Int)), (17, .sl 0 (List.map encRep a0)), (14, zB (decide ((i1 : Int) < (a0.length : Int)))), (13, zI (a0.length : Int)), (12, .sl 0 (List.map encRep a0)), (11, zI (i1 : Int)), (5, zI (i1 : Int)), (0, .sl 0 (List.map encRep a0)), (1, .sl 0 (List.map encRep a1))], []⟩ ?_
     rcases dich (!v26) with hb28 | hb28
     · replace h := cond_t hb28 h
       refine ct hb28 ?_
       refine sqr cv hn ?_
       refine ro9 0 1 1 ⟨[(4, zB false), (26, zB (!v26)), (25, zB v26), (24, encRep x24), (23, .rp (encRep x24) 0), (22, zI (i1 : Int)), (21, .sl 0 (List.map encRep a1)), (20, encRep x10), (19, .rp (encRep x10) 0), (18, zI (i1 : Int)), (17, .sl 0 (List.map encRep a0)), (14, zB (decide ((i1 : Int) < (a0.length : Int)))), (13, zI (a0.length : Int)), (12, .sl 0 (List.map encRep a0)), (11, zI (i1 : Int)), (5, zI (i1 : Int)), (0, .sl 0 (List.map encRep a0)), (1, .sl 0 (List.map encRep a1))], []⟩ ?_
       refine runs_ret ?_
       exact fin _ _ h (by kernel_rfl)
     · replace h := cond_f hb28 h
       refine cf hb28 ?_
       refine runs_skip ?_
       refine rg cv hn ?_
       refine ro9 0 3 3 ⟨[(5, zI ((i1 + 1 : Nat) : Int)), (16, zI ((i1 + 1 : Nat) : Int)), (15, zI (i1 : Int)), (26, zB (!v26)), (25, zB v26), (24, encRep x24), (23, .rp (encRep x24) 0), (22, zI (i1 : Int)), (21, .sl 0 (List.map encRep a1)), (20, encRep x10), (19, .rp (encRep x10) 0), (18, zI (i1 : Int)), (17, .sl 0 (List.map encRep a0)), (14, zB (decide ((i1 : Int) < (a0.length : Int)))), (13, zI (a0.length : Int)), (12, .sl 0 (List.map encRep a0)), (11, zI (i1 : Int)), (5, zI (i1 : Int)), (0, .sl 0 (List.map encRep a0)), (1, .sl 0 (List.map encRep a1))], []⟩ ?_ (he := by rw [← hi1]; kernel_rfl)
       exact ⟨(t1, i1 + 1), Nat.lt_succ_self _, ⟨dnext hd1, h⟩, wre [5, 0, 1] []⟩

set_option maxRecDepth 100000 in
set_option maxHeartbeats 2000000 in
theorem laws_eqAcct_spec (a0 : SAcct) (a1 : SAcct) (v0 : Bool) (h : laws_eqAcct a0 a1 = some v0) : Ax.Spec Try.prog 46 none [encAcct0 a0, encAcct0 a1] (zB v0 : X) (.junk : X) := by
 let T1 : List (Nat × X) := [(0, encAcct0 a0), (1, encAcct0 a1)]
 refine walk0 (fn := Try.f46) (fun q0 : Bool => (zB q0 : X)) (fun q0 : Bool => (.junk : X)) v0 ⟨T1, []⟩ Try.func46 rfl (by decide +kernel) fun Γ hn fin => ?_
 rw [laws_eqAcct] at h
 refine sqr cv hn ?_
 refine ro9 0 3 3 ⟨(4, zB false) :: (3, .ptr 3 1 0) :: (2, .ptr 2 1 0) :: T1, [(3, ⟨1, 1, true, some (encAcct0 a1)⟩), (2, ⟨1, 1, true, some (encAcct0 a0)⟩)]⟩ ?_
 refine runs_seq ?_
 refine sqr cv hn ?_
 refine ro9 0 5 5 ⟨(9, zB (a0.fHave != a1.fHave)) :: (8, zI a1.fHave) :: (7, .ptr 3 1 0) :: (6, zI a0.fHave) :: (5, .ptr 2 1 0) :: (4, zB false) :: (3, .ptr 3 1 0) :: (2, .ptr 2 1 0) :: T1, [(3, ⟨1, 1, true, some (encAcct0 a1)⟩), (2, ⟨1, 1, true, some (encAcct0 a0)⟩)]⟩ ?_
 rcases dich (a0.fHave != a1.fHave) with hb2 | hb2
 · replace h := cond_t hb2 h
   refine ct hb2 ?_
   let T3 : List (Nat × X) := [(3, .ptr 3 0 0), (2, .ptr 2 0 0)]
   let B3 : List (Nat × Bx) := [(3, ⟨0, 0, true, some (encAcct0 a1)⟩), (2, ⟨0, 0, true, some (encAcct0 a0)⟩)]
   refine wkr [3, 2] [(3, 3, false), (2, 2, false)] ⟨T3, B3⟩ ?_
   refine sqr cv hn ?_
   refine ro9 0 1 1 ⟨(4, zB false) :: T3, B3⟩ ?_
   refine runs_ret ?_
   exact fin _ _ h (by kernel_rfl)
 · replace h := cond_f hb2 h
   refine cf hb2 ?_
   refine runs_skip ?_
   refine runs_seq ?_
   let T6 : List (Nat × X) := [(3, .ptr 3 0 0), (2, .ptr 2 0 0)]
   let B6 : List (Nat × Bx) := [(3, ⟨0, 0, true, some (encAcct0 a1)⟩), (2, ⟨0, 0, true, some (encAcct0 a0)⟩)]
   refine wkr [3, 2] [(3, 3, false), (2, 2, false)] ⟨T6, B6⟩ ?_
   refine sqr cv hn ?_
   refine ro9 0 5 5 ⟨(14, zB (a0.fState != a1.fState)) :: (13, zI a1.fState) :: (12, .ptr 3 0 1) :: (11, zI a0.fState) :: (10, .ptr 2 0 1) :: T6, B6⟩ ?_
   rcases dich (a0.fState != a1.fState) with hb4 | hb4
   · replace h := cond_t hb4 h
     refine ct hb4 ?_
     let T7 : List (Nat × X) := [(3, .ptr 3 0 0), (2, .ptr 2 0 0)]
     let B7 : List (Nat × Bx) := [(3, ⟨0, 0, true, some (encAcct0 a1)⟩), (2, ⟨0, 0, true, some (encAcct0 a0)⟩)]
     refine wkr [3, 2] [(3, 3, false), (2, 2, false)] ⟨T7, B7⟩ ?_
     refine sqr cv hn ?_
     refine ro9 0 1 1 ⟨(4, zB false) :: T7, B7⟩ ?_
     refine runs_ret ?_
     exact fin _ _ h (by kernel_rfl)
   · replace h := cond_f hb4 h
     refine cf hb4 ?_
     refine runs_skip ?_
     refine runs_seq ?_
     let T10 : List (Nat × X) := [(3, .ptr 3 0 0), (2, .ptr 2 0 0)]
     let B10 : List (Nat × Bx) := [(3, ⟨0, 0, true, some (encAcct0 a1)⟩), (2, ⟨0, 0, true, some (encAcct0 a0)⟩)]
     refine wkr [3, 2] [(3, 3, false), (2, 2, false)] ⟨T10, B10⟩ ?_
     refine sqr cv hn ?_
     refine ro9 0 5 5 ⟨(19, zB (a0.fBy != a1.fBy)) :: (18, zI a1.fBy) :: (17, .ptr 3 0 2) :: (16, zI a0.fBy) :: (15, .ptr 2 0 2) :: T10, B10⟩ ?_
     rcases dich (a0.fBy != a1.fBy) with hb6 | hb6
     · replace h := cond_t hb6 h
       refine ct hb6 ?_
       let T11 : List (Nat × X) := [(3, .ptr 3 0 0), (2, .ptr 2 0 0)]
       let B11 : List (Nat × Bx) := [(3, ⟨0, 0, true, some (encAcct0 a1)⟩), (2, ⟨0, 0, true, some (encAcct0 a0)⟩)]
       refine wkr [3, 2] [(3, 3, false), (2, 2, false)] ⟨T11, B11⟩ ?_
       refine sqr cv hn ?_
       refine ro9 0 1 1 ⟨(4, zB false) :: T11, B11⟩ ?_
       refine runs_ret ?_
       exact fin _ _ h (by kernel_rfl)
     · replace h := cond_f hb6 h
       refine cf hb6 ?_
       refine runs_skip ?_
       refine runs_seq ?_
       let T14 : List (Nat × X) := [(3, .ptr 3 0 0), (2, .ptr 2 0 0)]
       let B14 : List (Nat × Bx) := [(3, ⟨0, 0, true, some (encAcct0 a1)⟩), (2, ⟨0, 0, true, some (encAcct0 a0)⟩)]
       refine wkr [3, 2] [(3, 3, false), (2, 2, false)] ⟨T14, B14⟩ ?_
       refine sqr cv hn ?_
       refine ro 0 4 4 ⟨(23, .sl 0 (List.map encInt a1.fMarks)) :: (22, .ptr 3 0 3) :: (21, .sl 0 (List.map encInt a0.fMarks)) :: (20, .ptr 2 0 3) :: T14, B14⟩ ?_
       obtain ⟨v10, hv11, h⟩ := bindO h
       refine rc 4 ⟨(24, zB v10) :: (23, .sl 0 (List.map encInt a1.fMarks)) :: (22, .ptr 3 0 3) :: (21, .sl 0 (List.map encInt a0.fMarks)) :: (20, .ptr 2 0 3) :: T14, B14⟩ (laws_eqIntS_spec a0.fMarks a1.fMarks v10 hv11) ?_
       refine ro9 5 1 1 ⟨(25, zB (!v10)) :: (24, zB v10) :: (23, .sl 0 (List.map encInt a1.fMarks)) :: (22, .ptr 3 0 3) :: (21, .sl 0 (List.map encInt a0.fMarks)) :: (20, .ptr 2 0 3) :: T14, B14⟩ ?_
       rcases dich (!v10) with hb12 | hb12
       · replace h := cond_t hb12 h
         refine ct hb12 ?_
         let T15 : List (Nat × X) := [(3, .ptr 3 0 0), (2, .ptr 2 0 0)]
         let B15 : List (Nat × Bx) := [(3, ⟨0, 0, true, some (encAcct0 a1)⟩), (2, ⟨0, 0, true, some (encAcct0 a0)⟩)]
         refine wkr [3, 2] [(3, 3, false), (2, 2, false)] ⟨T15, B15⟩ ?_
         refine sqr cv hn ?_
         refine ro9 0 1 1 ⟨(4, zB false) :: T15, B15⟩ ?_
         refine runs_ret ?_
         exact fin _ _ h (by kernel_rfl)
       · replace h := cond_f hb12 h
         refine cf hb12 ?_
         refine runs_skip ?_
         refine runs_seq ?_
         let T16 : List (Nat × X) := [(3, .ptr 3 0 0), (2, .ptr 2 0 0)]
         let B16 : List (Nat × Bx) := [(3, ⟨0, 0, true, some (encAcct0 a1)⟩), (2, ⟨0, 0, true, some (encAcct0 a0)⟩)]
         refine wkr [3, 2] [(3, 3, false), (2, 2, false)] ⟨T16, B16⟩ ?_
         refine sqr cv hn ?_
         refine ro 0 4 4 ⟨(29, .sl 0 (List.map encRep a1.fReps)) :: (28, .ptr 3 0 4) :: (27, .sl 0 (List.map encRep a0.fReps)) :: (26, .ptr 2 0 4) :: T16, B16⟩ ?_
         obtain ⟨v13, hv14, h⟩ := bindO h
         refine rc 4 ⟨(30, zB v13) :: (29, .sl 0 (List.map encRep a1.fReps)) :: (28, .ptr 3 0 4) :: (27, .sl 0 (List.map encRep a0.fReps)) :: (26, .ptr 2 0 4) :: T16, B16⟩ (laws_eqRepS_spec a0.fReps a1.fReps v13 hv14) ?_
         refine ro9 5 1 1 ⟨(31, zB (!v13)) :: (30, zB v13) :: (29, .sl 0 (List.map encRep a1.fReps)) :: (28, .ptr 3 0 4) :: (27, .sl 0 (List.map encRep a0.fReps)) :: (26, .ptr 2 0 4) :: T16, B16⟩ ?_
         rcases dich (!v13) with hb15 | hb15
         · replace h := cond_t hb15 h
           refine ct hb15 ?_
           refine wkr [] [] ⟨[], []⟩ ?_
           refine sqr cv hn ?_
           refine ro9 0 1 1 ⟨[(4, zB false)], []⟩ ?_
           refine runs_ret ?_
           exact fin _ _ h (by kernel_rfl)
         · replace h := cond_f hb15 h
           refine cf hb15 ?_
           refine runs_skip ?_
           refine wkr [] [] ⟨[], []⟩ ?_
           refine sqr cv hn ?_
           refine ro9 0 1 1 ⟨[(4, zB true)], []⟩ ?_
           refine runs_ret ?_
           exact fin _ _ h (by kernel_rfl)

set_option maxRecDepth 100000 in
set_option maxHeartbeats 2000000 in
theorem spec_l01Same_spec (a0 : (List Int)) (a1 : (List Int)) (v0 : Bool) (h : spec_l01Same a0 a1 = some v0) : Ax.Spec Try.prog 91 none [.sl 0 (List.map encInt a0), .sl 0 (List.map encInt a1)] (zB v0 : X) (.junk : X) := by
 let T1 : List (Nat × X) := [(0, .sl 0 (List.map encInt a0)), (1, .sl 0 (List.map encInt a1))]
 refine walk0 (fn := Try.f91) (fun q0 : Bool => (zB q0 : X)) (fun q0 : Bool => (.junk : X)) v0 ⟨T1, []⟩ Try.func91 rfl (by decide +kernel) fun Γ hn fin => ?_
 rw [spec_l01Same] at h
 refine sqr cv hn ?_
 refine ro9 0 1 1 ⟨(4, zB false) :: T1, []⟩ ?_
 refine runs_seq ?_
 refine sqr cv hn ?_
 refine ro9 0 5 5 ⟨(10, zB ((a0.length : Int) != (a1.length : Int))) :: (9, zI (a1.length : Int)) :: (8, .sl 0 (List.map encInt a1)) :: (7, zI (a0.length : Int)) :: (6, .sl 0 (List.map encInt a0)) :: (4, zB false) :: T1, []⟩ ?_ (he := by rw [show (a0.length : Int) = ((List.map encInt a0).length : Int) from by rw [List.length_map]]; rw [show (a1.length : Int) = ((List.map encInt a1).length : Int) from by rw [List.length_map]]; kernel_rfl)
 rcases dich ((a0.length : Int) != (a1.length : Int)) with hb2 | hb2
 · replace h := cond_t hb2 h
   refine ct hb2 ?_
   let T3 : List (Nat × X) := [(0, .sl 0 (List.map encInt a0)), (1, .sl 0 (List.map encInt a1))]
   refine wkr [0, 1] [] ⟨T3, []⟩ ?_
   refine sqr cv hn ?_
   refine ro9 0 1 1 ⟨(4, zB false) :: T3, []⟩ ?_
   refine runs_ret ?_
   exact fin _ _ h (by kernel_rfl)
 · replace h := cond_f hb2 h
   refine cf hb2 ?_
   refine runs_skip ?_
   refine runs_seq ?_
   let T5 : List (Nat × X) := [(0, .sl 0 (List.map encInt a0)), (1, .sl 0 (List.map encInt a1))]
   refine wkr [0, 1] [] ⟨T5, []⟩ ?_
   refine sqr cv hn ?_
   refine ro9 0 3 3 ⟨(13, zI 0) :: (12, zI (a0.length : Int)) :: (11, .sl 0 (List.map encInt a0)) :: T5, []⟩ ?_ (he := by rw [show (a0.length : Int) = ((List.map encInt a0).length : Int) from by rw [List.length_map]]; kernel_rfl)
   refine runs_block ?_
   refine runs_loopM (σ := List Int × Nat) (fun s => ⟨[(13, zI (s.2 : Int)), (12, zI (a0.length : Int)), (0, .sl 0 (List.map encInt a0)), (1, .sl 0 (List.map encInt a1))], []⟩) (fun s => s.1 = List.drop s.2 a0 ∧ spec_l01Same_l1 a1 s.1 s.2 = some v0) (fun s => s.1.length) (a0, 0) ⟨rfl, h⟩ (wre [13, 12, 0, 1] []) ?_
   rintro ⟨t1, i1⟩ ⟨hd1, h⟩
   refine seq0 ⟨[(13, zI (i1 : Int)), (12, zI (a0.length : Int)), (0, .sl 0 (List.map encInt a0)), (1, .sl 0 (List.map encInt a1))], []⟩ ?_
   refine runs_len 0 (es := List.map encInt a0) (by kernel_rfl) fun hl1 => ?_
   replace hl1 := len_of_map hl1
   cases t1 with
   | nil =>
     rw [spec_l01Same_l1] at h
     have hLn1 := dnil hd1
     refine sqr cv hn ?_
     refine ro9 0 1 1 ⟨[(14, zB (decide ((i1 : Int) < (a0.length : Int)))), (13, zI (i1 : Int)), (12, zI (a0.length : Int)), (0, .sl 0 (List.map encInt a0)), (1, .sl 0 (List.map encInt a1))], []⟩ ?_
     refine runs_seq ?_
     refine cf hLn1 ?_
     refine runs_exit ?_
     repeat refine thenX_exit ?_
     refine block_here ?_
     refine wkr [] [] ⟨[], []⟩ ?_
     refine sqr cv hn ?_
     refine ro9 0 1 1 ⟨[(4, zB true)], []⟩ ?_
     refine runs_ret ?_
     exact fin _ _ h (by kernel_rfl)
   | cons x10 t1 =>
     rw [spec_l01Same_l1] at h
     have hLc1 := dcons hd1
     have hx10 := dget hd1
     have hi1 := dinc hd1 hl1
     refine sqr cv hn ?_
     refine ro9 0 1 1 ⟨[(14, zB (decide ((i1 : Int) < (a0.length : Int)))), (13, zI (i1 : Int)), (12, zI (a0.length : Int)), (0, .sl 0 (List.map encInt a0)), (1, .sl 0 (List.map encInt a1))], []⟩ ?_
     refine runs_seq ?_
     refine ct hLc1 ?_
     refine runs_skip ?_
     refine runs_seq ?_
     refine runs_block ?_
     refine sqr cv hn ?_
     refine ro9 0 2 2 ⟨[(5, zI (i1 : Int)), (15, zI (i1 : Int)), (14, zB (decide ((i1 : Int) < (a0.length : Int)))), (13, zI (i1 : Int)), (12, zI (a0.length : Int)), (0, .sl 0 (List.map encInt a0)), (1, .sl 0 (List.map encInt a1))], []⟩ ?_
     refine runs_seq ?_
     refine rgT cv mixed hn ?_
     refine roT 0 2 2 ⟨[(17, zI (i1 : Int)), (16, .sl 0 (List.map encInt a0)), (5, zI (i1 : Int)), (15, zI (i1 : Int)), (14, zB (decide ((i1 : Int) < (a0.length : Int)))), (13, zI (i1 : Int)), (12, zI (a0.length : Int)), (0, .sl 0 (List.map encInt a0)), (1, .sl 0 (List.map encInt a1))], []⟩ ?_
     refine rixT 2 encInt 3 hx10 (ix_nn hx10) ⟨[(18, .rp (zI x10) 0), (17, zI (i1 : Int)), (16, .sl 0 (List.map encInt a0)), (5, zI (i1 : Int)), (15, zI (i1 : Int)), (14, zB (decide ((i1 : Int) < (a0.length : Int)))), (13, zI (i1 : Int)), (12, zI (a0.length : Int)), (0, .sl 0 (List.map encInt a0)), (1, .sl 0 (List.map encInt a1))], []⟩ ?_
     refine roT 3 3 3 ⟨[(21, zI (i1 : Int)), (20, .sl 0 (List.map encInt a1)), (19, zI x10), (18, .rp (zI x10) 0), (17, zI (i1 : Int)), (16, .sl 0 (List.map encInt a0)), (5, zI (i1 : Int)), (15, zI (i1 : Int)), (14, zB (decide ((i1 : Int) < (a0.length : Int)))), (13, zI (i1 : Int)), (12, zI (a0.length : Int)), (0, .sl 0 (List.map encInt a0)), (1, .sl 0 (List.map encInt a1))], []⟩ ?_
     obtain ⟨x20, hx21, h⟩ := bindO h
     refine rixT 6 encInt 3 hx21 (ix_nn hx21) ⟨[(22, .rp (zI x20) 0), (21, zI (i1 : Int)), (20, .sl 0 (List.map encInt a1)), (19, zI x10), (18, .rp (zI x10) 0), (17, zI (i1 : Int)), (16, .sl 0 (List.map encInt a0)), (5, zI (i1 : Int)), (15, zI (i1 : Int)), (14, zB (decide ((i1 : Int) < (a0.length : Int)))), (13, zI (i1 : Int)), (12, zI (a0.length : Int)), (0, .sl 0 (List.map encInt a0)), (1, .sl 0 (List.map encInt a1))], []⟩ ?_
     refine roT9 7 2 2 ⟨[(24, zB (x10 != x20)), (23, zI x20), (22, .rp (zI x20) 0), (21, zI (i1 : Int)), (20, .sl 0 (List.map encInt a1)), (19, zI x10), (18, .rp (zI x10) 0), (17, zI (i1 : Int)), (16, .sl 0 (List.map encInt a0)), (5, zI (i1 : Int)), (15, zI (i1 : Int)), (14, zB (decide ((i1 : Int) < (a0.length : Int)))), (13, zI (i1 : Int)), (12, zI (a0.length : Int)), (0, .sl 0 (List.map encInt a0)), (1, .sl 0 (List.map encInt a1))], []⟩ ?_
     rcases dich (x10 != x20) with hb22 | hb22
     · replace h := cond_t hb22 h
       refine ct hb22 ?_
       refine sqr cv hn ?_
       refine ro9 0 1 1 ⟨[(4, zB false), (24, zB (x10 != x20)), (23, zI x20), (22, .rp (zI x20) 0), (21, zI (i1 : Int)), (20, .sl 0 (List.map encInt a1)), (19, zI x10), (18, .rp (zI x10) 0), (17, zI (i1 : Int)), (16, .sl 0 (List.map encInt a0)), (5, zI (i1 : Int)), (15, zI (i1 : Int)), (14, zB (decide ((i1 : Int) < (a0.length : Int)))), (13, zI (i1 : Int)), (12, zI (a0.length : Int)), (0, .sl 0 (List.map encInt a0)), (1, .sl 0 (List.map encInt a1))], []⟩ ?_
       refine runs_ret ?_
       exact fin _ _ h (by kernel_rfl)
     · replace h := cond_f hb22 h
       refine cf hb22 ?_
       refine runs_skip ?_
       refine rg cv hn ?_
       refine ro9 0 2 2 ⟨[(13, zI ((i1 + 1 : Nat) : Int)), (25, zI ((i1 + 1 : Nat) : Int)), (24, zB (x10 != x20)), (23, zI x20), (22, .rp (zI x20) 0), (21, zI (i1 : Int)), (20, .sl 0 (List.map encInt a1)), (19, zI x10), (18, .rp (zI x10) 0), (17, zI (i1 : Int)), (16, .sl 0 (List.map encInt a0)), (5, zI (i1 : Int)), (15, zI (i1 : Int)), (14, zB (decide ((i1 : Int) < (a0.length : Int)))), (13, zI (i1 : Int)), (12, zI (a0.length : Int)), (0, .sl 0 (List.map encInt a0)), (1, .sl 0 (List.map encInt a1))], []⟩ ?_ (he := by rw [← hi1]; kernel_rfl)
       exact ⟨(t1, i1 + 1), Nat.lt_succ_self _, ⟨dnext hd1, h⟩, wre [13, 12, 0, 1] []⟩

set_option maxRecDepth 100000 in
set_option maxHeartbeats 2000000 in
theorem spec_AcctSame_spec (a0 : SAcct) (a1 : SAcct) (v0 : Bool) (h : spec_AcctSame a0 a1 = some v0) : Ax.Spec Try.prog 47 none [encAcct0 a0, encAcct0 a1] (zB v0 : X) (.junk : X) := by
 let T1 : List (Nat × X) := [(0, encAcct0 a0), (1, encAcct0 a1)]
 refine walk0 (fn := Try.f47) (fun q0 : Bool => (zB q0 : X)) (fun q0 : Bool => (.junk : X)) v0 ⟨T1, []⟩ Try.func47 rfl (by decide +kernel) fun Γ hn fin => ?_
 rw [spec_AcctSame] at h
 refine sqr cv hn ?_
 refine ro9 0 3 3 ⟨(4, zB false) :: (3, .ptr 3 1 0) :: (2, .ptr 2 1 0) :: T1, [(3, ⟨1, 1, true, some (encAcct0 a1)⟩), (2, ⟨1, 1, true, some (encAcct0 a0)⟩)]⟩ ?_
 refine runs_seq ?_
 refine sqr cv hn ?_
 refine ro 0 6 6 ⟨(12, zB (a0.fHave != a1.fHave)) :: (11, zB (a0.fHave != a1.fHave)) :: (10, zI a1.fHave) :: (9, .ptr 3 1 0) :: (8, zI a0.fHave) :: (7, .ptr 2 1 0) :: (4, zB false) :: (3, .ptr 3 1 0) :: (2, .ptr 2 1 0) :: T1, [(3, ⟨1, 1, true, some (encAcct0 a1)⟩), (2, ⟨1, 1, true, some (encAcct0 a0)⟩)]⟩ ?_
 rcases dich (a0.fHave != a1.fHave) with hb8 | hb8
 · replace h := cond_t hb8 h
   refine rl 12 true hb8 ?_
   refine ro9 6 30 7 ⟨(42, zB true) :: (41, .tup []) :: (40, .tup []) :: (39, .tup []) :: (38, .tup []) :: (37, .tup []) :: (36, .tup []) :: (35, .tup []) :: (34, zB true) :: (33, zB true) :: (32, .tup []) :: (31, .tup []) :: (30, .tup []) :: (29, .tup []) :: (28, .tup []) :: (27, .tup []) :: (26, zB true) :: (25, zB true) :: (24, .tup []) :: (23, .tup []) :: (22, .tup []) :: (21, .tup []) :: (20, .tup []) :: (19, zB true) :: (18, zB true) :: (17, .tup []) :: (16, .tup []) :: (15, .tup []) :: (14, .tup []) :: (13, .tup []) :: (12, zB true) :: (11, zB (a0.fHave != a1.fHave)) :: (10, zI a1.fHave) :: (9, .ptr 3 1 0) :: (8, zI a0.fHave) :: (7, .ptr 2 1 0) :: (4, zB false) :: (3, .ptr 3 1 0) :: (2, .ptr 2 1 0) :: T1, [(3, ⟨1, 1, true, some (encAcct0 a1)⟩), (2, ⟨1, 1, true, some (encAcct0 a0)⟩)]⟩ ?_
   refine cT ?_
   let T7 : List (Nat × X) := [(3, .ptr 3 0 0), (2, .ptr 2 0 0)]
   let B7 : List (Nat × Bx) := [(3, ⟨0, 0, true, some (encAcct0 a1)⟩), (2, ⟨0, 0, true, some (encAcct0 a0)⟩)]
   refine wkr [3, 2] [(3, 3, false), (2, 2, false)] ⟨T7, B7⟩ ?_
   refine sqr cv hn ?_
   refine ro9 0 1 1 ⟨(4, zB false) :: T7, B7⟩ ?_
   refine runs_ret ?_
   exact fin _ _ h (by kernel_rfl)
 · replace h := cond_f hb8 h
   refine rl 12 false hb8 ?_
   refine ro 6 7 7 ⟨(19, zB (a0.fState != a1.fState)) :: (18, zB (a0.fState != a1.fState)) :: (17, zB (a0.fState != a1.fState)) :: (16, zI a1.fState) :: (15, .ptr 3 1 1) :: (14, zI a0.fState) :: (13, .ptr 2 1 1) :: (12, zB false) :: (11, zB (a0.fHave != a1.fHave)) :: (10, zI a1.fHave) :: (9, .ptr 3 1 0) :: (8, zI a0.fHave) :: (7, .ptr 2 1 0) :: (4, zB false) :: (3, .ptr 3 1 0) :: (2, .ptr 2 1 0) :: T1, [(3, ⟨1, 1, true, some (encAcct0 a1)⟩), (2, ⟨1, 1, true, some (encAcct0 a0)⟩)]⟩ ?_
   rcases dich (a0.fState != a1.fState) with hb9 | hb9
   · replace h := cond_t hb9 h
     refine rl 19 true hb9 ?_
     refine ro9 13 23 5 ⟨(42, zB true) :: (41, .tup []) :: (40, .tup []) :: (39, .tup []) :: (38, .tup []) :: (37, .tup []) :: (36, .tup []) :: (35, .tup []) :: (34, zB true) :: (33, zB true) :: (32, .tup []) :: (31, .tup []) :: (30, .tup []) :: (29, .tup []) :: (28, .tup []) :: (27, .tup []) :: (26, zB true) :: (25, zB true) :: (24, .tup []) :: (23, .tup []) :: (22, .tup []) :: (21, .tup []) :: (20, .tup []) :: (19, zB true) :: (18, zB (a0.fState != a1.fState)) :: (17, zB (a0.fState != a1.fState)) :: (16, zI a1.fState) :: (15, .ptr 3 1 1) :: (14, zI a0.fState) :: (13, .ptr 2 1 1) :: (12, zB false) :: (11, zB (a0.fHave != a1.fHave)) :: (10, zI a1.fHave) :: (9, .ptr 3 1 0) :: (8, zI a0.fHave) :: (7, .ptr 2 1 0) :: (4, zB false) :: (3, .ptr 3 1 0) :: (2, .ptr 2 1 0) :: T1, [(3, ⟨1, 1, true, some (encAcct0 a1)⟩), (2, ⟨1, 1, true, some (encAcct0 a0)⟩)]⟩ ?_
     refine cT ?_
     let T8 : List (Nat × X) := [(3, .ptr 3 0 0), (2, .ptr 2 0 0)]
     let B8 : List (Nat × Bx) := [(3, ⟨0, 0, true, some (encAcct0 a1)⟩), (2, ⟨0, 0, true, some (encAcct0 a0)⟩)]
     refine wkr [3, 2] [(3, 3, false), (2, 2, false)] ⟨T8, B8⟩ ?_
     refine sqr cv hn ?_
     refine ro9 0 1 1 ⟨(4, zB false) :: T8, B8⟩ ?_
     refine runs_ret ?_
     exact fin _ _ h (by kernel_rfl)
   · replace h := cond_f hb9 h
     refine rl 19 false hb9 ?_
     refine ro 13 7 7 ⟨(26, zB (a0.fBy != a1.fBy)) :: (25, zB (a0.fBy != a1.fBy)) :: (24, zB (a0.fBy != a1.fBy)) :: (23, zI a1.fBy) :: (22, .ptr 3 1 2) :: (21, zI a0.fBy) :: (20, .ptr 2 1 2) :: (19, zB false) :: (18, zB (a0.fState != a1.fState)) :: (17, zB (a0.fState != a1.fState)) :: (16, zI a1.fState) :: (15, .ptr 3 1 1) :: (14, zI a0.fState) :: (13, .ptr 2 1 1) :: (12, zB false) :: (11, zB (a0.fHave != a1.fHave)) :: (10, zI a1.fHave) :: (9, .ptr 3 1 0) :: (8, zI a0.fHave) :: (7, .ptr 2 1 0) :: (4, zB false) :: (3, .ptr 3 1 0) :: (2, .ptr 2 1 0) :: T1, [(3, ⟨1, 1, true, some (encAcct0 a1)⟩), (2, ⟨1, 1, true, some (encAcct0 a0)⟩)]⟩ ?_
     rcases dich (a0.fBy != a1.fBy) with hb10 | hb10
     · replace h := cond_t hb10 h
       refine rl 26 true hb10 ?_
       refine ro9 20 16 3 ⟨(42, zB true) :: (41, .tup []) :: (40, .tup []) :: (39, .tup []) :: (38, .tup []) :: (37, .tup []) :: (36, .tup []) :: (35, .tup []) :: (34, zB true) :: (33, zB true) :: (32, .tup []) :: (31, .tup []) :: (30, .tup []) :: (29, .tup []) :: (28, .tup []) :: (27, .tup []) :: (26, zB true) :: (25, zB (a0.fBy != a1.fBy)) :: (24, zB (a0.fBy != a1.fBy)) :: (23, zI a1.fBy) :: (22, .ptr 3 1 2) :: (21, zI a0.fBy) :: (20, .ptr 2 1 2) :: (19, zB false) :: (18, zB (a0.fState != a1.fState)) :: (17, zB (a0.fState != a1.fState)) :: (16, zI a1.fState) :: (15, .ptr 3 1 1) :: (14, zI a0.fState) :: (13, .ptr 2 1 1) :: (12, zB false) :: (11, zB (a0.fHave != a1.fHave)) :: (10, zI a1.fHave) :: (9, .ptr 3 1 0) :: (8, zI a0.fHave) :: (7, .ptr 2 1 0) :: (4, zB false) :: (3, .ptr 3 1 0) :: (2, .ptr 2 1 0) :: T1, [(3, ⟨1, 1, true, some (encAcct0 a1)⟩), (2, ⟨1, 1, true, some (encAcct0 a0)⟩)]⟩ ?_
       refine cT ?_
       let T9 : List (Nat × X) := [(3, .ptr 3 0 0), (2, .ptr 2 0 0)]
       let B9 : List (Nat × Bx) := [(3, ⟨0, 0, true, some (encAcct0 a1)⟩), (2, ⟨0, 0, true, some (encAcct0 a0)⟩)]
       refine wkr [3, 2] [(3, 3, false), (2, 2, false)] ⟨T9, B9⟩ ?_
       refine sqr cv hn ?_
       refine ro9 0 1 1 ⟨(4, zB false) :: T9, B9⟩ ?_
       refine runs_ret ?_
       exact fin _ _ h (by kernel_rfl)
     · replace h := cond_f hb10 h
       refine rl 26 false hb10 ?_
       refine ro 20 4 4 ⟨(30, .sl 0 (List.map encInt a1.fMarks)) :: (29, .ptr 3 1 3) :: (28, .sl 0 (List.map encInt a0.fMarks)) :: (27, .ptr 2 1 3) :: (26, zB false) :: (25, zB (a0.fBy != a1.fBy)) :: (24, zB (a0.fBy != a1.fBy)) :: (23, zI a1.fBy) :: (22, .ptr 3 1 2) :: (21, zI a0.fBy) :: (20, .ptr 2 1 2) :: (19, zB false) :: (18, zB (a0.fState != a1.fState)) :: (17, zB (a0.fState != a1.fState)) :: (16, zI a1.fState) :: (15, .ptr 3 1 1) :: (14, zI a0.fState) :: (13, .ptr 2 1 1) :: (12, zB false) :: (11, zB (a0.fHave != a1.fHave)) :: (10, zI a1.fHave) :: (9, .ptr 3 1 0) :: (8, zI a0.fHave) :: (7, .ptr 2 1 0) :: (4, zB false) :: (3, .ptr 3 1 0) :: (2, .ptr 2 1 0) :: T1, [(3, ⟨1, 1, true, some (encAcct0 a1)⟩), (2, ⟨1, 1, true, some (encAcct0 a0)⟩)]⟩ ?_
       obtain ⟨v11, hv12, h⟩ := bindO h
       refine rc 24 ⟨(31, zB v11) :: (30, .sl 0 (List.map encInt a1.fMarks)) :: (29, .ptr 3 1 3) :: (28, .sl 0 (List.map encInt a0.fMarks)) :: (27, .ptr 2 1 3) :: (26, zB false) :: (25, zB (a0.fBy != a1.fBy)) :: (24, zB (a0.fBy != a1.fBy)) :: (23, zI a1.fBy) :: (22, .ptr 3 1 2) :: (21, zI a0.fBy) :: (20, .ptr 2 1 2) :: (19, zB false) :: (18, zB (a0.fState != a1.fState)) :: (17, zB (a0.fState != a1.fState)) :: (16, zI a1.fState) :: (15, .ptr 3 1 1) :: (14, zI a0.fState) :: (13, .ptr 2 1 1) :: (12, zB false) :: (11, zB (a0.fHave != a1.fHave)) :: (10, zI a1.fHave) :: (9, .ptr 3 1 0) :: (8, zI a0.fHave) :: (7, .ptr 2 1 0) :: (4, zB false) :: (3, .ptr 3 1 0) :: (2, .ptr 2 1 0) :: T1, [(3, ⟨1, 1, true, some (encAcct0 a1)⟩), (2, ⟨1, 1, true, some (encAcct0 a0)⟩)]⟩ (spec_l01Same_spec a0.fMarks a1.fMarks v11 hv12) ?_
       refine ro 25 3 3 ⟨(34, zB (!v11)) :: (33, zB (!v11)) :: (32, zB (!v11)) :: (31, zB v11) :: (30, .sl 0 (List.map encInt a1.fMarks)) :: (29, .ptr 3 1 3) :: (28, .sl 0 (List.map encInt a0.fMarks)) :: (27, .ptr 2 1 3) :: (26, zB false) :: (25, zB (a0.fBy != a1.fBy)) :: (24, zB (a0.fBy != a1.fBy)) :: (23, zI a1.fBy) :: (22, .ptr 3 1 2) :: (21, zI a0.fBy) :: (20, .ptr 2 1 2) :: (19, zB false) :: (18, zB (a0.fState != a1.fState)) :: (17, zB (a0.fState != a1.fState)) :: (16, zI a1.fState) :: (15, .ptr 3 1 1) :: (14, zI a0.fState) :: (13, .ptr 2 1 1) :: (12, zB false) :: (11, zB (a0.fHave != a1.fHave)) :: (10, zI a1.fHave) :: (9, .ptr 3 1 0) :: (8, zI a0.fHave) :: (7, .ptr 2 1 0) :: (4, zB false) :: (3, .ptr 3 1 0) :: (2, .ptr 2 1 0) :: T1, [(3, ⟨1, 1, true, some (encAcct0 a1)⟩), (2, ⟨1, 1, true, some (encAcct0 a0)⟩)]⟩ ?_
       rcases dich (!v11) with hb13 | hb13
       · replace h := cond_t hb13 h
         refine rl 34 true hb13 ?_
         refine ro9 28 8 1 ⟨(42, zB true) :: (41, .tup []) :: (40, .tup []) :: (39, .tup []) :: (38, .tup []) :: (37, .tup []) :: (36, .tup []) :: (35, .tup []) :: (34, zB true) :: (33, zB (!v11)) :: (32, zB (!v11)) :: (31, zB v11) :: (30, .sl 0 (List.map encInt a1.fMarks)) :: (29, .ptr 3 1 3) :: (28, .sl 0 (List.map encInt a0.fMarks)) :: (27, .ptr 2 1 3) :: (26, zB false) :: (25, zB (a0.fBy != a1.fBy)) :: (24, zB (a0.fBy != a1.fBy)) :: (23, zI a1.fBy) :: (22, .ptr 3 1 2) :: (21, zI a0.fBy) :: (20, .ptr 2 1 2) :: (19, zB false) :: (18, zB (a0.fState != a1.fState)) :: (17, zB (a0.fState != a1.fState)) :: (16, zI a1.fState) :: (15, .ptr 3 1 1) :: (14, zI a0.fState) :: (13, .ptr 2 1 1) :: (12, zB false) :: (11, zB (a0.fHave != a1.fHave)) :: (10, zI a1.fHave) :: (9, .ptr 3 1 0) :: (8, zI a0.fHave) :: (7, .ptr 2 1 0) :: (4, zB false) :: (3, .ptr 3 1 0) :: (2, .ptr 2 1 0) :: T1, [(3, ⟨1, 1, true, some (encAcct0 a1)⟩), (2, ⟨1, 1, true, some (encAcct0 a0)⟩)]⟩ ?_
         refine cT ?_
         let T10 : List (Nat × X) := [(3, .ptr 3 0 0), (2, .ptr 2 0 0)]
         let B10 : List (Nat × Bx) := [(3, ⟨0, 0, true, some (encAcct0 a1)⟩), (2, ⟨0, 0, true, some (encAcct0 a0)⟩)]
         refine wkr [3, 2] [(3, 3, false), (2, 2, false)] ⟨T10, B10⟩ ?_
         refine sqr cv hn ?_
         refine ro9 0 1 1 ⟨(4, zB false) :: T10, B10⟩ ?_
         refine runs_ret ?_
         exact fin _ _ h (by kernel_rfl)
       · replace h := cond_f hb13 h
         refine rl 34 false hb13 ?_
         refine ro9 28 8 8 ⟨(42, zB ((a0.fReps.length : Int) != (a1.fReps.length : Int))) :: (41, zB ((a0.fReps.length : Int) != (a1.fReps.length : Int))) :: (40, zI (a1.fReps.length : Int)) :: (39, .sl 0 (List.map encRep a1.fReps)) :: (38, .ptr 3 1 4) :: (37, zI (a0.fReps.length : Int)) :: (36, .sl 0 (List.map encRep a0.fReps)) :: (35, .ptr 2 1 4) :: (34, zB false) :: (33, zB (!v11)) :: (32, zB (!v11)) :: (31, zB v11) :: (30, .sl 0 (List.map encInt a1.fMarks)) :: (29, .ptr 3 1 3) :: (28, .sl 0 (List.map encInt a0.fMarks)) :: (27, .ptr 2 1 3) :: (26, zB false) :: (25, zB (a0.fBy != a1.fBy)) :: (24, zB (a0.fBy != a1.fBy)) :: (23, zI a1.fBy) :: (22, .ptr 3 1 2) :: (21, zI a0.fBy) :: (20, .ptr 2 1 2) :: (19, zB false) :: (18, zB (a0.fState != a1.fState)) :: (17, zB (a0.fState != a1.fState)) :: (16, zI a1.fState) :: (15, .ptr 3 1 1) :: (14, zI a0.fState) :: (13, .ptr 2 1 1) :: (12, zB false) :: (11, zB (a0.fHave != a1.fHave)) :: (10, zI a1.fHave) :: (9, .ptr 3 1 0) :: (8, zI a0.fHave) :: (7, .ptr 2 1 0) :: (4, zB false) :: (3, .ptr 3 1 0) :: (2, .ptr 2 1 0) :: T1, [(3, ⟨1, 1, true, some (encAcct0 a1)⟩), (2, ⟨1, 1, true, some (encAcct0 a0)⟩)]⟩ ?_ (he := by rw [show (a0.fReps.length : Int) = ((List.map encRep a0.fReps).length : Int) from by rw [List.length_map]]; rw [show (a1.fReps.length : Int) = ((List.map encRep a1.fReps).length : Int) from by rw [List.length_map]]; kernel_rfl)
         rcases dich ((a0.fReps.length : Int) != (a1.fReps.length : Int)) with hb14 | hb14
         · replace h := cond_t hb14 h
           refine ct hb14 ?_
           let T11 : List (Nat × X) := [(3, .ptr 3 0 0), (2, .ptr 2 0 0)]
           let B11 : List (Nat × Bx) := [(3, ⟨0, 0, true, some (encAcct0 a1)⟩), (2, ⟨0, 0, true, some (encAcct0 a0)⟩)]
           refine wkr [3, 2] [(3, 3, false), (2, 2, false)] ⟨T11, B11⟩ ?_
           refine sqr cv hn ?_
           refine ro9 0 1 1 ⟨(4, zB false) :: T11, B11⟩ ?_
           refine runs_ret ?_
           exact fin _ _ h (by kernel_rfl)
         · replace h := cond_f hb14 h
           refine cf hb14 ?_
           refine runs_skip ?_
           refine runs_seq ?_
           let T13 : List (Nat × X) := [(3, .ptr 3 0 0), (2, .ptr 2 0 0)]
           let B13 : List (Nat × Bx) := [(3, ⟨0, 0, true, some (encAcct0 a1)⟩), (2, ⟨0, 0, true, some (encAcct0 a0)⟩)]
           refine wkr [3, 2] [(3, 3, false), (2, 2, false)] ⟨T13, B13⟩ ?_
           refine sqr cv hn ?_
           refine ro9 0 4 4 ⟨(46, zI 0) :: (45, zI (a0.fReps.length : Int)) :: (44, .sl 0 (List.map encRep a0.fReps)) :: (43, .ptr 2 0 4) :: T13, B13⟩ ?_ (he := by rw [show (a0.fReps.length : Int) = ((List.map encRep a0.fReps).length : Int) from by rw [List.length_map]]; kernel_rfl)
           refine runs_block ?_
           refine runs_loopM (σ := List SRep × Nat) (fun s => ⟨[(46, zI (s.2 : Int)), (45, zI (a0.fReps.length : Int)), (44, .sl 0 (List.map encRep a0.fReps)), (3, .ptr 3 0 0)], [(3, ⟨0, 0, true, some (encAcct0 a1)⟩)]⟩) (fun s => s.1 = List.drop s.2 a0.fReps ∧ spec_AcctSame_l1 a1 s.1 s.2 = some v0) (fun s => s.1.length) (a0.fReps, 0) ⟨rfl, h⟩ (wre [46, 45, 44, 3] [(3, 3, false)]) ?_
           rintro ⟨t1, i1⟩ ⟨hd1, h⟩
           refine seq0 ⟨[(46, zI (i1 : Int)), (45, zI (a0.fReps.length : Int)), (44, .sl 0 (List.map encRep a0.fReps)), (3, .ptr 3 0 0)], [(3, ⟨0, 0, true, some (encAcct0 a1)⟩)]⟩ ?_
           refine runs_len 44 (es := List.map encRep a0.fReps) (by kernel_rfl) fun hl1 => ?_
           replace hl1 := len_of_map hl1
           cases t1 with
           | nil =>
             rw [spec_AcctSame_l1] at h
             have hLn1 := dnil hd1
             refine sqr cv hn ?_
             refine ro9 0 1 1 ⟨[(47, zB (decide ((i1 : Int) < (a0.fReps.length : Int)))), (46, zI (i1 : Int)), (45, zI (a0.fReps.length : Int)), (44, .sl 0 (List.map encRep a0.fReps)), (3, .ptr 3 0 0)], [(3, ⟨0, 0, true, some (encAcct0 a1)⟩)]⟩ ?_
             refine runs_seq ?_
             refine cf hLn1 ?_
             refine runs_exit ?_
             repeat refine thenX_exit ?_
             refine block_here ?_
             refine wkr [] [] ⟨[], []⟩ ?_
             refine sqr cv hn ?_
             refine ro9 0 1 1 ⟨[(4, zB true)], []⟩ ?_
             refine runs_ret ?_
             exact fin _ _ h (by kernel_rfl)
           | cons x10 t1 =>
             rw [spec_AcctSame_l1] at h
             have hLc1 := dcons hd1
             have hx10 := dget hd1
             have hi1 := dinc hd1 hl1
             refine sqr cv hn ?_
             refine ro9 0 1 1 ⟨[(47, zB (decide ((i1 : Int) < (a0.fReps.length : Int)))), (46, zI (i1 : Int)), (45, zI (a0.fReps.length : Int)), (44, .sl 0 (List.map encRep a0.fReps)), (3, .ptr 3 0 0)], [(3, ⟨0, 0, true, some (encAcct0 a1)⟩)]⟩ ?_
             refine runs_seq ?_
             refine ct hLc1 ?_
             refine runs_skip ?_
             refine runs_seq ?_
             refine runs_block ?_
             refine sqr cv hn ?_
             refine ro 0 1 1 ⟨[(48, zI (i1 : Int)), (47, zB (decide ((i1 : Int) < (a0.fReps.length : Int)))), (46, zI (i1 : Int)), (45, zI (a0.fReps.length : Int)), (44, .sl 0 (List.map encRep a0.fReps)), (3, .ptr 3 0 0)], [(3, ⟨0, 0, true, some (encAcct0 a1)⟩)]⟩ ?_
             refine rix 1 encRep 110 hx10 (ix_nn hx10) ⟨[(49, .rp (encRep x10) 0), (48, zI (i1 : Int)), (47, zB (decide ((i1 : Int) < (a0.fReps.length : Int)))), (46, zI (i1 : Int)), (45, zI (a0.fReps.length : Int)), (44, .sl 0 (List.map encRep a0.fReps)), (3, .ptr 3 0 0)], [(3, ⟨0, 0, true, some (encAcct0 a1)⟩)]⟩ ?_
             refine ro9 2 4 4 ⟨[(5, zI (i1 : Int)), (6, .ptr 6 1 0), (50, encRep x10), (49, .rp (encRep x10) 0), (48, zI (i1 : Int)), (47, zB (decide ((i1 : Int) < (a0.fReps.length : Int)))), (46, zI (i1 : Int)), (45, zI (a0.fReps.length : Int)), (44, .sl 0 (List.map encRep a0.fReps)), (3, .ptr 3 0 0)], [(6, ⟨1, 1, true, some (encRep x10)⟩), (6, ⟨1, 1, true, some (.agg [zI 0, zI 0])⟩), (3, ⟨0, 0, true, some (encAcct0 a1)⟩)]⟩ ?_
             refine runs_seq ?_
             refine rgT cv mixed hn ?_
             refine roT 0 4 4 ⟨[(54, zI (i1 : Int)), (53, .sl 0 (List.map encRep a1.fReps)), (52, .ptr 3 0 4), (51, encRep x10), (5, zI (i1 : Int)), (6, .ptr 6 1 0), (50, encRep x10), (49, .rp (encRep x10) 0), (48, zI (i1 : Int)), (47, zB (decide ((i1 : Int) < (a0.fReps.length : Int)))), (46, zI (i1 : Int)), (45, zI (a0.fReps.length : Int)), (44, .sl 0 (List.map encRep a0.fReps)), (3, .ptr 3 0 0)], [(6, ⟨1, 1, true, some (encRep x10)⟩), (6, ⟨1, 1, true, some (.agg [zI 0, zI 0])⟩), (3, ⟨0, 0, true, some (encAcct0 a1)⟩)]⟩ ?_
             obtain ⟨x36, hx37, h⟩ := bindO h
             refine rixT 4 encRep 110 hx37 (ix_nn hx37) ⟨[(55, .rp (encRep x36) 0), (54, zI (i1 : Int)), (53, .sl 0 (List.map encRep a1.fReps)), (52, .ptr 3 0 4), (51, encRep x10), (5, zI (i1 : Int)), (6, .ptr 6 1 0), (50, encRep x10), (49, .rp (encRep x10) 0), (48, zI (i1 : Int)), (47, zB (decide ((i1 : Int) < (a0.fReps.length : Int)))), (46, zI (i1 : Int)), (45, zI (a0.fReps.length : Int)), (44, .sl 0 (List.map encRep a0.fReps)), (3, .ptr 3 0 0)], [(6, ⟨1, 1, true, some (encRep x10)⟩), (6, ⟨1, 1, true, some (.agg [zI 0, zI 0])⟩), (3, ⟨0, 0, true, some (encAcct0 a1)⟩)]⟩ ?_
             refine roT 5 1 1 ⟨[(56, encRep x36), (55, .rp (encRep x36) 0), (54, zI (i1 : Int)), (53, .sl 0 (List.map encRep a1.fReps)), (52, .ptr 3 0 4), (51, encRep x10), (5, zI (i1 : Int)), (6, .ptr 6 1 0), (50, encRep x10), (49, .rp (encRep x10) 0), (48, zI (i1 : Int)), (47, zB (decide ((i1 : Int) < (a0.fReps.length : Int)))), (46, zI (i1 : Int)), (45, zI (a0.fReps.length : Int)), (44, .sl 0 (List.map encRep a0.fReps)), (3, .ptr 3 0 0)], [(6, ⟨1, 1, true, some (encRep x10)⟩), (6, ⟨1, 1, true, some (.agg [zI 0, zI 0])⟩), (3, ⟨0, 0, true, some (encAcct0 a1)⟩)]⟩ ?_
             refine rsT 6 ⟨[(57, zB (!((x10.fNode == x36.fNode) && ((x10.fAmt == x36.fAmt) && true)))), (56, encRep x36), (55, .rp (encRep x36) 0), (54, zI (i1 : Int)), (53, .sl 0 (List.map encRep a1.fReps)), (52, .ptr 3 0 4), (51, encRep x10), (5, zI (i1 : Int)), (6, .ptr 6 1 0), (50, encRep x10), (49, .rp (encRep x10) 0), (48, zI (i1 : Int)), (47, zB (decide ((i1 : Int) < (a0.fReps.length : Int)))), (46, zI (i1 : Int)), (45, zI (a0.fReps.length : Int)), (44, .sl 0 (List.map encRep a0.fReps)), (3, .ptr 3 0 0)], [(6, ⟨1, 1, true, some (encRep x10)⟩), (6, ⟨1, 1, true, some (.agg [zI 0, zI 0])⟩), (3, ⟨0, 0, true, some (encAcct0 a1)⟩)]⟩ [EqOK Try.prog 110 ∧ (2 : Nat) = tSize Try.prog 110] ⟨⟨eqok110, by kernel_rfl⟩, trivial⟩ ?_
             refine reT0 7 ?_
             rcases dich (!((x10.fNode == x36.fNode) && ((x10.fAmt == x36.fAmt) && true))) with hb38 | hb38
             · replace h := cond_t hb38 h
               refine ct hb38 ?_
               refine sqr cv hn ?_
               refine ro9 0 1 1 ⟨[(4, zB false), (57, zB (!((x10.fNode == x36.fNode) && ((x10.fAmt == x36.fAmt) && true)))), (56, encRep x36), (55, .rp (encRep x36) 0), (54, zI (i1 : Int)), (53, .sl 0 (List.map encRep a1.fReps)), (52, .ptr 3 0 4), (51, encRep x10), (5, zI (i1 : Int)), (6, .ptr 6 1 0), (50, encRep x10), (49, .rp (encRep x10) 0), (48, zI (i1 : Int)), (47, zB (decide ((i1 : Int) < (a0.fReps.length : Int)))), (46, zI (i1 : Int)), (45, zI (a0.fReps.length : Int)), (44, .sl 0 (List.map encRep a0.fReps)), (3, .ptr 3 0 0)], [(6, ⟨1, 1, true, some (encRep x10)⟩), (6, ⟨1, 1, true, some (.agg [zI 0, zI 0])⟩), (3, ⟨0, 0, true, some (encAcct0 a1)⟩)]⟩ ?_
               refine runs_ret ?_
               exact fin _ _ h (by kernel_rfl)
             · replace h := cond_f hb38 h
               refine cf hb38 ?_
               refine runs_skip ?_
               refine rg cv hn ?_
               refine ro9 0 2 2 ⟨[(46, zI ((i1 + 1 : Nat) : Int)), (58, zI ((i1 + 1 : Nat) : Int)), (57, zB (!((x10.fNode == x36.fNode) && ((x10.fAmt == x36.fAmt) && true)))), (56, encRep x36), (55, .rp (encRep x36) 0), (54, zI (i1 : Int)), (53, .sl 0 (List.map encRep a1.fReps)), (52, .ptr 3 0 4), (51, encRep x10), (5, zI (i1 : Int)), (6, .ptr 6 1 0), (50, encRep x10), (49, .rp (encRep x10) 0), (48, zI (i1 : Int)), (47, zB (decide ((i1 : Int) < (a0.fReps.length : Int)))), (46, zI (i1 : Int)), (45, zI (a0.fReps.length : Int)), (44, .sl 0 (List.map encRep a0.fReps)), (3, .ptr 3 0 0)], [(6, ⟨1, 1, true, some (encRep x10)⟩), (6, ⟨1, 1, true, some (.agg [zI 0, zI 0])⟩), (3, ⟨0, 0, true, some (encAcct0 a1)⟩)]⟩ ?_ (he := by rw [← hi1]; kernel_rfl)
               exact ⟨(t1, i1 + 1), Nat.lt_succ_self _, ⟨dnext hd1, h⟩, wre [46, 45, 44, 3] [(3, 3, false)]⟩

set_option maxRecDepth 100000 in
set_option maxHeartbeats 2000000 in
theorem impl_sameInts_spec (a0 : (List Int)) (a1 : (List Int)) (v0 : Bool) (h : impl_sameInts a0 a1 = some v0) : Ax.Spec Try.prog 92 none [.sl 0 (List.map encInt a0), .sl 0 (List.map encInt a1)] (zB v0 : X) (.junk : X) := by
 let T1 : List (Nat × X) := [(0, .sl 0 (List.map encInt a0)), (1, .sl 0 (List.map encInt a1))]
 refine walk0 (fn := Try.f92) (fun q0 : Bool => (zB q0 : X)) (fun q0 : Bool => (.junk : X)) v0 ⟨T1, []⟩ Try.func92 rfl (by decide +kernel) fun Γ hn fin => ?_
 rw [impl_sameInts] at h
 refine sqr cv hn ?_
 refine ro9 0 1 1 ⟨(4, zB false) :: T1, []⟩ ?_
 refine runs_seq ?_
 refine sqr cv hn ?_
 refine ro9 0 5 5 ⟨(10, zB ((a0.length : Int) != (a1.length : Int))) :: (9, zI (a1.length : Int)) :: (8, .sl 0 (List.map encInt a1)) :: (7, zI (a0.length : Int)) :: (6, .sl 0 (List.map encInt a0)) :: (4, zB false) :: T1, []⟩ ?_ (he := by rw [show (a0.length : Int) = ((List.map encInt a0).length : Int) from by rw [List.length_map]]; rw [show (a1.length : Int) = ((List.map encInt a1).length : Int) from by rw [List.length_map]]; kernel_rfl)
 rcases dich ((a0.length : Int) != (a1.length : Int)) with hb2 | hb2
 · replace h := cond_t hb2 h
   refine ct hb2 ?_
   let T3 : List (Nat × X) := [(0, .sl 0 (List.map encInt a0)), (1, .sl 0 (List.map encInt a1))]
   refine wkr [0, 1] [] ⟨T3, []⟩ ?_
   refine sqr cv hn ?_
   refine ro9 0 1 1 ⟨(4, zB false) :: T3, []⟩ ?_
   refine runs_ret ?_
   exact fin _ _ h (by kernel_rfl)
 · replace h := cond_f hb2 h
   refine cf hb2 ?_
   refine runs_skip ?_
   refine runs_seq ?_
   let T5 : List (Nat × X) := [(0, .sl 0 (List.map encInt a0)), (1, .sl 0 (List.map encInt a1))]
   refine wkr [0, 1] [] ⟨T5, []⟩ ?_
   refine sqr cv hn ?_
   refine ro9 0 3 3 ⟨(13, zI 0) :: (12, zI (a0.length : Int)) :: (11, .sl 0 (List.map encInt a0)) :: T5, []⟩ ?_ (he := by rw [show (a0.length : Int) = ((List.map encInt a0).length : Int) from by rw [List.length_map]]; kernel_rfl)
   refine runs_block ?_
   refine runs_loopM (σ := List Int × Nat) (fun s => ⟨[(13, zI (s.2 : Int)), (12, zI (a0.length : Int)), (0, .sl 0 (List.map encInt a0)), (1, .sl 0 (List.map encInt a1))], []⟩) (fun s => s.1 = List.drop s.2 a0 ∧ impl_sameInts_l1 a1 s.1 s.2 = some v0) (fun s => s.1.length) (a0, 0) ⟨rfl, h⟩ (wre [13, 12, 0, 1] []) ?_
   rintro ⟨t1, i1⟩ ⟨hd1, h⟩
   refine seq0 ⟨[(13, zI (i1 : Int)), (12, zI (a0.length : Int)), (0, .sl 0 (List.map encInt a0)), (1, .sl 0 (List.map encInt a1))], []⟩ ?_
   refine runs_len 0 (es := List.map encInt a0) (by kernel_rfl) fun hl1 => ?_
   replace hl1 := len_of_map hl1
   cases t1 with
   | nil =>
     rw [impl_sameInts_l1] at h
     have hLn1 := dnil hd1
     refine sqr cv hn ?_
     refine ro9 0 1 1 ⟨[(14, zB (decide ((i1 : Int) < (a0.length : Int)))), (13, zI (i1 : Int)), (12, zI (a0.length : Int)), (0, .sl 0 (List.map encInt a0)), (1, .sl 0 (List.map encInt a1))], []⟩ ?_
     refine runs_seq ?_
     refine cf hLn1 ?_
     refine runs_exit ?_
     repeat refine thenX_exit ?_
     refine block_here ?_
     refine wkr [] [] ⟨[], []⟩ ?_
     refine sqr cv hn ?_
     refine ro9 0 1 1 ⟨[(4, zB true)], []⟩ ?_
     refine runs_ret ?_
     exact fin _ _ h (by kernel_rfl)
   | cons x10 t1 =>
     rw [impl_sameInts_l1] at h
     have hLc1 := dcons hd1
     have hx10 := dget hd1
     have hi1 := dinc hd1 hl1
     refine sqr cv hn ?_
     refine ro9 0 1 1 ⟨[(14, zB (decide ((i1 : Int) < (a0.length : Int)))), (13, zI (i1 : Int)), (12, zI (a0.length : Int)), (0, .sl 0 (List.map encInt a0)), (1, .sl 0 (List.map encInt a1))], []⟩ ?_
     refine runs_seq ?_
     refine ct hLc1 ?_
     refine runs_skip ?_
     refine runs_seq ?_
     refine runs_block ?_
     refine sqr cv hn ?_
     refine ro9 0 2 2 ⟨[(5, zI (i1 : Int)), (15, zI (i1 : Int)), (14, zB (decide ((i1 : Int) < (a0.length : Int)))), (13, zI (i1 : Int)), (12, zI (a0.length : Int)), (0, .sl 0 (List.map encInt a0)), (1, .sl 0 (List.map encInt a1))], []⟩ ?_
     refine runs_seq ?_
     refine rgT cv mixed hn ?_
     refine roT 0 2 2 ⟨[(17, zI (i1 : Int)), (16, .sl 0 (List.map encInt a0)), (5, zI (i1 : Int)), (15, zI (i1 : Int)), (14, zB (decide ((i1 : Int) < (a0.length : Int)))), (13, zI (i1 : Int)), (12, zI (a0.length : Int)), (0, .sl 0 (List.map encInt a0)), (1, .sl 0 (List.map encInt a1))], []⟩ ?_
     refine rixT 2 encInt 3 hx10 (ix_nn hx10) ⟨[(18, .rp (zI x10) 0), (17, zI (i1 : Int)), (16, .sl 0 (List.map encInt a0)), (5, zI (i1 : Int)), (15, zI (i1 : Int)), (14, zB (decide ((i1 : Int) < (a0.length : Int)))), (13, zI (i1 : Int)), (12, zI (a0.length : Int)), (0, .sl 0 (List.map encInt a0)), (1, .sl 0 (List.map encInt a1))], []⟩ ?_
     refine roT 3 3 3 ⟨[(21, zI (i1 : Int)), (20, .sl 0 (List.map encInt a1)), (19, zI x10), (18, .rp (zI x10) 0), (17, zI (i1 : Int)), (16, .sl 0 (List.map encInt a0)), (5, zI (i1 : Int)), (15, zI (i1 : Int)), (14, zB (decide ((i1 : Int) < (a0.length : Int)))), (13, zI (i1 : Int)), (12, zI (a0.length : Int)), (0, .sl 0 (List.map encInt a0)), (1, .sl 0 (List.map encInt a1))], []⟩ ?_
     obtain ⟨x20, hx21, h⟩ := bindO h
     refine rixT 6 encInt 3 hx21 (ix_nn hx21) ⟨[(22, .rp (zI x20) 0), (21, zI (i1 : Int)), (20, .sl 0 (List.map encInt a1)), (19, zI x10), (18, .rp (zI x10) 0), (17, zI (i1 : Int)), (16, .sl 0 (List.map encInt a0)), (5, zI (i1 : Int)), (15, zI (i1 : Int)), (14, zB (decide ((i1 : Int) < (a0.length : Int)))), (13, zI (i1 : Int)), (12, zI (a0.length : Int)), (0, .sl 0 (List.map encInt a0)), (1, .sl 0 (List.map encInt a1))], []⟩ ?_
     refine roT9 7 2 2 ⟨[(24, zB (x10 != x20)), (23, zI x20), (22, .rp (zI x20) 0), (21, zI (i1 : Int)), (20, .sl 0 (List.map encInt a1)), (19, zI x10), (18, .rp (zI x10) 0), (17, zI (i1 : Int)), (16, .sl 0 (List.map encInt a0)), (5, zI (i1 : Int)), (15, zI (i1 : Int)), (14, zB (decide ((i1 : Int) < (a0.length : Int)))), (13, zI (i1 : Int)), (12, zI (a0.length : Int)), (0, .sl 0 (List.map encInt a0)), (1, .sl 0 (List.map encInt a1))], []⟩ ?_
     rcases dich (x10 != x20) with hb22 | hb22
     · replace h := cond_t hb22 h
       refine ct hb22 ?_
       refine sqr cv hn ?_
       refine ro9 0 1 1 ⟨[(4, zB false), (24, zB (x10 != x20)), (23, zI x20), (22, .rp (zI x20) 0), (21, zI (i1 : Int)), (20, .sl 0 (List.map encInt a1)), (19, zI x10), (18, .rp (zI x10) 0), (17, zI (i1 : Int)), (16, .sl 0 (List.map encInt a0)), (5, zI (i1 : Int)), (15, zI (i1 : Int)), (14, zB (decide ((i1 : Int) < (a0.length : Int)))), (13, zI (i1 : Int)), (12, zI (a0.length : Int)), (0, .sl 0 (List.map encInt a0)), (1, .sl 0 (List.map encInt a1))], []⟩ ?_
       refine runs_ret ?_
       exact fin _ _ h (by kernel_rfl)
     · replace h := cond_f hb22 h
       refine cf hb22 ?_
       refine runs_skip ?_
       refine rg cv hn ?_
       refine ro9 0 2 2 ⟨[(13, zI ((i1 + 1 : Nat) : Int)), (25, zI ((i1 + 1 : Nat) : Int)), (24, zB (x10 != x20)), (23, zI x20), (22, .rp (zI x20) 0), (21, zI (i1 : Int)), (20, .sl 0 (List.map encInt a1)), (19, zI x10), (18, .rp (zI x10) 0), (17, zI (i1 : Int)), (16, .sl 0 (List.map encInt a0)), (5, zI (i1 : Int)), (15, zI (i1 : Int)), (14, zB (decide ((i1 : Int) < (a0.length : Int)))), (13, zI (i1 : Int)), (12, zI (a0.length : Int)), (0, .sl 0 (List.map encInt a0)), (1, .sl 0 (List.map encInt a1))], []⟩ ?_ (he := by rw [← hi1]; kernel_rfl)
       exact ⟨(t1, i1 + 1), Nat.lt_succ_self _, ⟨dnext hd1, h⟩, wre [13, 12, 0, 1] []⟩

set_option maxRecDepth 100000 in
set_option maxHeartbeats 2000000 in
theorem impl_AcctSame_spec (a0 : SAcct) (a1 : SAcct) (v0 : Bool) (h : impl_AcctSame a0 a1 = some v0) : Ax.Spec Try.prog 48 none [encAcct0 a0, encAcct0 a1] (zB v0 : X) (.junk : X) := by
 let T1 : List (Nat × X) := [(0, encAcct0 a0), (1, encAcct0 a1)]
 refine walk0 (fn := Try.f48) (fun q0 : Bool => (zB q0 : X)) (fun q0 : Bool => (.junk : X)) v0 ⟨T1, []⟩ Try.func48 rfl (by decide +kernel) fun Γ hn fin => ?_
 rw [impl_AcctSame] at h
 refine sqr cv hn ?_
 refine ro9 0 3 3 ⟨(4, zB false) :: (3, .ptr 3 1 0) :: (2, .ptr 2 1 0) :: T1, [(3, ⟨1, 1, true, some (encAcct0 a1)⟩), (2, ⟨1, 1, true, some (encAcct0 a0)⟩)]⟩ ?_
 refine runs_seq ?_
 refine sqr cv hn ?_
 refine ro 0 6 6 ⟨(11, zB (a0.fHave != a1.fHave)) :: (10, zB (a0.fHave != a1.fHave)) :: (9, zI a1.fHave) :: (8, .ptr 3 1 0) :: (7, zI a0.fHave) :: (6, .ptr 2 1 0) :: (4, zB false) :: (3, .ptr 3 1 0) :: (2, .ptr 2 1 0) :: T1, [(3, ⟨1, 1, true, some (encAcct0 a1)⟩), (2, ⟨1, 1, true, some (encAcct0 a0)⟩)]⟩ ?_
 rcases dich (a0.fHave != a1.fHave) with hb8 | hb8
 · replace h := cond_t hb8 h
   refine rl 11 true hb8 ?_
   refine ro9 6 30 7 ⟨(41, zB true) :: (40, .tup []) :: (39, .tup []) :: (38, .tup []) :: (37, .tup []) :: (36, .tup []) :: (35, .tup []) :: (34, .tup []) :: (33, zB true) :: (32, zB true) :: (31, .tup []) :: (30, .tup []) :: (29, .tup []) :: (28, .tup []) :: (27, .tup []) :: (26, .tup []) :: (25, zB true) :: (24, zB true) :: (23, .tup []) :: (22, .tup []) :: (21, .tup []) :: (20, .tup []) :: (19, .tup []) :: (18, zB true) :: (17, zB true) :: (16, .tup []) :: (15, .tup []) :: (14, .tup []) :: (13, .tup []) :: (12, .tup []) :: (11, zB true) :: (10, zB (a0.fHave != a1.fHave)) :: (9, zI a1.fHave) :: (8, .ptr 3 1 0) :: (7, zI a0.fHave) :: (6, .ptr 2 1 0) :: (4, zB false) :: (3, .ptr 3 1 0) :: (2, .ptr 2 1 0) :: T1, [(3, ⟨1, 1, true, some (encAcct0 a1)⟩), (2, ⟨1, 1, true, some (encAcct0 a0)⟩)]⟩ ?_
   refine cT ?_
   let T7 : List (Nat × X) := [(3, .ptr 3 0 0), (2, .ptr 2 0 0)]
   let B7 : List (Nat × Bx) := [(3, ⟨0, 0, true, some (encAcct0 a1)⟩), (2, ⟨0, 0, true, some (encAcct0 a0)⟩)]
   refine wkr [3, 2] [(3, 3, false), (2, 2, false)] ⟨T7, B7⟩ ?_
   refine sqr cv hn ?_
   refine ro9 0 1 1 ⟨(4, zB false) :: T7, B7⟩ ?_
   refine runs_ret ?_
   exact fin _ _ h (by kernel_rfl)
 · replace h := cond_f hb8 h
   refine rl 11 false hb8 ?_
   refine ro 6 7 7 ⟨(18, zB (a0.fState != a1.fState)) :: (17, zB (a0.fState != a1.fState)) :: (16, zB (a0.fState != a1.fState)) :: (15, zI a1.fState) :: (14, .ptr 3 1 1) :: (13, zI a0.fState) :: (12, .ptr 2 1 1) :: (11, zB false) :: (10, zB (a0.fHave != a1.fHave)) :: (9, zI a1.fHave) :: (8, .ptr 3 1 0) :: (7, zI a0.fHave) :: (6, .ptr 2 1 0) :: (4, zB false) :: (3, .ptr 3 1 0) :: (2, .ptr 2 1 0) :: T1, [(3, ⟨1, 1, true, some (encAcct0 a1)⟩), (2, ⟨1, 1, true, some (encAcct0 a0)⟩)]⟩ ?_
   rcases dich (a0.fState != a1.fState) with hb9 | hb9
   · replace h := cond_t hb9 h
     refine rl 18 true hb9 ?_
     refine ro9 13 23 5 ⟨(41, zB true) :: (40, .tup []) :: (39, .tup []) :: (38, .tup []) :: (37, .tup []) :: (36, .tup []) :: (35, .tup []) :: (34, .tup []) :: (33, zB true) :: (32, zB true) :: (31, .tup []) :: (30, .tup []) :: (29, .tup []) :: (28, .tup []) :: (27, .tup []) :: (26, .tup []) :: (25, zB true) :: (24, zB true) :: (23, .tup []) :: (22, .tup []) :: (21, .tup []) :: (20, .tup []) :: (19, .tup []) :: (18, zB true) :: (17, zB (a0.fState != a1.fState)) :: (16, zB (a0.fState != a1.fState)) :: (15, zI a1.fState) :: (14, .ptr 3 1 1) :: (13, zI a0.fState) :: (12, .ptr 2 1 1) :: (11, zB false) :: (10, zB (a0.fHave != a1.fHave)) :: (9, zI a1.fHave) :: (8, .ptr 3 1 0) :: (7, zI a0.fHave) :: (6, .ptr 2 1 0) :: (4, zB false) :: (3, .ptr 3 1 0) :: (2, .ptr 2 1 0) :: T1, [(3, ⟨1, 1, true, some (encAcct0 a1)⟩), (2, ⟨1, 1, true, some (encAcct0 a0)⟩)]⟩ ?_
     refine cT ?_
     let T8 : List (Nat × X) := [(3, .ptr 3 0 0), (2, .ptr 2 0 0)]
     let B8 : List (Nat × Bx) := [(3, ⟨0, 0, true, some (encAcct0 a1)⟩), (2, ⟨0, 0, true, some (encAcct0 a0)⟩)]
     refine wkr [3, 2] [(3, 3, false), (2, 2, false)] ⟨T8, B8⟩ ?_
     refine sqr cv hn ?_
     refine ro9 0 1 1 ⟨(4, zB false) :: T8, B8⟩ ?_
     refine runs_ret ?_
     exact fin _ _ h (by kernel_rfl)
   · replace h := cond_f hb9 h
     refine rl 18 false hb9 ?_
     refine ro 13 7 7 ⟨(25, zB (a0.fBy != a1.fBy)) :: (24, zB (a0.fBy != a1.fBy)) :: (23, zB (a0.fBy != a1.fBy)) :: (22, zI a1.fBy) :: (21, .ptr 3 1 2) :: (20, zI a0.fBy) :: (19, .ptr 2 1 2) :: (18, zB false) :: (17, zB (a0.fState != a1.fState)) :: (16, zB (a0.fState != a1.fState)) :: (15, zI a1.fState) :: (14, .ptr 3 1 1) :: (13, zI a0.fState) :: (12, .ptr 2 1 1) :: (11, zB false) :: (10, zB (a0.fHave != a1.fHave)) :: (9, zI a1.fHave) :: (8, .ptr 3 1 0) :: (7, zI a0.fHave) :: (6, .ptr 2 1 0) :: (4, zB false) :: (3, .ptr 3 1 0) :: (2, .ptr 2 1 0) :: T1, [(3, ⟨1, 1, true, some (encAcct0 a1)⟩), (2, ⟨1, 1, true, some (encAcct0 a0)⟩)]⟩ ?_
     rcases dich (a0.fBy != a1.fBy) with hb10 | hb10
     · replace h := cond_t hb10 h
       refine rl 25 true hb10 ?_
       refine ro9 20 16 3 ⟨(41, zB true) :: (40, .tup []) :: (39, .tup []) :: (38, .tup []) :: (37, .tup []) :: (36, .tup []) :: (35, .tup []) :: (34, .tup []) :: (33, zB true) :: (32, zB true) :: (31, .tup []) :: (30, .tup []) :: (29, .tup []) :: (28, .tup []) :: (27, .tup []) :: (26, .tup []) :: (25, zB true) :: (24, zB (a0.fBy != a1.fBy)) :: (23, zB (a0.fBy != a1.fBy)) :: (22, zI a1.fBy) :: (21, .ptr 3 1 2) :: (20, zI a0.fBy) :: (19, .ptr 2 1 2) :: (18, zB false) :: (17, zB (a0.fState != a1.fState)) :: (16, zB (a0.fState != a1.fState)) :: (15, zI a1.fState) :: (14, .ptr 3 1 1) :: (13, zI a0.fState) :: (12, .ptr 2 1 1) :: (11, zB false) :: (10, zB (a0.fHave != a1.fHave)) :: (9, zI a1.fHave) :: (8, .ptr 3 1 0) :: (7, zI a0.fHave) :: (6, .ptr 2 1 0) :: (4, zB false) :: (3, .ptr 3 1 0) :: (2, .ptr 2 1 0) :: T1, [(3, ⟨1, 1, true, some (encAcct0 a1)⟩), (2, ⟨1, 1, true, some (encAcct0 a0)⟩)]⟩ ?_
       refine cT ?_
       let T9 : List (Nat × X) := [(3, .ptr 3 0 0), (2, .ptr 2 0 0)]
       let B9 : List (Nat × Bx) := [(3, ⟨0, 0, true, some (encAcct0 a1)⟩), (2, ⟨0, 0, true, some (encAcct0 a0)⟩)]
       refine wkr [3, 2] [(3, 3, false), (2, 2, false)] ⟨T9, B9⟩ ?_
       refine sqr cv hn ?_
       refine ro9 0 1 1 ⟨(4, zB false) :: T9, B9⟩ ?_
       refine runs_ret ?_
       exact fin _ _ h (by kernel_rfl)
     · replace h := cond_f hb10 h
       refine rl 25 false hb10 ?_
       refine ro 20 4 4 ⟨(29, .sl 0 (List.map encInt a1.fMarks)) :: (28, .ptr 3 1 3) :: (27, .sl 0 (List.map encInt a0.fMarks)) :: (26, .ptr 2 1 3) :: (25, zB false) :: (24, zB (a0.fBy != a1.fBy)) :: (23, zB (a0.fBy != a1.fBy)) :: (22, zI a1.fBy) :: (21, .ptr 3 1 2) :: (20, zI a0.fBy) :: (19, .ptr 2 1 2) :: (18, zB false) :: (17, zB (a0.fState != a1.fState)) :: (16, zB (a0.fState != a1.fState)) :: (15, zI a1.fState) :: (14, .ptr 3 1 1) :: (13, zI a0.fState) :: (12, .ptr 2 1 1) :: (11, zB false) :: (10, zB (a0.fHave != a1.fHave)) :: (9, zI a1.fHave) :: (8, .ptr 3 1 0) :: (7, zI a0.fHave) :: (6, .ptr 2 1 0) :: (4, zB false) :: (3, .ptr 3 1 0) :: (2, .ptr 2 1 0) :: T1, [(3, ⟨1, 1, true, some (encAcct0 a1)⟩), (2, ⟨1, 1, true, some (encAcct0 a0)⟩)]⟩ ?_
       obtain ⟨v11, hv12, h⟩ := bindO h
       refine rc 24 ⟨(30, zB v11) :: (29, .sl 0 (List.map encInt a1.fMarks)) :: (28, .ptr 3 1 3) :: (27, .sl 0 (List.map encInt a0.fMarks)) :: (26, .ptr 2 1 3) :: (25, zB false) :: (24, zB (a0.fBy != a1.fBy)) :: (23, zB (a0.fBy != a1.fBy)) :: (22, zI a1.fBy) :: (21, .ptr 3 1 2) :: (20, zI a0.fBy) :: (19, .ptr 2 1 2) :: (18, zB false) :: (17, zB (a0.fState != a1.fState)) :: (16, zB (a0.fState != a1.fState)) :: (15, zI a1.fState) :: (14, .ptr 3 1 1) :: (13, zI a0.fState) :: (12, .ptr 2 1 1) :: (11, zB false) :: (10, zB (a0.fHave != a1.fHave)) :: (9, zI a1.fHave) :: (8, .ptr 3 1 0) :: (7, zI a0.fHave) :: (6, .ptr 2 1 0) :: (4, zB false) :: (3, .ptr 3 1 0) :: (2, .ptr 2 1 0) :: T1, [(3, ⟨1, 1, true, some (encAcct0 a1)⟩), (2, ⟨1, 1, true, some (encAcct0 a0)⟩)]⟩ (impl_sameInts_spec a0.fMarks a1.fMarks v11 hv12) ?_
       refine ro 25 3 3 ⟨(33, zB (!v11)) :: (32, zB (!v11)) :: (31, zB (!v11)) :: (30, zB v11) :: (29, .sl 0 (List.map encInt a1.fMarks)) :: (28, .ptr 3 1 3) :: (27, .sl 0 (List.map encInt a0.fMarks)) :: (26, .ptr 2 1 3) :: (25, zB false) :: (24, zB (a0.fBy != a1.fBy)) :: (23, zB (a0.fBy != a1.fBy)) :: (22, zI a1.fBy) :: (21, .ptr 3 1 2) :: (20, zI a0.fBy) :: (19, .ptr 2 1 2) :: (18, zB false) :: (17, zB (a0.fState != a1.fState)) :: (16, zB (a0.fState != a1.fState)) :: (15, zI a1.fState) :: (14, .ptr 3 1 1) :: (13, zI a0.fState) :: (12, .ptr 2 1 1) :: (11, zB false) :: (10, zB (a0.fHave != a1.fHave)) :: (9, zI a1.fHave) :: (8, .ptr 3 1 0) :: (7, zI a0.fHave) :: (6, .ptr 2 1 0) :: (4, zB false) :: (3, .ptr 3 1 0) :: (2, .ptr 2 1 0) :: T1, [(3, ⟨1, 1, true, some (encAcct0 a1)⟩), (2, ⟨1, 1, true, some (encAcct0 a0)⟩)]⟩ ?_
       rcases dich (!v11) with hb13 | hb13
       · replace h := cond_t hb13 h
         refine rl 33 true hb13 ?_
         refine ro9 28 8 1 ⟨(41, zB true) :: (40, .tup []) :: (39, .tup []) :: (38, .tup []) :: (37, .tup []) :: (36, .tup []) :: (35, .tup []) :: (34, .tup []) :: (33, zB true) :: (32, zB (!v11)) :: (31, zB (!v11)) :: (30, zB v11) :: (29, .sl 0 (List.map encInt a1.fMarks)) :: (28, .ptr 3 1 3) :: (27, .sl 0 (List.map encInt a0.fMarks)) :: (26, .ptr 2 1 3) :: (25, zB false) :: (24, zB (a0.fBy != a1.fBy)) :: (23, zB (a0.fBy != a1.fBy)) :: (22, zI a1.fBy) :: (21, .ptr 3 1 2) :: (20, zI a0.fBy) :: (19, .ptr 2 1 2) :: (18, zB false) :: (17, zB (a0.fState != a1.fState)) :: (16, zB (a0.fState != a1.fState)) :: (15, zI a1.fState) :: (14, .ptr 3 1 1) :: (13, zI a0.fState) :: (12, .ptr 2 1 1) :: (11, zB false) :: (10, zB (a0.fHave != a1.fHave)) :: (9, zI a1.fHave) :: (8, .ptr 3 1 0) :: (7, zI a0.fHave) :: (6, .ptr 2 1 0) :: (4, zB false) :: (3, .ptr 3 1 0) :: (2, .ptr 2 1 0) :: T1, [(3, ⟨1, 1, true, some (encAcct0 a1)⟩), (2, ⟨1, 1, true, some (encAcct0 a0)⟩)]⟩ ?_
         refine cT ?_
         let T10 : List (Nat × X) := [(3, .ptr 3 0 0), (2, .ptr 2 0 0)]
         let B10 : List (Nat × Bx) := [(3, ⟨0, 0, true, some (encAcct0 a1)⟩), (2, ⟨0, 0, true, some (encAcct0 a0)⟩)]
         refine wkr [3, 2] [(3, 3, false), (2, 2, false)] ⟨T10, B10⟩ ?_
         refine sqr cv hn ?_
         refine ro9 0 1 1 ⟨(4, zB false) :: T10, B10⟩ ?_
         refine runs_ret ?_
         exact fin _ _ h (by kernel_rfl)
       · replace h := cond_f hb13 h
         refine rl 33 false hb13 ?_
         refine ro9 28 8 8 ⟨(41, zB ((a0.fReps.length : Int) != (a1.fReps.length : Int))) :: (40, zB ((a0.fReps.length : Int) != (a1.fReps.length : Int))) :: (39, zI (a1.fReps.length : Int)) :: (38, .sl 0 (List.map encRep a1.fReps)) :: (37, .ptr 3 1 4) :: (36, zI (a0.fReps.length : Int)) :: (35, .sl 0 (List.map encRep a0.fReps)) :: (34, .ptr 2 1 4) :: (33, zB false) :: (32, zB (!v11)) :: (31, zB (!v11)) :: (30, zB v11) :: (29, .sl 0 (List.map encInt a1.fMarks)) :: (28, .ptr 3 1 3) :: (27, .sl 0 (List.map encInt a0.fMarks)) :: (26, .ptr 2 1 3) :: (25, zB false) :: (24, zB (a0.fBy != a1.fBy)) :: (23, zB (a0.fBy != a1.fBy)) :: (22, zI a1.fBy) :: (21, .ptr 3 1 2) :: (20, zI a0.fBy) :: (19, .ptr 2 1 2) :: (18, zB false) :: (17, zB (a0.fState != a1.fState)) :: (16, zB (a0.fState != a1.fState)) :: (15, zI a1.fState) :: (14, .ptr 3 1 1) :: (13, zI a0.fState) :: (12, .ptr 2 1 1) :: (11, zB false) :: (10, zB (a0.fHave != a1.fHave)) :: (9, zI a1.fHave) :: (8, .ptr 3 1 0) :: (7, zI a0.fHave) :: (6, .ptr 2 1 0) :: (4, zB false) :: (3, .ptr 3 1 0) :: (2, .ptr 2 1 0) :: T1, [(3, ⟨1, 1, true, some (encAcct0 a1)⟩), (2, ⟨1, 1, true, some (encAcct0 a0)⟩)]⟩ ?_ (he := by rw [show (a0.fReps.length : Int) = ((List.map encRep a0.fReps).length : Int) from by rw [List.length_map]]; rw [show (a1.fReps.length : Int) = ((List.map encRep a1.fReps).length : Int) from by rw [List.length_map]]; kernel_rfl)
         rcases dich ((a0.fReps.length : Int) != (a1.fReps.length : Int)) with hb14 | hb14
         · replace h := cond_t hb14 h
           refine ct hb14 ?_
           let T11 : List (Nat × X) := [(3, .ptr 3 0 0), (2, .ptr 2 0 0)]
           let B11 : List (Nat × Bx) := [(3, ⟨0, 0, true, some (encAcct0 a1)⟩), (2, ⟨0, 0, true, some (encAcct0 a0)⟩)]
           refine wkr [3, 2] [(3, 3, false), (2, 2, false)] ⟨T11, B11⟩ ?_
           refine sqr cv hn ?_
           refine ro9 0 1 1 ⟨(4, zB false) :: T11, B11⟩ ?_
           refine runs_ret ?_
           exact fin _ _ h (by kernel_rfl)
         · replace h := cond_f hb14 h
           refine cf hb14 ?_
           refine runs_skip ?_
           refine runs_seq ?_
           let T13 : List (Nat × X) := [(3, .ptr 3 0 0), (2, .ptr 2 0 0)]
           let B13 : List (Nat × Bx) := [(3, ⟨0, 0, true, some (encAcct0 a1)⟩), (2, ⟨0, 0, true, some (encAcct0 a0)⟩)]
           refine wkr [3, 2] [(3, 3, false), (2, 2, false)] ⟨T13, B13⟩ ?_
           refine sqr cv hn ?_
           refine ro9 0 4 4 ⟨(45, zI 0) :: (44, zI (a0.fReps.length : Int)) :: (43, .sl 0 (List.map encRep a0.fReps)) :: (42, .ptr 2 0 4) :: T13, B13⟩ ?_ (he := by rw [show (a0.fReps.length : Int) = ((List.map encRep a0.fReps).length : Int) from by rw [List.length_map]]; kernel_rfl)
           refine runs_block ?_
           obtain ⟨hl1, h⟩ := gO_some h
           refine runs_loopM (σ := List SRep × Nat) (fun s => ⟨[(45, zI (s.2 : Int)), (44, zI (a0.fReps.length : Int)), (3, .ptr 3 0 0), (2, .ptr 2 0 0)], [(3, ⟨0, 0, true, some (encAcct0 a1)⟩), (2, ⟨0, 0, true, some (encAcct0 a0)⟩)]⟩) (fun s => s.1 = List.drop s.2 a0.fReps ∧ impl_AcctSame_l1 a1 s.1 s.2 = some v0) (fun s => s.1.length) (a0.fReps, 0) ⟨rfl, h⟩ (wre [45, 44, 3, 2] [(3, 3, false), (2, 2, false)]) ?_
           rintro ⟨t1, i1⟩ ⟨hd1, h⟩
           refine seq0 ⟨[(45, zI (i1 : Int)), (44, zI (a0.fReps.length : Int)), (3, .ptr 3 0 0), (2, .ptr 2 0 0)], [(3, ⟨0, 0, true, some (encAcct0 a1)⟩), (2, ⟨0, 0, true, some (encAcct0 a0)⟩)]⟩ ?_
           cases t1 with
           | nil =>
             rw [impl_AcctSame_l1] at h
             have hLn1 := dnil hd1
             refine sqr cv hn ?_
             refine ro9 0 1 1 ⟨[(46, zB (decide ((i1 : Int) < (a0.fReps.length : Int)))), (45, zI (i1 : Int)), (44, zI (a0.fReps.length : Int)), (3, .ptr 3 0 0), (2, .ptr 2 0 0)], [(3, ⟨0, 0, true, some (encAcct0 a1)⟩), (2, ⟨0, 0, true, some (encAcct0 a0)⟩)]⟩ ?_
             refine runs_seq ?_
             refine cf hLn1 ?_
             refine runs_exit ?_
             repeat refine thenX_exit ?_
             refine block_here ?_
             refine wkr [] [] ⟨[], []⟩ ?_
             refine sqr cv hn ?_
             refine ro9 0 1 1 ⟨[(4, zB true)], []⟩ ?_
             refine runs_ret ?_
             exact fin _ _ h (by kernel_rfl)
           | cons x10 t1 =>
             rw [impl_AcctSame_l1] at h
             have hLc1 := dcons hd1
             have hx10 := dget hd1
             have hi1 := dinc hd1 hl1
             refine sqr cv hn ?_
             refine ro9 0 1 1 ⟨[(46, zB (decide ((i1 : Int) < (a0.fReps.length : Int)))), (45, zI (i1 : Int)), (44, zI (a0.fReps.length : Int)), (3, .ptr 3 0 0), (2, .ptr 2 0 0)], [(3, ⟨0, 0, true, some (encAcct0 a1)⟩), (2, ⟨0, 0, true, some (encAcct0 a0)⟩)]⟩ ?_
             refine runs_seq ?_
             refine ct hLc1 ?_
             refine runs_skip ?_
             refine runs_seq ?_
             refine runs_block ?_
             refine sqr cv hn ?_
             refine ro9 0 2 2 ⟨[(5, zI (i1 : Int)), (47, zI (i1 : Int)), (46, zB (decide ((i1 : Int) < (a0.fReps.length : Int)))), (45, zI (i1 : Int)), (44, zI (a0.fReps.length : Int)), (3, .ptr 3 0 0), (2, .ptr 2 0 0)], [(3, ⟨0, 0, true, some (encAcct0 a1)⟩), (2, ⟨0, 0, true, some (encAcct0 a0)⟩)]⟩ ?_
             refine runs_seq ?_
             refine rgT cv mixed hn ?_
             refine roT 0 3 3 ⟨[(50, zI (i1 : Int)), (49, .sl 0 (List.map encRep a0.fReps)), (48, .ptr 2 0 4), (5, zI (i1 : Int)), (47, zI (i1 : Int)), (46, zB (decide ((i1 : Int) < (a0.fReps.length : Int)))), (45, zI (i1 : Int)), (44, zI (a0.fReps.length : Int)), (3, .ptr 3 0 0), (2, .ptr 2 0 0)], [(3, ⟨0, 0, true, some (encAcct0 a1)⟩), (2, ⟨0, 0, true, some (encAcct0 a0)⟩)]⟩ ?_
             refine rixT 3 encRep 110 hx10 (ix_nn hx10) ⟨[(51, .rp (encRep x10) 0), (50, zI (i1 : Int)), (49, .sl 0 (List.map encRep a0.fReps)), (48, .ptr 2 0 4), (5, zI (i1 : Int)), (47, zI (i1 : Int)), (46, zB (decide ((i1 : Int) < (a0.fReps.length : Int)))), (45, zI (i1 : Int)), (44, zI (a0.fReps.length : Int)), (3, .ptr 3 0 0), (2, .ptr 2 0 0)], [(3, ⟨0, 0, true, some (encAcct0 a1)⟩), (2, ⟨0, 0, true, some (encAcct0 a0)⟩)]⟩ ?_
             refine roT 4 4 4 ⟨[(55, zI (i1 : Int)), (54, .sl 0 (List.map encRep a1.fReps)), (53, .ptr 3 0 4), (52, encRep x10), (51, .rp (encRep x10) 0), (50, zI (i1 : Int)), (49, .sl 0 (List.map encRep a0.fReps)), (48, .ptr 2 0 4), (5, zI (i1 : Int)), (47, zI (i1 : Int)), (46, zB (decide ((i1 : Int) < (a0.fReps.length : Int)))), (45, zI (i1 : Int)), (44, zI (a0.fReps.length : Int)), (3, .ptr 3 0 0), (2, .ptr 2 0 0)], [(3, ⟨0, 0, true, some (encAcct0 a1)⟩), (2, ⟨0, 0, true, some (encAcct0 a0)⟩)]⟩ ?_
             obtain ⟨x32, hx33, h⟩ := bindO h
             refine rixT 8 encRep 110 hx33 (ix_nn hx33) ⟨[(56, .rp (encRep x32) 0), (55, zI (i1 : Int)), (54, .sl 0 (List.map encRep a1.fReps)), (53, .ptr 3 0 4), (52, encRep x10), (51, .rp (encRep x10) 0), (50, zI (i1 : Int)), (49, .sl 0 (List.map encRep a0.fReps)), (48, .ptr 2 0 4), (5, zI (i1 : Int)), (47, zI (i1 : Int)), (46, zB (decide ((i1 : Int) < (a0.fReps.length : Int)))), (45, zI (i1 : Int)), (44, zI (a0.fReps.length : Int)), (3, .ptr 3 0 0), (2, .ptr 2 0 0)], [(3, ⟨0, 0, true, some (encAcct0 a1)⟩), (2, ⟨0, 0, true, some (encAcct0 a0)⟩)]⟩ ?_
             refine roT 9 1 1 ⟨[(57, encRep x32), (56, .rp (encRep x32) 0), (55, zI (i1 : Int)), (54, .sl 0 (List.map encRep a1.fReps)), (53, .ptr 3 0 4), (52, encRep x10), (51, .rp (encRep x10) 0), (50, zI (i1 : Int)), (49, .sl 0 (List.map encRep a0.fReps)), (48, .ptr 2 0 4), (5, zI (i1 : Int)), (47, zI (i1 : Int)), (46, zB (decide ((i1 : Int) < (a0.fReps.length : Int)))), (45, zI (i1 : Int)), (44, zI (a0.fReps.length : Int)), (3, .ptr 3 0 0), (2, .ptr 2 0 0)], [(3, ⟨0, 0, true, some (encAcct0 a1)⟩), (2, ⟨0, 0, true, some (encAcct0 a0)⟩)]⟩ ?_
             refine rsT 10 ⟨[(58, zB (!((x10.fNode == x32.fNode) && ((x10.fAmt == x32.fAmt) && true)))), (57, encRep x32), (56, .rp (encRep x32) 0), (55, zI (i1 : Int)), (54, .sl 0 (List.map encRep a1.fReps)), (53, .ptr 3 0 4), (52, encRep x10), (51, .rp (encRep x10) 0), (50, zI (i1 : Int)), (49, .sl 0 (List.map encRep a0.fReps)), (48, .ptr 2 0 4), (5, zI (i1 : Int)), (47, zI (i1 : Int)), (46, zB (decide ((i1 : Int) < (a0.fReps.length : Int)))), (45, zI (i1 : Int)), (44, zI (a0.fReps.length : Int)), (3, .ptr 3 0 0), (2, .ptr 2 0 0)], [(3, ⟨0, 0, true, some (encAcct0 a1)⟩), (2, ⟨0, 0, true, some (encAcct0 a0)⟩)]⟩ [EqOK Try.prog 110 ∧ (2 : Nat) = tSize Try.prog 110] ⟨⟨eqok110, by kernel_rfl⟩, trivial⟩ ?_
             refine reT0 11 ?_
             rcases dich (!((x10.fNode == x32.fNode) && ((x10.fAmt == x32.fAmt) && true))) with hb34 | hb34
             · replace h := cond_t hb34 h
               refine ct hb34 ?_
               refine sqr cv hn ?_
               refine ro9 0 1 1 ⟨[(4, zB false), (58, zB (!((x10.fNode == x32.fNode) && ((x10.fAmt == x32.fAmt) && true)))), (57, encRep x32), (56, .rp (encRep x32) 0), (55, zI (i1 : Int)), (54, .sl 0 (List.map encRep a1.fReps)), (53, .ptr 3 0 4), (52, encRep x10), (51, .rp (encRep x10) 0), (50, zI (i1 : Int)), (49, .sl 0 (List.map encRep a0.fReps)), (48, .ptr 2 0 4), (5, zI (i1 : Int)), (47, zI (i1 : Int)), (46, zB (decide ((i1 : Int) < (a0.fReps.length : Int)))), (45, zI (i1 : Int)), (44, zI (a0.fReps.length : Int)), (3, .ptr 3 0 0), (2, .ptr 2 0 0)], [(3, ⟨0, 0, true, some (encAcct0 a1)⟩), (2, ⟨0, 0, true, some (encAcct0 a0)⟩)]⟩ ?_
               refine runs_ret ?_
               exact fin _ _ h (by kernel_rfl)
             · replace h := cond_f hb34 h
               refine cf hb34 ?_
               refine runs_skip ?_
               refine rg cv hn ?_
               refine ro9 0 2 2 ⟨[(45, zI ((i1 + 1 : Nat) : Int)), (59, zI ((i1 + 1 : Nat) : Int)), (58, zB (!((x10.fNode == x32.fNode) && ((x10.fAmt == x32.fAmt) && true)))), (57, encRep x32), (56, .rp (encRep x32) 0), (55, zI (i1 : Int)), (54, .sl 0 (List.map encRep a1.fReps)), (53, .ptr 3 0 4), (52, encRep x10), (51, .rp (encRep x10) 0), (50, zI (i1 : Int)), (49, .sl 0 (List.map encRep a0.fReps)), (48, .ptr 2 0 4), (5, zI (i1 : Int)), (47, zI (i1 : Int)), (46, zB (decide ((i1 : Int) < (a0.fReps.length : Int)))), (45, zI (i1 : Int)), (44, zI (a0.fReps.length : Int)), (3, .ptr 3 0 0), (2, .ptr 2 0 0)], [(3, ⟨0, 0, true, some (encAcct0 a1)⟩), (2, ⟨0, 0, true, some (encAcct0 a0)⟩)]⟩ ?_ (he := by rw [← hi1]; kernel_rfl)
               exact ⟨(t1, i1 + 1), Nat.lt_succ_self _, ⟨dnext hd1, h⟩, wre [45, 44, 3, 2] [(3, 3, false), (2, 2, false)]⟩

set_option maxRecDepth 100000 in
set_option maxHeartbeats 2000000 in
theorem laws_FnExactAcctSame_spec (a0 : SAcct) (a1 : SAcct) (v0 : Bool) (h : laws_FnExactAcctSame a0 a1 = some v0) : Ax.Spec Try.prog 12 none [encAcct0 a0, encAcct0 a1] (zB v0 : X) (.junk : X) := by
 let T1 : List (Nat × X) := [(0, encAcct0 a0), (1, encAcct0 a1)]
 refine walk0 (fn := Try.f12) (fun q0 : Bool => (zB q0 : X)) (fun q0 : Bool => (.junk : X)) v0 ⟨T1, []⟩ Try.func12 rfl (by decide +kernel) fun Γ hn fin => ?_
 rw [laws_FnExactAcctSame] at h
 refine sqr cv hn ?_
 refine ro9 0 3 3 ⟨(4, zB false) :: (3, .ptr 3 1 0) :: (2, .ptr 2 1 0) :: T1, [(3, ⟨1, 1, true, some (encAcct0 a1)⟩), (2, ⟨1, 1, true, some (encAcct0 a0)⟩)]⟩ ?_
 refine sqr cv hn ?_
 refine ro9 0 1 1 ⟨(5, zI 1048576) :: (4, zB false) :: (3, .ptr 3 1 0) :: (2, .ptr 2 1 0) :: T1, [(3, ⟨1, 1, true, some (encAcct0 a1)⟩), (2, ⟨1, 1, true, some (encAcct0 a0)⟩)]⟩ ?_
 refine sqr cv hn ?_
 refine ro 0 2 2 ⟨(11, zI 1048576) :: (10, encAcct0 a0) :: (5, zI 1048576) :: (4, zB false) :: (3, .ptr 3 1 0) :: (2, .ptr 2 1 0) :: T1, [(3, ⟨1, 1, true, some (encAcct0 a1)⟩), (2, ⟨1, 1, true, some (encAcct0 a0)⟩)]⟩ ?_
 obtain ⟨v3, hv4, h⟩ := bindO h
 refine rc 2 ⟨(12, zI v3) :: (11, zI 1048576) :: (10, encAcct0 a0) :: (5, zI 1048576) :: (4, zB false) :: (3, .ptr 3 1 0) :: (2, .ptr 2 1 0) :: T1, [(3, ⟨1, 1, true, some (encAcct0 a1)⟩), (2, ⟨1, 1, true, some (encAcct0 a0)⟩)]⟩ (laws_szAcct_spec a0 1048576 v3 hv4) ?_
 refine ro9 3 1 1 ⟨(5, zI v3) :: (12, zI v3) :: (11, zI 1048576) :: (10, encAcct0 a0) :: (5, zI 1048576) :: (4, zB false) :: (3, .ptr 3 1 0) :: (2, .ptr 2 1 0) :: T1, [(3, ⟨1, 1, true, some (encAcct0 a1)⟩), (2, ⟨1, 1, true, some (encAcct0 a0)⟩)]⟩ ?_
 refine runs_seq ?_
 let T3 : List (Nat × X) := [(5, zI v3), (3, .ptr 3 0 0), (2, .ptr 2 0 0)]
 let B3 : List (Nat × Bx) := [(3, ⟨0, 0, true, some (encAcct0 a1)⟩), (2, ⟨0, 0, true, some (encAcct0 a0)⟩)]
 refine wkr [5, 3, 2] [(3, 3, false), (2, 2, false)] ⟨T3, B3⟩ ?_
 refine sqr cv hn ?_
 refine ro9 0 2 2 ⟨(14, zB (decide (v3 < 0))) :: (13, zI v3) :: T3, B3⟩ ?_
 rcases dich (decide (v3 < 0)) with hb6 | hb6
 · replace h := cond_t hb6 h
   refine ct hb6 ?_
   refine sqr cv hn ?_
   refine ro9 0 1 1 ⟨(4, zB true) :: (14, zB (decide (v3 < 0))) :: (13, zI v3) :: T3, B3⟩ ?_
   refine runs_ret ?_
   exact fin _ _ h (by kernel_rfl)
 · replace h := cond_f hb6 h
   refine cf hb6 ?_
   refine runs_skip ?_
   refine sqr cv hn ?_
   refine ro 0 2 2 ⟨(16, zI v3) :: (15, encAcct0 a1) :: (14, zB (decide (v3 < 0))) :: (13, zI v3) :: T3, B3⟩ ?_
   obtain ⟨v9, hv10, h⟩ := bindO h
   refine rc 2 ⟨(17, zI v9) :: (16, zI v3) :: (15, encAcct0 a1) :: (14, zB (decide (v3 < 0))) :: (13, zI v3) :: T3, B3⟩ (laws_szAcct_spec a1 v3 v9 hv10) ?_
   refine ro9 3 1 1 ⟨(5, zI v9) :: (17, zI v9) :: (16, zI v3) :: (15, encAcct0 a1) :: (14, zB (decide (v3 < 0))) :: (13, zI v3) :: T3, B3⟩ ?_
   refine runs_seq ?_
   let T5 : List (Nat × X) := [(5, zI v9), (3, .ptr 3 0 0), (2, .ptr 2 0 0)]
   let B5 : List (Nat × Bx) := [(3, ⟨0, 0, true, some (encAcct0 a1)⟩), (2, ⟨0, 0, true, some (encAcct0 a0)⟩)]
   refine wkr [5, 3, 2] [(3, 3, false), (2, 2, false)] ⟨T5, B5⟩ ?_
   refine sqr cv hn ?_
   refine ro9 0 2 2 ⟨(19, zB (decide (v9 < 0))) :: (18, zI v9) :: T5, B5⟩ ?_
   rcases dich (decide (v9 < 0)) with hb12 | hb12
   · replace h := cond_t hb12 h
     refine ct hb12 ?_
     refine sqr cv hn ?_
     refine ro9 0 1 1 ⟨(4, zB true) :: (19, zB (decide (v9 < 0))) :: (18, zI v9) :: T5, B5⟩ ?_
     refine runs_ret ?_
     exact fin _ _ h (by kernel_rfl)
   · replace h := cond_f hb12 h
     refine cf hb12 ?_
     refine runs_skip ?_
     refine runs_seq ?_
     refine rgT cv mixed hn ?_
     refine roT 0 1 1 ⟨(20, encAcct0 a0) :: (19, zB (decide (v9 < 0))) :: (18, zI v9) :: T5, B5⟩ ?_
     obtain ⟨v19, hv20, h⟩ := bindO h
     refine rcT 1 ⟨(21, .agg [zI v19.fHave, zI v19.fState, zI v19.fBy, .view 21 1 [] 0, .view 10021 1 [] 0]) :: (20, encAcct0 a0) :: (19, zB (decide (v9 < 0))) :: (18, zI v9) :: T5, (10021, ⟨1, 1, false, some (.sl 1 (List.map encRep v19.fReps))⟩) :: (21, ⟨1, 1, false, some (.sl 1 (List.map encInt v19.fMarks))⟩) :: B5⟩ (laws_toAcct_spec a0 v19 hv20) ?_
     refine roT 2 1 1 ⟨(22, encAcct0 a1) :: (21, .agg [zI v19.fHave, zI v19.fState, zI v19.fBy, .view 21 1 [] 0, .view 10021 1 [] 0]) :: (20, encAcct0 a0) :: (19, zB (decide (v9 < 0))) :: (18, zI v9) :: T5, (10021, ⟨1, 1, false, some (.sl 1 (List.map encRep v19.fReps))⟩) :: (21, ⟨1, 1, false, some (.sl 1 (List.map encInt v19.fMarks))⟩) :: B5⟩ ?_
     obtain ⟨v21, hv22, h⟩ := bindO h
     refine rcT 3 ⟨(23, .agg [zI v21.fHave, zI v21.fState, zI v21.fBy, .view 23 1 [] 0, .view 10023 1 [] 0]) :: (22, encAcct0 a1) :: (21, .agg [zI v19.fHave, zI v19.fState, zI v19.fBy, .view 21 1 [] 0, .view 10021 1 [] 0]) :: (20, encAcct0 a0) :: (19, zB (decide (v9 < 0))) :: (18, zI v9) :: T5, (10023, ⟨1, 1, false, some (.sl 1 (List.map encRep v21.fReps))⟩) :: (23, ⟨1, 1, false, some (.sl 1 (List.map encInt v21.fMarks))⟩) :: (10021, ⟨1, 1, false, some (.sl 1 (List.map encRep v19.fReps))⟩) :: (21, ⟨1, 1, false, some (.sl 1 (List.map encInt v19.fMarks))⟩) :: B5⟩ (laws_toAcct_spec a1 v21 hv22) ?_
     obtain ⟨v23, hv24, h⟩ := bindO h
     refine rcHT 4 [List.map encInt v19.fMarks, List.map encRep v19.fReps, List.map encInt v21.fMarks, List.map encRep v21.fReps] ⟨(24, zB v23) :: (23, .agg [zI v21.fHave, zI v21.fState, zI v21.fBy, .view 23 1 [] 0, .view 10023 1 [] 0]) :: (22, encAcct0 a1) :: (21, .agg [zI v19.fHave, zI v19.fState, zI v19.fBy, .view 21 1 [] 0, .view 10021 1 [] 0]) :: (20, encAcct0 a0) :: (19, zB (decide (v9 < 0))) :: (18, zI v9) :: T5, (10023, ⟨1, 1, false, some (.sl 1 (List.map encRep v21.fReps))⟩) :: (23, ⟨1, 1, false, some (.sl 1 (List.map encInt v21.fMarks))⟩) :: (10021, ⟨1, 1, false, some (.sl 1 (List.map encRep v19.fReps))⟩) :: (21, ⟨1, 1, false, some (.sl 1 (List.map encInt v19.fMarks))⟩) :: B5⟩ [X.rds (List.map encInt v19.fMarks) = true, X.roifys (List.map encInt v19.fMarks) = List.map encInt v19.fMarks, X.rds (List.map encRep v19.fReps) = true, X.roifys (List.map encRep v19.fReps) = List.map encRep v19.fReps, X.rds (List.map encInt v21.fMarks) = true, X.roifys (List.map encInt v21.fMarks) = List.map encInt v21.fMarks, X.rds (List.map encRep v21.fReps) = true, X.roifys (List.map encRep v21.fReps) = List.map encRep v21.fReps, rootsBut (cv 47) 0 [.agg [zI v19.fHave, zI v19.fState, zI v19.fBy, .view 21 1 [] 0, .view 10021 1 [] 0], .agg [zI v21.fHave, zI v21.fState, zI v21.fBy, .view 23 1 [] 0, .view 10023 1 [] 0]] = false ∨ (X.noRo (zB v23 : X) = true ∧ X.noRo (.junk : X) = true)] (spec_AcctSame_spec v19 v21 v23 hv24) ⟨rds_map rde_Int _, ro_map ro_Int _, rds_map rde_Rep _, ro_map ro_Rep _, rds_map rde_Int _, ro_map ro_Int _, rds_map rde_Rep _, ro_map ro_Rep _, .inr ⟨rfl, rfl⟩, trivial⟩ ?_
     refine roT9 5 1 1 ⟨(6, zB v23) :: (24, zB v23) :: (23, .agg [zI v21.fHave, zI v21.fState, zI v21.fBy, .view 23 1 [] 0, .view 10023 1 [] 0]) :: (22, encAcct0 a1) :: (21, .agg [zI v19.fHave, zI v19.fState, zI v19.fBy, .view 21 1 [] 0, .view 10021 1 [] 0]) :: (20, encAcct0 a0) :: (19, zB (decide (v9 < 0))) :: (18, zI v9) :: T5, (10023, ⟨1, 1, false, some (.sl 1 (List.map encRep v21.fReps))⟩) :: (23, ⟨1, 1, false, some (.sl 1 (List.map encInt v21.fMarks))⟩) :: (10021, ⟨1, 1, false, some (.sl 1 (List.map encRep v19.fReps))⟩) :: (21, ⟨1, 1, false, some (.sl 1 (List.map encInt v19.fMarks))⟩) :: B5⟩ ?_
     let T7 : List (Nat × X) := [(6, zB v23), (3, .ptr 3 0 0), (2, .ptr 2 0 0)]
     let B7 : List (Nat × Bx) := [(3, ⟨0, 0, true, some (encAcct0 a1)⟩), (2, ⟨0, 0, true, some (encAcct0 a0)⟩)]
     refine wkr [6, 3, 2] [(3, 3, false), (2, 2, false)] ⟨T7, B7⟩ ?_
     refine sqr cv hn ?_
     refine ro 0 1 1 ⟨(25, encAcct0 a0) :: T7, B7⟩ ?_
     obtain ⟨v27, hv28, h⟩ := bindO h
     refine rc 1 ⟨(26, .agg [zI v27.fHave, zI v27.fState, zI v27.fBy, .view 26 1 [] 0, .view 10026 1 [] 0]) :: (25, encAcct0 a0) :: T7, (10026, ⟨1, 1, false, some (.sl 1 (List.map encRep v27.fReps))⟩) :: (26, ⟨1, 1, false, some (.sl 1 (List.map encInt v27.fMarks))⟩) :: B7⟩ (laws_toAcct_spec a0 v27 hv28) ?_
     refine ro9 2 2 2 ⟨(7, .ptr 7 1 0) :: (26, .agg [zI v27.fHave, zI v27.fState, zI v27.fBy, .view 26 1 [] 0, .view 10026 1 [] 0]) :: (25, encAcct0 a0) :: T7, (7, ⟨1, 2, true, some (encAcct1 v27)⟩) :: (10026, ⟨1, 2, false, some (.junk)⟩) :: (26, ⟨1, 2, false, some (.junk)⟩) :: (7, ⟨1, 1, true, some (.agg [zI 0, zI 0, zI 0, .sl 1 (List.map encInt []), .sl 1 (List.map encRep [])])⟩) :: (10026, ⟨1, 1, false, some (.sl 1 (List.map encRep v27.fReps))⟩) :: (26, ⟨1, 1, false, some (.sl 1 (List.map encInt v27.fMarks))⟩) :: B7⟩ ?_
     let T9 : List (Nat × X) := [(7, .ptr 7 0 0), (6, zB v23), (3, .ptr 3 0 0), (2, .ptr 2 0 0)]
     let B9 : List (Nat × Bx) := [(7, ⟨0, 0, true, some (encAcct1 v27)⟩), (3, ⟨0, 0, true, some (encAcct0 a1)⟩), (2, ⟨0, 0, true, some (encAcct0 a0)⟩)]
     refine wkr [7, 6, 3, 2] [(7, 7, false), (3, 3, false), (2, 2, false)] ⟨T9, B9⟩ ?_
     refine sqr cv hn ?_
     refine ro 0 1 1 ⟨(27, encAcct0 a1) :: T9, B9⟩ ?_
     obtain ⟨v31, hv32, h⟩ := bindO h
     refine rc 1 ⟨(28, .agg [zI v31.fHave, zI v31.fState, zI v31.fBy, .view 28 1 [] 0, .view 10028 1 [] 0]) :: (27, encAcct0 a1) :: T9, (10028, ⟨1, 1, false, some (.sl 1 (List.map encRep v31.fReps))⟩) :: (28, ⟨1, 1, false, some (.sl 1 (List.map encInt v31.fMarks))⟩) :: B9⟩ (laws_toAcct_spec a1 v31 hv32) ?_
     refine ro9 2 2 2 ⟨(8, .ptr 8 1 0) :: (28, .agg [zI v31.fHave, zI v31.fState, zI v31.fBy, .view 28 1 [] 0, .view 10028 1 [] 0]) :: (27, encAcct0 a1) :: T9, (8, ⟨1, 2, true, some (encAcct1 v31)⟩) :: (10028, ⟨1, 2, false, some (.junk)⟩) :: (28, ⟨1, 2, false, some (.junk)⟩) :: (8, ⟨1, 1, true, some (.agg [zI 0, zI 0, zI 0, .sl 1 (List.map encInt []), .sl 1 (List.map encRep [])])⟩) :: (10028, ⟨1, 1, false, some (.sl 1 (List.map encRep v31.fReps))⟩) :: (28, ⟨1, 1, false, some (.sl 1 (List.map encInt v31.fMarks))⟩) :: B9⟩ ?_
     let T11 : List (Nat × X) := [(8, .ptr 8 0 0), (7, .ptr 7 0 0), (6, zB v23), (3, .ptr 3 0 0), (2, .ptr 2 0 0)]
     let B11 : List (Nat × Bx) := [(8, ⟨0, 0, true, some (encAcct1 v31)⟩), (7, ⟨0, 0, true, some (encAcct1 v27)⟩), (3, ⟨0, 0, true, some (encAcct0 a1)⟩), (2, ⟨0, 0, true, some (encAcct0 a0)⟩)]
     refine wkr [8, 7, 6, 3, 2] [(8, 8, false), (7, 7, false), (3, 3, false), (2, 2, false)] ⟨T11, B11⟩ ?_
     refine sqr cv hn ?_
     refine ro 0 2 2 ⟨(30, .agg [zI v31.fHave, zI v31.fState, zI v31.fBy, .view 8 0 [] 3, .view 8 0 [] 4]) :: (29, .agg [zI v27.fHave, zI v27.fState, zI v27.fBy, .view 7 0 [] 3, .view 7 0 [] 4]) :: T11, B11⟩ ?_
     obtain ⟨v35, hv36, h⟩ := bindO h
     refine rcH 2 [List.map encInt v27.fMarks, List.map encRep v27.fReps, List.map encInt v31.fMarks, List.map encRep v31.fReps] ⟨(31, zB v35) :: (30, .agg [zI v31.fHave, zI v31.fState, zI v31.fBy, .view 8 0 [] 3, .view 8 0 [] 4]) :: (29, .agg [zI v27.fHave, zI v27.fState, zI v27.fBy, .view 7 0 [] 3, .view 7 0 [] 4]) :: T11, B11⟩ [X.rds (List.map encInt v27.fMarks) = true, X.roifys (List.map encInt v27.fMarks) = List.map encInt v27.fMarks, X.rds (List.map encRep v27.fReps) = true, X.roifys (List.map encRep v27.fReps) = List.map encRep v27.fReps, X.rds (List.map encInt v31.fMarks) = true, X.roifys (List.map encInt v31.fMarks) = List.map encInt v31.fMarks, X.rds (List.map encRep v31.fReps) = true, X.roifys (List.map encRep v31.fReps) = List.map encRep v31.fReps, rootsBut (cv 48) 0 [.agg [zI v27.fHave, zI v27.fState, zI v27.fBy, .view 7 0 [] 3, .view 7 0 [] 4], .agg [zI v31.fHave, zI v31.fState, zI v31.fBy, .view 8 0 [] 3, .view 8 0 [] 4]] = false ∨ (X.noRo (zB v35 : X) = true ∧ X.noRo (.junk : X) = true)] (impl_AcctSame_spec v27 v31 v35 hv36) ⟨rds_map rde_Int _, ro_map ro_Int _, rds_map rde_Rep _, ro_map ro_Rep _, rds_map rde_Int _, ro_map ro_Int _, rds_map rde_Rep _, ro_map ro_Rep _, .inr ⟨rfl, rfl⟩, trivial⟩ ?_
     refine ro9 3 1 1 ⟨(9, zB v35) :: (31, zB v35) :: (30, .agg [zI v31.fHave, zI v31.fState, zI v31.fBy, .view 8 0 [] 3, .view 8 0 [] 4]) :: (29, .agg [zI v27.fHave, zI v27.fState, zI v27.fBy, .view 7 0 [] 3, .view 7 0 [] 4]) :: T11, B11⟩ ?_
     refine runs_seq ?_
     refine sqr cv hn ?_
     refine ro9 0 3 3 ⟨(34, zB (v35 != v23)) :: (33, zB v23) :: (32, zB v35) :: (9, zB v35) :: (31, zB v35) :: (30, .agg [zI v31.fHave, zI v31.fState, zI v31.fBy, .view 8 0 [] 3, .view 8 0 [] 4]) :: (29, .agg [zI v27.fHave, zI v27.fState, zI v27.fBy, .view 7 0 [] 3, .view 7 0 [] 4]) :: T11, B11⟩ ?_
     rcases dich (v35 != v23) with hb38 | hb38
     · replace h := cond_t hb38 h
       refine ct hb38 ?_
       let T13 : List (Nat × X) := [(8, .ptr 8 0 0), (7, .ptr 7 0 0), (3, .ptr 3 0 0), (2, .ptr 2 0 0)]
       let B13 : List (Nat × Bx) := [(8, ⟨0, 0, true, some (encAcct1 v31)⟩), (7, ⟨0, 0, true, some (encAcct1 v27)⟩), (3, ⟨0, 0, true, some (encAcct0 a1)⟩), (2, ⟨0, 0, true, some (encAcct0 a0)⟩)]
       refine wkr [8, 7, 3, 2] [(8, 8, false), (7, 7, false), (3, 3, false), (2, 2, false)] ⟨T13, B13⟩ ?_
       refine sqr cv hn ?_
       refine ro9 0 1 1 ⟨(4, zB false) :: T13, B13⟩ ?_
       refine runs_ret ?_
       exact fin _ _ h (by kernel_rfl)
     · replace h := cond_f hb38 h
       refine cf hb38 ?_
       refine runs_skip ?_
       refine runs_seq ?_
       refine runs_seq ?_
       let T16 : List (Nat × X) := [(8, .ptr 8 0 0), (7, .ptr 7 0 0), (3, .ptr 3 0 0), (2, .ptr 2 0 0)]
       let B16 : List (Nat × Bx) := [(8, ⟨0, 0, true, some (encAcct1 v31)⟩), (7, ⟨0, 0, true, some (encAcct1 v27)⟩), (3, ⟨0, 0, true, some (encAcct0 a1)⟩), (2, ⟨0, 0, true, some (encAcct0 a0)⟩)]
       refine wkr [8, 7, 3, 2] [(8, 8, false), (7, 7, false), (3, 3, false), (2, 2, false)] ⟨T16, B16⟩ ?_
       refine rgT cv mixed hn ?_
       refine roT 0 2 2 ⟨(36, encAcct0 a0) :: (35, .agg [zI v27.fHave, zI v27.fState, zI v27.fBy, .view 7 0 [] 3, .view 7 0 [] 4]) :: T16, B16⟩ ?_
       obtain ⟨v44, hv45, h⟩ := bindO h
       refine rcT 2 ⟨(37, .agg [zI v44.fHave, zI v44.fState, zI v44.fBy, .view 37 1 [] 0, .view 10037 1 [] 0]) :: (36, encAcct0 a0) :: (35, .agg [zI v27.fHave, zI v27.fState, zI v27.fBy, .view 7 0 [] 3, .view 7 0 [] 4]) :: T16, (10037, ⟨1, 1, false, some (.sl 1 (List.map encRep v44.fReps))⟩) :: (37, ⟨1, 1, false, some (.sl 1 (List.map encInt v44.fMarks))⟩) :: B16⟩ (laws_toAcct_spec a0 v44 hv45) ?_
       obtain ⟨v46, hv47, h⟩ := bindO h
       refine rcHT 3 [List.map encInt v27.fMarks, List.map encRep v27.fReps, List.map encInt v44.fMarks, List.map encRep v44.fReps] ⟨(38, zB v46) :: (37, .agg [zI v44.fHave, zI v44.fState, zI v44.fBy, .view 37 1 [] 0, .view 10037 1 [] 0]) :: (36, encAcct0 a0) :: (35, .agg [zI v27.fHave, zI v27.fState, zI v27.fBy, .view 7 0 [] 3, .view 7 0 [] 4]) :: T16, (10037, ⟨1, 1, false, some (.sl 1 (List.map encRep v44.fReps))⟩) :: (37, ⟨1, 1, false, some (.sl 1 (List.map encInt v44.fMarks))⟩) :: B16⟩ [X.rds (List.map encInt v27.fMarks) = true, X.roifys (List.map encInt v27.fMarks) = List.map encInt v27.fMarks, X.rds (List.map encRep v27.fReps) = true, X.roifys (List.map encRep v27.fReps) = List.map encRep v27.fReps, X.rds (List.map encInt v44.fMarks) = true, X.roifys (List.map encInt v44.fMarks) = List.map encInt v44.fMarks, X.rds (List.map encRep v44.fReps) = true, X.roifys (List.map encRep v44.fReps) = List.map encRep v44.fReps, rootsBut (cv 46) 0 [.agg [zI v27.fHave, zI v27.fState, zI v27.fBy, .view 7 0 [] 3, .view 7 0 [] 4], .agg [zI v44.fHave, zI v44.fState, zI v44.fBy, .view 37 1 [] 0, .view 10037 1 [] 0]] = false ∨ (X.noRo (zB v46 : X) = true ∧ X.noRo (.junk : X) = true)] (laws_eqAcct_spec v27 v44 v46 hv47) ⟨rds_map rde_Int _, ro_map ro_Int _, rds_map rde_Rep _, ro_map ro_Rep _, rds_map rde_Int _, ro_map ro_Int _, rds_map rde_Rep _, ro_map ro_Rep _, .inr ⟨rfl, rfl⟩, trivial⟩ ?_
       refine roT9 4 1 1 ⟨(39, zB (!v46)) :: (38, zB v46) :: (37, .agg [zI v44.fHave, zI v44.fState, zI v44.fBy, .view 37 1 [] 0, .view 10037 1 [] 0]) :: (36, encAcct0 a0) :: (35, .agg [zI v27.fHave, zI v27.fState, zI v27.fBy, .view 7 0 [] 3, .view 7 0 [] 4]) :: T16, (10037, ⟨1, 1, false, some (.sl 1 (List.map encRep v44.fReps))⟩) :: (37, ⟨1, 1, false, some (.sl 1 (List.map encInt v44.fMarks))⟩) :: B16⟩ ?_
       rcases dich (!v46) with hb48 | hb48
       · replace h := cond_t hb48 h
         refine ct hb48 ?_
         let T17 : List (Nat × X) := [(8, .ptr 8 0 0), (3, .ptr 3 0 0)]
         let B17 : List (Nat × Bx) := [(8, ⟨0, 0, true, some (encAcct1 v31)⟩), (3, ⟨0, 0, true, some (encAcct0 a1)⟩)]
         refine wkr [8, 3] [(8, 8, false), (3, 3, false)] ⟨T17, B17⟩ ?_
         refine sqr cv hn ?_
         refine ro9 0 1 1 ⟨(4, zB false) :: T17, B17⟩ ?_
         refine runs_ret ?_
         exact fin _ _ h (by kernel_rfl)
       · replace h := cond_f hb48 h
         refine cf hb48 ?_
         refine runs_skip ?_
         refine runs_seq ?_
         refine runs_seq ?_
         let T18 : List (Nat × X) := [(8, .ptr 8 0 0), (3, .ptr 3 0 0)]
         let B18 : List (Nat × Bx) := [(8, ⟨0, 0, true, some (encAcct1 v31)⟩), (3, ⟨0, 0, true, some (encAcct0 a1)⟩)]
         refine wkr [8, 3] [(8, 8, false), (3, 3, false)] ⟨T18, B18⟩ ?_
         refine rgT cv mixed hn ?_
         refine roT 0 2 2 ⟨(41, encAcct0 a1) :: (40, .agg [zI v31.fHave, zI v31.fState, zI v31.fBy, .view 8 0 [] 3, .view 8 0 [] 4]) :: T18, B18⟩ ?_
         obtain ⟨v49, hv50, h⟩ := bindO h
         refine rcT 2 ⟨(42, .agg [zI v49.fHave, zI v49.fState, zI v49.fBy, .view 42 1 [] 0, .view 10042 1 [] 0]) :: (41, encAcct0 a1) :: (40, .agg [zI v31.fHave, zI v31.fState, zI v31.fBy, .view 8 0 [] 3, .view 8 0 [] 4]) :: T18, (10042, ⟨1, 1, false, some (.sl 1 (List.map encRep v49.fReps))⟩) :: (42, ⟨1, 1, false, some (.sl 1 (List.map encInt v49.fMarks))⟩) :: B18⟩ (laws_toAcct_spec a1 v49 hv50) ?_
         obtain ⟨v51, hv52, h⟩ := bindO h
         refine rcHT 3 [List.map encInt v31.fMarks, List.map encRep v31.fReps, List.map encInt v49.fMarks, List.map encRep v49.fReps] ⟨(43, zB v51) :: (42, .agg [zI v49.fHave, zI v49.fState, zI v49.fBy, .view 42 1 [] 0, .view 10042 1 [] 0]) :: (41, encAcct0 a1) :: (40, .agg [zI v31.fHave, zI v31.fState, zI v31.fBy, .view 8 0 [] 3, .view 8 0 [] 4]) :: T18, (10042, ⟨1, 1, false, some (.sl 1 (List.map encRep v49.fReps))⟩) :: (42, ⟨1, 1, false, some (.sl 1 (List.map encInt v49.fMarks))⟩) :: B18⟩ [X.rds (List.map encInt v31.fMarks) = true, X.roifys (List.map encInt v31.fMarks) = List.map encInt v31.fMarks, X.rds (List.map encRep v31.fReps) = true, X.roifys (List.map encRep v31.fReps) = List.map encRep v31.fReps, X.rds (List.map encInt v49.fMarks) = true, X.roifys (List.map encInt v49.fMarks) = List.map encInt v49.fMarks, X.rds (List.map encRep v49.fReps) = true, X.roifys (List.map encRep v49.fReps) = List.map encRep v49.fReps, rootsBut (cv 46) 0 [.agg [zI v31.fHave, zI v31.fState, zI v31.fBy, .view 8 0 [] 3, .view 8 0 [] 4], .agg [zI v49.fHave, zI v49.fState, zI v49.fBy, .view 42 1 [] 0, .view 10042 1 [] 0]] = false ∨ (X.noRo (zB v51 : X) = true ∧ X.noRo (.junk : X) = true)] (laws_eqAcct_spec v31 v49 v51 hv52) ⟨rds_map rde_Int _, ro_map ro_Int _, rds_map rde_Rep _, ro_map ro_Rep _, rds_map rde_Int _, ro_map ro_Int _, rds_map rde_Rep _, ro_map ro_Rep _, .inr ⟨rfl, rfl⟩, trivial⟩ ?_
         refine roT9 4 1 1 ⟨(44, zB (!v51)) :: (43, zB v51) :: (42, .agg [zI v49.fHave, zI v49.fState, zI v49.fBy, .view 42 1 [] 0, .view 10042 1 [] 0]) :: (41, encAcct0 a1) :: (40, .agg [zI v31.fHave, zI v31.fState, zI v31.fBy, .view 8 0 [] 3, .view 8 0 [] 4]) :: T18, (10042, ⟨1, 1, false, some (.sl 1 (List.map encRep v49.fReps))⟩) :: (42, ⟨1, 1, false, some (.sl 1 (List.map encInt v49.fMarks))⟩) :: B18⟩ ?_
         rcases dich (!v51) with hb53 | hb53
         · replace h := cond_t hb53 h
           refine ct hb53 ?_
           refine wkr [] [] ⟨[], []⟩ ?_
           refine sqr cv hn ?_
           refine ro9 0 1 1 ⟨[(4, zB false)], []⟩ ?_
           refine runs_ret ?_
           exact fin _ _ h (by kernel_rfl)
         · replace h := cond_f hb53 h
           refine cf hb53 ?_
           refine runs_skip ?_
           refine wkr [] [] ⟨[], []⟩ ?_
           refine sqr cv hn ?_
           refine ro9 0 1 1 ⟨[(4, zB true)], []⟩ ?_
           refine runs_ret ?_
           exact fin _ _ h (by kernel_rfl)

end Go.Proofs.Yteolobihfindjaa
