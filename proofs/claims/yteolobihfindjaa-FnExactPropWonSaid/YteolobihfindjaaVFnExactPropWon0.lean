/- The walks: each Go function answers what its plain function says. -/
import Derived.Test.YteolobihfindjaaUFnExactPropWon
import Derived.Test.YteolobihfindjaaProg
set_option linter.unusedVariables false
namespace Go.Proofs.Yteolobihfindjaa
open Go Ax
abbrev cv : Nat → Option Nat := fun g => bif g == 77 then some 0 else bif g == 60 then some 0 else bif g == 98 then some 0 else bif g == 63 then some 0 else none
theorem mixed : Try.prog.follows .mixedOrders = true := by decide +kernel

set_option maxRecDepth 100000 in
set_option maxHeartbeats 2000000 in
theorem laws_szIntS_spec (a0 : (List Int)) (a1 : Int) (v0 : Int) (h : laws_szIntS a0 a1 = some v0) : Ax.Spec Try.prog 69 none [.sl 0 (List.map encInt a0), zI a1] (zI v0 : X) (.junk : X) := by
 let T1 : List (Nat × X) := [(0, .sl 0 (List.map encInt a0)), (1, zI a1)]
 refine walk0 (fn := Try.f69) (fun q0 : Int => (zI q0 : X)) (fun q0 : Int => (.junk : X)) v0 ⟨T1, []⟩ Try.func69 rfl (by decide +kernel) fun Γ hn fin => ?_
 rw [laws_szIntS] at h
 refine sqr cv hn ?_
 refine ro9 0 1 1 ⟨(4, zI 0) :: T1, []⟩ ?_
 refine sqr cv hn ?_
 refine ro9 0 5 5 ⟨(1, zI (w64 (a1 - (a0.length : Int)))) :: (8, zI (w64 (a1 - (a0.length : Int)))) :: (7, zI (a0.length : Int)) :: (6, .sl 0 (List.map encInt a0)) :: (5, zI a1) :: (4, zI 0) :: T1, []⟩ ?_ (he := by rw [show (a0.length : Int) = ((List.map encInt a0).length : Int) from by rw [List.length_map]]; kernel_rfl)
 refine runs_seq ?_
 let T2 : List (Nat × X) := [(1, zI (w64 (a1 - (a0.length : Int))))]
 refine wkr [1] [] ⟨T2, []⟩ ?_
 refine sqr cv hn ?_
 refine ro9 0 2 2 ⟨(10, zB (decide ((w64 (a1 - (a0.length : Int))) < 0))) :: (9, zI (w64 (a1 - (a0.length : Int)))) :: T2, []⟩ ?_
 rcases dich (decide ((w64 (a1 - (a0.length : Int))) < 0)) with hb1 | hb1
 · replace h := cond_t hb1 h
   refine ct hb1 ?_
   refine sqr cv hn ?_
   refine ro9 0 1 1 ⟨(4, zI (-1)) :: (10, zB (decide ((w64 (a1 - (a0.length : Int))) < 0))) :: (9, zI (w64 (a1 - (a0.length : Int)))) :: T2, []⟩ ?_
   refine runs_ret ?_
   exact fin _ _ h (by kernel_rfl)
 · replace h := cond_f hb1 h
   refine cf hb1 ?_
   refine runs_skip ?_
   refine sqr cv hn ?_
   refine ro9 0 2 2 ⟨(4, zI (w64 (a1 - (a0.length : Int)))) :: (11, zI (w64 (a1 - (a0.length : Int)))) :: (10, zB (decide ((w64 (a1 - (a0.length : Int))) < 0))) :: (9, zI (w64 (a1 - (a0.length : Int)))) :: T2, []⟩ ?_
   refine runs_ret ?_
   exact fin _ _ h (by kernel_rfl)

set_option maxRecDepth 100000 in
set_option maxHeartbeats 2000000 in
theorem laws_szProp_spec (a0 : SProp) (a1 : Int) (v0 : Int) (h : laws_szProp a0 a1 = some v0) : Ax.Spec Try.prog 23 none [encProp0 a0, zI a1] (zI v0 : X) (.junk : X) := by
 refine walk0 (fn := Try.f23) (fun q0 : Int => (zI q0 : X)) (fun q0 : Int => (.junk : X)) v0 ⟨[(0, encProp0 a0), (1, zI a1)], []⟩ Try.func23 rfl (by decide +kernel) fun Γ hn fin => ?_
 rw [laws_szProp] at h
 refine sqr cv hn ?_
 refine ro9 0 2 2 ⟨[(4, zI 0), (2, .ptr 2 1 0), (0, encProp0 a0), (1, zI a1)], [(2, ⟨1, 1, true, some (encProp0 a0)⟩)]⟩ ?_
 refine sqr cv hn ?_
 refine ro 0 3 3 ⟨[(7, zI a1), (6, .sl 0 (List.map encInt a0.fFrom)), (5, .ptr 2 1 2), (4, zI 0), (2, .ptr 2 1 0), (0, encProp0 a0), (1, zI a1)], [(2, ⟨1, 1, true, some (encProp0 a0)⟩)]⟩ ?_
 obtain ⟨v3, hv4, h⟩ := bindO h
 refine rc 3 ⟨[(8, zI v3), (7, zI a1), (6, .sl 0 (List.map encInt a0.fFrom)), (5, .ptr 2 1 2), (4, zI 0), (2, .ptr 2 1 0), (0, encProp0 a0), (1, zI a1)], [(2, ⟨1, 1, true, some (encProp0 a0)⟩)]⟩ (laws_szIntS_spec a0.fFrom a1 v3 hv4) ?_
 refine ro9 4 1 1 ⟨[(1, zI v3), (8, zI v3), (7, zI a1), (6, .sl 0 (List.map encInt a0.fFrom)), (5, .ptr 2 1 2), (4, zI 0), (2, .ptr 2 1 0), (0, encProp0 a0), (1, zI a1)], [(2, ⟨1, 1, true, some (encProp0 a0)⟩)]⟩ ?_
 refine runs_seq ?_
 let B3 : List (Nat × Bx) := [(2, ⟨0, 0, true, some (encProp0 a0)⟩)]
 refine wkr [1, 2] [(2, 2, false)] ⟨[(1, zI v3), (2, .ptr 2 0 0)], B3⟩ ?_
 refine sqr cv hn ?_
 refine ro9 0 2 2 ⟨[(10, zB (decide (v3 < 0))), (9, zI v3), (1, zI v3), (2, .ptr 2 0 0)], B3⟩ ?_
 rcases dich (decide (v3 < 0)) with hb6 | hb6
 · replace h := cond_t hb6 h
   refine ct hb6 ?_
   refine sqr cv hn ?_
   refine ro9 0 1 1 ⟨[(4, zI (-1)), (10, zB (decide (v3 < 0))), (9, zI v3), (1, zI v3), (2, .ptr 2 0 0)], B3⟩ ?_
   refine runs_ret ?_
   exact fin _ _ h (by kernel_rfl)
 · replace h := cond_f hb6 h
   refine cf hb6 ?_
   refine runs_skip ?_
   refine sqr cv hn ?_
   refine ro 0 3 3 ⟨[(13, zI v3), (12, .sl 0 (List.map encInt a0.fGot)), (11, .ptr 2 0 4), (10, zB (decide (v3 < 0))), (9, zI v3), (1, zI v3), (2, .ptr 2 0 0)], B3⟩ ?_
   obtain ⟨v9, hv10, h⟩ := bindO h
   refine rc 3 ⟨[(14, zI v9), (13, zI v3), (12, .sl 0 (List.map encInt a0.fGot)), (11, .ptr 2 0 4), (10, zB (decide (v3 < 0))), (9, zI v3), (1, zI v3), (2, .ptr 2 0 0)], B3⟩ (laws_szIntS_spec a0.fGot v3 v9 hv10) ?_
   refine ro9 4 1 1 ⟨[(1, zI v9), (14, zI v9), (13, zI v3), (12, .sl 0 (List.map encInt a0.fGot)), (11, .ptr 2 0 4), (10, zB (decide (v3 < 0))), (9, zI v3), (1, zI v3), (2, .ptr 2 0 0)], B3⟩ ?_
   refine runs_seq ?_
   refine wkr [1] [] ⟨[(1, zI v9)], []⟩ ?_
   refine sqr cv hn ?_
   refine ro9 0 2 2 ⟨[(16, zB (decide (v9 < 0))), (15, zI v9), (1, zI v9)], []⟩ ?_
   rcases dich (decide (v9 < 0)) with hb11 | hb11
   · replace h := cond_t hb11 h
     refine ct hb11 ?_
     refine sqr cv hn ?_
     refine ro9 0 1 1 ⟨[(4, zI (-1)), (16, zB (decide (v9 < 0))), (15, zI v9), (1, zI v9)], []⟩ ?_
     refine runs_ret ?_
     exact fin _ _ h (by kernel_rfl)
   · replace h := cond_f hb11 h
     refine cf hb11 ?_
     refine runs_skip ?_
     refine sqr cv hn ?_
     refine ro9 0 2 2 ⟨[(4, zI v9), (17, zI v9), (16, zB (decide (v9 < 0))), (15, zI v9), (1, zI v9)], []⟩ ?_
     refine runs_ret ?_
     exact fin _ _ h (by kernel_rfl)

set_option maxRecDepth 100000 in
set_option maxHeartbeats 2000000 in
theorem laws_toIntS_spec (a0 : (List Int)) (v0 : (List Int)) (h : laws_toIntS a0 = some v0) : Ax.Spec Try.prog 73 none [.sl 0 (List.map encInt a0)] (.sl 1 (List.map encInt v0) : X) (.junk : X) := by
 let T1 : List (Nat × X) := [(0, .sl 0 (List.map encInt a0))]
 refine walk0 (fn := Try.f73) (fun q0 : (List Int) => (.sl 1 (List.map encInt q0) : X)) (fun q0 : (List Int) => (.junk : X)) v0 ⟨T1, []⟩ Try.func73 rfl (by decide +kernel) fun Γ hn fin => ?_
 rw [laws_toIntS] at h
 refine sqr cv hn ?_
 refine ro9 0 1 1 ⟨(2, .sc (.slice none 0 0)) :: T1, []⟩ ?_
 refine sqr cv hn ?_
 refine ro 0 2 2 ⟨(6, zI (a0.length : Int)) :: (5, .sl 0 (List.map encInt a0)) :: (2, .sc (.slice none 0 0)) :: T1, []⟩ ?_ (he := by rw [show (a0.length : Int) = ((List.map encInt a0).length : Int) from by rw [List.length_map]]; kernel_rfl)
 obtain ⟨hg2, h⟩ := gO_some h
 refine rs 2 ⟨(7, .view 7 1 [] 0) :: (6, zI (a0.length : Int)) :: (5, .sl 0 (List.map encInt a0)) :: (2, .sc (.slice none 0 0)) :: T1, [(7, ⟨1, 1, false, some (.sl 1 (List.map encInt (List.replicate (Int.toNat (a0.length : Int)) 0)))⟩)]⟩ [((a0.length : Int) : Int) = (a0.length : Int) ∧ 0 ≤ ((a0.length : Int) : Int) ∧ tBytes Try.prog 3 * (Int.toNat (a0.length : Int)) ≤ 140737488355328 ∧ (Int.toNat (a0.length : Int)) ≤ 140737488355328] ⟨⟨rfl, hg2.1, mk_side (by kernel_rfl) hg2.2, hg2.2.2⟩, trivial⟩ ?_ (he := by rw [show List.map encInt (List.replicate (Int.toNat (a0.length : Int)) 0) = List.replicate (Int.toNat (a0.length : Int)) (encInt 0) from List.map_replicate]; kernel_rfl)
 refine ro9 3 1 1 ⟨(3, .view 7 1 [] 0) :: (7, .view 7 1 [] 0) :: (6, zI (a0.length : Int)) :: (5, .sl 0 (List.map encInt a0)) :: (2, .sc (.slice none 0 0)) :: T1, [(7, ⟨1, 1, false, some (.sl 1 (List.map encInt (List.replicate (Int.toNat (a0.length : Int)) 0)))⟩)]⟩ ?_
 refine runs_seq ?_
 refine sqr cv hn ?_
 refine ro9 0 1 1 ⟨(4, zI 0) :: (3, .view 7 1 [] 0) :: (7, .view 7 1 [] 0) :: (6, zI (a0.length : Int)) :: (5, .sl 0 (List.map encInt a0)) :: (2, .sc (.slice none 0 0)) :: T1, [(7, ⟨1, 1, false, some (.sl 1 (List.map encInt (List.replicate (Int.toNat (a0.length : Int)) 0)))⟩)]⟩ ?_
 refine runs_block ?_
 refine runs_loopM (σ := List Int × Nat × (List Int)) (fun s => ⟨[(4, zI (s.2.1 : Int)), (3, .view 5000003 0 [] 0), (0, .sl 0 (List.map encInt a0))], [(5000003, ⟨0, 0, false, some (.sl 1 (List.map encInt s.2.2))⟩)]⟩) (fun s => s.1 = List.drop s.2.1 a0 ∧ laws_toIntS_l1 s.1 s.2.1 s.2.2 = some v0) (fun s => s.1.length) (a0, 0, List.replicate (Int.toNat (a0.length : Int)) 0) ⟨rfl, h⟩ (wre [4, 3, 0] [(5000003, 7, false)]) ?_
 rintro ⟨t1, i1, y12⟩ ⟨hd1, h⟩
 refine seq0 ⟨[(4, zI (i1 : Int)), (3, .view 5000003 0 [] 0), (0, .sl 0 (List.map encInt a0))], [(5000003, ⟨0, 0, false, some (.sl 1 (List.map encInt y12))⟩)]⟩ ?_
 refine runs_len 0 (es := List.map encInt a0) (by kernel_rfl) fun hl1 => ?_
 replace hl1 := len_of_map hl1
 cases t1 with
 | nil =>
   rw [laws_toIntS_l1] at h
   have hLn1 := dnil hd1
   refine runs_seq ?_
   refine sqr cv hn ?_
   refine ro9 0 4 4 ⟨[(11, zB (decide ((i1 : Int) < (a0.length : Int)))), (10, zI (a0.length : Int)), (9, .sl 0 (List.map encInt a0)), (8, zI (i1 : Int)), (4, zI (i1 : Int)), (3, .view 5000003 0 [] 0), (0, .sl 0 (List.map encInt a0))], [(5000003, ⟨0, 0, false, some (.sl 1 (List.map encInt y12))⟩)]⟩ ?_ (he := by rw [show (a0.length : Int) = ((List.map encInt a0).length : Int) from by rw [List.length_map]]; kernel_rfl)
   refine cf hLn1 ?_
   refine runs_exit ?_
   repeat refine thenX_exit ?_
   refine block_here ?_
   let B2 : List (Nat × Bx) := [(5000003, ⟨0, 0, false, some (.sl 1 (List.map encInt y12))⟩)]
   refine wkr [3] [(5000003, 5000003, false)] ⟨[(3, .view 5000003 0 [] 0)], B2⟩ ?_
   refine sqr cv hn ?_
   refine ro9 0 2 2 ⟨[(2, .view 5000003 0 [] 0), (21, .view 5000003 0 [] 0), (3, .view 5000003 0 [] 0)], B2⟩ ?_
   refine runs_ret ?_
   exact fin _ _ h (by kernel_rfl)
 | cons x10 t1 =>
   rw [laws_toIntS_l1] at h
   have hLc1 := dcons hd1
   have hx10 := dget hd1
   have hi1 := dinc hd1 hl1
   refine runs_seq ?_
   refine sqr cv hn ?_
   refine ro9 0 4 4 ⟨[(11, zB (decide ((i1 : Int) < (a0.length : Int)))), (10, zI (a0.length : Int)), (9, .sl 0 (List.map encInt a0)), (8, zI (i1 : Int)), (4, zI (i1 : Int)), (3, .view 5000003 0 [] 0), (0, .sl 0 (List.map encInt a0))], [(5000003, ⟨0, 0, false, some (.sl 1 (List.map encInt y12))⟩)]⟩ ?_ (he := by rw [show (a0.length : Int) = ((List.map encInt a0).length : Int) from by rw [List.length_map]]; kernel_rfl)
   refine ct hLc1 ?_
   refine runs_skip ?_
   refine runs_seq ?_
   refine runs_block ?_
   refine rg cv hn ?_
   refine ro 0 4 4 ⟨[(17, zI (i1 : Int)), (16, .sl 0 (List.map encInt a0)), (15, zI (i1 : Int)), (14, .view 5000003 0 [] 0), (11, zB (decide ((i1 : Int) < (a0.length : Int)))), (10, zI (a0.length : Int)), (9, .sl 0 (List.map encInt a0)), (8, zI (i1 : Int)), (4, zI (i1 : Int)), (3, .view 5000003 0 [] 0), (0, .sl 0 (List.map encInt a0))], [(5000003, ⟨0, 0, false, some (.sl 1 (List.map encInt y12))⟩)]⟩ ?_
   refine rix 4 encInt 3 hx10 (ix_nn hx10) ⟨[(18, .rp (zI x10) 0), (17, zI (i1 : Int)), (16, .sl 0 (List.map encInt a0)), (15, zI (i1 : Int)), (14, .view 5000003 0 [] 0), (11, zB (decide ((i1 : Int) < (a0.length : Int)))), (10, zI (a0.length : Int)), (9, .sl 0 (List.map encInt a0)), (8, zI (i1 : Int)), (4, zI (i1 : Int)), (3, .view 5000003 0 [] 0), (0, .sl 0 (List.map encInt a0))], [(5000003, ⟨0, 0, false, some (.sl 1 (List.map encInt y12))⟩)]⟩ ?_
   refine ro 5 1 1 ⟨[(19, zI x10), (18, .rp (zI x10) 0), (17, zI (i1 : Int)), (16, .sl 0 (List.map encInt a0)), (15, zI (i1 : Int)), (14, .view 5000003 0 [] 0), (11, zB (decide ((i1 : Int) < (a0.length : Int)))), (10, zI (a0.length : Int)), (9, .sl 0 (List.map encInt a0)), (8, zI (i1 : Int)), (4, zI (i1 : Int)), (3, .view 5000003 0 [] 0), (0, .sl 0 (List.map encInt a0))], [(5000003, ⟨0, 0, false, some (.sl 1 (List.map encInt y12))⟩)]⟩ ?_
   obtain ⟨x21, hx22, h⟩ := bindO h
   refine rix 6 encInt 3 hx22 (ix_nn hx22) ⟨[(20, .ep 5000003 0 [(0, (Int.toNat (i1 : Int)))] 0), (19, zI x10), (18, .rp (zI x10) 0), (17, zI (i1 : Int)), (16, .sl 0 (List.map encInt a0)), (15, zI (i1 : Int)), (14, .view 5000003 0 [] 0), (11, zB (decide ((i1 : Int) < (a0.length : Int)))), (10, zI (a0.length : Int)), (9, .sl 0 (List.map encInt a0)), (8, zI (i1 : Int)), (4, zI (i1 : Int)), (3, .view 5000003 0 [] 0), (0, .sl 0 (List.map encInt a0))], [(5000003, ⟨0, 0, false, some (.sl 1 (List.map encInt y12))⟩)]⟩ ?_
   refine ra 7 (zI x21 : X) (.sl 1 (List.map encInt (List.set y12 (Int.toNat (i1 : Int)) x10)) : X) ⟨[(20, .ep 5000003 0 [(0, (Int.toNat (i1 : Int)))] 0), (19, zI x10), (18, .rp (zI x10) 0), (17, zI (i1 : Int)), (16, .sl 0 (List.map encInt a0)), (15, zI (i1 : Int)), (14, .view 5000003 0 [] 0), (11, zB (decide ((i1 : Int) < (a0.length : Int)))), (10, zI (a0.length : Int)), (9, .sl 0 (List.map encInt a0)), (8, zI (i1 : Int)), (4, zI (i1 : Int)), (3, .view 5000003 0 [] 0), (0, .sl 0 (List.map encInt a0))], [(5000003, ⟨0, 0, false, some (.sl 1 (List.map encInt (List.set y12 (Int.toNat (i1 : Int)) x10)))⟩), (5000003, ⟨0, 0, false, some (.sl 1 (List.map encInt y12))⟩)]⟩ [X.nav (.sl 1 (List.map encInt y12) : X) [(0, (Int.toNat (i1 : Int)))] = some (zI x21 : X), X.upd false (.sl 1 (List.map encInt y12) : X) [(0, (Int.toNat (i1 : Int)))] (X.puts · 0 [zI x10]) = (.sl 1 (List.map encInt (List.set y12 (Int.toNat (i1 : Int)) x10)) : X)] ⟨nav_one (f := encInt) (t := 0) (by kernel_rfl) hx22, Eq.trans (upd_one (f := encInt) (v := x10) (t := 0) (by kernel_rfl) hx22 (by kernel_rfl)) (by kernel_rfl), trivial⟩ ?_
   refine re0 8 ?_
   refine rg cv hn ?_
   refine ro9 0 3 3 ⟨[(4, zI ((i1 + 1 : Nat) : Int)), (13, zI ((i1 + 1 : Nat) : Int)), (12, zI (i1 : Int)), (20, .ep 5000003 0 [(0, (Int.toNat (i1 : Int)))] 0), (19, zI x10), (18, .rp (zI x10) 0), (17, zI (i1 : Int)), (16, .sl 0 (List.map encInt a0)), (15, zI (i1 : Int)), (14, .view 5000003 0 [] 0), (11, zB (decide ((i1 : Int) < (a0.length : Int)))), (10, zI (a0.length : Int)), (9, .sl 0 (List.map encInt a0)), (8, zI (i1 : Int)), (4, zI (i1 : Int)), (3, .view 5000003 0 [] 0), (0, .sl 0 (List.map encInt a0))], [(5000003, ⟨0, 0, false, some (.sl 1 (List.map encInt (List.set y12 (Int.toNat (i1 : Int)) x10)))⟩), (5000003, ⟨0, 0, false, some (.sl 1 (List.map encInt y12))⟩)]⟩ ?_ (he := by rw [← hi1]; kernel_rfl)
   exact ⟨(t1, i1 + 1, List.set y12 (Int.toNat (i1 : Int)) x10), Nat.lt_succ_self _, ⟨dnext hd1, h⟩, wre [4, 3, 0] [(5000003, 5000003, false)]⟩

set_option maxRecDepth 100000 in
set_option maxHeartbeats 2000000 in
theorem laws_toProp_spec (a0 : SProp) (v0 : SProp) (h : laws_toProp a0 = some v0) : Ax.Spec Try.prog 25 none [encProp0 a0] (encProp1 v0 : X) (.junk : X) := by
 refine walk0 (fn := Try.f25) (fun q0 : SProp => (encProp1 q0 : X)) (fun q0 : SProp => (.junk : X)) v0 ⟨[(0, encProp0 a0)], []⟩ Try.func25 rfl (by decide +kernel) fun Γ hn fin => ?_
 rw [laws_toProp] at h
 refine sqr cv hn ?_
 refine ro9 0 2 2 ⟨[(2, .ptr 2 1 0), (1, .ptr 1 1 0), (0, encProp0 a0)], [(2, ⟨1, 1, true, some (.agg [zI 0, zI 0, .sl 1 (List.map encInt []), zI 0, .sl 1 (List.map encInt [])])⟩), (1, ⟨1, 1, true, some (encProp0 a0)⟩)]⟩ ?_
 refine sqr cv hn ?_
 refine ro9 0 1 1 ⟨[(3, .ptr 3 1 0), (2, .ptr 2 1 0), (1, .ptr 1 1 0), (0, encProp0 a0)], [(3, ⟨1, 1, true, some (.agg [zI 0, zI 0, .sl 1 (List.map encInt []), zI 0, .sl 1 (List.map encInt [])])⟩), (2, ⟨1, 1, true, some (.agg [zI 0, zI 0, .sl 1 (List.map encInt []), zI 0, .sl 1 (List.map encInt [])])⟩), (1, ⟨1, 1, true, some (encProp0 a0)⟩)]⟩ ?_
 refine sqr cv hn ?_
 refine ro9 0 4 4 ⟨[(6, .ptr 3 1 0), (5, zI a0.fBal), (4, .ptr 1 1 0), (3, .ptr 3 1 0), (2, .ptr 2 1 0), (1, .ptr 1 1 0), (0, encProp0 a0)], [(3, ⟨1, 1, true, some (.agg [zI a0.fBal, zI 0, .sl 1 (List.map encInt []), zI 0, .sl 1 (List.map encInt [])])⟩), (3, ⟨1, 1, true, some (.agg [zI 0, zI 0, .sl 1 (List.map encInt []), zI 0, .sl 1 (List.map encInt [])])⟩), (2, ⟨1, 1, true, some (.agg [zI 0, zI 0, .sl 1 (List.map encInt []), zI 0, .sl 1 (List.map encInt [])])⟩), (1, ⟨1, 1, true, some (encProp0 a0)⟩)]⟩ ?_
 refine sqr cv hn ?_
 refine ro9 0 4 4 ⟨[(9, .ptr 3 1 1), (8, zI a0.fVal), (7, .ptr 1 1 1), (6, .ptr 3 1 0), (5, zI a0.fBal), (4, .ptr 1 1 0), (3, .ptr 3 1 0), (2, .ptr 2 1 0), (1, .ptr 1 1 0), (0, encProp0 a0)], [(3, ⟨1, 1, true, some (.agg [zI a0.fBal, zI a0.fVal, .sl 1 (List.map encInt []), zI 0, .sl 1 (List.map encInt [])])⟩), (3, ⟨1, 1, true, some (.agg [zI a0.fBal, zI 0, .sl 1 (List.map encInt []), zI 0, .sl 1 (List.map encInt [])])⟩), (3, ⟨1, 1, true, some (.agg [zI 0, zI 0, .sl 1 (List.map encInt []), zI 0, .sl 1 (List.map encInt [])])⟩), (2, ⟨1, 1, true, some (.agg [zI 0, zI 0, .sl 1 (List.map encInt []), zI 0, .sl 1 (List.map encInt [])])⟩), (1, ⟨1, 1, true, some (encProp0 a0)⟩)]⟩ ?_
 let T3 : List (Nat × X) := [(3, .ptr 3 0 0), (2, .ptr 2 0 0), (1, .ptr 1 0 0)]
 let B3 : List (Nat × Bx) := [(3, ⟨0, 0, true, some (.agg [zI a0.fBal, zI a0.fVal, .sl 1 (List.map encInt []), zI 0, .sl 1 (List.map encInt [])])⟩), (2, ⟨0, 0, true, some (.agg [zI 0, zI 0, .sl 1 (List.map encInt []), zI 0, .sl 1 (List.map encInt [])])⟩), (1, ⟨0, 0, true, some (encProp0 a0)⟩)]
 refine wkr [3, 2, 1] [(3, 3, false), (2, 2, false), (1, 1, false)] ⟨T3, B3⟩ ?_
 refine sqr cv hn ?_
 refine ro 0 2 2 ⟨(11, .sl 0 (List.map encInt a0.fFrom)) :: (10, .ptr 1 0 2) :: T3, B3⟩ ?_
 obtain ⟨v3, hv4, h⟩ := bindO h
 refine rc 2 ⟨(12, .view 12 1 [] 0) :: (11, .sl 0 (List.map encInt a0.fFrom)) :: (10, .ptr 1 0 2) :: T3, (12, ⟨1, 1, false, some (.sl 1 (List.map encInt v3))⟩) :: B3⟩ (laws_toIntS_spec a0.fFrom v3 hv4) ?_
 refine ro9 3 2 2 ⟨(13, .ptr 3 0 2) :: (12, .view 12 1 [] 0) :: (11, .sl 0 (List.map encInt a0.fFrom)) :: (10, .ptr 1 0 2) :: T3, (3, ⟨0, 1, true, some (.agg [zI a0.fBal, zI a0.fVal, .sl 1 (List.map encInt v3), zI 0, .sl 1 (List.map encInt [])])⟩) :: (12, ⟨1, 2, false, some (.junk)⟩) :: (12, ⟨1, 1, false, some (.sl 1 (List.map encInt v3))⟩) :: B3⟩ ?_
 let T5 : List (Nat × X) := [(3, .ptr 3 0 0), (2, .ptr 2 0 0), (1, .ptr 1 0 0)]
 let B5 : List (Nat × Bx) := [(3, ⟨0, 0, true, some (.agg [zI a0.fBal, zI a0.fVal, .sl 1 (List.map encInt v3), zI 0, .sl 1 (List.map encInt [])])⟩), (2, ⟨0, 0, true, some (.agg [zI 0, zI 0, .sl 1 (List.map encInt []), zI 0, .sl 1 (List.map encInt [])])⟩), (1, ⟨0, 0, true, some (encProp0 a0)⟩)]
 refine wkr [3, 2, 1] [(3, 3, false), (2, 2, false), (1, 1, false)] ⟨T5, B5⟩ ?_
 refine sqr cv hn ?_
 refine ro9 0 4 4 ⟨(16, .ptr 3 0 3) :: (15, zI a0.fBest) :: (14, .ptr 1 0 3) :: T5, (3, ⟨0, 0, true, some (.agg [zI a0.fBal, zI a0.fVal, .sl 1 (List.map encInt v3), zI a0.fBest, .sl 1 (List.map encInt [])])⟩) :: B5⟩ ?_
 refine sqr cv hn ?_
 refine ro 0 2 2 ⟨(18, .sl 0 (List.map encInt a0.fGot)) :: (17, .ptr 1 0 4) :: (16, .ptr 3 0 3) :: (15, zI a0.fBest) :: (14, .ptr 1 0 3) :: T5, (3, ⟨0, 0, true, some (.agg [zI a0.fBal, zI a0.fVal, .sl 1 (List.map encInt v3), zI a0.fBest, .sl 1 (List.map encInt [])])⟩) :: B5⟩ ?_
 obtain ⟨v5, hv6, h⟩ := bindO h
 refine rc 2 ⟨(19, .view 19 1 [] 0) :: (18, .sl 0 (List.map encInt a0.fGot)) :: (17, .ptr 1 0 4) :: (16, .ptr 3 0 3) :: (15, zI a0.fBest) :: (14, .ptr 1 0 3) :: T5, (19, ⟨1, 1, false, some (.sl 1 (List.map encInt v5))⟩) :: (3, ⟨0, 0, true, some (.agg [zI a0.fBal, zI a0.fVal, .sl 1 (List.map encInt v3), zI a0.fBest, .sl 1 (List.map encInt [])])⟩) :: B5⟩ (laws_toIntS_spec a0.fGot v5 hv6) ?_
 refine ro9 3 2 2 ⟨(20, .ptr 3 0 4) :: (19, .view 19 1 [] 0) :: (18, .sl 0 (List.map encInt a0.fGot)) :: (17, .ptr 1 0 4) :: (16, .ptr 3 0 3) :: (15, zI a0.fBest) :: (14, .ptr 1 0 3) :: T5, (3, ⟨0, 1, true, some (.agg [zI a0.fBal, zI a0.fVal, .sl 1 (List.map encInt v3), zI a0.fBest, .sl 1 (List.map encInt v5)])⟩) :: (19, ⟨1, 2, false, some (.junk)⟩) :: (19, ⟨1, 1, false, some (.sl 1 (List.map encInt v5))⟩) :: (3, ⟨0, 0, true, some (.agg [zI a0.fBal, zI a0.fVal, .sl 1 (List.map encInt v3), zI a0.fBest, .sl 1 (List.map encInt [])])⟩) :: B5⟩ ?_
 let T6 : List (Nat × X) := [(3, .ptr 3 0 0), (2, .ptr 2 0 0)]
 let B6 : List (Nat × Bx) := [(3, ⟨0, 0, true, some (.agg [zI a0.fBal, zI a0.fVal, .sl 1 (List.map encInt v3), zI a0.fBest, .sl 1 (List.map encInt v5)])⟩), (2, ⟨0, 0, true, some (.agg [zI 0, zI 0, .sl 1 (List.map encInt []), zI 0, .sl 1 (List.map encInt [])])⟩)]
 refine wkr [3, 2] [(3, 3, false), (2, 2, false)] ⟨T6, B6⟩ ?_
 refine sqr cv hn ?_
 refine ro9 0 2 2 ⟨(21, .agg [zI a0.fBal, zI a0.fVal, .view 3 0 [] 2, zI a0.fBest, .view 3 0 [] 4]) :: T6, (2, ⟨0, 1, true, some (.agg [zI a0.fBal, zI a0.fVal, .sl 1 (List.map encInt v3), zI a0.fBest, .sl 1 (List.map encInt v5)])⟩) :: (3, ⟨0, 2, true, some (.agg [zI a0.fBal, zI a0.fVal, .junk, zI a0.fBest, .junk])⟩) :: (3, ⟨0, 1, true, some (.agg [zI a0.fBal, zI a0.fVal, .junk, zI a0.fBest, .sl 1 (List.map encInt v5)])⟩) :: B6⟩ ?_
 refine runs_ret ?_
 exact fin _ _ h (by kernel_rfl)

set_option maxRecDepth 100000 in
set_option maxHeartbeats 2000000 in
theorem laws_eqIntS_spec (a0 : (List Int)) (a1 : (List Int)) (v0 : Bool) (h : laws_eqIntS a0 a1 = some v0) : Ax.Spec Try.prog 75 none [.sl 0 (List.map encInt a0), .sl 0 (List.map encInt a1)] (zB v0 : X) (.junk : X) := by
 let T1 : List (Nat × X) := [(0, .sl 0 (List.map encInt a0)), (1, .sl 0 (List.map encInt a1))]
 refine walk0 (fn := Try.f75) (fun q0 : Bool => (zB q0 : X)) (fun q0 : Bool => (.junk : X)) v0 ⟨T1, []⟩ Try.func75 rfl (by decide +kernel) fun Γ hn fin => ?_
 rw [laws_eqIntS] at h
 refine sqr cv hn ?_
 refine ro9 0 1 1 ⟨(4, zB false) :: T1, []⟩ ?_
 refine runs_seq ?_
 refine sqr cv hn ?_
 refine ro9 0 5 5 ⟨(10, zB ((a0.length : Int) != (a1.length : Int))) :: (9, zI (a1.length : Int)) :: (8, .sl 0 (List.map encInt a1)) :: (7, zI (a0.length : Int)) :: (6, .sl 0 (List.map encInt a0)) :: (4, zB false) :: T1, []⟩ ?_ (he := by rw [show (a0.length : Int) = ((List.map encInt a0).length : Int) from by rw [List.length_map]]; rw [show (a1.length : Int) = ((List.map encInt a1).length : Int) from by rw [List.length_map]]; kernel_rfl)
 rcases dich ((a0.length : Int) != (a1.length : Int)) with hb2 | hb2
 · replace h := cond_t hb2 h
   refine ct hb2 ?_
   let T3 : List (Nat × X) := [(0, .sl 0 (List.map encInt a0)), (1, .sl 0 (List.map encInt a1))]
   refine wkr [0, 1] [] ⟨T3, []⟩ ?_
   refine sqr cv hn ?_
   refine ro9 0 1 1 ⟨(4, zB false) :: T3, []⟩ ?_
   refine runs_ret ?_
   exact fin _ _ h (by kernel_rfl)
 · replace h := cond_f hb2 h
   refine cf hb2 ?_
   refine runs_skip ?_
   refine runs_seq ?_
   let T5 : List (Nat × X) := [(0, .sl 0 (List.map encInt a0)), (1, .sl 0 (List.map encInt a1))]
   refine wkr [0, 1] [] ⟨T5, []⟩ ?_
   refine sqr cv hn ?_
   refine ro9 0 1 1 ⟨(5, zI 0) :: T5, []⟩ ?_
   refine runs_block ?_
   refine runs_loopM (σ := List Int × Nat) (fun s => ⟨[(5, zI (s.2 : Int)), (0, .sl 0 (List.map encInt a0)), (1, .sl 0 (List.map encInt a1))], []⟩) (fun s => s.1 = List.drop s.2 a0 ∧ laws_eqIntS_l1 a1 s.1 s.2 = some v0) (fun s => s.1.length) (a0, 0) ⟨rfl, h⟩ (wre [5, 0, 1] []) ?_
   rintro ⟨t1, i1⟩ ⟨hd1, h⟩
   refine seq0 ⟨[(5, zI (i1 : Int)), (0, .sl 0 (List.map encInt a0)), (1, .sl 0 (List.map encInt a1))], []⟩ ?_
   refine runs_len 0 (es := List.map encInt a0) (by kernel_rfl) fun hl1 => ?_
   replace hl1 := len_of_map hl1
   cases t1 with
   | nil =>
     rw [laws_eqIntS_l1] at h
     have hLn1 := dnil hd1
     refine runs_seq ?_
     refine sqr cv hn ?_
     refine ro9 0 4 4 ⟨[(14, zB (decide ((i1 : Int) < (a0.length : Int)))), (13, zI (a0.length : Int)), (12, .sl 0 (List.map encInt a0)), (11, zI (i1 : Int)), (5, zI (i1 : Int)), (0, .sl 0 (List.map encInt a0)), (1, .sl 0 (List.map encInt a1))], []⟩ ?_ (he := by rw [show (a0.length : Int) = ((List.map encInt a0).length : Int) from by rw [List.length_map]]; kernel_rfl)
     refine cf hLn1 ?_
     refine runs_exit ?_
     repeat refine thenX_exit ?_
     refine block_here ?_
     refine wkr [] [] ⟨[], []⟩ ?_
     refine sqr cv hn ?_
     refine ro9 0 1 1 ⟨[(4, zB true)], []⟩ ?_
     refine runs_ret ?_
     exact fin _ _ h (by kernel_rfl)
   | cons x10 t1 =>
     rw [laws_eqIntS_l1] at h
     have hLc1 := dcons hd1
     have hx10 := dget hd1
     have hi1 := dinc hd1 hl1
     refine runs_seq ?_
     refine sqr cv hn ?_
     refine ro9 0 4 4 ⟨[(14, zB (decide ((i1 : Int) < (a0.length : Int)))), (13, zI (a0.length : Int)), (12, .sl 0 (List.map encInt a0)), (11, zI (i1 : Int)), (5, zI (i1 : Int)), (0, .sl 0 (List.map encInt a0)), (1, .sl 0 (List.map encInt a1))], []⟩ ?_ (he := by rw [show (a0.length : Int) = ((List.map encInt a0).length : Int) from by rw [List.length_map]]; kernel_rfl)
     refine ct hLc1 ?_
     refine runs_skip ?_
     refine runs_seq ?_
     refine runs_block ?_
     refine runs_seq ?_
     refine rgT cv mixed hn ?_
     refine roT 0 2 2 ⟨[(18, zI (i1 : Int)), (17, .sl 0 (List.map encInt a0)), (14, zB (decide ((i1 : Int) < (a0.length : Int)))), (13, zI (a0.length : Int)), (12, .sl 0 (List.map encInt a0)), (11, zI (i1 : Int)), (5, zI (i1 : Int)), (0, .sl 0 (List.map encInt a0)), (1, .sl 0 (List.map encInt a1))], []⟩ ?_
     refine rixT 2 encInt 3 hx10 (ix_nn hx10) ⟨[(19, .rp (zI x10) 0), (18, zI (i1 : Int)), (17, .sl 0 (List.map encInt a0)), (14, zB (decide ((i1 : Int) < (a0.length : Int)))), (13, zI (a0.length : Int)), (12, .sl 0 (List.map encInt a0)), (11, zI (i1 : Int)), (5, zI (i1 : Int)), (0, .sl 0 (List.map encInt a0)), (1, .sl 0 (List.map encInt a1))], []⟩ ?_
     refine roT 3 3 3 ⟨[(22, zI (i1 : Int)), (21, .sl 0 (List.map encInt a1)), (20, zI x10), (19, .rp (zI x10) 0), (18, zI (i1 : Int)), (17, .sl 0 (List.map encInt a0)), (14, zB (decide ((i1 : Int) < (a0.length : Int)))), (13, zI (a0.length : Int)), (12, .sl 0 (List.map encInt a0)), (11, zI (i1 : Int)), (5, zI (i1 : Int)), (0, .sl 0 (List.map encInt a0)), (1, .sl 0 (List.map encInt a1))], []⟩ ?_
     obtain ⟨x20, hx21, h⟩ := bindO h
     refine rixT 6 encInt 3 hx21 (ix_nn hx21) ⟨[(23, .rp (zI x20) 0), (22, zI (i1 : Int)), (21, .sl 0 (List.map encInt a1)), (20, zI x10), (19, .rp (zI x10) 0), (18, zI (i1 : Int)), (17, .sl 0 (List.map encInt a0)), (14, zB (decide ((i1 : Int) < (a0.length : Int)))), (13, zI (a0.length : Int)), (12, .sl 0 (List.map encInt a0)), (11, zI (i1 : Int)), (5, zI (i1 : Int)), (0, .sl 0 (List.map encInt a0)), (1, .sl 0 (List.map encInt a1))], []⟩ ?_
     refine roT9 7 2 2 ⟨[(25, zB (x10 != x20)), (24, zI x20), (23, .rp (zI x20) 0), (22, zI (i1 : Int)), (21, .sl 0 (List.map encInt a1)), (20, zI x10), (19, .rp (zI x10) 0), (18, zI (i1 : Int)), (17, .sl 0 (List.map encInt a0)), (14, zB (decide ((i1 : Int) < (a0.length : Int)))), (13, zI (a0.length : Int)), (12, .sl 0 (List.map encInt a0)), (11, zI (i1 : Int)), (5, zI (i1 : Int)), (0, .sl 0 (List.map encInt a0)), (1, .sl 0 (List.map encInt a1))], []⟩ ?_
     rcases dich (x10 != x20) with hb22 | hb22
     · replace h := cond_t hb22 h
       refine ct hb22 ?_
       refine sqr cv hn ?_
       refine ro9 0 1 1 ⟨[(4, zB false), (25, zB (x10 != x20)), (24, zI x20), (23, .rp (zI x20) 0), (22, zI (i1 : Int)), (21, .sl 0 (List.map encInt a1)), (20, zI x10), (19, .rp (zI x10) 0), (18, zI (i1 : Int)), (17, .sl 0 (List.map encInt a0)), (14, zB (decide ((i1 : Int) < (a0.length : Int)))), (13, zI (a0.length : Int)), (12, .sl 0 (List.map encInt a0)), (11, zI (i1 : Int)), (5, zI (i1 : Int)), (0, .sl 0 (List.map encInt a0)), (1, .sl 0 (List.map encInt a1))], []⟩ ?_
       refine runs_ret ?_
       exact fin _ _ h (by kernel_rfl)
     · replace h := cond_f hb22 h
       refine cf hb22 ?_
       refine runs_skip ?_
       refine rg cv hn ?_
       refine ro9 0 3 3 ⟨[(5, zI ((i1 + 1 : Nat) : Int)), (16, zI ((i1 + 1 : Nat) : Int)), (15, zI (i1 : Int)), (25, zB (x10 != x20)), (24, zI x20), (23, .rp (zI x20) 0), (22, zI (i1 : Int)), (21, .sl 0 (List.map encInt a1)), (20, zI x10), (19, .rp (zI x10) 0), (18, zI (i1 : Int)), (17, .sl 0 (List.map encInt a0)), (14, zB (decide ((i1 : Int) < (a0.length : Int)))), (13, zI (a0.length : Int)), (12, .sl 0 (List.map encInt a0)), (11, zI (i1 : Int)), (5, zI (i1 : Int)), (0, .sl 0 (List.map encInt a0)), (1, .sl 0 (List.map encInt a1))], []⟩ ?_ (he := by rw [← hi1]; kernel_rfl)
       exact ⟨(t1, i1 + 1), Nat.lt_succ_self _, ⟨dnext hd1, h⟩, wre [5, 0, 1] []⟩

set_option maxRecDepth 100000 in
set_option maxHeartbeats 2000000 in
theorem laws_eqProp_spec (a0 : SProp) (a1 : SProp) (v0 : Bool) (h : laws_eqProp a0 a1 = some v0) : Ax.Spec Try.prog 27 none [encProp0 a0, encProp0 a1] (zB v0 : X) (.junk : X) := by
 let T1 : List (Nat × X) := [(0, encProp0 a0), (1, encProp0 a1)]
 refine walk0 (fn := Try.f27) (fun q0 : Bool => (zB q0 : X)) (fun q0 : Bool => (.junk : X)) v0 ⟨T1, []⟩ Try.func27 rfl (by decide +kernel) fun Γ hn fin => ?_
 rw [laws_eqProp] at h
 refine sqr cv hn ?_
 refine ro9 0 3 3 ⟨(4, zB false) :: (3, .ptr 3 1 0) :: (2, .ptr 2 1 0) :: T1, [(3, ⟨1, 1, true, some (encProp0 a1)⟩), (2, ⟨1, 1, true, some (encProp0 a0)⟩)]⟩ ?_
 refine runs_seq ?_
 refine sqr cv hn ?_
 refine ro9 0 5 5 ⟨(9, zB (a0.fBal != a1.fBal)) :: (8, zI a1.fBal) :: (7, .ptr 3 1 0) :: (6, zI a0.fBal) :: (5, .ptr 2 1 0) :: (4, zB false) :: (3, .ptr 3 1 0) :: (2, .ptr 2 1 0) :: T1, [(3, ⟨1, 1, true, some (encProp0 a1)⟩), (2, ⟨1, 1, true, some (encProp0 a0)⟩)]⟩ ?_
 rcases dich (a0.fBal != a1.fBal) with hb2 | hb2
 · replace h := cond_t hb2 h
   refine ct hb2 ?_
   let T3 : List (Nat × X) := [(3, .ptr 3 0 0), (2, .ptr 2 0 0)]
   let B3 : List (Nat × Bx) := [(3, ⟨0, 0, true, some (encProp0 a1)⟩), (2, ⟨0, 0, true, some (encProp0 a0)⟩)]
   refine wkr [3, 2] [(3, 3, false), (2, 2, false)] ⟨T3, B3⟩ ?_
   refine sqr cv hn ?_
   refine ro9 0 1 1 ⟨(4, zB false) :: T3, B3⟩ ?_
   refine runs_ret ?_
   exact fin _ _ h (by kernel_rfl)
 · replace h := cond_f hb2 h
   refine cf hb2 ?_
   refine runs_skip ?_
   refine runs_seq ?_
   let T6 : List (Nat × X) := [(3, .ptr 3 0 0), (2, .ptr 2 0 0)]
   let B6 : List (Nat × Bx) := [(3, ⟨0, 0, true, some (encProp0 a1)⟩), (2, ⟨0, 0, true, some (encProp0 a0)⟩)]
   refine wkr [3, 2] [(3, 3, false), (2, 2, false)] ⟨T6, B6⟩ ?_
   refine sqr cv hn ?_
   refine ro9 0 5 5 ⟨(14, zB (a0.fVal != a1.fVal)) :: (13, zI a1.fVal) :: (12, .ptr 3 0 1) :: (11, zI a0.fVal) :: (10, .ptr 2 0 1) :: T6, B6⟩ ?_
   rcases dich (a0.fVal != a1.fVal) with hb4 | hb4
   · replace h := cond_t hb4 h
     refine ct hb4 ?_
     let T7 : List (Nat × X) := [(3, .ptr 3 0 0), (2, .ptr 2 0 0)]
     let B7 : List (Nat × Bx) := [(3, ⟨0, 0, true, some (encProp0 a1)⟩), (2, ⟨0, 0, true, some (encProp0 a0)⟩)]
     refine wkr [3, 2] [(3, 3, false), (2, 2, false)] ⟨T7, B7⟩ ?_
     refine sqr cv hn ?_
     refine ro9 0 1 1 ⟨(4, zB false) :: T7, B7⟩ ?_
     refine runs_ret ?_
     exact fin _ _ h (by kernel_rfl)
   · replace h := cond_f hb4 h
     refine cf hb4 ?_
     refine runs_skip ?_
     refine runs_seq ?_
     let T10 : List (Nat × X) := [(3, .ptr 3 0 0), (2, .ptr 2 0 0)]
     let B10 : List (Nat × Bx) := [(3, ⟨0, 0, true, some (encProp0 a1)⟩), (2, ⟨0, 0, true, some (encProp0 a0)⟩)]
     refine wkr [3, 2] [(3, 3, false), (2, 2, false)] ⟨T10, B10⟩ ?_
     refine sqr cv hn ?_
     refine ro 0 4 4 ⟨(18, .sl 0 (List.map encInt a1.fFrom)) :: (17, .ptr 3 0 2) :: (16, .sl 0 (List.map encInt a0.fFrom)) :: (15, .ptr 2 0 2) :: T10, B10⟩ ?_
     obtain ⟨v8, hv9, h⟩ := bindO h
     refine rc 4 ⟨(19, zB v8) :: (18, .sl 0 (List.map encInt a1.fFrom)) :: (17, .ptr 3 0 2) :: (16, .sl 0 (List.map encInt a0.fFrom)) :: (15, .ptr 2 0 2) :: T10, B10⟩ (laws_eqIntS_spec a0.fFrom a1.fFrom v8 hv9) ?_
     refine ro9 5 1 1 ⟨(20, zB (!v8)) :: (19, zB v8) :: (18, .sl 0 (List.map encInt a1.fFrom)) :: (17, .ptr 3 0 2) :: (16, .sl 0 (List.map encInt a0.fFrom)) :: (15, .ptr 2 0 2) :: T10, B10⟩ ?_
     rcases dich (!v8) with hb10 | hb10
     · replace h := cond_t hb10 h
       refine ct hb10 ?_
       let T11 : List (Nat × X) := [(3, .ptr 3 0 0), (2, .ptr 2 0 0)]
       let B11 : List (Nat × Bx) := [(3, ⟨0, 0, true, some (encProp0 a1)⟩), (2, ⟨0, 0, true, some (encProp0 a0)⟩)]
       refine wkr [3, 2] [(3, 3, false), (2, 2, false)] ⟨T11, B11⟩ ?_
       refine sqr cv hn ?_
       refine ro9 0 1 1 ⟨(4, zB false) :: T11, B11⟩ ?_
       refine runs_ret ?_
       exact fin _ _ h (by kernel_rfl)
     · replace h := cond_f hb10 h
       refine cf hb10 ?_
       refine runs_skip ?_
       refine runs_seq ?_
       let T14 : List (Nat × X) := [(3, .ptr 3 0 0), (2, .ptr 2 0 0)]
       let B14 : List (Nat × Bx) := [(3, ⟨0, 0, true, some (encProp0 a1)⟩), (2, ⟨0, 0, true, some (encProp0 a0)⟩)]
       refine wkr [3, 2] [(3, 3, false), (2, 2, false)] ⟨T14, B14⟩ ?_
       refine sqr cv hn ?_
       refine ro9 0 5 5 ⟨(25, zB (a0.fBest != a1.fBest)) :: (24, zI a1.fBest) :: (23, .ptr 3 0 3) :: (22, zI a0.fBest) :: (21, .ptr 2 0 3) :: T14, B14⟩ ?_
       rcases dich (a0.fBest != a1.fBest) with hb12 | hb12
       · replace h := cond_t hb12 h
         refine ct hb12 ?_
         let T15 : List (Nat × X) := [(3, .ptr 3 0 0), (2, .ptr 2 0 0)]
         let B15 : List (Nat × Bx) := [(3, ⟨0, 0, true, some (encProp0 a1)⟩), (2, ⟨0, 0, true, some (encProp0 a0)⟩)]
         refine wkr [3, 2] [(3, 3, false), (2, 2, false)] ⟨T15, B15⟩ ?_
         refine sqr cv hn ?_
         refine ro9 0 1 1 ⟨(4, zB false) :: T15, B15⟩ ?_
         refine runs_ret ?_
         exact fin _ _ h (by kernel_rfl)
       · replace h := cond_f hb12 h
         refine cf hb12 ?_
         refine runs_skip ?_
         refine runs_seq ?_
         let T16 : List (Nat × X) := [(3, .ptr 3 0 0), (2, .ptr 2 0 0)]
         let B16 : List (Nat × Bx) := [(3, ⟨0, 0, true, some (encProp0 a1)⟩), (2, ⟨0, 0, true, some (encProp0 a0)⟩)]
         refine wkr [3, 2] [(3, 3, false), (2, 2, false)] ⟨T16, B16⟩ ?_
         refine sqr cv hn ?_
         refine ro 0 4 4 ⟨(29, .sl 0 (List.map encInt a1.fGot)) :: (28, .ptr 3 0 4) :: (27, .sl 0 (List.map encInt a0.fGot)) :: (26, .ptr 2 0 4) :: T16, B16⟩ ?_
         obtain ⟨v13, hv14, h⟩ := bindO h
         refine rc 4 ⟨(30, zB v13) :: (29, .sl 0 (List.map encInt a1.fGot)) :: (28, .ptr 3 0 4) :: (27, .sl 0 (List.map encInt a0.fGot)) :: (26, .ptr 2 0 4) :: T16, B16⟩ (laws_eqIntS_spec a0.fGot a1.fGot v13 hv14) ?_
         refine ro9 5 1 1 ⟨(31, zB (!v13)) :: (30, zB v13) :: (29, .sl 0 (List.map encInt a1.fGot)) :: (28, .ptr 3 0 4) :: (27, .sl 0 (List.map encInt a0.fGot)) :: (26, .ptr 2 0 4) :: T16, B16⟩ ?_
         rcases dich (!v13) with hb15 | hb15
         · replace h := cond_t hb15 h
           refine ct hb15 ?_
           refine wkr [] [] ⟨[], []⟩ ?_
           refine sqr cv hn ?_
           refine ro9 0 1 1 ⟨[(4, zB false)], []⟩ ?_
           refine runs_ret ?_
           exact fin _ _ h (by kernel_rfl)
         · replace h := cond_f hb15 h
           refine cf hb15 ?_
           refine runs_skip ?_
           refine wkr [] [] ⟨[], []⟩ ?_
           refine sqr cv hn ?_
           refine ro9 0 1 1 ⟨[(4, zB true)], []⟩ ?_
           refine runs_ret ?_
           exact fin _ _ h (by kernel_rfl)

set_option maxRecDepth 100000 in
set_option maxHeartbeats 2000000 in
theorem spec_l01In_spec (a0 : Int) (a1 : Int) (a2 : Int) (v0 : Bool) (h : spec_l01In a0 a1 a2 = some v0) : Ax.Spec Try.prog 70 none [zI a0, zI a1, zI a2] (zB v0 : X) (.junk : X) := by
 let T1 : List (Nat × X) := [(0, zI a0), (1, zI a1), (2, zI a2)]
 refine walk0 (fn := Try.f70) (fun q0 : Bool => (zB q0 : X)) (fun q0 : Bool => (.junk : X)) v0 ⟨T1, []⟩ Try.func70 rfl (by decide +kernel) fun Γ hn fin => ?_
 rw [spec_l01In] at h
 refine sqr cv hn ?_
 refine ro9 0 1 1 ⟨(6, zB false) :: T1, []⟩ ?_
 refine sqr cv hn ?_
 refine ro 0 4 4 ⟨(10, zB (decide (a0 ≥ a1))) :: (9, zB (decide (a0 ≥ a1))) :: (8, zI a1) :: (7, zI a0) :: (6, zB false) :: T1, []⟩ ?_
 rcases dich (decide (a0 ≥ a1)) with hb1 | hb1
 · replace h := cond_t hb1 h
   refine rl 10 true hb1 ?_
   refine ro9 4 5 5 ⟨(6, zB (decide (a0 ≤ a2))) :: (14, zB (decide (a0 ≤ a2))) :: (13, zB (decide (a0 ≤ a2))) :: (12, zI a2) :: (11, zI a0) :: (10, zB true) :: (9, zB (decide (a0 ≥ a1))) :: (8, zI a1) :: (7, zI a0) :: (6, zB false) :: T1, []⟩ ?_
   refine runs_ret ?_
   exact fin _ _ h (by kernel_rfl)
 · replace h := cond_f hb1 h
   refine rl 10 false hb1 ?_
   refine ro9 4 5 2 ⟨(6, zB false) :: (14, zB false) :: (13, .tup []) :: (12, .tup []) :: (11, .tup []) :: (10, zB false) :: (9, zB (decide (a0 ≥ a1))) :: (8, zI a1) :: (7, zI a0) :: (6, zB false) :: T1, []⟩ ?_
   refine runs_ret ?_
   exact fin _ _ h (by kernel_rfl)

set_option maxRecDepth 100000 in
set_option maxHeartbeats 2000000 in
theorem spec_l07Val_spec (a0 : Int) (v0 : Bool) (h : spec_l07Val a0 = some v0) : Ax.Spec Try.prog 71 none [zI a0] (zB v0 : X) (.junk : X) := by
 refine walk0 (fn := Try.f71) (fun q0 : Bool => (zB q0 : X)) (fun q0 : Bool => (.junk : X)) v0 ⟨[(0, zI a0)], []⟩ Try.func71 rfl (by decide +kernel) fun Γ hn fin => ?_
 rw [spec_l07Val] at h
 refine sqr cv hn ?_
 refine ro9 0 1 1 ⟨[(2, zB false), (0, zI a0)], []⟩ ?_
 refine sqr cv hn ?_
 refine ro 0 1 1 ⟨[(3, zI a0), (2, zB false), (0, zI a0)], []⟩ ?_
 obtain ⟨v1, hv2, h⟩ := bindO h
 refine rc 1 ⟨[(4, zB v1), (3, zI a0), (2, zB false), (0, zI a0)], []⟩ (spec_l01In_spec a0 1 4 v1 hv2) ?_
 refine ro9 2 1 1 ⟨[(2, zB v1), (4, zB v1), (3, zI a0), (2, zB false), (0, zI a0)], []⟩ ?_
 refine runs_ret ?_
 exact fin _ _ h (by kernel_rfl)

set_option maxRecDepth 100000 in
set_option maxHeartbeats 2000000 in
theorem spec_l07Node_spec (a0 : Int) (v0 : Bool) (h : spec_l07Node a0 = some v0) : Ax.Spec Try.prog 79 none [zI a0] (zB v0 : X) (.junk : X) := by
 refine walk0 (fn := Try.f79) (fun q0 : Bool => (zB q0 : X)) (fun q0 : Bool => (.junk : X)) v0 ⟨[(0, zI a0)], []⟩ Try.func79 rfl (by decide +kernel) fun Γ hn fin => ?_
 rw [spec_l07Node] at h
 refine sqr cv hn ?_
 refine ro9 0 1 1 ⟨[(2, zB false), (0, zI a0)], []⟩ ?_
 refine sqr cv hn ?_
 refine ro 0 1 1 ⟨[(3, zI a0), (2, zB false), (0, zI a0)], []⟩ ?_
 obtain ⟨v1, hv2, h⟩ := bindO h
 refine rc 1 ⟨[(4, zB v1), (3, zI a0), (2, zB false), (0, zI a0)], []⟩ (spec_l01In_spec a0 0 3 v1 hv2) ?_
 refine ro9 2 1 1 ⟨[(2, zB v1), (4, zB v1), (3, zI a0), (2, zB false), (0, zI a0)], []⟩ ?_
 refine runs_ret ?_
 exact fin _ _ h (by kernel_rfl)

set_option maxRecDepth 100000 in
set_option maxHeartbeats 2000000 in
theorem spec_l07Rise_spec (a0 : (List Int)) (v0 : Bool) (h : spec_l07Rise a0 = some v0) : Ax.Spec Try.prog 72 none [.sl 0 (List.map encInt a0)] (zB v0 : X) (.junk : X) := by
 let T1 : List (Nat × X) := [(0, .sl 0 (List.map encInt a0))]
 refine walk0 (fn := Try.f72) (fun q0 : Bool => (zB q0 : X)) (fun q0 : Bool => (.junk : X)) v0 ⟨T1, []⟩ Try.func72 rfl (by decide +kernel) fun Γ hn fin => ?_
 rw [spec_l07Rise] at h
 refine sqr cv hn ?_
 refine ro9 0 1 1 ⟨(2, zB false) :: T1, []⟩ ?_
 refine runs_seq ?_
 refine sqr cv hn ?_
 refine ro9 0 3 3 ⟨(7, zI 0) :: (6, zI (a0.length : Int)) :: (5, .sl 0 (List.map encInt a0)) :: (2, zB false) :: T1, []⟩ ?_ (he := by rw [show (a0.length : Int) = ((List.map encInt a0).length : Int) from by rw [List.length_map]]; kernel_rfl)
 refine runs_block ?_
 refine runs_loopM (σ := List Int × Nat) (fun s => ⟨[(7, zI (s.2 : Int)), (6, zI (a0.length : Int)), (5, .sl 0 (List.map encInt a0)), (0, .sl 0 (List.map encInt a0))], []⟩) (fun s => s.1 = List.drop s.2 a0 ∧ spec_l07Rise_l1 a0 s.1 s.2 = some v0) (fun s => s.1.length) (a0, 0) ⟨rfl, h⟩ (wre [7, 6, 5, 0] []) ?_
 rintro ⟨t1, i1⟩ ⟨hd1, h⟩
 refine seq0 ⟨[(7, zI (i1 : Int)), (6, zI (a0.length : Int)), (5, .sl 0 (List.map encInt a0)), (0, .sl 0 (List.map encInt a0))], []⟩ ?_
 refine runs_len 5 (es := List.map encInt a0) (by kernel_rfl) fun hl1 => ?_
 replace hl1 := len_of_map hl1
 cases t1 with
 | nil =>
   rw [spec_l07Rise_l1] at h
   have hLn1 := dnil hd1
   refine sqr cv hn ?_
   refine ro9 0 1 1 ⟨[(8, zB (decide ((i1 : Int) < (a0.length : Int)))), (7, zI (i1 : Int)), (6, zI (a0.length : Int)), (5, .sl 0 (List.map encInt a0)), (0, .sl 0 (List.map encInt a0))], []⟩ ?_
   refine runs_seq ?_
   refine cf hLn1 ?_
   refine runs_exit ?_
   repeat refine thenX_exit ?_
   refine block_here ?_
   refine wkr [] [] ⟨[], []⟩ ?_
   refine sqr cv hn ?_
   refine ro9 0 1 1 ⟨[(2, zB true)], []⟩ ?_
   refine runs_ret ?_
   exact fin _ _ h (by kernel_rfl)
 | cons x10 t1 =>
   rw [spec_l07Rise_l1] at h
   have hLc1 := dcons hd1
   have hx10 := dget hd1
   have hi1 := dinc hd1 hl1
   refine sqr cv hn ?_
   refine ro9 0 1 1 ⟨[(8, zB (decide ((i1 : Int) < (a0.length : Int)))), (7, zI (i1 : Int)), (6, zI (a0.length : Int)), (5, .sl 0 (List.map encInt a0)), (0, .sl 0 (List.map encInt a0))], []⟩ ?_
   refine runs_seq ?_
   refine ct hLc1 ?_
   refine runs_skip ?_
   refine runs_seq ?_
   refine runs_block ?_
   refine sqr cv hn ?_
   refine ro 0 1 1 ⟨[(9, zI (i1 : Int)), (8, zB (decide ((i1 : Int) < (a0.length : Int)))), (7, zI (i1 : Int)), (6, zI (a0.length : Int)), (5, .sl 0 (List.map encInt a0)), (0, .sl 0 (List.map encInt a0))], []⟩ ?_
   refine rix 1 encInt 3 hx10 (ix_nn hx10) ⟨[(10, .rp (zI x10) 0), (9, zI (i1 : Int)), (8, zB (decide ((i1 : Int) < (a0.length : Int)))), (7, zI (i1 : Int)), (6, zI (a0.length : Int)), (5, .sl 0 (List.map encInt a0)), (0, .sl 0 (List.map encInt a0))], []⟩ ?_
   refine ro9 2 3 3 ⟨[(4, zI x10), (3, zI (i1 : Int)), (11, zI x10), (10, .rp (zI x10) 0), (9, zI (i1 : Int)), (8, zB (decide ((i1 : Int) < (a0.length : Int)))), (7, zI (i1 : Int)), (6, zI (a0.length : Int)), (5, .sl 0 (List.map encInt a0)), (0, .sl 0 (List.map encInt a0))], []⟩ ?_
   refine sqr cv hn ?_
   refine ro 0 1 1 ⟨[(12, zI x10), (4, zI x10), (3, zI (i1 : Int)), (11, zI x10), (10, .rp (zI x10) 0), (9, zI (i1 : Int)), (8, zB (decide ((i1 : Int) < (a0.length : Int)))), (7, zI (i1 : Int)), (6, zI (a0.length : Int)), (5, .sl 0 (List.map encInt a0)), (0, .sl 0 (List.map encInt a0))], []⟩ ?_
   obtain ⟨v26, hv27, h⟩ := bindO h
   refine rc 1 ⟨[(13, zB v26), (12, zI x10), (4, zI x10), (3, zI (i1 : Int)), (11, zI x10), (10, .rp (zI x10) 0), (9, zI (i1 : Int)), (8, zB (decide ((i1 : Int) < (a0.length : Int)))), (7, zI (i1 : Int)), (6, zI (a0.length : Int)), (5, .sl 0 (List.map encInt a0)), (0, .sl 0 (List.map encInt a0))], []⟩ (spec_l07Node_spec x10 v26 hv27) ?_
   refine ro 2 2 2 ⟨[(15, zB (!v26)), (14, zB (!v26)), (13, zB v26), (12, zI x10), (4, zI x10), (3, zI (i1 : Int)), (11, zI x10), (10, .rp (zI x10) 0), (9, zI (i1 : Int)), (8, zB (decide ((i1 : Int) < (a0.length : Int)))), (7, zI (i1 : Int)), (6, zI (a0.length : Int)), (5, .sl 0 (List.map encInt a0)), (0, .sl 0 (List.map encInt a0))], []⟩ ?_
   rcases dich (!v26) with hb28 | hb28
   · replace h := cond_t hb28 h
     refine rl 15 true hb28 ?_
     refine ro9 4 12 1 ⟨[(27, zB true), (26, .tup []), (25, .tup []), (24, .tup []), (23, .tup []), (22, .tup []), (21, .tup []), (20, .tup []), (19, .tup []), (18, .tup []), (17, .tup []), (16, .tup []), (15, zB true), (14, zB (!v26)), (13, zB v26), (12, zI x10), (4, zI x10), (3, zI (i1 : Int)), (11, zI x10), (10, .rp (zI x10) 0), (9, zI (i1 : Int)), (8, zB (decide ((i1 : Int) < (a0.length : Int)))), (7, zI (i1 : Int)), (6, zI (a0.length : Int)), (5, .sl 0 (List.map encInt a0)), (0, .sl 0 (List.map encInt a0))], []⟩ ?_
     refine cT ?_
     refine sqr cv hn ?_
     refine ro9 0 1 1 ⟨[(2, zB false), (27, zB true), (26, .tup []), (25, .tup []), (24, .tup []), (23, .tup []), (22, .tup []), (21, .tup []), (20, .tup []), (19, .tup []), (18, .tup []), (17, .tup []), (16, .tup []), (15, zB true), (14, zB (!v26)), (13, zB v26), (12, zI x10), (4, zI x10), (3, zI (i1 : Int)), (11, zI x10), (10, .rp (zI x10) 0), (9, zI (i1 : Int)), (8, zB (decide ((i1 : Int) < (a0.length : Int)))), (7, zI (i1 : Int)), (6, zI (a0.length : Int)), (5, .sl 0 (List.map encInt a0)), (0, .sl 0 (List.map encInt a0))], []⟩ ?_
     refine runs_ret ?_
     exact fin _ _ h (by kernel_rfl)
   · replace h := cond_f hb28 h
     refine rl 15 false hb28 ?_
     refine ro 4 3 3 ⟨[(18, zB (decide ((i1 : Int) > 0))), (17, zB (decide ((i1 : Int) > 0))), (16, zI (i1 : Int)), (15, zB false), (14, zB (!v26)), (13, zB v26), (12, zI x10), (4, zI x10), (3, zI (i1 : Int)), (11, zI x10), (10, .rp (zI x10) 0), (9, zI (i1 : Int)), (8, zB (decide ((i1 : Int) < (a0.length : Int)))), (7, zI (i1 : Int)), (6, zI (a0.length : Int)), (5, .sl 0 (List.map encInt a0)), (0, .sl 0 (List.map encInt a0))], []⟩ ?_
     rcases dich (decide ((i1 : Int) > 0)) with hb29 | hb29
     · replace h := cond_t hb29 h
       refine rl 18 true hb29 ?_
       refine ro 7 3 3 ⟨[(21, zI (w64 ((i1 : Int) - 1))), (20, zI (i1 : Int)), (19, .sl 0 (List.map encInt a0)), (18, zB true), (17, zB (decide ((i1 : Int) > 0))), (16, zI (i1 : Int)), (15, zB false), (14, zB (!v26)), (13, zB v26), (12, zI x10), (4, zI x10), (3, zI (i1 : Int)), (11, zI x10), (10, .rp (zI x10) 0), (9, zI (i1 : Int)), (8, zB (decide ((i1 : Int) < (a0.length : Int)))), (7, zI (i1 : Int)), (6, zI (a0.length : Int)), (5, .sl 0 (List.map encInt a0)), (0, .sl 0 (List.map encInt a0))], []⟩ ?_
       obtain ⟨x30, hx31, h⟩ := bindO h
       refine rix 10 encInt 3 hx31 (ix_nn hx31) ⟨[(22, .rp (zI x30) 0), (21, zI (w64 ((i1 : Int) - 1))), (20, zI (i1 : Int)), (19, .sl 0 (List.map encInt a0)), (18, zB true), (17, zB (decide ((i1 : Int) > 0))), (16, zI (i1 : Int)), (15, zB false), (14, zB (!v26)), (13, zB v26), (12, zI x10), (4, zI x10), (3, zI (i1 : Int)), (11, zI x10), (10, .rp (zI x10) 0), (9, zI (i1 : Int)), (8, zB (decide ((i1 : Int) < (a0.length : Int)))), (7, zI (i1 : Int)), (6, zI (a0.length : Int)), (5, .sl 0 (List.map encInt a0)), (0, .sl 0 (List.map encInt a0))], []⟩ ?_
       refine ro9 11 5 5 ⟨[(27, zB (decide (x30 ≥ x10))), (26, zB (decide (x30 ≥ x10))), (25, zB (decide (x30 ≥ x10))), (24, zI x10), (23, zI x30), (22, .rp (zI x30) 0), (21, zI (w64 ((i1 : Int) - 1))), (20, zI (i1 : Int)), (19, .sl 0 (List.map encInt a0)), (18, zB true), (17, zB (decide ((i1 : Int) > 0))), (16, zI (i1 : Int)), (15, zB false), (14, zB (!v26)), (13, zB v26), (12, zI x10), (4, zI x10), (3, zI (i1 : Int)), (11, zI x10), (10, .rp (zI x10) 0), (9, zI (i1 : Int)), (8, zB (decide ((i1 : Int) < (a0.length : Int)))), (7, zI (i1 : Int)), (6, zI (a0.length : Int)), (5, .sl 0 (List.map encInt a0)), (0, .sl 0 (List.map encInt a0))], []⟩ ?_
       rcases dich (decide (x30 ≥ x10)) with hb32 | hb32
       · replace h := cond_t hb32 h
         refine ct hb32 ?_
         refine sqr cv hn ?_
         refine ro9 0 1 1 ⟨[(2, zB false), (27, zB (decide (x30 ≥ x10))), (26, zB (decide (x30 ≥ x10))), (25, zB (decide (x30 ≥ x10))), (24, zI x10), (23, zI x30), (22, .rp (zI x30) 0), (21, zI (w64 ((i1 : Int) - 1))), (20, zI (i1 : Int)), (19, .sl 0 (List.map encInt a0)), (18, zB true), (17, zB (decide ((i1 : Int) > 0))), (16, zI (i1 : Int)), (15, zB false), (14, zB (!v26)), (13, zB v26), (12, zI x10), (4, zI x10), (3, zI (i1 : Int)), (11, zI x10), (10, .rp (zI x10) 0), (9, zI (i1 : Int)), (8, zB (decide ((i1 : Int) < (a0.length : Int)))), (7, zI (i1 : Int)), (6, zI (a0.length : Int)), (5, .sl 0 (List.map encInt a0)), (0, .sl 0 (List.map encInt a0))], []⟩ ?_
         refine runs_ret ?_
         exact fin _ _ h (by kernel_rfl)
       · replace h := cond_f hb32 h
         refine cf hb32 ?_
         refine runs_skip ?_
         refine rg cv hn ?_
         refine ro9 0 2 2 ⟨[(7, zI ((i1 + 1 : Nat) : Int)), (28, zI ((i1 + 1 : Nat) : Int)), (27, zB (decide (x30 ≥ x10))), (26, zB (decide (x30 ≥ x10))), (25, zB (decide (x30 ≥ x10))), (24, zI x10), (23, zI x30), (22, .rp (zI x30) 0), (21, zI (w64 ((i1 : Int) - 1))), (20, zI (i1 : Int)), (19, .sl 0 (List.map encInt a0)), (18, zB true), (17, zB (decide ((i1 : Int) > 0))), (16, zI (i1 : Int)), (15, zB false), (14, zB (!v26)), (13, zB v26), (12, zI x10), (4, zI x10), (3, zI (i1 : Int)), (11, zI x10), (10, .rp (zI x10) 0), (9, zI (i1 : Int)), (8, zB (decide ((i1 : Int) < (a0.length : Int)))), (7, zI (i1 : Int)), (6, zI (a0.length : Int)), (5, .sl 0 (List.map encInt a0)), (0, .sl 0 (List.map encInt a0))], []⟩ ?_ (he := by rw [← hi1]; kernel_rfl)
         exact ⟨(t1, i1 + 1), Nat.lt_succ_self _, ⟨dnext hd1, h⟩, wre [7, 6, 5, 0] []⟩
     · replace h := cond_f hb29 h
       refine rl 18 false hb29 ?_
       refine ro9 7 9 2 ⟨[(27, zB false), (26, zB false), (25, .tup []), (24, .tup []), (23, .tup []), (22, .tup []), (21, .tup []), (20, .tup []), (19, .tup []), (18, zB false), (17, zB (decide ((i1 : Int) > 0))), (16, zI (i1 : Int)), (15, zB false), (14, zB (!v26)), (13, zB v26), (12, zI x10), (4, zI x10), (3, zI (i1 : Int)), (11, zI x10), (10, .rp (zI x10) 0), (9, zI (i1 : Int)), (8, zB (decide ((i1 : Int) < (a0.length : Int)))), (7, zI (i1 : Int)), (6, zI (a0.length : Int)), (5, .sl 0 (List.map encInt a0)), (0, .sl 0 (List.map encInt a0))], []⟩ ?_
       refine cF ?_
       refine runs_skip ?_
       refine rg cv hn ?_
       refine ro9 0 2 2 ⟨[(7, zI ((i1 + 1 : Nat) : Int)), (28, zI ((i1 + 1 : Nat) : Int)), (27, zB false), (26, zB false), (25, .tup []), (24, .tup []), (23, .tup []), (22, .tup []), (21, .tup []), (20, .tup []), (19, .tup []), (18, zB false), (17, zB (decide ((i1 : Int) > 0))), (16, zI (i1 : Int)), (15, zB false), (14, zB (!v26)), (13, zB v26), (12, zI x10), (4, zI x10), (3, zI (i1 : Int)), (11, zI x10), (10, .rp (zI x10) 0), (9, zI (i1 : Int)), (8, zB (decide ((i1 : Int) < (a0.length : Int)))), (7, zI (i1 : Int)), (6, zI (a0.length : Int)), (5, .sl 0 (List.map encInt a0)), (0, .sl 0 (List.map encInt a0))], []⟩ ?_ (he := by rw [← hi1]; kernel_rfl)
       exact ⟨(t1, i1 + 1), Nat.lt_succ_self _, ⟨dnext hd1, h⟩, wre [7, 6, 5, 0] []⟩

set_option maxRecDepth 100000 in
set_option maxHeartbeats 2000000 in
theorem spec_PropOk_spec (a0 : SProp) (v0 : Bool) (h : spec_PropOk a0 = some v0) : Ax.Spec Try.prog 24 none [encProp0 a0] (zB v0 : X) (.junk : X) := by
 refine walk0 (fn := Try.f24) (fun q0 : Bool => (zB q0 : X)) (fun q0 : Bool => (.junk : X)) v0 ⟨[(0, encProp0 a0)], []⟩ Try.func24 rfl (by decide +kernel) fun Γ hn fin => ?_
 rw [spec_PropOk] at h
 refine sqr cv hn ?_
 refine ro9 0 2 2 ⟨[(2, zB false), (1, .ptr 1 1 0), (0, encProp0 a0)], [(1, ⟨1, 1, true, some (encProp0 a0)⟩)]⟩ ?_
 refine sqr cv hn ?_
 refine ro 0 2 2 ⟨[(4, zI a0.fBal), (3, .ptr 1 1 0), (2, zB false), (1, .ptr 1 1 0), (0, encProp0 a0)], [(1, ⟨1, 1, true, some (encProp0 a0)⟩)]⟩ ?_
 obtain ⟨v1, hv2, h⟩ := bindO h
 refine rc 2 ⟨[(5, zB v1), (4, zI a0.fBal), (3, .ptr 1 1 0), (2, zB false), (1, .ptr 1 1 0), (0, encProp0 a0)], [(1, ⟨1, 1, true, some (encProp0 a0)⟩)]⟩ (spec_l01In_spec a0.fBal 1 1125899906842624 v1 hv2) ?_
 refine ro 3 1 1 ⟨[(6, zB v1), (5, zB v1), (4, zI a0.fBal), (3, .ptr 1 1 0), (2, zB false), (1, .ptr 1 1 0), (0, encProp0 a0)], [(1, ⟨1, 1, true, some (encProp0 a0)⟩)]⟩ ?_
 rcases dich v1 with hb3 | hb3
 · replace h := cond_t hb3 h
   refine rl 6 true hb3 ?_
   refine ro 4 2 2 ⟨[(8, zI a0.fVal), (7, .ptr 1 1 1), (6, zB true), (5, zB v1), (4, zI a0.fBal), (3, .ptr 1 1 0), (2, zB false), (1, .ptr 1 1 0), (0, encProp0 a0)], [(1, ⟨1, 1, true, some (encProp0 a0)⟩)]⟩ ?_
   obtain ⟨v4, hv5, h⟩ := bindO h
   refine rc 6 ⟨[(9, zB v4), (8, zI a0.fVal), (7, .ptr 1 1 1), (6, zB true), (5, zB v1), (4, zI a0.fBal), (3, .ptr 1 1 0), (2, zB false), (1, .ptr 1 1 0), (0, encProp0 a0)], [(1, ⟨1, 1, true, some (encProp0 a0)⟩)]⟩ (spec_l07Val_spec a0.fVal v4 hv5) ?_
   refine ro 7 2 2 ⟨[(11, zB v4), (10, zB v4), (9, zB v4), (8, zI a0.fVal), (7, .ptr 1 1 1), (6, zB true), (5, zB v1), (4, zI a0.fBal), (3, .ptr 1 1 0), (2, zB false), (1, .ptr 1 1 0), (0, encProp0 a0)], [(1, ⟨1, 1, true, some (encProp0 a0)⟩)]⟩ ?_
   rcases dich v4 with hb6 | hb6
   · replace h := cond_t hb6 h
     refine rl 11 true hb6 ?_
     refine ro 9 2 2 ⟨[(13, .sl 0 (List.map encInt a0.fFrom)), (12, .ptr 1 1 2), (11, zB true), (10, zB v4), (9, zB v4), (8, zI a0.fVal), (7, .ptr 1 1 1), (6, zB true), (5, zB v1), (4, zI a0.fBal), (3, .ptr 1 1 0), (2, zB false), (1, .ptr 1 1 0), (0, encProp0 a0)], [(1, ⟨1, 1, true, some (encProp0 a0)⟩)]⟩ ?_
     obtain ⟨v7, hv8, h⟩ := bindO h
     refine rc 11 ⟨[(14, zB v7), (13, .sl 0 (List.map encInt a0.fFrom)), (12, .ptr 1 1 2), (11, zB true), (10, zB v4), (9, zB v4), (8, zI a0.fVal), (7, .ptr 1 1 1), (6, zB true), (5, zB v1), (4, zI a0.fBal), (3, .ptr 1 1 0), (2, zB false), (1, .ptr 1 1 0), (0, encProp0 a0)], [(1, ⟨1, 1, true, some (encProp0 a0)⟩)]⟩ (spec_l07Rise_spec a0.fFrom v7 hv8) ?_
     refine ro 12 2 2 ⟨[(16, zB v7), (15, zB v7), (14, zB v7), (13, .sl 0 (List.map encInt a0.fFrom)), (12, .ptr 1 1 2), (11, zB true), (10, zB v4), (9, zB v4), (8, zI a0.fVal), (7, .ptr 1 1 1), (6, zB true), (5, zB v1), (4, zI a0.fBal), (3, .ptr 1 1 0), (2, zB false), (1, .ptr 1 1 0), (0, encProp0 a0)], [(1, ⟨1, 1, true, some (encProp0 a0)⟩)]⟩ ?_
     rcases dich v7 with hb9 | hb9
     · replace h := cond_t hb9 h
       refine rl 16 true hb9 ?_
       refine ro 14 2 2 ⟨[(18, .sl 0 (List.map encInt a0.fGot)), (17, .ptr 1 1 4), (16, zB true), (15, zB v7), (14, zB v7), (13, .sl 0 (List.map encInt a0.fFrom)), (12, .ptr 1 1 2), (11, zB true), (10, zB v4), (9, zB v4), (8, zI a0.fVal), (7, .ptr 1 1 1), (6, zB true), (5, zB v1), (4, zI a0.fBal), (3, .ptr 1 1 0), (2, zB false), (1, .ptr 1 1 0), (0, encProp0 a0)], [(1, ⟨1, 1, true, some (encProp0 a0)⟩)]⟩ ?_
       obtain ⟨v10, hv11, h⟩ := bindO h
       refine rc 16 ⟨[(19, zB v10), (18, .sl 0 (List.map encInt a0.fGot)), (17, .ptr 1 1 4), (16, zB true), (15, zB v7), (14, zB v7), (13, .sl 0 (List.map encInt a0.fFrom)), (12, .ptr 1 1 2), (11, zB true), (10, zB v4), (9, zB v4), (8, zI a0.fVal), (7, .ptr 1 1 1), (6, zB true), (5, zB v1), (4, zI a0.fBal), (3, .ptr 1 1 0), (2, zB false), (1, .ptr 1 1 0), (0, encProp0 a0)], [(1, ⟨1, 1, true, some (encProp0 a0)⟩)]⟩ (spec_l07Rise_spec a0.fGot v10 hv11) ?_
       refine ro 17 2 2 ⟨[(21, zB v10), (20, zB v10), (19, zB v10), (18, .sl 0 (List.map encInt a0.fGot)), (17, .ptr 1 1 4), (16, zB true), (15, zB v7), (14, zB v7), (13, .sl 0 (List.map encInt a0.fFrom)), (12, .ptr 1 1 2), (11, zB true), (10, zB v4), (9, zB v4), (8, zI a0.fVal), (7, .ptr 1 1 1), (6, zB true), (5, zB v1), (4, zI a0.fBal), (3, .ptr 1 1 0), (2, zB false), (1, .ptr 1 1 0), (0, encProp0 a0)], [(1, ⟨1, 1, true, some (encProp0 a0)⟩)]⟩ ?_
       rcases dich v10 with hb12 | hb12
       · replace h := cond_t hb12 h
         refine rl 21 true hb12 ?_
         refine ro 19 5 5 ⟨[(26, zI (w64 (a0.fBal - 1))), (25, zI a0.fBal), (24, .ptr 1 1 0), (23, zI a0.fBest), (22, .ptr 1 1 3), (21, zB true), (20, zB v10), (19, zB v10), (18, .sl 0 (List.map encInt a0.fGot)), (17, .ptr 1 1 4), (16, zB true), (15, zB v7), (14, zB v7), (13, .sl 0 (List.map encInt a0.fFrom)), (12, .ptr 1 1 2), (11, zB true), (10, zB v4), (9, zB v4), (8, zI a0.fVal), (7, .ptr 1 1 1), (6, zB true), (5, zB v1), (4, zI a0.fBal), (3, .ptr 1 1 0), (2, zB false), (1, .ptr 1 1 0), (0, encProp0 a0)], [(1, ⟨1, 1, true, some (encProp0 a0)⟩)]⟩ ?_
         obtain ⟨v13, hv14, h⟩ := bindO h
         refine rc 24 ⟨[(27, zB v13), (26, zI (w64 (a0.fBal - 1))), (25, zI a0.fBal), (24, .ptr 1 1 0), (23, zI a0.fBest), (22, .ptr 1 1 3), (21, zB true), (20, zB v10), (19, zB v10), (18, .sl 0 (List.map encInt a0.fGot)), (17, .ptr 1 1 4), (16, zB true), (15, zB v7), (14, zB v7), (13, .sl 0 (List.map encInt a0.fFrom)), (12, .ptr 1 1 2), (11, zB true), (10, zB v4), (9, zB v4), (8, zI a0.fVal), (7, .ptr 1 1 1), (6, zB true), (5, zB v1), (4, zI a0.fBal), (3, .ptr 1 1 0), (2, zB false), (1, .ptr 1 1 0), (0, encProp0 a0)], [(1, ⟨1, 1, true, some (encProp0 a0)⟩)]⟩ (spec_l01In_spec a0.fBest 0 (w64 (a0.fBal - 1)) v13 hv14) ?_
         refine ro9 25 2 2 ⟨[(2, zB v13), (28, zB v13), (27, zB v13), (26, zI (w64 (a0.fBal - 1))), (25, zI a0.fBal), (24, .ptr 1 1 0), (23, zI a0.fBest), (22, .ptr 1 1 3), (21, zB true), (20, zB v10), (19, zB v10), (18, .sl 0 (List.map encInt a0.fGot)), (17, .ptr 1 1 4), (16, zB true), (15, zB v7), (14, zB v7), (13, .sl 0 (List.map encInt a0.fFrom)), (12, .ptr 1 1 2), (11, zB true), (10, zB v4), (9, zB v4), (8, zI a0.fVal), (7, .ptr 1 1 1), (6, zB true), (5, zB v1), (4, zI a0.fBal), (3, .ptr 1 1 0), (2, zB false), (1, .ptr 1 1 0), (0, encProp0 a0)], [(1, ⟨1, 1, true, some (encProp0 a0)⟩)]⟩ ?_
         refine runs_ret ?_
         exact fin _ _ h (by kernel_rfl)
       · replace h := cond_f hb12 h
         refine rl 21 false hb12 ?_
         refine ro9 19 8 2 ⟨[(2, zB false), (28, zB false), (27, .tup []), (26, .tup []), (25, .tup []), (24, .tup []), (23, .tup []), (22, .tup []), (21, zB false), (20, zB v10), (19, zB v10), (18, .sl 0 (List.map encInt a0.fGot)), (17, .ptr 1 1 4), (16, zB true), (15, zB v7), (14, zB v7), (13, .sl 0 (List.map encInt a0.fFrom)), (12, .ptr 1 1 2), (11, zB true), (10, zB v4), (9, zB v4), (8, zI a0.fVal), (7, .ptr 1 1 1), (6, zB true), (5, zB v1), (4, zI a0.fBal), (3, .ptr 1 1 0), (2, zB false), (1, .ptr 1 1 0), (0, encProp0 a0)], [(1, ⟨1, 1, true, some (encProp0 a0)⟩)]⟩ ?_
         refine runs_ret ?_
         exact fin _ _ h (by kernel_rfl)
     · replace h := cond_f hb9 h
       refine rl 16 false hb9 ?_
       refine ro9 14 13 4 ⟨[(2, zB false), (28, zB false), (27, .tup []), (26, .tup []), (25, .tup []), (24, .tup []), (23, .tup []), (22, .tup []), (21, zB false), (20, zB false), (19, .tup []), (18, .tup []), (17, .tup []), (16, zB false), (15, zB v7), (14, zB v7), (13, .sl 0 (List.map encInt a0.fFrom)), (12, .ptr 1 1 2), (11, zB true), (10, zB v4), (9, zB v4), (8, zI a0.fVal), (7, .ptr 1 1 1), (6, zB true), (5, zB v1), (4, zI a0.fBal), (3, .ptr 1 1 0), (2, zB false), (1, .ptr 1 1 0), (0, encProp0 a0)], [(1, ⟨1, 1, true, some (encProp0 a0)⟩)]⟩ ?_
       refine runs_ret ?_
       exact fin _ _ h (by kernel_rfl)
   · replace h := cond_f hb6 h
     refine rl 11 false hb6 ?_
     refine ro9 9 18 6 ⟨[(2, zB false), (28, zB false), (27, .tup []), (26, .tup []), (25, .tup []), (24, .tup []), (23, .tup []), (22, .tup []), (21, zB false), (20, zB false), (19, .tup []), (18, .tup []), (17, .tup []), (16, zB false), (15, zB false), (14, .tup []), (13, .tup []), (12, .tup []), (11, zB false), (10, zB v4), (9, zB v4), (8, zI a0.fVal), (7, .ptr 1 1 1), (6, zB true), (5, zB v1), (4, zI a0.fBal), (3, .ptr 1 1 0), (2, zB false), (1, .ptr 1 1 0), (0, encProp0 a0)], [(1, ⟨1, 1, true, some (encProp0 a0)⟩)]⟩ ?_
     refine runs_ret ?_
     exact fin _ _ h (by kernel_rfl)
 · replace h := cond_f hb3 h
   refine rl 6 false hb3 ?_
   refine ro9 4 23 8 ⟨[(2, zB false), (28, zB false), (27, .tup []), (26, .tup []), (25, .tup []), (24, .tup []), (23, .tup []), (22, .tup []), (21, zB false), (20, zB false), (19, .tup []), (18, .tup []), (17, .tup []), (16, zB false), (15, zB false), (14, .tup []), (13, .tup []), (12, .tup []), (11, zB false), (10, zB false), (9, .tup []), (8, .tup []), (7, .tup []), (6, zB false), (5, zB v1), (4, zI a0.fBal), (3, .ptr 1 1 0), (2, zB false), (1, .ptr 1 1 0), (0, encProp0 a0)], [(1, ⟨1, 1, true, some (encProp0 a0)⟩)]⟩ ?_
   refine runs_ret ?_
   exact fin _ _ h (by kernel_rfl)

set_option maxRecDepth 100000 in
set_option maxHeartbeats 2000000 in
theorem spec_IsMost_spec (a0 : Int) (a1 : Int) (v0 : Bool) (h : spec_IsMost a0 a1 = some v0) : Ax.Spec Try.prog 76 none [zI a0, zI a1] (zB v0 : X) (.junk : X) := by
 refine walk0 (fn := Try.f76) (fun q0 : Bool => (zB q0 : X)) (fun q0 : Bool => (.junk : X)) v0 ⟨[(0, zI a0), (1, zI a1)], []⟩ Try.func76 rfl (by decide +kernel) fun Γ hn fin => ?_
 rw [spec_IsMost] at h
 refine sqr cv hn ?_
 refine ro9 0 1 1 ⟨[(4, zB false), (0, zI a0), (1, zI a1)], []⟩ ?_
 refine sqr cv hn ?_
 refine ro9 0 5 5 ⟨[(4, zB (decide (a0 > (Int.fdiv a1 (2 ^ 1))))), (8, zB (decide (a0 > (Int.fdiv a1 (2 ^ 1))))), (7, zI (Int.fdiv a1 (2 ^ 1))), (6, zI a1), (5, zI a0), (4, zB false), (0, zI a0), (1, zI a1)], []⟩ ?_
 refine runs_ret ?_
 exact fin _ _ h (by kernel_rfl)

set_option maxRecDepth 100000 in
set_option maxHeartbeats 2000000 in
theorem spec_PropReady_spec (a0 : SProp) (a1 : Int) (v0 : Bool) (h : spec_PropReady a0 a1 = some v0) : Ax.Spec Try.prog 28 none [encProp0 a0, zI a1] (zB v0 : X) (.junk : X) := by
 refine walk0 (fn := Try.f28) (fun q0 : Bool => (zB q0 : X)) (fun q0 : Bool => (.junk : X)) v0 ⟨[(0, encProp0 a0), (1, zI a1)], []⟩ Try.func28 rfl (by decide +kernel) fun Γ hn fin => ?_
 rw [spec_PropReady] at h
 refine sqr cv hn ?_
 refine ro9 0 2 2 ⟨[(4, zB false), (2, .ptr 2 1 0), (0, encProp0 a0), (1, zI a1)], [(2, ⟨1, 1, true, some (encProp0 a0)⟩)]⟩ ?_
 refine sqr cv hn ?_
 refine ro 0 1 1 ⟨[(5, encProp0 a0), (4, zB false), (2, .ptr 2 1 0), (0, encProp0 a0), (1, zI a1)], [(2, ⟨1, 1, true, some (encProp0 a0)⟩)]⟩ ?_
 obtain ⟨v1, hv2, h⟩ := bindO h
 refine rc 1 ⟨[(6, zB v1), (5, encProp0 a0), (4, zB false), (2, .ptr 2 1 0), (0, encProp0 a0), (1, zI a1)], [(2, ⟨1, 1, true, some (encProp0 a0)⟩)]⟩ (spec_PropOk_spec a0 v1 hv2) ?_
 refine ro 2 1 1 ⟨[(7, zB v1), (6, zB v1), (5, encProp0 a0), (4, zB false), (2, .ptr 2 1 0), (0, encProp0 a0), (1, zI a1)], [(2, ⟨1, 1, true, some (encProp0 a0)⟩)]⟩ ?_
 rcases dich v1 with hb3 | hb3
 · replace h := cond_t hb3 h
   refine rl 7 true hb3 ?_
   refine ro 3 4 4 ⟨[(11, zI a1), (10, zI (a0.fFrom.length : Int)), (9, .sl 0 (List.map encInt a0.fFrom)), (8, .ptr 2 1 2), (7, zB true), (6, zB v1), (5, encProp0 a0), (4, zB false), (2, .ptr 2 1 0), (0, encProp0 a0), (1, zI a1)], [(2, ⟨1, 1, true, some (encProp0 a0)⟩)]⟩ ?_ (he := by rw [show (a0.fFrom.length : Int) = ((List.map encInt a0.fFrom).length : Int) from by rw [List.length_map]]; kernel_rfl)
   obtain ⟨v4, hv5, h⟩ := bindO h
   refine rc 7 ⟨[(12, zB v4), (11, zI a1), (10, zI (a0.fFrom.length : Int)), (9, .sl 0 (List.map encInt a0.fFrom)), (8, .ptr 2 1 2), (7, zB true), (6, zB v1), (5, encProp0 a0), (4, zB false), (2, .ptr 2 1 0), (0, encProp0 a0), (1, zI a1)], [(2, ⟨1, 1, true, some (encProp0 a0)⟩)]⟩ (spec_IsMost_spec (a0.fFrom.length : Int) a1 v4 hv5) ?_
   refine ro9 8 2 2 ⟨[(4, zB v4), (13, zB v4), (12, zB v4), (11, zI a1), (10, zI (a0.fFrom.length : Int)), (9, .sl 0 (List.map encInt a0.fFrom)), (8, .ptr 2 1 2), (7, zB true), (6, zB v1), (5, encProp0 a0), (4, zB false), (2, .ptr 2 1 0), (0, encProp0 a0), (1, zI a1)], [(2, ⟨1, 1, true, some (encProp0 a0)⟩)]⟩ ?_
   refine runs_ret ?_
   exact fin _ _ h (by kernel_rfl)
 · replace h := cond_f hb3 h
   refine rl 7 false hb3 ?_
   refine ro9 3 7 2 ⟨[(4, zB false), (13, zB false), (12, .tup []), (11, .tup []), (10, .tup []), (9, .tup []), (8, .tup []), (7, zB false), (6, zB v1), (5, encProp0 a0), (4, zB false), (2, .ptr 2 1 0), (0, encProp0 a0), (1, zI a1)], [(2, ⟨1, 1, true, some (encProp0 a0)⟩)]⟩ ?_
   refine runs_ret ?_
   exact fin _ _ h (by kernel_rfl)

set_option maxRecDepth 100000 in
set_option maxHeartbeats 2000000 in
theorem spec_PropWon_spec (a0 : SProp) (a1 : Int) (v0 : Bool) (h : spec_PropWon a0 a1 = some v0) : Ax.Spec Try.prog 30 none [encProp0 a0, zI a1] (zB v0 : X) (.junk : X) := by
 refine walk0 (fn := Try.f30) (fun q0 : Bool => (zB q0 : X)) (fun q0 : Bool => (.junk : X)) v0 ⟨[(0, encProp0 a0), (1, zI a1)], []⟩ Try.func30 rfl (by decide +kernel) fun Γ hn fin => ?_
 rw [spec_PropWon] at h
 refine sqr cv hn ?_
 refine ro9 0 2 2 ⟨[(4, zB false), (2, .ptr 2 1 0), (0, encProp0 a0), (1, zI a1)], [(2, ⟨1, 1, true, some (encProp0 a0)⟩)]⟩ ?_
 refine sqr cv hn ?_
 refine ro 0 2 2 ⟨[(6, zI a1), (5, encProp0 a0), (4, zB false), (2, .ptr 2 1 0), (0, encProp0 a0), (1, zI a1)], [(2, ⟨1, 1, true, some (encProp0 a0)⟩)]⟩ ?_
 obtain ⟨v1, hv2, h⟩ := bindO h
 refine rc 2 ⟨[(7, zB v1), (6, zI a1), (5, encProp0 a0), (4, zB false), (2, .ptr 2 1 0), (0, encProp0 a0), (1, zI a1)], [(2, ⟨1, 1, true, some (encProp0 a0)⟩)]⟩ (spec_PropReady_spec a0 a1 v1 hv2) ?_
 refine ro 3 1 1 ⟨[(8, zB v1), (7, zB v1), (6, zI a1), (5, encProp0 a0), (4, zB false), (2, .ptr 2 1 0), (0, encProp0 a0), (1, zI a1)], [(2, ⟨1, 1, true, some (encProp0 a0)⟩)]⟩ ?_
 rcases dich v1 with hb3 | hb3
 · replace h := cond_t hb3 h
   refine rl 8 true hb3 ?_
   refine ro 4 4 4 ⟨[(12, zI a1), (11, zI (a0.fGot.length : Int)), (10, .sl 0 (List.map encInt a0.fGot)), (9, .ptr 2 1 4), (8, zB true), (7, zB v1), (6, zI a1), (5, encProp0 a0), (4, zB false), (2, .ptr 2 1 0), (0, encProp0 a0), (1, zI a1)], [(2, ⟨1, 1, true, some (encProp0 a0)⟩)]⟩ ?_ (he := by rw [show (a0.fGot.length : Int) = ((List.map encInt a0.fGot).length : Int) from by rw [List.length_map]]; kernel_rfl)
   obtain ⟨v4, hv5, h⟩ := bindO h
   refine rc 8 ⟨[(13, zB v4), (12, zI a1), (11, zI (a0.fGot.length : Int)), (10, .sl 0 (List.map encInt a0.fGot)), (9, .ptr 2 1 4), (8, zB true), (7, zB v1), (6, zI a1), (5, encProp0 a0), (4, zB false), (2, .ptr 2 1 0), (0, encProp0 a0), (1, zI a1)], [(2, ⟨1, 1, true, some (encProp0 a0)⟩)]⟩ (spec_IsMost_spec (a0.fGot.length : Int) a1 v4 hv5) ?_
   refine ro9 9 2 2 ⟨[(4, zB v4), (14, zB v4), (13, zB v4), (12, zI a1), (11, zI (a0.fGot.length : Int)), (10, .sl 0 (List.map encInt a0.fGot)), (9, .ptr 2 1 4), (8, zB true), (7, zB v1), (6, zI a1), (5, encProp0 a0), (4, zB false), (2, .ptr 2 1 0), (0, encProp0 a0), (1, zI a1)], [(2, ⟨1, 1, true, some (encProp0 a0)⟩)]⟩ ?_
   refine runs_ret ?_
   exact fin _ _ h (by kernel_rfl)
 · replace h := cond_f hb3 h
   refine rl 8 false hb3 ?_
   refine ro9 4 7 2 ⟨[(4, zB false), (14, zB false), (13, .tup []), (12, .tup []), (11, .tup []), (10, .tup []), (9, .tup []), (8, zB false), (7, zB v1), (6, zI a1), (5, encProp0 a0), (4, zB false), (2, .ptr 2 1 0), (0, encProp0 a0), (1, zI a1)], [(2, ⟨1, 1, true, some (encProp0 a0)⟩)]⟩ ?_
   refine runs_ret ?_
   exact fin _ _ h (by kernel_rfl)

set_option maxRecDepth 100000 in
set_option maxHeartbeats 2000000 in
theorem impl_IsMost_spec (a0 : Int) (a1 : Int) (v0 : Bool) (h : impl_IsMost a0 a1 = some v0) : Ax.Spec Try.prog 18 none [zI a0, zI a1] (zB v0 : X) (.junk : X) := by
 refine walk0 (fn := Try.f18) (fun q0 : Bool => (zB q0 : X)) (fun q0 : Bool => (.junk : X)) v0 ⟨[(0, zI a0), (1, zI a1)], []⟩ Try.func18 rfl (by decide +kernel) fun Γ hn fin => ?_
 rw [impl_IsMost] at h
 refine sqr cv hn ?_
 refine ro9 0 1 1 ⟨[(4, zB false), (0, zI a0), (1, zI a1)], []⟩ ?_
 refine sqr cv hn ?_
 refine ro9 0 5 5 ⟨[(4, zB (decide (a0 > (Int.fdiv a1 (2 ^ 1))))), (8, zB (decide (a0 > (Int.fdiv a1 (2 ^ 1))))), (7, zI (Int.fdiv a1 (2 ^ 1))), (6, zI a1), (5, zI a0), (4, zB false), (0, zI a0), (1, zI a1)], []⟩ ?_
 refine runs_ret ?_
 exact fin _ _ h (by kernel_rfl)

set_option maxRecDepth 100000 in
set_option maxHeartbeats 2000000 in
theorem impl_in_spec (a0 : Int) (a1 : Int) (a2 : Int) (v0 : Bool) (h : impl_in a0 a1 a2 = some v0) : Ax.Spec Try.prog 64 none [zI a0, zI a1, zI a2] (zB v0 : X) (.junk : X) := by
 let T1 : List (Nat × X) := [(0, zI a0), (1, zI a1), (2, zI a2)]
 refine walk0 (fn := Try.f64) (fun q0 : Bool => (zB q0 : X)) (fun q0 : Bool => (.junk : X)) v0 ⟨T1, []⟩ Try.func64 rfl (by decide +kernel) fun Γ hn fin => ?_
 rw [impl_in] at h
 refine sqr cv hn ?_
 refine ro9 0 1 1 ⟨(6, zB false) :: T1, []⟩ ?_
 refine sqr cv hn ?_
 refine ro 0 4 4 ⟨(10, zB (decide (a0 ≥ a1))) :: (9, zB (decide (a0 ≥ a1))) :: (8, zI a1) :: (7, zI a0) :: (6, zB false) :: T1, []⟩ ?_
 rcases dich (decide (a0 ≥ a1)) with hb1 | hb1
 · replace h := cond_t hb1 h
   refine rl 10 true hb1 ?_
   refine ro9 4 5 5 ⟨(6, zB (decide (a0 ≤ a2))) :: (14, zB (decide (a0 ≤ a2))) :: (13, zB (decide (a0 ≤ a2))) :: (12, zI a2) :: (11, zI a0) :: (10, zB true) :: (9, zB (decide (a0 ≥ a1))) :: (8, zI a1) :: (7, zI a0) :: (6, zB false) :: T1, []⟩ ?_
   refine runs_ret ?_
   exact fin _ _ h (by kernel_rfl)
 · replace h := cond_f hb1 h
   refine rl 10 false hb1 ?_
   refine ro9 4 5 2 ⟨(6, zB false) :: (14, zB false) :: (13, .tup []) :: (12, .tup []) :: (11, .tup []) :: (10, zB false) :: (9, zB (decide (a0 ≥ a1))) :: (8, zI a1) :: (7, zI a0) :: (6, zB false) :: T1, []⟩ ?_
   refine runs_ret ?_
   exact fin _ _ h (by kernel_rfl)

set_option maxRecDepth 100000 in
set_option maxHeartbeats 2000000 in
theorem impl_isChoice_spec (a0 : Int) (v0 : Bool) (h : impl_isChoice a0 = some v0) : Ax.Spec Try.prog 67 none [zI a0] (zB v0 : X) (.junk : X) := by
 refine walk0 (fn := Try.f67) (fun q0 : Bool => (zB q0 : X)) (fun q0 : Bool => (.junk : X)) v0 ⟨[(0, zI a0)], []⟩ Try.func67 rfl (by decide +kernel) fun Γ hn fin => ?_
 rw [impl_isChoice] at h
 refine sqr cv hn ?_
 refine ro9 0 1 1 ⟨[(2, zB false), (0, zI a0)], []⟩ ?_
 refine sqr cv hn ?_
 refine ro 0 1 1 ⟨[(3, zI a0), (2, zB false), (0, zI a0)], []⟩ ?_
 obtain ⟨v1, hv2, h⟩ := bindO h
 refine rc 1 ⟨[(4, zB v1), (3, zI a0), (2, zB false), (0, zI a0)], []⟩ (impl_in_spec a0 1 4 v1 hv2) ?_
 refine ro9 2 1 1 ⟨[(2, zB v1), (4, zB v1), (3, zI a0), (2, zB false), (0, zI a0)], []⟩ ?_
 refine runs_ret ?_
 exact fin _ _ h (by kernel_rfl)

set_option maxRecDepth 100000 in
set_option maxHeartbeats 2000000 in
theorem impl_isBallot_spec (a0 : Int) (v0 : Bool) (h : impl_isBallot a0 = some v0) : Ax.Spec Try.prog 68 none [zI a0] (zB v0 : X) (.junk : X) := by
 refine walk0 (fn := Try.f68) (fun q0 : Bool => (zB q0 : X)) (fun q0 : Bool => (.junk : X)) v0 ⟨[(0, zI a0)], []⟩ Try.func68 rfl (by decide +kernel) fun Γ hn fin => ?_
 rw [impl_isBallot] at h
 refine sqr cv hn ?_
 refine ro9 0 1 1 ⟨[(2, zB false), (0, zI a0)], []⟩ ?_
 refine sqr cv hn ?_
 refine ro 0 1 1 ⟨[(3, zI a0), (2, zB false), (0, zI a0)], []⟩ ?_
 obtain ⟨v1, hv2, h⟩ := bindO h
 refine rc 1 ⟨[(4, zB v1), (3, zI a0), (2, zB false), (0, zI a0)], []⟩ (impl_in_spec a0 1 1125899906842624 v1 hv2) ?_
 refine ro9 2 1 1 ⟨[(2, zB v1), (4, zB v1), (3, zI a0), (2, zB false), (0, zI a0)], []⟩ ?_
 refine runs_ret ?_
 exact fin _ _ h (by kernel_rfl)

set_option maxRecDepth 100000 in
set_option maxHeartbeats 2000000 in
theorem impl_nodesOk_spec (a0 : (List Int)) (a1 : Int) (v0 : Bool) (h : impl_nodesOk a0 a1 = some v0) : Ax.Spec Try.prog 74 none [.sl 0 (List.map encInt a0), zI a1] (zB v0 : X) (.junk : X) := by
 let T1 : List (Nat × X) := [(0, .sl 0 (List.map encInt a0)), (1, zI a1)]
 refine walk0 (fn := Try.f74) (fun q0 : Bool => (zB q0 : X)) (fun q0 : Bool => (.junk : X)) v0 ⟨T1, []⟩ Try.func74 rfl (by decide +kernel) fun Γ hn fin => ?_
 rw [impl_nodesOk] at h
 refine sqr cv hn ?_
 refine ro9 0 1 1 ⟨(4, zB false) :: T1, []⟩ ?_
 refine runs_seq ?_
 refine sqr cv hn ?_
 refine ro9 0 3 3 ⟨(9, zI 0) :: (8, zI (a0.length : Int)) :: (7, .sl 0 (List.map encInt a0)) :: (4, zB false) :: T1, []⟩ ?_ (he := by rw [show (a0.length : Int) = ((List.map encInt a0).length : Int) from by rw [List.length_map]]; kernel_rfl)
 refine runs_block ?_
 refine runs_loopM (σ := List Int × Nat) (fun s => ⟨[(9, zI (s.2 : Int)), (8, zI (a0.length : Int)), (7, .sl 0 (List.map encInt a0)), (0, .sl 0 (List.map encInt a0)), (1, zI a1)], []⟩) (fun s => s.1 = List.drop s.2 a0 ∧ impl_nodesOk_l1 a0 a1 s.1 s.2 = some v0) (fun s => s.1.length) (a0, 0) ⟨rfl, h⟩ (wre [9, 8, 7, 0, 1] []) ?_
 rintro ⟨t1, i1⟩ ⟨hd1, h⟩
 refine seq0 ⟨[(9, zI (i1 : Int)), (8, zI (a0.length : Int)), (7, .sl 0 (List.map encInt a0)), (0, .sl 0 (List.map encInt a0)), (1, zI a1)], []⟩ ?_
 refine runs_len 7 (es := List.map encInt a0) (by kernel_rfl) fun hl1 => ?_
 replace hl1 := len_of_map hl1
 cases t1 with
 | nil =>
   rw [impl_nodesOk_l1] at h
   have hLn1 := dnil hd1
   refine sqr cv hn ?_
   refine ro9 0 1 1 ⟨[(10, zB (decide ((i1 : Int) < (a0.length : Int)))), (9, zI (i1 : Int)), (8, zI (a0.length : Int)), (7, .sl 0 (List.map encInt a0)), (0, .sl 0 (List.map encInt a0)), (1, zI a1)], []⟩ ?_
   refine runs_seq ?_
   refine cf hLn1 ?_
   refine runs_exit ?_
   repeat refine thenX_exit ?_
   refine block_here ?_
   refine wkr [] [] ⟨[], []⟩ ?_
   refine sqr cv hn ?_
   refine ro9 0 1 1 ⟨[(4, zB true)], []⟩ ?_
   refine runs_ret ?_
   exact fin _ _ h (by kernel_rfl)
 | cons x10 t1 =>
   rw [impl_nodesOk_l1] at h
   have hLc1 := dcons hd1
   have hx10 := dget hd1
   have hi1 := dinc hd1 hl1
   refine sqr cv hn ?_
   refine ro9 0 1 1 ⟨[(10, zB (decide ((i1 : Int) < (a0.length : Int)))), (9, zI (i1 : Int)), (8, zI (a0.length : Int)), (7, .sl 0 (List.map encInt a0)), (0, .sl 0 (List.map encInt a0)), (1, zI a1)], []⟩ ?_
   refine runs_seq ?_
   refine ct hLc1 ?_
   refine runs_skip ?_
   refine runs_seq ?_
   refine runs_block ?_
   refine sqr cv hn ?_
   refine ro 0 1 1 ⟨[(11, zI (i1 : Int)), (10, zB (decide ((i1 : Int) < (a0.length : Int)))), (9, zI (i1 : Int)), (8, zI (a0.length : Int)), (7, .sl 0 (List.map encInt a0)), (0, .sl 0 (List.map encInt a0)), (1, zI a1)], []⟩ ?_
   refine rix 1 encInt 3 hx10 (ix_nn hx10) ⟨[(12, .rp (zI x10) 0), (11, zI (i1 : Int)), (10, zB (decide ((i1 : Int) < (a0.length : Int)))), (9, zI (i1 : Int)), (8, zI (a0.length : Int)), (7, .sl 0 (List.map encInt a0)), (0, .sl 0 (List.map encInt a0)), (1, zI a1)], []⟩ ?_
   refine ro9 2 3 3 ⟨[(6, zI x10), (5, zI (i1 : Int)), (13, zI x10), (12, .rp (zI x10) 0), (11, zI (i1 : Int)), (10, zB (decide ((i1 : Int) < (a0.length : Int)))), (9, zI (i1 : Int)), (8, zI (a0.length : Int)), (7, .sl 0 (List.map encInt a0)), (0, .sl 0 (List.map encInt a0)), (1, zI a1)], []⟩ ?_
   refine sqr cv hn ?_
   refine ro 0 3 3 ⟨[(16, zI (w64 (a1 - 1))), (15, zI a1), (14, zI x10), (6, zI x10), (5, zI (i1 : Int)), (13, zI x10), (12, .rp (zI x10) 0), (11, zI (i1 : Int)), (10, zB (decide ((i1 : Int) < (a0.length : Int)))), (9, zI (i1 : Int)), (8, zI (a0.length : Int)), (7, .sl 0 (List.map encInt a0)), (0, .sl 0 (List.map encInt a0)), (1, zI a1)], []⟩ ?_
   obtain ⟨v26, hv27, h⟩ := bindO h
   refine rc 3 ⟨[(17, zB v26), (16, zI (w64 (a1 - 1))), (15, zI a1), (14, zI x10), (6, zI x10), (5, zI (i1 : Int)), (13, zI x10), (12, .rp (zI x10) 0), (11, zI (i1 : Int)), (10, zB (decide ((i1 : Int) < (a0.length : Int)))), (9, zI (i1 : Int)), (8, zI (a0.length : Int)), (7, .sl 0 (List.map encInt a0)), (0, .sl 0 (List.map encInt a0)), (1, zI a1)], []⟩ (impl_in_spec x10 0 (w64 (a1 - 1)) v26 hv27) ?_
   refine ro 4 2 2 ⟨[(19, zB (!v26)), (18, zB (!v26)), (17, zB v26), (16, zI (w64 (a1 - 1))), (15, zI a1), (14, zI x10), (6, zI x10), (5, zI (i1 : Int)), (13, zI x10), (12, .rp (zI x10) 0), (11, zI (i1 : Int)), (10, zB (decide ((i1 : Int) < (a0.length : Int)))), (9, zI (i1 : Int)), (8, zI (a0.length : Int)), (7, .sl 0 (List.map encInt a0)), (0, .sl 0 (List.map encInt a0)), (1, zI a1)], []⟩ ?_
   rcases dich (!v26) with hb28 | hb28
   · replace h := cond_t hb28 h
     refine rl 19 true hb28 ?_
     refine ro9 6 12 1 ⟨[(31, zB true), (30, .tup []), (29, .tup []), (28, .tup []), (27, .tup []), (26, .tup []), (25, .tup []), (24, .tup []), (23, .tup []), (22, .tup []), (21, .tup []), (20, .tup []), (19, zB true), (18, zB (!v26)), (17, zB v26), (16, zI (w64 (a1 - 1))), (15, zI a1), (14, zI x10), (6, zI x10), (5, zI (i1 : Int)), (13, zI x10), (12, .rp (zI x10) 0), (11, zI (i1 : Int)), (10, zB (decide ((i1 : Int) < (a0.length : Int)))), (9, zI (i1 : Int)), (8, zI (a0.length : Int)), (7, .sl 0 (List.map encInt a0)), (0, .sl 0 (List.map encInt a0)), (1, zI a1)], []⟩ ?_
     refine cT ?_
     refine sqr cv hn ?_
     refine ro9 0 1 1 ⟨[(4, zB false), (31, zB true), (30, .tup []), (29, .tup []), (28, .tup []), (27, .tup []), (26, .tup []), (25, .tup []), (24, .tup []), (23, .tup []), (22, .tup []), (21, .tup []), (20, .tup []), (19, zB true), (18, zB (!v26)), (17, zB v26), (16, zI (w64 (a1 - 1))), (15, zI a1), (14, zI x10), (6, zI x10), (5, zI (i1 : Int)), (13, zI x10), (12, .rp (zI x10) 0), (11, zI (i1 : Int)), (10, zB (decide ((i1 : Int) < (a0.length : Int)))), (9, zI (i1 : Int)), (8, zI (a0.length : Int)), (7, .sl 0 (List.map encInt a0)), (0, .sl 0 (List.map encInt a0)), (1, zI a1)], []⟩ ?_
     refine runs_ret ?_
     exact fin _ _ h (by kernel_rfl)
   · replace h := cond_f hb28 h
     refine rl 19 false hb28 ?_
     refine ro 6 3 3 ⟨[(22, zB (decide ((i1 : Int) > 0))), (21, zB (decide ((i1 : Int) > 0))), (20, zI (i1 : Int)), (19, zB false), (18, zB (!v26)), (17, zB v26), (16, zI (w64 (a1 - 1))), (15, zI a1), (14, zI x10), (6, zI x10), (5, zI (i1 : Int)), (13, zI x10), (12, .rp (zI x10) 0), (11, zI (i1 : Int)), (10, zB (decide ((i1 : Int) < (a0.length : Int)))), (9, zI (i1 : Int)), (8, zI (a0.length : Int)), (7, .sl 0 (List.map encInt a0)), (0, .sl 0 (List.map encInt a0)), (1, zI a1)], []⟩ ?_
     rcases dich (decide ((i1 : Int) > 0)) with hb29 | hb29
     · replace h := cond_t hb29 h
       refine rl 22 true hb29 ?_
       refine ro 9 3 3 ⟨[(25, zI (w64 ((i1 : Int) - 1))), (24, zI (i1 : Int)), (23, .sl 0 (List.map encInt a0)), (22, zB true), (21, zB (decide ((i1 : Int) > 0))), (20, zI (i1 : Int)), (19, zB false), (18, zB (!v26)), (17, zB v26), (16, zI (w64 (a1 - 1))), (15, zI a1), (14, zI x10), (6, zI x10), (5, zI (i1 : Int)), (13, zI x10), (12, .rp (zI x10) 0), (11, zI (i1 : Int)), (10, zB (decide ((i1 : Int) < (a0.length : Int)))), (9, zI (i1 : Int)), (8, zI (a0.length : Int)), (7, .sl 0 (List.map encInt a0)), (0, .sl 0 (List.map encInt a0)), (1, zI a1)], []⟩ ?_
       obtain ⟨x30, hx31, h⟩ := bindO h
       refine rix 12 encInt 3 hx31 (ix_nn hx31) ⟨[(26, .rp (zI x30) 0), (25, zI (w64 ((i1 : Int) - 1))), (24, zI (i1 : Int)), (23, .sl 0 (List.map encInt a0)), (22, zB true), (21, zB (decide ((i1 : Int) > 0))), (20, zI (i1 : Int)), (19, zB false), (18, zB (!v26)), (17, zB v26), (16, zI (w64 (a1 - 1))), (15, zI a1), (14, zI x10), (6, zI x10), (5, zI (i1 : Int)), (13, zI x10), (12, .rp (zI x10) 0), (11, zI (i1 : Int)), (10, zB (decide ((i1 : Int) < (a0.length : Int)))), (9, zI (i1 : Int)), (8, zI (a0.length : Int)), (7, .sl 0 (List.map encInt a0)), (0, .sl 0 (List.map encInt a0)), (1, zI a1)], []⟩ ?_
       refine ro9 13 5 5 ⟨[(31, zB (decide (x30 ≥ x10))), (30, zB (decide (x30 ≥ x10))), (29, zB (decide (x30 ≥ x10))), (28, zI x10), (27, zI x30), (26, .rp (zI x30) 0), (25, zI (w64 ((i1 : Int) - 1))), (24, zI (i1 : Int)), (23, .sl 0 (List.map encInt a0)), (22, zB true), (21, zB (decide ((i1 : Int) > 0))), (20, zI (i1 : Int)), (19, zB false), (18, zB (!v26)), (17, zB v26), (16, zI (w64 (a1 - 1))), (15, zI a1), (14, zI x10), (6, zI x10), (5, zI (i1 : Int)), (13, zI x10), (12, .rp (zI x10) 0), (11, zI (i1 : Int)), (10, zB (decide ((i1 : Int) < (a0.length : Int)))), (9, zI (i1 : Int)), (8, zI (a0.length : Int)), (7, .sl 0 (List.map encInt a0)), (0, .sl 0 (List.map encInt a0)), (1, zI a1)], []⟩ ?_
       rcases dich (decide (x30 ≥ x10)) with hb32 | hb32
       · replace h := cond_t hb32 h
         refine ct hb32 ?_
         refine sqr cv hn ?_
         refine ro9 0 1 1 ⟨[(4, zB false), (31, zB (decide (x30 ≥ x10))), (30, zB (decide (x30 ≥ x10))), (29, zB (decide (x30 ≥ x10))), (28, zI x10), (27, zI x30), (26, .rp (zI x30) 0), (25, zI (w64 ((i1 : Int) - 1))), (24, zI (i1 : Int)), (23, .sl 0 (List.map encInt a0)), (22, zB true), (21, zB (decide ((i1 : Int) > 0))), (20, zI (i1 : Int)), (19, zB false), (18, zB (!v26)), (17, zB v26), (16, zI (w64 (a1 - 1))), (15, zI a1), (14, zI x10), (6, zI x10), (5, zI (i1 : Int)), (13, zI x10), (12, .rp (zI x10) 0), (11, zI (i1 : Int)), (10, zB (decide ((i1 : Int) < (a0.length : Int)))), (9, zI (i1 : Int)), (8, zI (a0.length : Int)), (7, .sl 0 (List.map encInt a0)), (0, .sl 0 (List.map encInt a0)), (1, zI a1)], []⟩ ?_
         refine runs_ret ?_
         exact fin _ _ h (by kernel_rfl)
       · replace h := cond_f hb32 h
         refine cf hb32 ?_
         refine runs_skip ?_
         refine rg cv hn ?_
         refine ro9 0 2 2 ⟨[(9, zI ((i1 + 1 : Nat) : Int)), (32, zI ((i1 + 1 : Nat) : Int)), (31, zB (decide (x30 ≥ x10))), (30, zB (decide (x30 ≥ x10))), (29, zB (decide (x30 ≥ x10))), (28, zI x10), (27, zI x30), (26, .rp (zI x30) 0), (25, zI (w64 ((i1 : Int) - 1))), (24, zI (i1 : Int)), (23, .sl 0 (List.map encInt a0)), (22, zB true), (21, zB (decide ((i1 : Int) > 0))), (20, zI (i1 : Int)), (19, zB false), (18, zB (!v26)), (17, zB v26), (16, zI (w64 (a1 - 1))), (15, zI a1), (14, zI x10), (6, zI x10), (5, zI (i1 : Int)), (13, zI x10), (12, .rp (zI x10) 0), (11, zI (i1 : Int)), (10, zB (decide ((i1 : Int) < (a0.length : Int)))), (9, zI (i1 : Int)), (8, zI (a0.length : Int)), (7, .sl 0 (List.map encInt a0)), (0, .sl 0 (List.map encInt a0)), (1, zI a1)], []⟩ ?_ (he := by rw [← hi1]; kernel_rfl)
         exact ⟨(t1, i1 + 1), Nat.lt_succ_self _, ⟨dnext hd1, h⟩, wre [9, 8, 7, 0, 1] []⟩
     · replace h := cond_f hb29 h
       refine rl 22 false hb29 ?_
       refine ro9 9 9 2 ⟨[(31, zB false), (30, zB false), (29, .tup []), (28, .tup []), (27, .tup []), (26, .tup []), (25, .tup []), (24, .tup []), (23, .tup []), (22, zB false), (21, zB (decide ((i1 : Int) > 0))), (20, zI (i1 : Int)), (19, zB false), (18, zB (!v26)), (17, zB v26), (16, zI (w64 (a1 - 1))), (15, zI a1), (14, zI x10), (6, zI x10), (5, zI (i1 : Int)), (13, zI x10), (12, .rp (zI x10) 0), (11, zI (i1 : Int)), (10, zB (decide ((i1 : Int) < (a0.length : Int)))), (9, zI (i1 : Int)), (8, zI (a0.length : Int)), (7, .sl 0 (List.map encInt a0)), (0, .sl 0 (List.map encInt a0)), (1, zI a1)], []⟩ ?_
       refine cF ?_
       refine runs_skip ?_
       refine rg cv hn ?_
       refine ro9 0 2 2 ⟨[(9, zI ((i1 + 1 : Nat) : Int)), (32, zI ((i1 + 1 : Nat) : Int)), (31, zB false), (30, zB false), (29, .tup []), (28, .tup []), (27, .tup []), (26, .tup []), (25, .tup []), (24, .tup []), (23, .tup []), (22, zB false), (21, zB (decide ((i1 : Int) > 0))), (20, zI (i1 : Int)), (19, zB false), (18, zB (!v26)), (17, zB v26), (16, zI (w64 (a1 - 1))), (15, zI a1), (14, zI x10), (6, zI x10), (5, zI (i1 : Int)), (13, zI x10), (12, .rp (zI x10) 0), (11, zI (i1 : Int)), (10, zB (decide ((i1 : Int) < (a0.length : Int)))), (9, zI (i1 : Int)), (8, zI (a0.length : Int)), (7, .sl 0 (List.map encInt a0)), (0, .sl 0 (List.map encInt a0)), (1, zI a1)], []⟩ ?_ (he := by rw [← hi1]; kernel_rfl)
       exact ⟨(t1, i1 + 1), Nat.lt_succ_self _, ⟨dnext hd1, h⟩, wre [9, 8, 7, 0, 1] []⟩

set_option maxRecDepth 100000 in
set_option maxHeartbeats 2000000 in
theorem impl_PropOk_spec (a0 : SProp) (v0 : Bool) (h : impl_PropOk a0 = some v0) : Ax.Spec Try.prog 26 none [encProp0 a0] (zB v0 : X) (.junk : X) := by
 refine walk0 (fn := Try.f26) (fun q0 : Bool => (zB q0 : X)) (fun q0 : Bool => (.junk : X)) v0 ⟨[(0, encProp0 a0)], []⟩ Try.func26 rfl (by decide +kernel) fun Γ hn fin => ?_
 rw [impl_PropOk] at h
 refine sqr cv hn ?_
 refine ro9 0 2 2 ⟨[(2, zB false), (1, .ptr 1 1 0), (0, encProp0 a0)], [(1, ⟨1, 1, true, some (encProp0 a0)⟩)]⟩ ?_
 refine sqr cv hn ?_
 refine ro 0 2 2 ⟨[(4, zI a0.fBal), (3, .ptr 1 1 0), (2, zB false), (1, .ptr 1 1 0), (0, encProp0 a0)], [(1, ⟨1, 1, true, some (encProp0 a0)⟩)]⟩ ?_
 obtain ⟨v1, hv2, h⟩ := bindO h
 refine rc 2 ⟨[(5, zB v1), (4, zI a0.fBal), (3, .ptr 1 1 0), (2, zB false), (1, .ptr 1 1 0), (0, encProp0 a0)], [(1, ⟨1, 1, true, some (encProp0 a0)⟩)]⟩ (impl_isBallot_spec a0.fBal v1 hv2) ?_
 refine ro 3 1 1 ⟨[(6, zB v1), (5, zB v1), (4, zI a0.fBal), (3, .ptr 1 1 0), (2, zB false), (1, .ptr 1 1 0), (0, encProp0 a0)], [(1, ⟨1, 1, true, some (encProp0 a0)⟩)]⟩ ?_
 rcases dich v1 with hb3 | hb3
 · replace h := cond_t hb3 h
   refine rl 6 true hb3 ?_
   refine ro 4 2 2 ⟨[(8, zI a0.fVal), (7, .ptr 1 1 1), (6, zB true), (5, zB v1), (4, zI a0.fBal), (3, .ptr 1 1 0), (2, zB false), (1, .ptr 1 1 0), (0, encProp0 a0)], [(1, ⟨1, 1, true, some (encProp0 a0)⟩)]⟩ ?_
   obtain ⟨v4, hv5, h⟩ := bindO h
   refine rc 6 ⟨[(9, zB v4), (8, zI a0.fVal), (7, .ptr 1 1 1), (6, zB true), (5, zB v1), (4, zI a0.fBal), (3, .ptr 1 1 0), (2, zB false), (1, .ptr 1 1 0), (0, encProp0 a0)], [(1, ⟨1, 1, true, some (encProp0 a0)⟩)]⟩ (impl_isChoice_spec a0.fVal v4 hv5) ?_
   refine ro 7 2 2 ⟨[(11, zB v4), (10, zB v4), (9, zB v4), (8, zI a0.fVal), (7, .ptr 1 1 1), (6, zB true), (5, zB v1), (4, zI a0.fBal), (3, .ptr 1 1 0), (2, zB false), (1, .ptr 1 1 0), (0, encProp0 a0)], [(1, ⟨1, 1, true, some (encProp0 a0)⟩)]⟩ ?_
   rcases dich v4 with hb6 | hb6
   · replace h := cond_t hb6 h
     refine rl 11 true hb6 ?_
     refine ro 9 2 2 ⟨[(13, .sl 0 (List.map encInt a0.fFrom)), (12, .ptr 1 1 2), (11, zB true), (10, zB v4), (9, zB v4), (8, zI a0.fVal), (7, .ptr 1 1 1), (6, zB true), (5, zB v1), (4, zI a0.fBal), (3, .ptr 1 1 0), (2, zB false), (1, .ptr 1 1 0), (0, encProp0 a0)], [(1, ⟨1, 1, true, some (encProp0 a0)⟩)]⟩ ?_
     obtain ⟨v7, hv8, h⟩ := bindO h
     refine rc 11 ⟨[(14, zB v7), (13, .sl 0 (List.map encInt a0.fFrom)), (12, .ptr 1 1 2), (11, zB true), (10, zB v4), (9, zB v4), (8, zI a0.fVal), (7, .ptr 1 1 1), (6, zB true), (5, zB v1), (4, zI a0.fBal), (3, .ptr 1 1 0), (2, zB false), (1, .ptr 1 1 0), (0, encProp0 a0)], [(1, ⟨1, 1, true, some (encProp0 a0)⟩)]⟩ (impl_nodesOk_spec a0.fFrom 4 v7 hv8) ?_
     refine ro 12 2 2 ⟨[(16, zB v7), (15, zB v7), (14, zB v7), (13, .sl 0 (List.map encInt a0.fFrom)), (12, .ptr 1 1 2), (11, zB true), (10, zB v4), (9, zB v4), (8, zI a0.fVal), (7, .ptr 1 1 1), (6, zB true), (5, zB v1), (4, zI a0.fBal), (3, .ptr 1 1 0), (2, zB false), (1, .ptr 1 1 0), (0, encProp0 a0)], [(1, ⟨1, 1, true, some (encProp0 a0)⟩)]⟩ ?_
     rcases dich v7 with hb9 | hb9
     · replace h := cond_t hb9 h
       refine rl 16 true hb9 ?_
       refine ro 14 2 2 ⟨[(18, .sl 0 (List.map encInt a0.fGot)), (17, .ptr 1 1 4), (16, zB true), (15, zB v7), (14, zB v7), (13, .sl 0 (List.map encInt a0.fFrom)), (12, .ptr 1 1 2), (11, zB true), (10, zB v4), (9, zB v4), (8, zI a0.fVal), (7, .ptr 1 1 1), (6, zB true), (5, zB v1), (4, zI a0.fBal), (3, .ptr 1 1 0), (2, zB false), (1, .ptr 1 1 0), (0, encProp0 a0)], [(1, ⟨1, 1, true, some (encProp0 a0)⟩)]⟩ ?_
       obtain ⟨v10, hv11, h⟩ := bindO h
       refine rc 16 ⟨[(19, zB v10), (18, .sl 0 (List.map encInt a0.fGot)), (17, .ptr 1 1 4), (16, zB true), (15, zB v7), (14, zB v7), (13, .sl 0 (List.map encInt a0.fFrom)), (12, .ptr 1 1 2), (11, zB true), (10, zB v4), (9, zB v4), (8, zI a0.fVal), (7, .ptr 1 1 1), (6, zB true), (5, zB v1), (4, zI a0.fBal), (3, .ptr 1 1 0), (2, zB false), (1, .ptr 1 1 0), (0, encProp0 a0)], [(1, ⟨1, 1, true, some (encProp0 a0)⟩)]⟩ (impl_nodesOk_spec a0.fGot 4 v10 hv11) ?_
       refine ro 17 2 2 ⟨[(21, zB v10), (20, zB v10), (19, zB v10), (18, .sl 0 (List.map encInt a0.fGot)), (17, .ptr 1 1 4), (16, zB true), (15, zB v7), (14, zB v7), (13, .sl 0 (List.map encInt a0.fFrom)), (12, .ptr 1 1 2), (11, zB true), (10, zB v4), (9, zB v4), (8, zI a0.fVal), (7, .ptr 1 1 1), (6, zB true), (5, zB v1), (4, zI a0.fBal), (3, .ptr 1 1 0), (2, zB false), (1, .ptr 1 1 0), (0, encProp0 a0)], [(1, ⟨1, 1, true, some (encProp0 a0)⟩)]⟩ ?_
       rcases dich v10 with hb12 | hb12
       · replace h := cond_t hb12 h
         refine rl 21 true hb12 ?_
         refine ro 19 5 5 ⟨[(26, zI (w64 (a0.fBal - 1))), (25, zI a0.fBal), (24, .ptr 1 1 0), (23, zI a0.fBest), (22, .ptr 1 1 3), (21, zB true), (20, zB v10), (19, zB v10), (18, .sl 0 (List.map encInt a0.fGot)), (17, .ptr 1 1 4), (16, zB true), (15, zB v7), (14, zB v7), (13, .sl 0 (List.map encInt a0.fFrom)), (12, .ptr 1 1 2), (11, zB true), (10, zB v4), (9, zB v4), (8, zI a0.fVal), (7, .ptr 1 1 1), (6, zB true), (5, zB v1), (4, zI a0.fBal), (3, .ptr 1 1 0), (2, zB false), (1, .ptr 1 1 0), (0, encProp0 a0)], [(1, ⟨1, 1, true, some (encProp0 a0)⟩)]⟩ ?_
         obtain ⟨v13, hv14, h⟩ := bindO h
         refine rc 24 ⟨[(27, zB v13), (26, zI (w64 (a0.fBal - 1))), (25, zI a0.fBal), (24, .ptr 1 1 0), (23, zI a0.fBest), (22, .ptr 1 1 3), (21, zB true), (20, zB v10), (19, zB v10), (18, .sl 0 (List.map encInt a0.fGot)), (17, .ptr 1 1 4), (16, zB true), (15, zB v7), (14, zB v7), (13, .sl 0 (List.map encInt a0.fFrom)), (12, .ptr 1 1 2), (11, zB true), (10, zB v4), (9, zB v4), (8, zI a0.fVal), (7, .ptr 1 1 1), (6, zB true), (5, zB v1), (4, zI a0.fBal), (3, .ptr 1 1 0), (2, zB false), (1, .ptr 1 1 0), (0, encProp0 a0)], [(1, ⟨1, 1, true, some (encProp0 a0)⟩)]⟩ (impl_in_spec a0.fBest 0 (w64 (a0.fBal - 1)) v13 hv14) ?_
         refine ro9 25 2 2 ⟨[(2, zB v13), (28, zB v13), (27, zB v13), (26, zI (w64 (a0.fBal - 1))), (25, zI a0.fBal), (24, .ptr 1 1 0), (23, zI a0.fBest), (22, .ptr 1 1 3), (21, zB true), (20, zB v10), (19, zB v10), (18, .sl 0 (List.map encInt a0.fGot)), (17, .ptr 1 1 4), (16, zB true), (15, zB v7), (14, zB v7), (13, .sl 0 (List.map encInt a0.fFrom)), (12, .ptr 1 1 2), (11, zB true), (10, zB v4), (9, zB v4), (8, zI a0.fVal), (7, .ptr 1 1 1), (6, zB true), (5, zB v1), (4, zI a0.fBal), (3, .ptr 1 1 0), (2, zB false), (1, .ptr 1 1 0), (0, encProp0 a0)], [(1, ⟨1, 1, true, some (encProp0 a0)⟩)]⟩ ?_
         refine runs_ret ?_
         exact fin _ _ h (by kernel_rfl)
       · replace h := cond_f hb12 h
         refine rl 21 false hb12 ?_
         refine ro9 19 8 2 ⟨[(2, zB false), (28, zB false), (27, .tup []), (26, .tup []), (25, .tup []), (24, .tup []), (23, .tup []), (22, .tup []), (21, zB false), (20, zB v10), (19, zB v10), (18, .sl 0 (List.map encInt a0.fGot)), (17, .ptr 1 1 4), (16, zB true), (15, zB v7), (14, zB v7), (13, .sl 0 (List.map encInt a0.fFrom)), (12, .ptr 1 1 2), (11, zB true), (10, zB v4), (9, zB v4), (8, zI a0.fVal), (7, .ptr 1 1 1), (6, zB true), (5, zB v1), (4, zI a0.fBal), (3, .ptr 1 1 0), (2, zB false), (1, .ptr 1 1 0), (0, encProp0 a0)], [(1, ⟨1, 1, true, some (encProp0 a0)⟩)]⟩ ?_
         refine runs_ret ?_
         exact fin _ _ h (by kernel_rfl)
     · replace h := cond_f hb9 h
       refine rl 16 false hb9 ?_
       refine ro9 14 13 4 ⟨[(2, zB false), (28, zB false), (27, .tup []), (26, .tup []), (25, .tup []), (24, .tup []), (23, .tup []), (22, .tup []), (21, zB false), (20, zB false), (19, .tup []), (18, .tup []), (17, .tup []), (16, zB false), (15, zB v7), (14, zB v7), (13, .sl 0 (List.map encInt a0.fFrom)), (12, .ptr 1 1 2), (11, zB true), (10, zB v4), (9, zB v4), (8, zI a0.fVal), (7, .ptr 1 1 1), (6, zB true), (5, zB v1), (4, zI a0.fBal), (3, .ptr 1 1 0), (2, zB false), (1, .ptr 1 1 0), (0, encProp0 a0)], [(1, ⟨1, 1, true, some (encProp0 a0)⟩)]⟩ ?_
       refine runs_ret ?_
       exact fin _ _ h (by kernel_rfl)
   · replace h := cond_f hb6 h
     refine rl 11 false hb6 ?_
     refine ro9 9 18 6 ⟨[(2, zB false), (28, zB false), (27, .tup []), (26, .tup []), (25, .tup []), (24, .tup []), (23, .tup []), (22, .tup []), (21, zB false), (20, zB false), (19, .tup []), (18, .tup []), (17, .tup []), (16, zB false), (15, zB false), (14, .tup []), (13, .tup []), (12, .tup []), (11, zB false), (10, zB v4), (9, zB v4), (8, zI a0.fVal), (7, .ptr 1 1 1), (6, zB true), (5, zB v1), (4, zI a0.fBal), (3, .ptr 1 1 0), (2, zB false), (1, .ptr 1 1 0), (0, encProp0 a0)], [(1, ⟨1, 1, true, some (encProp0 a0)⟩)]⟩ ?_
     refine runs_ret ?_
     exact fin _ _ h (by kernel_rfl)
 · replace h := cond_f hb3 h
   refine rl 6 false hb3 ?_
   refine ro9 4 23 8 ⟨[(2, zB false), (28, zB false), (27, .tup []), (26, .tup []), (25, .tup []), (24, .tup []), (23, .tup []), (22, .tup []), (21, zB false), (20, zB false), (19, .tup []), (18, .tup []), (17, .tup []), (16, zB false), (15, zB false), (14, .tup []), (13, .tup []), (12, .tup []), (11, zB false), (10, zB false), (9, .tup []), (8, .tup []), (7, .tup []), (6, zB false), (5, zB v1), (4, zI a0.fBal), (3, .ptr 1 1 0), (2, zB false), (1, .ptr 1 1 0), (0, encProp0 a0)], [(1, ⟨1, 1, true, some (encProp0 a0)⟩)]⟩ ?_
   refine runs_ret ?_
   exact fin _ _ h (by kernel_rfl)

set_option maxRecDepth 100000 in
set_option maxHeartbeats 2000000 in
theorem impl_PropReady_spec (a0 : SProp) (a1 : Int) (v0 : Bool) (h : impl_PropReady a0 a1 = some v0) : Ax.Spec Try.prog 29 none [encProp0 a0, zI a1] (zB v0 : X) (.junk : X) := by
 refine walk0 (fn := Try.f29) (fun q0 : Bool => (zB q0 : X)) (fun q0 : Bool => (.junk : X)) v0 ⟨[(0, encProp0 a0), (1, zI a1)], []⟩ Try.func29 rfl (by decide +kernel) fun Γ hn fin => ?_
 rw [impl_PropReady] at h
 refine sqr cv hn ?_
 refine ro9 0 2 2 ⟨[(4, zB false), (2, .ptr 2 1 0), (0, encProp0 a0), (1, zI a1)], [(2, ⟨1, 1, true, some (encProp0 a0)⟩)]⟩ ?_
 refine sqr cv hn ?_
 refine ro 0 1 1 ⟨[(5, encProp0 a0), (4, zB false), (2, .ptr 2 1 0), (0, encProp0 a0), (1, zI a1)], [(2, ⟨1, 1, true, some (encProp0 a0)⟩)]⟩ ?_
 obtain ⟨v1, hv2, h⟩ := bindO h
 refine rc 1 ⟨[(6, zB v1), (5, encProp0 a0), (4, zB false), (2, .ptr 2 1 0), (0, encProp0 a0), (1, zI a1)], [(2, ⟨1, 1, true, some (encProp0 a0)⟩)]⟩ (impl_PropOk_spec a0 v1 hv2) ?_
 refine ro 2 1 1 ⟨[(7, zB v1), (6, zB v1), (5, encProp0 a0), (4, zB false), (2, .ptr 2 1 0), (0, encProp0 a0), (1, zI a1)], [(2, ⟨1, 1, true, some (encProp0 a0)⟩)]⟩ ?_
 rcases dich v1 with hb3 | hb3
 · replace h := cond_t hb3 h
   refine rl 7 true hb3 ?_
   refine ro 3 4 4 ⟨[(11, zI a1), (10, zI (a0.fFrom.length : Int)), (9, .sl 0 (List.map encInt a0.fFrom)), (8, .ptr 2 1 2), (7, zB true), (6, zB v1), (5, encProp0 a0), (4, zB false), (2, .ptr 2 1 0), (0, encProp0 a0), (1, zI a1)], [(2, ⟨1, 1, true, some (encProp0 a0)⟩)]⟩ ?_ (he := by rw [show (a0.fFrom.length : Int) = ((List.map encInt a0.fFrom).length : Int) from by rw [List.length_map]]; kernel_rfl)
   obtain ⟨v4, hv5, h⟩ := bindO h
   refine rc 7 ⟨[(12, zB v4), (11, zI a1), (10, zI (a0.fFrom.length : Int)), (9, .sl 0 (List.map encInt a0.fFrom)), (8, .ptr 2 1 2), (7, zB true), (6, zB v1), (5, encProp0 a0), (4, zB false), (2, .ptr 2 1 0), (0, encProp0 a0), (1, zI a1)], [(2, ⟨1, 1, true, some (encProp0 a0)⟩)]⟩ (impl_IsMost_spec (a0.fFrom.length : Int) a1 v4 hv5) ?_
   refine ro9 8 2 2 ⟨[(4, zB v4), (13, zB v4), (12, zB v4), (11, zI a1), (10, zI (a0.fFrom.length : Int)), (9, .sl 0 (List.map encInt a0.fFrom)), (8, .ptr 2 1 2), (7, zB true), (6, zB v1), (5, encProp0 a0), (4, zB false), (2, .ptr 2 1 0), (0, encProp0 a0), (1, zI a1)], [(2, ⟨1, 1, true, some (encProp0 a0)⟩)]⟩ ?_
   refine runs_ret ?_
   exact fin _ _ h (by kernel_rfl)
 · replace h := cond_f hb3 h
   refine rl 7 false hb3 ?_
   refine ro9 3 7 2 ⟨[(4, zB false), (13, zB false), (12, .tup []), (11, .tup []), (10, .tup []), (9, .tup []), (8, .tup []), (7, zB false), (6, zB v1), (5, encProp0 a0), (4, zB false), (2, .ptr 2 1 0), (0, encProp0 a0), (1, zI a1)], [(2, ⟨1, 1, true, some (encProp0 a0)⟩)]⟩ ?_
   refine runs_ret ?_
   exact fin _ _ h (by kernel_rfl)

set_option maxRecDepth 100000 in
set_option maxHeartbeats 2000000 in
theorem impl_PropWon_spec (a0 : SProp) (a1 : Int) (v0 : Bool) (h : impl_PropWon a0 a1 = some v0) : Ax.Spec Try.prog 31 none [encProp0 a0, zI a1] (zB v0 : X) (.junk : X) := by
 refine walk0 (fn := Try.f31) (fun q0 : Bool => (zB q0 : X)) (fun q0 : Bool => (.junk : X)) v0 ⟨[(0, encProp0 a0), (1, zI a1)], []⟩ Try.func31 rfl (by decide +kernel) fun Γ hn fin => ?_
 rw [impl_PropWon] at h
 refine sqr cv hn ?_
 refine ro9 0 2 2 ⟨[(4, zB false), (2, .ptr 2 1 0), (0, encProp0 a0), (1, zI a1)], [(2, ⟨1, 1, true, some (encProp0 a0)⟩)]⟩ ?_
 refine sqr cv hn ?_
 refine ro 0 2 2 ⟨[(6, zI a1), (5, encProp0 a0), (4, zB false), (2, .ptr 2 1 0), (0, encProp0 a0), (1, zI a1)], [(2, ⟨1, 1, true, some (encProp0 a0)⟩)]⟩ ?_
 obtain ⟨v1, hv2, h⟩ := bindO h
 refine rc 2 ⟨[(7, zB v1), (6, zI a1), (5, encProp0 a0), (4, zB false), (2, .ptr 2 1 0), (0, encProp0 a0), (1, zI a1)], [(2, ⟨1, 1, true, some (encProp0 a0)⟩)]⟩ (impl_PropReady_spec a0 a1 v1 hv2) ?_
 refine ro 3 1 1 ⟨[(8, zB v1), (7, zB v1), (6, zI a1), (5, encProp0 a0), (4, zB false), (2, .ptr 2 1 0), (0, encProp0 a0), (1, zI a1)], [(2, ⟨1, 1, true, some (encProp0 a0)⟩)]⟩ ?_
 rcases dich v1 with hb3 | hb3
 · replace h := cond_t hb3 h
   refine rl 8 true hb3 ?_
   refine ro 4 4 4 ⟨[(12, zI a1), (11, zI (a0.fGot.length : Int)), (10, .sl 0 (List.map encInt a0.fGot)), (9, .ptr 2 1 4), (8, zB true), (7, zB v1), (6, zI a1), (5, encProp0 a0), (4, zB false), (2, .ptr 2 1 0), (0, encProp0 a0), (1, zI a1)], [(2, ⟨1, 1, true, some (encProp0 a0)⟩)]⟩ ?_ (he := by rw [show (a0.fGot.length : Int) = ((List.map encInt a0.fGot).length : Int) from by rw [List.length_map]]; kernel_rfl)
   obtain ⟨v4, hv5, h⟩ := bindO h
   refine rc 8 ⟨[(13, zB v4), (12, zI a1), (11, zI (a0.fGot.length : Int)), (10, .sl 0 (List.map encInt a0.fGot)), (9, .ptr 2 1 4), (8, zB true), (7, zB v1), (6, zI a1), (5, encProp0 a0), (4, zB false), (2, .ptr 2 1 0), (0, encProp0 a0), (1, zI a1)], [(2, ⟨1, 1, true, some (encProp0 a0)⟩)]⟩ (impl_IsMost_spec (a0.fGot.length : Int) a1 v4 hv5) ?_
   refine ro9 9 2 2 ⟨[(4, zB v4), (14, zB v4), (13, zB v4), (12, zI a1), (11, zI (a0.fGot.length : Int)), (10, .sl 0 (List.map encInt a0.fGot)), (9, .ptr 2 1 4), (8, zB true), (7, zB v1), (6, zI a1), (5, encProp0 a0), (4, zB false), (2, .ptr 2 1 0), (0, encProp0 a0), (1, zI a1)], [(2, ⟨1, 1, true, some (encProp0 a0)⟩)]⟩ ?_
   refine runs_ret ?_
   exact fin _ _ h (by kernel_rfl)
 · replace h := cond_f hb3 h
   refine rl 8 false hb3 ?_
   refine ro9 4 7 2 ⟨[(4, zB false), (14, zB false), (13, .tup []), (12, .tup []), (11, .tup []), (10, .tup []), (9, .tup []), (8, zB false), (7, zB v1), (6, zI a1), (5, encProp0 a0), (4, zB false), (2, .ptr 2 1 0), (0, encProp0 a0), (1, zI a1)], [(2, ⟨1, 1, true, some (encProp0 a0)⟩)]⟩ ?_
   refine runs_ret ?_
   exact fin _ _ h (by kernel_rfl)

set_option maxRecDepth 100000 in
set_option maxHeartbeats 2000000 in
theorem laws_FnExactPropWon_spec (a0 : SProp) (a1 : Int) (v0 : Bool) (h : laws_FnExactPropWon a0 a1 = some v0) : Ax.Spec Try.prog 7 none [encProp0 a0, zI a1] (zB v0 : X) (.junk : X) := by
 refine walk0 (fn := Try.f7) (fun q0 : Bool => (zB q0 : X)) (fun q0 : Bool => (.junk : X)) v0 ⟨[(0, encProp0 a0), (1, zI a1)], []⟩ Try.func7 rfl (by decide +kernel) fun Γ hn fin => ?_
 rw [laws_FnExactPropWon] at h
 refine sqr cv hn ?_
 refine ro9 0 2 2 ⟨[(4, zB false), (2, .ptr 2 1 0), (0, encProp0 a0), (1, zI a1)], [(2, ⟨1, 1, true, some (encProp0 a0)⟩)]⟩ ?_
 refine sqr cv hn ?_
 refine ro9 0 1 1 ⟨[(5, zI 1048576), (4, zB false), (2, .ptr 2 1 0), (0, encProp0 a0), (1, zI a1)], [(2, ⟨1, 1, true, some (encProp0 a0)⟩)]⟩ ?_
 refine sqr cv hn ?_
 refine ro 0 2 2 ⟨[(10, zI 1048576), (9, encProp0 a0), (5, zI 1048576), (4, zB false), (2, .ptr 2 1 0), (0, encProp0 a0), (1, zI a1)], [(2, ⟨1, 1, true, some (encProp0 a0)⟩)]⟩ ?_
 obtain ⟨v3, hv4, h⟩ := bindO h
 refine rc 2 ⟨[(11, zI v3), (10, zI 1048576), (9, encProp0 a0), (5, zI 1048576), (4, zB false), (2, .ptr 2 1 0), (0, encProp0 a0), (1, zI a1)], [(2, ⟨1, 1, true, some (encProp0 a0)⟩)]⟩ (laws_szProp_spec a0 1048576 v3 hv4) ?_
 refine ro9 3 1 1 ⟨[(5, zI v3), (11, zI v3), (10, zI 1048576), (9, encProp0 a0), (5, zI 1048576), (4, zB false), (2, .ptr 2 1 0), (0, encProp0 a0), (1, zI a1)], [(2, ⟨1, 1, true, some (encProp0 a0)⟩)]⟩ ?_
 refine runs_seq ?_
 let T3 : List (Nat × X) := [(5, zI v3), (2, .ptr 2 0 0), (1, zI a1)]
 let B3 : List (Nat × Bx) := [(2, ⟨0, 0, true, some (encProp0 a0)⟩)]
 refine wkr [5, 2, 1] [(2, 2, false)] ⟨T3, B3⟩ ?_
 refine sqr cv hn ?_
 refine ro9 0 2 2 ⟨(13, zB (decide (v3 < 0))) :: (12, zI v3) :: T3, B3⟩ ?_
 rcases dich (decide (v3 < 0)) with hb6 | hb6
 · replace h := cond_t hb6 h
   refine ct hb6 ?_
   refine sqr cv hn ?_
   refine ro9 0 1 1 ⟨(4, zB true) :: (13, zB (decide (v3 < 0))) :: (12, zI v3) :: T3, B3⟩ ?_
   refine runs_ret ?_
   exact fin _ _ h (by kernel_rfl)
 · replace h := cond_f hb6 h
   refine cf hb6 ?_
   refine runs_skip ?_
   refine sqr cv hn ?_
   refine ro 0 1 1 ⟨(14, encProp0 a0) :: (13, zB (decide (v3 < 0))) :: (12, zI v3) :: T3, B3⟩ ?_
   obtain ⟨v11, hv12, h⟩ := bindO h
   refine rc 1 ⟨(15, .agg [zI v11.fBal, zI v11.fVal, .view 15 1 [] 0, zI v11.fBest, .view 10015 1 [] 0]) :: (14, encProp0 a0) :: (13, zB (decide (v3 < 0))) :: (12, zI v3) :: T3, (10015, ⟨1, 1, false, some (.sl 1 (List.map encInt v11.fGot))⟩) :: (15, ⟨1, 1, false, some (.sl 1 (List.map encInt v11.fFrom))⟩) :: B3⟩ (laws_toProp_spec a0 v11 hv12) ?_
   refine ro 2 1 1 ⟨(16, zI a1) :: (15, .agg [zI v11.fBal, zI v11.fVal, .view 15 1 [] 0, zI v11.fBest, .view 10015 1 [] 0]) :: (14, encProp0 a0) :: (13, zB (decide (v3 < 0))) :: (12, zI v3) :: T3, (10015, ⟨1, 1, false, some (.sl 1 (List.map encInt v11.fGot))⟩) :: (15, ⟨1, 1, false, some (.sl 1 (List.map encInt v11.fFrom))⟩) :: B3⟩ ?_
   obtain ⟨v13, hv14, h⟩ := bindO h
   refine rcH 3 [List.map encInt v11.fFrom, List.map encInt v11.fGot] ⟨(17, zB v13) :: (16, zI a1) :: (15, .agg [zI v11.fBal, zI v11.fVal, .view 15 1 [] 0, zI v11.fBest, .view 10015 1 [] 0]) :: (14, encProp0 a0) :: (13, zB (decide (v3 < 0))) :: (12, zI v3) :: T3, (10015, ⟨1, 1, false, some (.sl 1 (List.map encInt v11.fGot))⟩) :: (15, ⟨1, 1, false, some (.sl 1 (List.map encInt v11.fFrom))⟩) :: B3⟩ [X.rds (List.map encInt v11.fFrom) = true, X.roifys (List.map encInt v11.fFrom) = List.map encInt v11.fFrom, X.rds (List.map encInt v11.fGot) = true, X.roifys (List.map encInt v11.fGot) = List.map encInt v11.fGot, rootsBut (cv 30) 0 [.agg [zI v11.fBal, zI v11.fVal, .view 15 1 [] 0, zI v11.fBest, .view 10015 1 [] 0], zI a1] = false ∨ (X.noRo (zB v13 : X) = true ∧ X.noRo (.junk : X) = true)] (spec_PropWon_spec v11 a1 v13 hv14) ⟨rds_map rde_Int _, ro_map ro_Int _, rds_map rde_Int _, ro_map ro_Int _, .inr ⟨rfl, rfl⟩, trivial⟩ ?_
   refine ro9 4 1 1 ⟨(6, zB v13) :: (17, zB v13) :: (16, zI a1) :: (15, .agg [zI v11.fBal, zI v11.fVal, .view 15 1 [] 0, zI v11.fBest, .view 10015 1 [] 0]) :: (14, encProp0 a0) :: (13, zB (decide (v3 < 0))) :: (12, zI v3) :: T3, (10015, ⟨1, 1, false, some (.sl 1 (List.map encInt v11.fGot))⟩) :: (15, ⟨1, 1, false, some (.sl 1 (List.map encInt v11.fFrom))⟩) :: B3⟩ ?_
   let T5 : List (Nat × X) := [(6, zB v13), (2, .ptr 2 0 0), (1, zI a1)]
   let B5 : List (Nat × Bx) := [(2, ⟨0, 0, true, some (encProp0 a0)⟩)]
   refine wkr [6, 2, 1] [(2, 2, false)] ⟨T5, B5⟩ ?_
   refine sqr cv hn ?_
   refine ro 0 1 1 ⟨(18, encProp0 a0) :: T5, B5⟩ ?_
   obtain ⟨v17, hv18, h⟩ := bindO h
   refine rc 1 ⟨(19, .agg [zI v17.fBal, zI v17.fVal, .view 19 1 [] 0, zI v17.fBest, .view 10019 1 [] 0]) :: (18, encProp0 a0) :: T5, (10019, ⟨1, 1, false, some (.sl 1 (List.map encInt v17.fGot))⟩) :: (19, ⟨1, 1, false, some (.sl 1 (List.map encInt v17.fFrom))⟩) :: B5⟩ (laws_toProp_spec a0 v17 hv18) ?_
   refine ro9 2 2 2 ⟨(7, .ptr 7 1 0) :: (19, .agg [zI v17.fBal, zI v17.fVal, .view 19 1 [] 0, zI v17.fBest, .view 10019 1 [] 0]) :: (18, encProp0 a0) :: T5, (7, ⟨1, 2, true, some (encProp1 v17)⟩) :: (10019, ⟨1, 2, false, some (.junk)⟩) :: (19, ⟨1, 2, false, some (.junk)⟩) :: (7, ⟨1, 1, true, some (.agg [zI 0, zI 0, .sl 1 (List.map encInt []), zI 0, .sl 1 (List.map encInt [])])⟩) :: (10019, ⟨1, 1, false, some (.sl 1 (List.map encInt v17.fGot))⟩) :: (19, ⟨1, 1, false, some (.sl 1 (List.map encInt v17.fFrom))⟩) :: B5⟩ ?_
   let T7 : List (Nat × X) := [(7, .ptr 7 0 0), (6, zB v13), (2, .ptr 2 0 0), (1, zI a1)]
   let B7 : List (Nat × Bx) := [(7, ⟨0, 0, true, some (encProp1 v17)⟩), (2, ⟨0, 0, true, some (encProp0 a0)⟩)]
   refine wkr [7, 6, 2, 1] [(7, 7, false), (2, 2, false)] ⟨T7, B7⟩ ?_
   refine sqr cv hn ?_
   refine ro 0 2 2 ⟨(21, zI a1) :: (20, .agg [zI v17.fBal, zI v17.fVal, .view 7 0 [] 2, zI v17.fBest, .view 7 0 [] 4]) :: T7, B7⟩ ?_
   obtain ⟨v21, hv22, h⟩ := bindO h
   refine rcH 2 [List.map encInt v17.fFrom, List.map encInt v17.fGot] ⟨(22, zB v21) :: (21, zI a1) :: (20, .agg [zI v17.fBal, zI v17.fVal, .view 7 0 [] 2, zI v17.fBest, .view 7 0 [] 4]) :: T7, B7⟩ [X.rds (List.map encInt v17.fFrom) = true, X.roifys (List.map encInt v17.fFrom) = List.map encInt v17.fFrom, X.rds (List.map encInt v17.fGot) = true, X.roifys (List.map encInt v17.fGot) = List.map encInt v17.fGot, rootsBut (cv 31) 0 [.agg [zI v17.fBal, zI v17.fVal, .view 7 0 [] 2, zI v17.fBest, .view 7 0 [] 4], zI a1] = false ∨ (X.noRo (zB v21 : X) = true ∧ X.noRo (.junk : X) = true)] (impl_PropWon_spec v17 a1 v21 hv22) ⟨rds_map rde_Int _, ro_map ro_Int _, rds_map rde_Int _, ro_map ro_Int _, .inr ⟨rfl, rfl⟩, trivial⟩ ?_
   refine ro9 3 1 1 ⟨(8, zB v21) :: (22, zB v21) :: (21, zI a1) :: (20, .agg [zI v17.fBal, zI v17.fVal, .view 7 0 [] 2, zI v17.fBest, .view 7 0 [] 4]) :: T7, B7⟩ ?_
   refine runs_seq ?_
   refine sqr cv hn ?_
   refine ro9 0 3 3 ⟨(25, zB (v21 != v13)) :: (24, zB v13) :: (23, zB v21) :: (8, zB v21) :: (22, zB v21) :: (21, zI a1) :: (20, .agg [zI v17.fBal, zI v17.fVal, .view 7 0 [] 2, zI v17.fBest, .view 7 0 [] 4]) :: T7, B7⟩ ?_
   rcases dich (v21 != v13) with hb24 | hb24
   · replace h := cond_t hb24 h
     refine ct hb24 ?_
     let T9 : List (Nat × X) := [(7, .ptr 7 0 0), (2, .ptr 2 0 0)]
     let B9 : List (Nat × Bx) := [(7, ⟨0, 0, true, some (encProp1 v17)⟩), (2, ⟨0, 0, true, some (encProp0 a0)⟩)]
     refine wkr [7, 2] [(7, 7, false), (2, 2, false)] ⟨T9, B9⟩ ?_
     refine sqr cv hn ?_
     refine ro9 0 1 1 ⟨(4, zB false) :: T9, B9⟩ ?_
     refine runs_ret ?_
     exact fin _ _ h (by kernel_rfl)
   · replace h := cond_f hb24 h
     refine cf hb24 ?_
     refine runs_skip ?_
     refine runs_seq ?_
     refine runs_seq ?_
     let T10 : List (Nat × X) := [(7, .ptr 7 0 0), (2, .ptr 2 0 0)]
     let B10 : List (Nat × Bx) := [(7, ⟨0, 0, true, some (encProp1 v17)⟩), (2, ⟨0, 0, true, some (encProp0 a0)⟩)]
     refine wkr [7, 2] [(7, 7, false), (2, 2, false)] ⟨T10, B10⟩ ?_
     refine rgT cv mixed hn ?_
     refine roT 0 2 2 ⟨(27, encProp0 a0) :: (26, .agg [zI v17.fBal, zI v17.fVal, .view 7 0 [] 2, zI v17.fBest, .view 7 0 [] 4]) :: T10, B10⟩ ?_
     obtain ⟨v25, hv26, h⟩ := bindO h
     refine rcT 2 ⟨(28, .agg [zI v25.fBal, zI v25.fVal, .view 28 1 [] 0, zI v25.fBest, .view 10028 1 [] 0]) :: (27, encProp0 a0) :: (26, .agg [zI v17.fBal, zI v17.fVal, .view 7 0 [] 2, zI v17.fBest, .view 7 0 [] 4]) :: T10, (10028, ⟨1, 1, false, some (.sl 1 (List.map encInt v25.fGot))⟩) :: (28, ⟨1, 1, false, some (.sl 1 (List.map encInt v25.fFrom))⟩) :: B10⟩ (laws_toProp_spec a0 v25 hv26) ?_
     obtain ⟨v27, hv28, h⟩ := bindO h
     refine rcHT 3 [List.map encInt v17.fFrom, List.map encInt v17.fGot, List.map encInt v25.fFrom, List.map encInt v25.fGot] ⟨(29, zB v27) :: (28, .agg [zI v25.fBal, zI v25.fVal, .view 28 1 [] 0, zI v25.fBest, .view 10028 1 [] 0]) :: (27, encProp0 a0) :: (26, .agg [zI v17.fBal, zI v17.fVal, .view 7 0 [] 2, zI v17.fBest, .view 7 0 [] 4]) :: T10, (10028, ⟨1, 1, false, some (.sl 1 (List.map encInt v25.fGot))⟩) :: (28, ⟨1, 1, false, some (.sl 1 (List.map encInt v25.fFrom))⟩) :: B10⟩ [X.rds (List.map encInt v17.fFrom) = true, X.roifys (List.map encInt v17.fFrom) = List.map encInt v17.fFrom, X.rds (List.map encInt v17.fGot) = true, X.roifys (List.map encInt v17.fGot) = List.map encInt v17.fGot, X.rds (List.map encInt v25.fFrom) = true, X.roifys (List.map encInt v25.fFrom) = List.map encInt v25.fFrom, X.rds (List.map encInt v25.fGot) = true, X.roifys (List.map encInt v25.fGot) = List.map encInt v25.fGot, rootsBut (cv 27) 0 [.agg [zI v17.fBal, zI v17.fVal, .view 7 0 [] 2, zI v17.fBest, .view 7 0 [] 4], .agg [zI v25.fBal, zI v25.fVal, .view 28 1 [] 0, zI v25.fBest, .view 10028 1 [] 0]] = false ∨ (X.noRo (zB v27 : X) = true ∧ X.noRo (.junk : X) = true)] (laws_eqProp_spec v17 v25 v27 hv28) ⟨rds_map rde_Int _, ro_map ro_Int _, rds_map rde_Int _, ro_map ro_Int _, rds_map rde_Int _, ro_map ro_Int _, rds_map rde_Int _, ro_map ro_Int _, .inr ⟨rfl, rfl⟩, trivial⟩ ?_
     refine roT9 4 1 1 ⟨(30, zB (!v27)) :: (29, zB v27) :: (28, .agg [zI v25.fBal, zI v25.fVal, .view 28 1 [] 0, zI v25.fBest, .view 10028 1 [] 0]) :: (27, encProp0 a0) :: (26, .agg [zI v17.fBal, zI v17.fVal, .view 7 0 [] 2, zI v17.fBest, .view 7 0 [] 4]) :: T10, (10028, ⟨1, 1, false, some (.sl 1 (List.map encInt v25.fGot))⟩) :: (28, ⟨1, 1, false, some (.sl 1 (List.map encInt v25.fFrom))⟩) :: B10⟩ ?_
     rcases dich (!v27) with hb29 | hb29
     · replace h := cond_t hb29 h
       refine ct hb29 ?_
       refine wkr [] [] ⟨[], []⟩ ?_
       refine sqr cv hn ?_
       refine ro9 0 1 1 ⟨[(4, zB false)], []⟩ ?_
       refine runs_ret ?_
       exact fin _ _ h (by kernel_rfl)
     · replace h := cond_f hb29 h
       refine cf hb29 ?_
       refine runs_skip ?_
       refine wkr [] [] ⟨[], []⟩ ?_
       refine sqr cv hn ?_
       refine ro9 0 1 1 ⟨[(4, zB true)], []⟩ ?_
       refine runs_ret ?_
       exact fin _ _ h (by kernel_rfl)

end Go.Proofs.Yteolobihfindjaa
