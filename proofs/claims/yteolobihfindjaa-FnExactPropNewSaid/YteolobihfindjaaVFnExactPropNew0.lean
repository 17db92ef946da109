/- The walks: each Go function answers what its plain function says. -/
import Derived.Test.YteolobihfindjaaUFnExactPropNew
import Derived.Test.YteolobihfindjaaProg
set_option linter.unusedVariables false
namespace Go.Proofs.Yteolobihfindjaa
open Go Ax
abbrev cv : Nat → Option Nat := fun g => bif g == 77 then some 0 else bif g == 60 then some 0 else bif g == 34 then some 0 else bif g == 98 then some 0 else bif g == 63 then some 0 else none
theorem mixed : Try.prog.follows .mixedOrders = true := by decide +kernel

set_option maxRecDepth 100000 in
set_option maxHeartbeats 2000000 in
theorem laws_eqIntS_spec (a0 : (List Int)) (a1 : (List Int)) (v0 : Bool) (h : laws_eqIntS a0 a1 = some v0) : Ax.Spec Try.prog 75 none [.sl 0 (List.map encInt a0), .sl 0 (List.map encInt a1)] (zB v0 : X) (.junk : X) := by
 let T1 : List (Nat × X) := [(0, .sl 0 (List.map encInt a0)), (1, .sl 0 (List.map encInt a1))]
 refine walk0 (fn := Try.f75) (fun q0 : Bool => (zB q0 : X)) (fun q0 : Bool => (.junk : X)) v0 ⟨T1, []⟩ Try.func75 rfl (by decide +kernel) fun Γ hn fin => ?_
 rw [laws_eqIntS] at h
 refine sqr cv hn ?_
 refine ro9 0 1 1 ⟨(4, zB false) :: T1, []⟩ ?_
 refine runs_seq ?_
 refine sqr cv hn ?_
 refine ro9 0 5 5 ⟨(10, zB ((a0.length : Int) != (a1.length : Int))) :: (9, zI (a1.length : Int)) :: (8, .sl 0 (List.map encInt a1)) :: (7, zI (a0.length : Int)) :: (6, .sl 0 (List.map encInt a0)) :: (4, zB false) :: T1, []⟩ ?_ (he := by rw [show (a0.length : Int) = ((List.map encInt a0).length : Int) from by rw [List.length_map]]; rw [show (a1.length : Int) = ((List.map encInt a1).length : Int) from by rw [List.length_map]]; kernel_rfl)
 rcases dich ((a0.length : Int) != (a1.length : Int)) with hb2 | hb2
 · replace h := cond_t hb2 h
   refine ct hb2 ?_
   let T3 : List (Nat × X) := [(0, .sl 0 (List.map encInt a0)), (1, .sl 0 (List.map encInt a1))]
   refine wkr [0, 1] [] ⟨T3, []⟩ ?_
   refine sqr cv hn ?_
   refine ro9 0 1 1 ⟨(4, zB false) :: T3, []⟩ ?_
   refine runs_ret ?_
   exact fin _ _ h (by kernel_rfl)
 · replace h := cond_f hb2 h
   refine cf hb2 ?_
   refine runs_skip ?_
   refine runs_seq ?_
   let T5 : List (Nat × X) := [(0, .sl 0 (List.map encInt a0)), (1, .sl 0 (List.map encInt a1))]
   refine wkr [0, 1] [] ⟨T5, []⟩ ?_
   refine sqr cv hn ?_
   refine ro9 0 1 1 ⟨(5, zI 0) :: T5, []⟩ ?_
   refine runs_block ?_
   refine runs_loopM (σ := List Int × Nat) (fun s => ⟨[(5, zI (s.2 : Int)), (0, .sl 0 (List.map encInt a0)), (1, .sl 0 (List.map encInt a1))], []⟩) (fun s => s.1 = List.drop s.2 a0 ∧ laws_eqIntS_l1 a1 s.1 s.2 = some v0) (fun s => s.1.length) (a0, 0) ⟨rfl, h⟩ (wre [5, 0, 1] []) ?_
   rintro ⟨t1, i1⟩ ⟨hd1, h⟩
   refine seq0 ⟨[(5, zI (i1 : Int)), (0, .sl 0 (List.map encInt a0)), (1, .sl 0 (List.map encInt a1))], []⟩ ?_
   refine runs_len 0 (es := List.map encInt a0) (by kernel_rfl) fun hl1 => ?_
   replace hl1 := len_of_map hl1
   cases t1 with
   | nil =>
     rw [laws_eqIntS_l1] at h
     have hLn1 := dnil hd1
     refine runs_seq ?_
     refine sqr cv hn ?_
     refine ro9 0 4 4 ⟨[(14, zB (decide ((i1 : Int) < (a0.length : Int)))), (13, zI (a0.length : Int)), (12, .sl 0 (List.map encInt a0)), (11, zI (i1 : Int)), (5, zI (i1 : Int)), (0, .sl 0 (List.map encInt a0)), (1, .sl 0 (List.map encInt a1))], []⟩ ?_ (he := by rw [show (a0.length : Int) = ((List.map encInt a0).length : Int) from by rw [List.length_map]]; kernel_rfl)
     refine cf hLn1 ?_
     refine runs_exit ?_
     repeat refine thenX_exit ?_
     refine block_here ?_
     refine wkr [] [] ⟨[], []⟩ ?_
     refine sqr cv hn ?_
     refine ro9 0 1 1 ⟨[(4, zB true)], []⟩ ?_
     refine runs_ret ?_
     exact fin _ _ h (by kernel_rfl)
   | cons x10 t1 =>
     rw [laws_eqIntS_l1] at h
     have hLc1 := dcons hd1
     have hx10 := dget hd1
     have hi1 := dinc hd1 hl1
     refine runs_seq ?_
     refine sqr cv hn ?_
     refine ro9 0 4 4 ⟨[(14, zB (decide ((i1 : Int) < (a0.length : Int)))), (13, zI (a0.length : Int)), (12, .sl 0 (List.map encInt a0)), (11, zI (i1 : Int)), (5, zI (i1 : Int)), (0, .sl 0 (List.map encInt a0)), (1, .sl 0 (List.map encInt a1))], []⟩ ?_ (he := by rw [show (a0.length : Int) = ((List.map encInt a0).length : Int) from by rw [List.length_map]]; kernel_rfl)
     refine ct hLc1 ?_
     refine runs_skip ?_
     refine runs_seq ?_
     refine runs_block ?_
     refine runs_seq ?_
     refine rgT cv mixed hn ?_
     refine roT 0 2 2 ⟨[(18, zI (i1 : Int)), (17, .sl 0 (List.map encInt a0)), (14, zB (decide ((i1 : Int) < (a0.length : Int)))), (13, zI (a0.length : Int)), (12, .sl 0 (List.map encInt a0)), (11, zI (i1 : Int)), (5, zI (i1 : Int)), (0, .sl 0 (List.map encInt a0)), (1, .sl 0 (List.map encInt a1))], []⟩ ?_
     refine rixT 2 encInt 3 hx10 (ix_nn hx10) ⟨[(19, .rp (zI x10) 0), (18, zI (i1 : Int)), (17, .sl 0 (List.map encInt a0)), (14, zB (decide ((i1 : Int) < (a0.length : Int)))), (13, zI (a0.length : Int)), (12, .sl 0 (List.map encInt a0)), (11, zI (i1 : Int)), (5, zI (i1 : Int)), (0, .sl 0 (List.map encInt a0)), (1, .sl 0 (List.map encInt a1))], []⟩ ?_
     refine roT 3 3 3 ⟨[(22, zI (i1 : Int)), (21, .sl 0 (List.map encInt a1)), (20, zI x10), (19, .rp (zI x10) 0), (18, zI (i1 : Int)), (17, .sl 0 (List.map encInt a0)), (14, zB (decide ((i1 : Int) < (a0.length : Int)))), (13, zI (a0.length : Int)), (12, .sl 0 (List.map encInt a0)), (11, zI (i1 : Int)), (5, zI (i1 : Int)), (0, .sl 0 (List.map encInt a0)), (1, .sl 0 (List.map encInt a1))], []⟩ ?_
     obtain ⟨x20, hx21, h⟩ := bindO h
     refine rixT 6 encInt 3 hx21 (ix_nn hx21) ⟨[(23, .rp (zI x20) 0), (22, zI (i1 : Int)), (21, .sl 0 (List.map encInt a1)), (20, zI x10), (19, .rp (zI x10) 0), (18, zI (i1 : Int)), (17, .sl 0 (List.map encInt a0)), (14, zB (decide ((i1 : Int) < (a0.length : Int)))), (13, zI (a0.length : Int)), (12, .sl 0 (List.map encInt a0)), (11, zI (i1 : Int)), (5, zI (i1 : Int)), (0, .sl 0 (List.map encInt a0)), (1, .sl 0 (List.map encInt a1))], []⟩ ?_
     refine roT9 7 2 2 ⟨[(25, zB (x10 != x20)), (24, zI x20), (23, .rp (zI x20) 0), (22, zI (i1 : Int)), (21, .sl 0 (List.map encInt a1)), (20, zI x10), (19, .rp (zI x10) 0), (18, zI (i1 : Int)), (17, .sl 0 (List.map encInt a0)), (14, zB (decide ((i1 : Int) < (a0.length : Int)))), (13, zI (a0.length : Int)), (12, .sl 0 (List.map encInt a0)), (11, zI (i1 : Int)), (5, zI (i1 : Int)), (0, .sl 0 (List.map encInt a0)), (1, .sl 0 (List.map encInt a1))], []⟩ ?_
     rcases dich (x10 != x20) with hb22 | hb22
     · replace h := cond_t hb22 h
       refine ct hb22 ?_
       refine sqr cv hn ?_
       refine ro9 0 1 1 ⟨[(4, zB false), (25, zB (x10 != x20)), (24, zI x20), (23, .rp (zI x20) 0), (22, zI (i1 : Int)), (21, .sl 0 (List.map encInt a1)), (20, zI x10), (19, .rp (zI x10) 0), (18, zI (i1 : Int)), (17, .sl 0 (List.map encInt a0)), (14, zB (decide ((i1 : Int) < (a0.length : Int)))), (13, zI (a0.length : Int)), (12, .sl 0 (List.map encInt a0)), (11, zI (i1 : Int)), (5, zI (i1 : Int)), (0, .sl 0 (List.map encInt a0)), (1, .sl 0 (List.map encInt a1))], []⟩ ?_
       refine runs_ret ?_
       exact fin _ _ h (by kernel_rfl)
     · replace h := cond_f hb22 h
       refine cf hb22 ?_
       refine runs_skip ?_
       refine rg cv hn ?_
       refine ro9 0 3 3 ⟨[(5, zI ((i1 + 1 : Nat) : Int)), (16, zI ((i1 + 1 : Nat) : Int)), (15, zI (i1 : Int)), (25, zB (x10 != x20)), (24, zI x20), (23, .rp (zI x20) 0), (22, zI (i1 : Int)), (21, .sl 0 (List.map encInt a1)), (20, zI x10), (19, .rp (zI x10) 0), (18, zI (i1 : Int)), (17, .sl 0 (List.map encInt a0)), (14, zB (decide ((i1 : Int) < (a0.length : Int)))), (13, zI (a0.length : Int)), (12, .sl 0 (List.map encInt a0)), (11, zI (i1 : Int)), (5, zI (i1 : Int)), (0, .sl 0 (List.map encInt a0)), (1, .sl 0 (List.map encInt a1))], []⟩ ?_ (he := by rw [← hi1]; kernel_rfl)
       exact ⟨(t1, i1 + 1), Nat.lt_succ_self _, ⟨dnext hd1, h⟩, wre [5, 0, 1] []⟩

set_option maxRecDepth 100000 in
set_option maxHeartbeats 2000000 in
theorem laws_eqProp_spec (a0 : SProp) (a1 : SProp) (v0 : Bool) (h : laws_eqProp a0 a1 = some v0) : Ax.Spec Try.prog 27 none [encProp0 a0, encProp0 a1] (zB v0 : X) (.junk : X) := by
 let T1 : List (Nat × X) := [(0, encProp0 a0), (1, encProp0 a1)]
 refine walk0 (fn := Try.f27) (fun q0 : Bool => (zB q0 : X)) (fun q0 : Bool => (.junk : X)) v0 ⟨T1, []⟩ Try.func27 rfl (by decide +kernel) fun Γ hn fin => ?_
 rw [laws_eqProp] at h
 refine sqr cv hn ?_
 refine ro9 0 3 3 ⟨(4, zB false) :: (3, .ptr 3 1 0) :: (2, .ptr 2 1 0) :: T1, [(3, ⟨1, 1, true, some (encProp0 a1)⟩), (2, ⟨1, 1, true, some (encProp0 a0)⟩)]⟩ ?_
 refine runs_seq ?_
 refine sqr cv hn ?_
 refine ro9 0 5 5 ⟨(9, zB (a0.fBal != a1.fBal)) :: (8, zI a1.fBal) :: (7, .ptr 3 1 0) :: (6, zI a0.fBal) :: (5, .ptr 2 1 0) :: (4, zB false) :: (3, .ptr 3 1 0) :: (2, .ptr 2 1 0) :: T1, [(3, ⟨1, 1, true, some (encProp0 a1)⟩), (2, ⟨1, 1, true, some (encProp0 a0)⟩)]⟩ ?_
 rcases dich (a0.fBal != a1.fBal) with hb2 | hb2
 · replace h := cond_t hb2 h
   refine ct hb2 ?_
   let T3 : List (Nat × X) := [(3, .ptr 3 0 0), (2, .ptr 2 0 0)]
   let B3 : List (Nat × Bx) := [(3, ⟨0, 0, true, some (encProp0 a1)⟩), (2, ⟨0, 0, true, some (encProp0 a0)⟩)]
   refine wkr [3, 2] [(3, 3, false), (2, 2, false)] ⟨T3, B3⟩ ?_
   refine sqr cv hn ?_
   refine ro9 0 1 1 ⟨(4, zB false) :: T3, B3⟩ ?_
   refine runs_ret ?_
   exact fin _ _ h (by kernel_rfl)
 · replace h := cond_f hb2 h
   refine cf hb2 ?_
   refine runs_skip ?_
   refine runs_seq ?_
   let T6 : List (Nat × X) := [(3, .ptr 3 0 0), (2, .ptr 2 0 0)]
   let B6 : List (Nat × Bx) := [(3, ⟨0, 0, true, some (encProp0 a1)⟩), (2, ⟨0, 0, true, some (encProp0 a0)⟩)]
   refine wkr [3, 2] [(3, 3, false), (2, 2, false)] ⟨T6, B6⟩ ?_
   refine sqr cv hn ?_
   refine ro9 0 5 5 ⟨(14, zB (a0.fVal != a1.fVal)) :: (13, zI a1.fVal) :: (12, .ptr 3 0 1) :: (11, zI a0.fVal) :: (10, .ptr 2 0 1) :: T6, B6⟩ ?_
   rcases dich (a0.fVal != a1.fVal) with hb4 | hb4
   · replace h := cond_t hb4 h
     refine ct hb4 ?_
     let T7 : List (Nat × X) := [(3, .ptr 3 0 0), (2, .ptr 2 0 0)]
     let B7 : List (Nat × Bx) := [(3, ⟨0, 0, true, some (encProp0 a1)⟩), (2, ⟨0, 0, true, some (encProp0 a0)⟩)]
     refine wkr [3, 2] [(3, 3, false), (2, 2, false)] ⟨T7, B7⟩ ?_
     refine sqr cv hn ?_
     refine ro9 0 1 1 ⟨(4, zB false) :: T7, B7⟩ ?_
     refine runs_ret ?_
     exact fin _ _ h (by kernel_rfl)
   · replace h := cond_f hb4 h
     refine cf hb4 ?_
     refine runs_skip ?_
     refine runs_seq ?_
     let T10 : List (Nat × X) := [(3, .ptr 3 0 0), (2, .ptr 2 0 0)]
     let B10 : List (Nat × Bx) := [(3, ⟨0, 0, true, some (encProp0 a1)⟩), (2, ⟨0, 0, true, some (encProp0 a0)⟩)]
     refine wkr [3, 2] [(3, 3, false), (2, 2, false)] ⟨T10, B10⟩ ?_
     refine sqr cv hn ?_
     refine ro 0 4 4 ⟨(18, .sl 0 (List.map encInt a1.fFrom)) :: (17, .ptr 3 0 2) :: (16, .sl 0 (List.map encInt a0.fFrom)) :: (15, .ptr 2 0 2) :: T10, B10⟩ ?_
     obtain ⟨v8, hv9, h⟩ := bindO h
     refine rc 4 ⟨(19, zB v8) :: (18, .sl 0 (List.map encInt a1.fFrom)) :: (17, .ptr 3 0 2) :: (16, .sl 0 (List.map encInt a0.fFrom)) :: (15, .ptr 2 0 2) :: T10, B10⟩ (laws_eqIntS_spec a0.fFrom a1.fFrom v8 hv9) ?_
     refine ro9 5 1 1 ⟨(20, zB (!v8)) :: (19, zB v8) :: (18, .sl 0 (List.map encInt a1.fFrom)) :: (17, .ptr 3 0 2) :: (16, .sl 0 (List.map encInt a0.fFrom)) :: (15, .ptr 2 0 2) :: T10, B10⟩ ?_
     rcases dich (!v8) with hb10 | hb10
     · replace h := cond_t hb10 h
       refine ct hb10 ?_
       let T11 : List (Nat × X) := [(3, .ptr 3 0 0), (2, .ptr 2 0 0)]
       let B11 : List (Nat × Bx) := [(3, ⟨0, 0, true, some (encProp0 a1)⟩), (2, ⟨0, 0, true, some (encProp0 a0)⟩)]
       refine wkr [3, 2] [(3, 3, false), (2, 2, false)] ⟨T11, B11⟩ ?_
       refine sqr cv hn ?_
       refine ro9 0 1 1 ⟨(4, zB false) :: T11, B11⟩ ?_
       refine runs_ret ?_
       exact fin _ _ h (by kernel_rfl)
     · replace h := cond_f hb10 h
       refine cf hb10 ?_
       refine runs_skip ?_
       refine runs_seq ?_
       let T14 : List (Nat × X) := [(3, .ptr 3 0 0), (2, .ptr 2 0 0)]
       let B14 : List (Nat × Bx) := [(3, ⟨0, 0, true, some (encProp0 a1)⟩), (2, ⟨0, 0, true, some (encProp0 a0)⟩)]
       refine wkr [3, 2] [(3, 3, false), (2, 2, false)] ⟨T14, B14⟩ ?_
       refine sqr cv hn ?_
       refine ro9 0 5 5 ⟨(25, zB (a0.fBest != a1.fBest)) :: (24, zI a1.fBest) :: (23, .ptr 3 0 3) :: (22, zI a0.fBest) :: (21, .ptr 2 0 3) :: T14, B14⟩ ?_
       rcases dich (a0.fBest != a1.fBest) with hb12 | hb12
       · replace h := cond_t hb12 h
         refine ct hb12 ?_
         let T15 : List (Nat × X) := [(3, .ptr 3 0 0), (2, .ptr 2 0 0)]
         let B15 : List (Nat × Bx) := [(3, ⟨0, 0, true, some (encProp0 a1)⟩), (2, ⟨0, 0, true, some (encProp0 a0)⟩)]
         refine wkr [3, 2] [(3, 3, false), (2, 2, false)] ⟨T15, B15⟩ ?_
         refine sqr cv hn ?_
         refine ro9 0 1 1 ⟨(4, zB false) :: T15, B15⟩ ?_
         refine runs_ret ?_
         exact fin _ _ h (by kernel_rfl)
       · replace h := cond_f hb12 h
         refine cf hb12 ?_
         refine runs_skip ?_
         refine runs_seq ?_
         let T16 : List (Nat × X) := [(3, .ptr 3 0 0), (2, .ptr 2 0 0)]
         let B16 : List (Nat × Bx) := [(3, ⟨0, 0, true, some (encProp0 a1)⟩), (2, ⟨0, 0, true, some (encProp0 a0)⟩)]
         refine wkr [3, 2] [(3, 3, false), (2, 2, false)] ⟨T16, B16⟩ ?_
         refine sqr cv hn ?_
         refine ro 0 4 4 ⟨(29, .sl 0 (List.map encInt a1.fGot)) :: (28, .ptr 3 0 4) :: (27, .sl 0 (List.map encInt a0.fGot)) :: (26, .ptr 2 0 4) :: T16, B16⟩ ?_
         obtain ⟨v13, hv14, h⟩ := bindO h
         refine rc 4 ⟨(30, zB v13) :: (29, .sl 0 (List.map encInt a1.fGot)) :: (28, .ptr 3 0 4) :: (27, .sl 0 (List.map encInt a0.fGot)) :: (26, .ptr 2 0 4) :: T16, B16⟩ (laws_eqIntS_spec a0.fGot a1.fGot v13 hv14) ?_
         refine ro9 5 1 1 ⟨(31, zB (!v13)) :: (30, zB v13) :: (29, .sl 0 (List.map encInt a1.fGot)) :: (28, .ptr 3 0 4) :: (27, .sl 0 (List.map encInt a0.fGot)) :: (26, .ptr 2 0 4) :: T16, B16⟩ ?_
         rcases dich (!v13) with hb15 | hb15
         · replace h := cond_t hb15 h
           refine ct hb15 ?_
           refine wkr [] [] ⟨[], []⟩ ?_
           refine sqr cv hn ?_
           refine ro9 0 1 1 ⟨[(4, zB false)], []⟩ ?_
           refine runs_ret ?_
           exact fin _ _ h (by kernel_rfl)
         · replace h := cond_f hb15 h
           refine cf hb15 ?_
           refine runs_skip ?_
           refine wkr [] [] ⟨[], []⟩ ?_
           refine sqr cv hn ?_
           refine ro9 0 1 1 ⟨[(4, zB true)], []⟩ ?_
           refine runs_ret ?_
           exact fin _ _ h (by kernel_rfl)

set_option maxRecDepth 100000 in
set_option maxHeartbeats 2000000 in
theorem spec_l01In_spec (a0 : Int) (a1 : Int) (a2 : Int) (v0 : Bool) (h : spec_l01In a0 a1 a2 = some v0) : Ax.Spec Try.prog 70 none [zI a0, zI a1, zI a2] (zB v0 : X) (.junk : X) := by
 let T1 : List (Nat × X) := [(0, zI a0), (1, zI a1), (2, zI a2)]
 refine walk0 (fn := Try.f70) (fun q0 : Bool => (zB q0 : X)) (fun q0 : Bool => (.junk : X)) v0 ⟨T1, []⟩ Try.func70 rfl (by decide +kernel) fun Γ hn fin => ?_
 rw [spec_l01In] at h
 refine sqr cv hn ?_
 refine ro9 0 1 1 ⟨(6, zB false) :: T1, []⟩ ?_
 refine sqr cv hn ?_
 refine ro 0 4 4 ⟨(10, zB (decide (a0 ≥ a1))) :: (9, zB (decide (a0 ≥ a1))) :: (8, zI a1) :: (7, zI a0) :: (6, zB false) :: T1, []⟩ ?_
 rcases dich (decide (a0 ≥ a1)) with hb1 | hb1
 · replace h := cond_t hb1 h
   refine rl 10 true hb1 ?_
   refine ro9 4 5 5 ⟨(6, zB (decide (a0 ≤ a2))) :: (14, zB (decide (a0 ≤ a2))) :: (13, zB (decide (a0 ≤ a2))) :: (12, zI a2) :: (11, zI a0) :: (10, zB true) :: (9, zB (decide (a0 ≥ a1))) :: (8, zI a1) :: (7, zI a0) :: (6, zB false) :: T1, []⟩ ?_
   refine runs_ret ?_
   exact fin _ _ h (by kernel_rfl)
 · replace h := cond_f hb1 h
   refine rl 10 false hb1 ?_
   refine ro9 4 5 2 ⟨(6, zB false) :: (14, zB false) :: (13, .tup []) :: (12, .tup []) :: (11, .tup []) :: (10, zB false) :: (9, zB (decide (a0 ≥ a1))) :: (8, zI a1) :: (7, zI a0) :: (6, zB false) :: T1, []⟩ ?_
   refine runs_ret ?_
   exact fin _ _ h (by kernel_rfl)

set_option maxRecDepth 100000 in
set_option maxHeartbeats 2000000 in
theorem spec_l07Val_spec (a0 : Int) (v0 : Bool) (h : spec_l07Val a0 = some v0) : Ax.Spec Try.prog 71 none [zI a0] (zB v0 : X) (.junk : X) := by
 refine walk0 (fn := Try.f71) (fun q0 : Bool => (zB q0 : X)) (fun q0 : Bool => (.junk : X)) v0 ⟨[(0, zI a0)], []⟩ Try.func71 rfl (by decide +kernel) fun Γ hn fin => ?_
 rw [spec_l07Val] at h
 refine sqr cv hn ?_
 refine ro9 0 1 1 ⟨[(2, zB false), (0, zI a0)], []⟩ ?_
 refine sqr cv hn ?_
 refine ro 0 1 1 ⟨[(3, zI a0), (2, zB false), (0, zI a0)], []⟩ ?_
 obtain ⟨v1, hv2, h⟩ := bindO h
 refine rc 1 ⟨[(4, zB v1), (3, zI a0), (2, zB false), (0, zI a0)], []⟩ (spec_l01In_spec a0 1 4 v1 hv2) ?_
 refine ro9 2 1 1 ⟨[(2, zB v1), (4, zB v1), (3, zI a0), (2, zB false), (0, zI a0)], []⟩ ?_
 refine runs_ret ?_
 exact fin _ _ h (by kernel_rfl)

set_option maxRecDepth 100000 in
set_option maxHeartbeats 2000000 in
theorem spec_l07Node_spec (a0 : Int) (v0 : Bool) (h : spec_l07Node a0 = some v0) : Ax.Spec Try.prog 79 none [zI a0] (zB v0 : X) (.junk : X) := by
 refine walk0 (fn := Try.f79) (fun q0 : Bool => (zB q0 : X)) (fun q0 : Bool => (.junk : X)) v0 ⟨[(0, zI a0)], []⟩ Try.func79 rfl (by decide +kernel) fun Γ hn fin => ?_
 rw [spec_l07Node] at h
 refine sqr cv hn ?_
 refine ro9 0 1 1 ⟨[(2, zB false), (0, zI a0)], []⟩ ?_
 refine sqr cv hn ?_
 refine ro 0 1 1 ⟨[(3, zI a0), (2, zB false), (0, zI a0)], []⟩ ?_
 obtain ⟨v1, hv2, h⟩ := bindO h
 refine rc 1 ⟨[(4, zB v1), (3, zI a0), (2, zB false), (0, zI a0)], []⟩ (spec_l01In_spec a0 0 3 v1 hv2) ?_
 refine ro9 2 1 1 ⟨[(2, zB v1), (4, zB v1), (3, zI a0), (2, zB false), (0, zI a0)], []⟩ ?_
 refine runs_ret ?_
 exact fin _ _ h (by kernel_rfl)

set_option maxRecDepth 100000 in
set_option maxHeartbeats 2000000 in
theorem spec_l07Rise_spec (a0 : (List Int)) (v0 : Bool) (h : spec_l07Rise a0 = some v0) : Ax.Spec Try.prog 72 none [.sl 0 (List.map encInt a0)] (zB v0 : X) (.junk : X) := by
 let T1 : List (Nat × X) := [(0, .sl 0 (List.map encInt a0))]
 refine walk0 (fn := Try.f72) (fun q0 : Bool => (zB q0 : X)) (fun q0 : Bool => (.junk : X)) v0 ⟨T1, []⟩ Try.func72 rfl (by decide +kernel) fun Γ hn fin => ?_
 rw [spec_l07Rise] at h
 refine sqr cv hn ?_
 refine ro9 0 1 1 ⟨(2, zB false) :: T1, []⟩ ?_
 refine runs_seq ?_
 refine sqr cv hn ?_
 refine ro9 0 3 3 ⟨(7, zI 0) :: (6, zI (a0.length : Int)) :: (5, .sl 0 (List.map encInt a0)) :: (2, zB false) :: T1, []⟩ ?_ (he := by rw [show (a0.length : Int) = ((List.map encInt a0).length : Int) from by rw [List.length_map]]; kernel_rfl)
 refine runs_block ?_
 refine runs_loopM (σ := List Int × Nat) (fun s => ⟨[(7, zI (s.2 : Int)), (6, zI (a0.length : Int)), (5, .sl 0 (List.map encInt a0)), (0, .sl 0 (List.map encInt a0))], []⟩) (fun s => s.1 = List.drop s.2 a0 ∧ spec_l07Rise_l1 a0 s.1 s.2 = some v0) (fun s => s.1.length) (a0, 0) ⟨rfl, h⟩ (wre [7, 6, 5, 0] []) ?_
 rintro ⟨t1, i1⟩ ⟨hd1, h⟩
 refine seq0 ⟨[(7, zI (i1 : Int)), (6, zI (a0.length : Int)), (5, .sl 0 (List.map encInt a0)), (0, .sl 0 (List.map encInt a0))], []⟩ ?_
 refine runs_len 5 (es := List.map encInt a0) (by kernel_rfl) fun hl1 => ?_
 replace hl1 := len_of_map hl1
 cases t1 with
 | nil =>
   rw [spec_l07Rise_l1] at h
   have hLn1 := dnil hd1
   refine sqr cv hn ?_
   refine ro9 0 1 1 ⟨[(8, zB (decide ((i1 : Int) < (a0.length : Int)))), (7, zI (i1 : Int)), (6, zI (a0.length : Int)), (5, .sl 0 (List.map encInt a0)), (0, .sl 0 (List.map encInt a0))], []⟩ ?_
   refine runs_seq ?_
   refine cf hLn1 ?_
   refine runs_exit ?_
   repeat refine thenX_exit ?_
   refine block_here ?_
   refine wkr [] [] ⟨[], []⟩ ?_
   refine sqr cv hn ?_
   refine ro9 0 1 1 ⟨[(2, zB true)], []⟩ ?_
   refine runs_ret ?_
   exact fin _ _ h (by kernel_rfl)
 | cons x10 t1 =>
   rw [spec_l07Rise_l1] at h
   have hLc1 := dcons hd1
   have hx10 := dget hd1
   have hi1 := dinc hd1 hl1
   refine sqr cv hn ?_
   refine ro9 0 1 1 ⟨[(8, zB (decide ((i1 : Int) < (a0.length : Int)))), (7, zI (i1 : Int)), (6, zI (a0.length : Int)), (5, .sl 0 (List.map encInt a0)), (0, .sl 0 (List.map encInt a0))], []⟩ ?_
   refine runs_seq ?_
   refine ct hLc1 ?_
   refine runs_skip ?_
   refine runs_seq ?_
   refine runs_block ?_
   refine sqr cv hn ?_
   refine ro 0 1 1 ⟨[(9, zI (i1 : Int)), (8, zB (decide ((i1 : Int) < (a0.length : Int)))), (7, zI (i1 : Int)), (6, zI (a0.length : Int)), (5, .sl 0 (List.map encInt a0)), (0, .sl 0 (List.map encInt a0))], []⟩ ?_
   refine rix 1 encInt 3 hx10 (ix_nn hx10) ⟨[(10, .rp (zI x10) 0), (9, zI (i1 : Int)), (8, zB (decide ((i1 : Int) < (a0.length : Int)))), (7, zI (i1 : Int)), (6, zI (a0.length : Int)), (5, .sl 0 (List.map encInt a0)), (0, .sl 0 (List.map encInt a0))], []⟩ ?_
   refine ro9 2 3 3 ⟨[(4, zI x10), (3, zI (i1 : Int)), (11, zI x10), (10, .rp (zI x10) 0), (9, zI (i1 : Int)), (8, zB (decide ((i1 : Int) < (a0.length : Int)))), (7, zI (i1 : Int)), (6, zI (a0.length : Int)), (5, .sl 0 (List.map encInt a0)), (0, .sl 0 (List.map encInt a0))], []⟩ ?_
   refine sqr cv hn ?_
   refine ro 0 1 1 ⟨[(12, zI x10), (4, zI x10), (3, zI (i1 : Int)), (11, zI x10), (10, .rp (zI x10) 0), (9, zI (i1 : Int)), (8, zB (decide ((i1 : Int) < (a0.length : Int)))), (7, zI (i1 : Int)), (6, zI (a0.length : Int)), (5, .sl 0 (List.map encInt a0)), (0, .sl 0 (List.map encInt a0))], []⟩ ?_
   obtain ⟨v26, hv27, h⟩ := bindO h
   refine rc 1 ⟨[(13, zB v26), (12, zI x10), (4, zI x10), (3, zI (i1 : Int)), (11, zI x10), (10, .rp (zI x10) 0), (9, zI (i1 : Int)), (8, zB (decide ((i1 : Int) < (a0.length : Int)))), (7, zI (i1 : Int)), (6, zI (a0.length : Int)), (5, .sl 0 (List.map encInt a0)), (0, .sl 0 (List.map encInt a0))], []⟩ (spec_l07Node_spec x10 v26 hv27) ?_
   refine ro 2 2 2 ⟨[(15, zB (!v26)), (14, zB (!v26)), (13, zB v26), (12, zI x10), (4, zI x10), (3, zI (i1 : Int)), (11, zI x10), (10, .rp (zI x10) 0), (9, zI (i1 : Int)), (8, zB (decide ((i1 : Int) < (a0.length : Int)))), (7, zI (i1 : Int)), (6, zI (a0.length : Int)), (5, .sl 0 (List.map encInt a0)), (0, .sl 0 (List.map encInt a0))], []⟩ ?_
   rcases dich (!v26) with hb28 | hb28
   · replace h := cond_t hb28 h
     refine rl 15 true hb28 ?_
     refine ro9 4 12 1 ⟨[(27, zB true), (26, .tup []), (25, .tup []), (24, .tup []), (23, .tup []), (22, .tup []), (21, .tup []), (20, .tup []), (19, .tup []), (18, .tup []), (17, .tup []), (16, .tup []), (15, zB true), (14, zB (!v26)), (13, zB v26), (12, zI x10), (4, zI x10), (3, zI (i1 : Int)), (11, zI x10), (10, .rp (zI x10) 0), (9, zI (i1 : Int)), (8, zB (decide ((i1 : Int) < (a0.length : Int)))), (7, zI (i1 : Int)), (6, zI (a0.length : Int)), (5, .sl 0 (List.map encInt a0)), (0, .sl 0 (List.map encInt a0))], []⟩ ?_
     refine cT ?_
     refine sqr cv hn ?_
     refine ro9 0 1 1 ⟨[(2, zB false), (27, zB true), (26, .tup []), (25, .tup []), (24, .tup []), (23, .tup []), (22, .tup []), (21, .tup []), (20, .tup []), (19, .tup []), (18, .tup []), (17, .tup []), (16, .tup []), (15, zB true), (14, zB (!v26)), (13, zB v26), (12, zI x10), (4, zI x10), (3, zI (i1 : Int)), (11, zI x10), (10, .rp (zI x10) 0), (9, zI (i1 : Int)), (8, zB (decide ((i1 : Int) < (a0.length : Int)))), (7, zI (i1 : Int)), (6, zI (a0.length : Int)), (5, .sl 0 (List.map encInt a0)), (0, .sl 0 (List.map encInt a0))], []⟩ ?_
     refine runs_ret ?_
     exact fin _ _ h (by kernel_rfl)
   · replace h := cond_f hb28 h
     refine rl 15 false hb28 ?_
     refine ro 4 3 3 ⟨[(18, zB (decide ((i1 : Int) > 0))), (17, zB (decide ((i1 : Int) > 0))), (16, zI (i1 : Int)), (15, zB false), (14, zB (!v26)), (13, zB v26), (12, zI x10), (4, zI x10), (3, zI (i1 : Int)), (11, zI x10), (10, .rp (zI x10) 0), (9, zI (i1 : Int)), (8, zB (decide ((i1 : Int) < (a0.length : Int)))), (7, zI (i1 : Int)), (6, zI (a0.length : Int)), (5, .sl 0 (List.map encInt a0)), (0, .sl 0 (List.map encInt a0))], []⟩ ?_
     rcases dich (decide ((i1 : Int) > 0)) with hb29 | hb29
     · replace h := cond_t hb29 h
       refine rl 18 true hb29 ?_
       refine ro 7 3 3 ⟨[(21, zI (w64 ((i1 : Int) - 1))), (20, zI (i1 : Int)), (19, .sl 0 (List.map encInt a0)), (18, zB true), (17, zB (decide ((i1 : Int) > 0))), (16, zI (i1 : Int)), (15, zB false), (14, zB (!v26)), (13, zB v26), (12, zI x10), (4, zI x10), (3, zI (i1 : Int)), (11, zI x10), (10, .rp (zI x10) 0), (9, zI (i1 : Int)), (8, zB (decide ((i1 : Int) < (a0.length : Int)))), (7, zI (i1 : Int)), (6, zI (a0.length : Int)), (5, .sl 0 (List.map encInt a0)), (0, .sl 0 (List.map encInt a0))], []⟩ ?_
       obtain ⟨x30, hx31, h⟩ := bindO h
       refine rix 10 encInt 3 hx31 (ix_nn hx31) ⟨[(22, .rp (zI x30) 0), (21, zI (w64 ((i1 : Int) - 1))), (20, zI (i1 : Int)), (19, .sl 0 (List.map encInt a0)), (18, zB true), (17, zB (decide ((i1 : Int) > 0))), (16, zI (i1 : Int)), (15, zB false), (14, zB (!v26)), (13, zB v26), (12, zI x10), (4, zI x10), (3, zI (i1 : Int)), (11, zI x10), (10, .rp (zI x10) 0), (9, zI (i1 : Int)), (8, zB (decide ((i1 : Int) < (a0.length : Int)))), (7, zI (i1 : Int)), (6, zI (a0.length : Int)), (5, .sl 0 (List.map encInt a0)), (0, .sl 0 (List.map encInt a0))], []⟩ ?_
       refine ro9 11 5 5 ⟨[(27, zB (decide (x30 ≥ x10))), (26, zB (decide (x30 ≥ x10))), (25, zB (decide (x30 ≥ x10))), (24, zI x10), (23, zI x30), (22, .rp (zI x30) 0), (21, zI (w64 ((i1 : Int) - 1))), (20, zI (i1 : Int)), (19, .sl 0 (List.map encInt a0)), (18, zB true), (17, zB (decide ((i1 : Int) > 0))), (16, zI (i1 : Int)), (15, zB false), (14, zB (!v26)), (13, zB v26), (12, zI x10), (4, zI x10), (3, zI (i1 : Int)), (11, zI x10), (10, .rp (zI x10) 0), (9, zI (i1 : Int)), (8, zB (decide ((i1 : Int) < (a0.length : Int)))), (7, zI (i1 : Int)), (6, zI (a0.length : Int)), (5, .sl 0 (List.map encInt a0)), (0, .sl 0 (List.map encInt a0))], []⟩ ?_
       rcases dich (decide (x30 ≥ x10)) with hb32 | hb32
       · replace h := cond_t hb32 h
         refine ct hb32 ?_
         refine sqr cv hn ?_
         refine ro9 0 1 1 ⟨[(2, zB false), (27, zB (decide (x30 ≥ x10))), (26, zB (decide (x30 ≥ x10))), (25, zB (decide (x30 ≥ x10))), (24, zI x10), (23, zI x30), (22, .rp (zI x30) 0), (21, zI (w64 ((i1 : Int) - 1))), (20, zI (i1 : Int)), (19, .sl 0 (List.map encInt a0)), (18, zB true), (17, zB (decide ((i1 : Int) > 0))), (16, zI (i1 : Int)), (15, zB false), (14, zB (!v26)), (13, zB v26), (12, zI x10), (4, zI x10), (3, zI (i1 : Int)), (11, zI x10), (10, .rp (zI x10) 0), (9, zI (i1 : Int)), (8, zB (decide ((i1 : Int) < (a0.length : Int)))), (7, zI (i1 : Int)), (6, zI (a0.length : Int)), (5, .sl 0 (List.map encInt a0)), (0, .sl 0 (List.map encInt a0))], []⟩ ?_
         refine runs_ret ?_
         exact fin _ _ h (by kernel_rfl)
       · replace h := cond_f hb32 h
         refine cf hb32 ?_
         refine runs_skip ?_
         refine rg cv hn ?_
         refine ro9 0 2 2 ⟨[(7, zI ((i1 + 1 : Nat) : Int)), (28, zI ((i1 + 1 : Nat) : Int)), (27, zB (decide (x30 ≥ x10))), (26, zB (decide (x30 ≥ x10))), (25, zB (decide (x30 ≥ x10))), (24, zI x10), (23, zI x30), (22, .rp (zI x30) 0), (21, zI (w64 ((i1 : Int) - 1))), (20, zI (i1 : Int)), (19, .sl 0 (List.map encInt a0)), (18, zB true), (17, zB (decide ((i1 : Int) > 0))), (16, zI (i1 : Int)), (15, zB false), (14, zB (!v26)), (13, zB v26), (12, zI x10), (4, zI x10), (3, zI (i1 : Int)), (11, zI x10), (10, .rp (zI x10) 0), (9, zI (i1 : Int)), (8, zB (decide ((i1 : Int) < (a0.length : Int)))), (7, zI (i1 : Int)), (6, zI (a0.length : Int)), (5, .sl 0 (List.map encInt a0)), (0, .sl 0 (List.map encInt a0))], []⟩ ?_ (he := by rw [← hi1]; kernel_rfl)
         exact ⟨(t1, i1 + 1), Nat.lt_succ_self _, ⟨dnext hd1, h⟩, wre [7, 6, 5, 0] []⟩
     · replace h := cond_f hb29 h
       refine rl 18 false hb29 ?_
       refine ro9 7 9 2 ⟨[(27, zB false), (26, zB false), (25, .tup []), (24, .tup []), (23, .tup []), (22, .tup []), (21, .tup []), (20, .tup []), (19, .tup []), (18, zB false), (17, zB (decide ((i1 : Int) > 0))), (16, zI (i1 : Int)), (15, zB false), (14, zB (!v26)), (13, zB v26), (12, zI x10), (4, zI x10), (3, zI (i1 : Int)), (11, zI x10), (10, .rp (zI x10) 0), (9, zI (i1 : Int)), (8, zB (decide ((i1 : Int) < (a0.length : Int)))), (7, zI (i1 : Int)), (6, zI (a0.length : Int)), (5, .sl 0 (List.map encInt a0)), (0, .sl 0 (List.map encInt a0))], []⟩ ?_
       refine cF ?_
       refine runs_skip ?_
       refine rg cv hn ?_
       refine ro9 0 2 2 ⟨[(7, zI ((i1 + 1 : Nat) : Int)), (28, zI ((i1 + 1 : Nat) : Int)), (27, zB false), (26, zB false), (25, .tup []), (24, .tup []), (23, .tup []), (22, .tup []), (21, .tup []), (20, .tup []), (19, .tup []), (18, zB false), (17, zB (decide ((i1 : Int) > 0))), (16, zI (i1 : Int)), (15, zB false), (14, zB (!v26)), (13, zB v26), (12, zI x10), (4, zI x10), (3, zI (i1 : Int)), (11, zI x10), (10, .rp (zI x10) 0), (9, zI (i1 : Int)), (8, zB (decide ((i1 : Int) < (a0.length : Int)))), (7, zI (i1 : Int)), (6, zI (a0.length : Int)), (5, .sl 0 (List.map encInt a0)), (0, .sl 0 (List.map encInt a0))], []⟩ ?_ (he := by rw [← hi1]; kernel_rfl)
       exact ⟨(t1, i1 + 1), Nat.lt_succ_self _, ⟨dnext hd1, h⟩, wre [7, 6, 5, 0] []⟩

set_option maxRecDepth 100000 in
set_option maxHeartbeats 2000000 in
theorem spec_PropOk_spec (a0 : SProp) (v0 : Bool) (h : spec_PropOk a0 = some v0) : Ax.Spec Try.prog 24 none [encProp0 a0] (zB v0 : X) (.junk : X) := by
 refine walk0 (fn := Try.f24) (fun q0 : Bool => (zB q0 : X)) (fun q0 : Bool => (.junk : X)) v0 ⟨[(0, encProp0 a0)], []⟩ Try.func24 rfl (by decide +kernel) fun Γ hn fin => ?_
 rw [spec_PropOk] at h
 refine sqr cv hn ?_
 refine ro9 0 2 2 ⟨[(2, zB false), (1, .ptr 1 1 0), (0, encProp0 a0)], [(1, ⟨1, 1, true, some (encProp0 a0)⟩)]⟩ ?_
 refine sqr cv hn ?_
 refine ro 0 2 2 ⟨[(4, zI a0.fBal), (3, .ptr 1 1 0), (2, zB false), (1, .ptr 1 1 0), (0, encProp0 a0)], [(1, ⟨1, 1, true, some (encProp0 a0)⟩)]⟩ ?_
 obtain ⟨v1, hv2, h⟩ := bindO h
 refine rc 2 ⟨[(5, zB v1), (4, zI a0.fBal), (3, .ptr 1 1 0), (2, zB false), (1, .ptr 1 1 0), (0, encProp0 a0)], [(1, ⟨1, 1, true, some (encProp0 a0)⟩)]⟩ (spec_l01In_spec a0.fBal 1 1125899906842624 v1 hv2) ?_
 refine ro 3 1 1 ⟨[(6, zB v1), (5, zB v1), (4, zI a0.fBal), (3, .ptr 1 1 0), (2, zB false), (1, .ptr 1 1 0), (0, encProp0 a0)], [(1, ⟨1, 1, true, some (encProp0 a0)⟩)]⟩ ?_
 rcases dich v1 with hb3 | hb3
 · replace h := cond_t hb3 h
   refine rl 6 true hb3 ?_
   refine ro 4 2 2 ⟨[(8, zI a0.fVal), (7, .ptr 1 1 1), (6, zB true), (5, zB v1), (4, zI a0.fBal), (3, .ptr 1 1 0), (2, zB false), (1, .ptr 1 1 0), (0, encProp0 a0)], [(1, ⟨1, 1, true, some (encProp0 a0)⟩)]⟩ ?_
   obtain ⟨v4, hv5, h⟩ := bindO h
   refine rc 6 ⟨[(9, zB v4), (8, zI a0.fVal), (7, .ptr 1 1 1), (6, zB true), (5, zB v1), (4, zI a0.fBal), (3, .ptr 1 1 0), (2, zB false), (1, .ptr 1 1 0), (0, encProp0 a0)], [(1, ⟨1, 1, true, some (encProp0 a0)⟩)]⟩ (spec_l07Val_spec a0.fVal v4 hv5) ?_
   refine ro 7 2 2 ⟨[(11, zB v4), (10, zB v4), (9, zB v4), (8, zI a0.fVal), (7, .ptr 1 1 1), (6, zB true), (5, zB v1), (4, zI a0.fBal), (3, .ptr 1 1 0), (2, zB false), (1, .ptr 1 1 0), (0, encProp0 a0)], [(1, ⟨1, 1, true, some (encProp0 a0)⟩)]⟩ ?_
   rcases dich v4 with hb6 | hb6
   · replace h := cond_t hb6 h
     refine rl 11 true hb6 ?_
     refine ro 9 2 2 ⟨[(13, .sl 0 (List.map encInt a0.fFrom)), (12, .ptr 1 1 2), (11, zB true), (10, zB v4), (9, zB v4), (8, zI a0.fVal), (7, .ptr 1 1 1), (6, zB true), (5, zB v1), (4, zI a0.fBal), (3, .ptr 1 1 0), (2, zB false), (1, .ptr 1 1 0), (0, encProp0 a0)], [(1, ⟨1, 1, true, some (encProp0 a0)⟩)]⟩ ?_
     obtain ⟨v7, hv8, h⟩ := bindO h
     refine rc 11 ⟨[(14, zB v7), (13, .sl 0 (List.map encInt a0.fFrom)), (12, .ptr 1 1 2), (11, zB true), (10, zB v4), (9, zB v4), (8, zI a0.fVal), (7, .ptr 1 1 1), (6, zB true), (5, zB v1), (4, zI a0.fBal), (3, .ptr 1 1 0), (2, zB false), (1, .ptr 1 1 0), (0, encProp0 a0)], [(1, ⟨1, 1, true, some (encProp0 a0)⟩)]⟩ (spec_l07Rise_spec a0.fFrom v7 hv8) ?_
     refine ro 12 2 2 ⟨[(16, zB v7), (15, zB v7), (14, zB v7), (13, .sl 0 (List.map encInt a0.fFrom)), (12, .ptr 1 1 2), (11, zB true), (10, zB v4), (9, zB v4), (8, zI a0.fVal), (7, .ptr 1 1 1), (6, zB true), (5, zB v1), (4, zI a0.fBal), (3, .ptr 1 1 0), (2, zB false), (1, .ptr 1 1 0), (0, encProp0 a0)], [(1, ⟨1, 1, true, some (encProp0 a0)⟩)]⟩ ?_
     rcases dich v7 with hb9 | hb9
     · replace h := cond_t hb9 h
       refine rl 16 true hb9 ?_
       refine ro 14 2 2 ⟨[(18, .sl 0 (List.map encInt a0.fGot)), (17, .ptr 1 1 4), (16, zB true), (15, zB v7), (14, zB v7), (13, .sl 0 (List.map encInt a0.fFrom)), (12, .ptr 1 1 2), (11, zB true), (10, zB v4), (9, zB v4), (8, zI a0.fVal), (7, .ptr 1 1 1), (6, zB true), (5, zB v1), (4, zI a0.fBal), (3, .ptr 1 1 0), (2, zB false), (1, .ptr 1 1 0), (0, encProp0 a0)], [(1, ⟨1, 1, true, some (encProp0 a0)⟩)]⟩ ?_
       obtain ⟨v10, hv11, h⟩ := bindO h
       refine rc 16 ⟨[(19, zB v10), (18, .sl 0 (List.map encInt a0.fGot)), (17, .ptr 1 1 4), (16, zB true), (15, zB v7), (14, zB v7), (13, .sl 0 (List.map encInt a0.fFrom)), (12, .ptr 1 1 2), (11, zB true), (10, zB v4), (9, zB v4), (8, zI a0.fVal), (7, .ptr 1 1 1), (6, zB true), (5, zB v1), (4, zI a0.fBal), (3, .ptr 1 1 0), (2, zB false), (1, .ptr 1 1 0), (0, encProp0 a0)], [(1, ⟨1, 1, true, some (encProp0 a0)⟩)]⟩ (spec_l07Rise_spec a0.fGot v10 hv11) ?_
       refine ro 17 2 2 ⟨[(21, zB v10), (20, zB v10), (19, zB v10), (18, .sl 0 (List.map encInt a0.fGot)), (17, .ptr 1 1 4), (16, zB true), (15, zB v7), (14, zB v7), (13, .sl 0 (List.map encInt a0.fFrom)), (12, .ptr 1 1 2), (11, zB true), (10, zB v4), (9, zB v4), (8, zI a0.fVal), (7, .ptr 1 1 1), (6, zB true), (5, zB v1), (4, zI a0.fBal), (3, .ptr 1 1 0), (2, zB false), (1, .ptr 1 1 0), (0, encProp0 a0)], [(1, ⟨1, 1, true, some (encProp0 a0)⟩)]⟩ ?_
       rcases dich v10 with hb12 | hb12
       · replace h := cond_t hb12 h
         refine rl 21 true hb12 ?_
         refine ro 19 5 5 ⟨[(26, zI (w64 (a0.fBal - 1))), (25, zI a0.fBal), (24, .ptr 1 1 0), (23, zI a0.fBest), (22, .ptr 1 1 3), (21, zB true), (20, zB v10), (19, zB v10), (18, .sl 0 (List.map encInt a0.fGot)), (17, .ptr 1 1 4), (16, zB true), (15, zB v7), (14, zB v7), (13, .sl 0 (List.map encInt a0.fFrom)), (12, .ptr 1 1 2), (11, zB true), (10, zB v4), (9, zB v4), (8, zI a0.fVal), (7, .ptr 1 1 1), (6, zB true), (5, zB v1), (4, zI a0.fBal), (3, .ptr 1 1 0), (2, zB false), (1, .ptr 1 1 0), (0, encProp0 a0)], [(1, ⟨1, 1, true, some (encProp0 a0)⟩)]⟩ ?_
         obtain ⟨v13, hv14, h⟩ := bindO h
         refine rc 24 ⟨[(27, zB v13), (26, zI (w64 (a0.fBal - 1))), (25, zI a0.fBal), (24, .ptr 1 1 0), (23, zI a0.fBest), (22, .ptr 1 1 3), (21, zB true), (20, zB v10), (19, zB v10), (18, .sl 0 (List.map encInt a0.fGot)), (17, .ptr 1 1 4), (16, zB true), (15, zB v7), (14, zB v7), (13, .sl 0 (List.map encInt a0.fFrom)), (12, .ptr 1 1 2), (11, zB true), (10, zB v4), (9, zB v4), (8, zI a0.fVal), (7, .ptr 1 1 1), (6, zB true), (5, zB v1), (4, zI a0.fBal), (3, .ptr 1 1 0), (2, zB false), (1, .ptr 1 1 0), (0, encProp0 a0)], [(1, ⟨1, 1, true, some (encProp0 a0)⟩)]⟩ (spec_l01In_spec a0.fBest 0 (w64 (a0.fBal - 1)) v13 hv14) ?_
         refine ro9 25 2 2 ⟨[(2, zB v13), (28, zB v13), (27, zB v13), (26, zI (w64 (a0.fBal - 1))), (25, zI a0.fBal), (24, .ptr 1 1 0), (23, zI a0.fBest), (22, .ptr 1 1 3), (21, zB true), (20, zB v10), (19, zB v10), (18, .sl 0 (List.map encInt a0.fGot)), (17, .ptr 1 1 4), (16, zB true), (15, zB v7), (14, zB v7), (13, .sl 0 (List.map encInt a0.fFrom)), (12, .ptr 1 1 2), (11, zB true), (10, zB v4), (9, zB v4), (8, zI a0.fVal), (7, .ptr 1 1 1), (6, zB true), (5, zB v1), (4, zI a0.fBal), (3, .ptr 1 1 0), (2, zB false), (1, .ptr 1 1 0), (0, encProp0 a0)], [(1, ⟨1, 1, true, some (encProp0 a0)⟩)]⟩ ?_
         refine runs_ret ?_
         exact fin _ _ h (by kernel_rfl)
       · replace h := cond_f hb12 h
         refine rl 21 false hb12 ?_
         refine ro9 19 8 2 ⟨[(2, zB false), (28, zB false), (27, .tup []), (26, .tup []), (25, .tup []), (24, .tup []), (23, .tup []), (22, .tup []), (21, zB false), (20, zB v10), (19, zB v10), (18, .sl 0 (List.map encInt a0.fGot)), (17, .ptr 1 1 4), (16, zB true), (15, zB v7), (14, zB v7), (13, .sl 0 (List.map encInt a0.fFrom)), (12, .ptr 1 1 2), (11, zB true), (10, zB v4), (9, zB v4), (8, zI a0.fVal), (7, .ptr 1 1 1), (6, zB true), (5, zB v1), (4, zI a0.fBal), (3, .ptr 1 1 0), (2, zB false), (1, .ptr 1 1 0), (0, encProp0 a0)], [(1, ⟨1, 1, true, some (encProp0 a0)⟩)]⟩ ?_
         refine runs_ret ?_
         exact fin _ _ h (by kernel_rfl)
     · replace h := cond_f hb9 h
       refine rl 16 false hb9 ?_
       refine ro9 14 13 4 ⟨[(2, zB false), (28, zB false), (27, .tup []), (26, .tup []), (25, .tup []), (24, .tup []), (23, .tup []), (22, .tup []), (21, zB false), (20, zB false), (19, .tup []), (18, .tup []), (17, .tup []), (16, zB false), (15, zB v7), (14, zB v7), (13, .sl 0 (List.map encInt a0.fFrom)), (12, .ptr 1 1 2), (11, zB true), (10, zB v4), (9, zB v4), (8, zI a0.fVal), (7, .ptr 1 1 1), (6, zB true), (5, zB v1), (4, zI a0.fBal), (3, .ptr 1 1 0), (2, zB false), (1, .ptr 1 1 0), (0, encProp0 a0)], [(1, ⟨1, 1, true, some (encProp0 a0)⟩)]⟩ ?_
       refine runs_ret ?_
       exact fin _ _ h (by kernel_rfl)
   · replace h := cond_f hb6 h
     refine rl 11 false hb6 ?_
     refine ro9 9 18 6 ⟨[(2, zB false), (28, zB false), (27, .tup []), (26, .tup []), (25, .tup []), (24, .tup []), (23, .tup []), (22, .tup []), (21, zB false), (20, zB false), (19, .tup []), (18, .tup []), (17, .tup []), (16, zB false), (15, zB false), (14, .tup []), (13, .tup []), (12, .tup []), (11, zB false), (10, zB v4), (9, zB v4), (8, zI a0.fVal), (7, .ptr 1 1 1), (6, zB true), (5, zB v1), (4, zI a0.fBal), (3, .ptr 1 1 0), (2, zB false), (1, .ptr 1 1 0), (0, encProp0 a0)], [(1, ⟨1, 1, true, some (encProp0 a0)⟩)]⟩ ?_
     refine runs_ret ?_
     exact fin _ _ h (by kernel_rfl)
 · replace h := cond_f hb3 h
   refine rl 6 false hb3 ?_
   refine ro9 4 23 8 ⟨[(2, zB false), (28, zB false), (27, .tup []), (26, .tup []), (25, .tup []), (24, .tup []), (23, .tup []), (22, .tup []), (21, zB false), (20, zB false), (19, .tup []), (18, .tup []), (17, .tup []), (16, zB false), (15, zB false), (14, .tup []), (13, .tup []), (12, .tup []), (11, zB false), (10, zB false), (9, .tup []), (8, .tup []), (7, .tup []), (6, zB false), (5, zB v1), (4, zI a0.fBal), (3, .ptr 1 1 0), (2, zB false), (1, .ptr 1 1 0), (0, encProp0 a0)], [(1, ⟨1, 1, true, some (encProp0 a0)⟩)]⟩ ?_
   refine runs_ret ?_
   exact fin _ _ h (by kernel_rfl)

set_option maxRecDepth 100000 in
set_option maxHeartbeats 2000000 in
theorem spec_PropNew_spec (a0 : Int) (a1 : Int) (v0 : SProp × Bool) (h : spec_PropNew a0 a1 = some v0) : Ax.Spec Try.prog 32 none [zI a0, zI a1] (.tup [encProp1 v0.1, zB v0.2] : X) (.junk : X) := by
 refine walk0 (fn := Try.f32) (fun q0 : SProp × Bool => (.tup [encProp1 q0.1, zB q0.2] : X)) (fun q0 : SProp × Bool => (.junk : X)) v0 ⟨[(0, zI a0), (1, zI a1)], []⟩ Try.func32 rfl (by decide +kernel) fun Γ hn fin => ?_
 rw [spec_PropNew] at h
 refine sqr cv hn ?_
 refine ro9 0 2 2 ⟨[(5, zB false), (4, .ptr 4 1 0), (0, zI a0), (1, zI a1)], [(4, ⟨1, 1, true, some (.agg [zI 0, zI 0, .sl 1 (List.map encInt []), zI 0, .sl 1 (List.map encInt [])])⟩)]⟩ ?_
 refine sqr cv hn ?_
 refine ro9 0 5 5 ⟨[(6, .ptr 6 1 0), (9, .agg [zI a0, zI a1, .sc (.slice none 0 0), zI 0, .sc (.slice none 0 0)]), (8, zI a1), (7, zI a0), (5, zB false), (4, .ptr 4 1 0), (0, zI a0), (1, zI a1)], [(6, ⟨1, 2, true, some (.agg [zI a0, zI a1, .sl 1 (List.map encInt []), zI 0, .sl 1 (List.map encInt [])])⟩), (6, ⟨1, 1, true, some (.agg [zI 0, zI 0, .sl 1 (List.map encInt []), zI 0, .sl 1 (List.map encInt [])])⟩), (4, ⟨1, 1, true, some (.agg [zI 0, zI 0, .sl 1 (List.map encInt []), zI 0, .sl 1 (List.map encInt [])])⟩)]⟩ ?_
 refine runs_seq ?_
 let T3 : List (Nat × X) := [(6, .ptr 6 0 0), (4, .ptr 4 0 0)]
 let B3 : List (Nat × Bx) := [(6, ⟨0, 0, true, some (.agg [zI a0, zI a1, .sl 1 (List.map encInt []), zI 0, .sl 1 (List.map encInt [])])⟩), (4, ⟨0, 0, true, some (.agg [zI 0, zI 0, .sl 1 (List.map encInt []), zI 0, .sl 1 (List.map encInt [])])⟩)]
 refine wkr [6, 4] [(6, 6, false), (4, 4, false)] ⟨T3, B3⟩ ?_
 refine sqr cv hn ?_
 refine ro 0 1 1 ⟨(10, .agg [zI a0, zI a1, .view 6 0 [] 2, zI 0, .view 6 0 [] 4]) :: T3, B3⟩ ?_
 obtain ⟨v3, hv4, h⟩ := bindO h
 refine rcH 1 [List.map encInt [], List.map encInt []] ⟨(11, zB v3) :: (10, .agg [zI a0, zI a1, .view 6 0 [] 2, zI 0, .view 6 0 [] 4]) :: T3, B3⟩ [X.rds (List.map encInt []) = true, X.roifys (List.map encInt []) = List.map encInt [], X.rds (List.map encInt []) = true, X.roifys (List.map encInt []) = List.map encInt [], rootsBut (cv 24) 0 [.agg [zI a0, zI a1, .view 6 0 [] 2, zI 0, .view 6 0 [] 4]] = false ∨ (X.noRo (zB v3 : X) = true ∧ X.noRo (.junk : X) = true)] (spec_PropOk_spec (SProp.mk a0 a1 [] 0 []) v3 hv4) ⟨rds_map rde_Int _, ro_map ro_Int _, rds_map rde_Int _, ro_map ro_Int _, .inr ⟨rfl, rfl⟩, trivial⟩ ?_
 refine ro9 2 1 1 ⟨(12, zB (!v3)) :: (11, zB v3) :: (10, .agg [zI a0, zI a1, .view 6 0 [] 2, zI 0, .view 6 0 [] 4]) :: T3, B3⟩ ?_
 rcases dich (!v3) with hb5 | hb5
 · replace h := cond_t hb5 h
   refine ct hb5 ?_
   refine sqr cv hn ?_
   refine ro9 0 3 3 ⟨(5, zB false) :: (13, .agg [zI 0, zI 0, .sc (.slice none 0 0), zI 0, .sc (.slice none 0 0)]) :: (12, zB (!v3)) :: (11, zB v3) :: (10, .agg [zI a0, zI a1, .view 6 0 [] 2, zI 0, .view 6 0 [] 4]) :: T3, (4, ⟨0, 1, true, some (.agg [zI 0, zI 0, .sl 1 (List.map encInt []), zI 0, .sl 1 (List.map encInt [])])⟩) :: B3⟩ ?_
   refine runs_ret ?_
   exact fin _ _ h (by kernel_rfl)
 · replace h := cond_f hb5 h
   refine cf hb5 ?_
   refine runs_skip ?_
   refine sqr cv hn ?_
   refine ro9 0 3 3 ⟨(5, zB true) :: (14, .agg [zI a0, zI a1, .view 6 0 [] 2, zI 0, .view 6 0 [] 4]) :: (12, zB (!v3)) :: (11, zB v3) :: (10, .agg [zI a0, zI a1, .view 6 0 [] 2, zI 0, .view 6 0 [] 4]) :: T3, (4, ⟨0, 1, true, some (.agg [zI a0, zI a1, .sl 1 (List.map encInt []), zI 0, .sl 1 (List.map encInt [])])⟩) :: (6, ⟨0, 2, true, some (.agg [zI a0, zI a1, .junk, zI 0, .junk])⟩) :: (6, ⟨0, 1, true, some (.agg [zI a0, zI a1, .junk, zI 0, .sl 1 (List.map encInt [])])⟩) :: B3⟩ ?_
   refine runs_ret ?_
   exact fin _ _ h (by kernel_rfl)

set_option maxRecDepth 100000 in
set_option maxHeartbeats 2000000 in
theorem impl_in_spec (a0 : Int) (a1 : Int) (a2 : Int) (v0 : Bool) (h : impl_in a0 a1 a2 = some v0) : Ax.Spec Try.prog 64 none [zI a0, zI a1, zI a2] (zB v0 : X) (.junk : X) := by
 let T1 : List (Nat × X) := [(0, zI a0), (1, zI a1), (2, zI a2)]
 refine walk0 (fn := Try.f64) (fun q0 : Bool => (zB q0 : X)) (fun q0 : Bool => (.junk : X)) v0 ⟨T1, []⟩ Try.func64 rfl (by decide +kernel) fun Γ hn fin => ?_
 rw [impl_in] at h
 refine sqr cv hn ?_
 refine ro9 0 1 1 ⟨(6, zB false) :: T1, []⟩ ?_
 refine sqr cv hn ?_
 refine ro 0 4 4 ⟨(10, zB (decide (a0 ≥ a1))) :: (9, zB (decide (a0 ≥ a1))) :: (8, zI a1) :: (7, zI a0) :: (6, zB false) :: T1, []⟩ ?_
 rcases dich (decide (a0 ≥ a1)) with hb1 | hb1
 · replace h := cond_t hb1 h
   refine rl 10 true hb1 ?_
   refine ro9 4 5 5 ⟨(6, zB (decide (a0 ≤ a2))) :: (14, zB (decide (a0 ≤ a2))) :: (13, zB (decide (a0 ≤ a2))) :: (12, zI a2) :: (11, zI a0) :: (10, zB true) :: (9, zB (decide (a0 ≥ a1))) :: (8, zI a1) :: (7, zI a0) :: (6, zB false) :: T1, []⟩ ?_
   refine runs_ret ?_
   exact fin _ _ h (by kernel_rfl)
 · replace h := cond_f hb1 h
   refine rl 10 false hb1 ?_
   refine ro9 4 5 2 ⟨(6, zB false) :: (14, zB false) :: (13, .tup []) :: (12, .tup []) :: (11, .tup []) :: (10, zB false) :: (9, zB (decide (a0 ≥ a1))) :: (8, zI a1) :: (7, zI a0) :: (6, zB false) :: T1, []⟩ ?_
   refine runs_ret ?_
   exact fin _ _ h (by kernel_rfl)

set_option maxRecDepth 100000 in
set_option maxHeartbeats 2000000 in
theorem impl_isChoice_spec (a0 : Int) (v0 : Bool) (h : impl_isChoice a0 = some v0) : Ax.Spec Try.prog 67 none [zI a0] (zB v0 : X) (.junk : X) := by
 refine walk0 (fn := Try.f67) (fun q0 : Bool => (zB q0 : X)) (fun q0 : Bool => (.junk : X)) v0 ⟨[(0, zI a0)], []⟩ Try.func67 rfl (by decide +kernel) fun Γ hn fin => ?_
 rw [impl_isChoice] at h
 refine sqr cv hn ?_
 refine ro9 0 1 1 ⟨[(2, zB false), (0, zI a0)], []⟩ ?_
 refine sqr cv hn ?_
 refine ro 0 1 1 ⟨[(3, zI a0), (2, zB false), (0, zI a0)], []⟩ ?_
 obtain ⟨v1, hv2, h⟩ := bindO h
 refine rc 1 ⟨[(4, zB v1), (3, zI a0), (2, zB false), (0, zI a0)], []⟩ (impl_in_spec a0 1 4 v1 hv2) ?_
 refine ro9 2 1 1 ⟨[(2, zB v1), (4, zB v1), (3, zI a0), (2, zB false), (0, zI a0)], []⟩ ?_
 refine runs_ret ?_
 exact fin _ _ h (by kernel_rfl)

set_option maxRecDepth 100000 in
set_option maxHeartbeats 2000000 in
theorem impl_isBallot_spec (a0 : Int) (v0 : Bool) (h : impl_isBallot a0 = some v0) : Ax.Spec Try.prog 68 none [zI a0] (zB v0 : X) (.junk : X) := by
 refine walk0 (fn := Try.f68) (fun q0 : Bool => (zB q0 : X)) (fun q0 : Bool => (.junk : X)) v0 ⟨[(0, zI a0)], []⟩ Try.func68 rfl (by decide +kernel) fun Γ hn fin => ?_
 rw [impl_isBallot] at h
 refine sqr cv hn ?_
 refine ro9 0 1 1 ⟨[(2, zB false), (0, zI a0)], []⟩ ?_
 refine sqr cv hn ?_
 refine ro 0 1 1 ⟨[(3, zI a0), (2, zB false), (0, zI a0)], []⟩ ?_
 obtain ⟨v1, hv2, h⟩ := bindO h
 refine rc 1 ⟨[(4, zB v1), (3, zI a0), (2, zB false), (0, zI a0)], []⟩ (impl_in_spec a0 1 1125899906842624 v1 hv2) ?_
 refine ro9 2 1 1 ⟨[(2, zB v1), (4, zB v1), (3, zI a0), (2, zB false), (0, zI a0)], []⟩ ?_
 refine runs_ret ?_
 exact fin _ _ h (by kernel_rfl)

set_option maxRecDepth 100000 in
set_option maxHeartbeats 2000000 in
theorem impl_nodesOk_spec (a0 : (List Int)) (a1 : Int) (v0 : Bool) (h : impl_nodesOk a0 a1 = some v0) : Ax.Spec Try.prog 74 none [.sl 0 (List.map encInt a0), zI a1] (zB v0 : X) (.junk : X) := by
 let T1 : List (Nat × X) := [(0, .sl 0 (List.map encInt a0)), (1, zI a1)]
 refine walk0 (fn := Try.f74) (fun q0 : Bool => (zB q0 : X)) (fun q0 : Bool => (.junk : X)) v0 ⟨T1, []⟩ Try.func74 rfl (by decide +kernel) fun Γ hn fin => ?_
 rw [impl_nodesOk] at h
 refine sqr cv hn ?_
 refine ro9 0 1 1 ⟨(4, zB false) :: T1, []⟩ ?_
 refine runs_seq ?_
 refine sqr cv hn ?_
 refine ro9 0 3 3 ⟨(9, zI 0) :: (8, zI (a0.length : Int)) :: (7, .sl 0 (List.map encInt a0)) :: (4, zB false) :: T1, []⟩ ?_ (he := by rw [show (a0.length : Int) = ((List.map encInt a0).length : Int) from by rw [List.length_map]]; kernel_rfl)
 refine runs_block ?_
 refine runs_loopM (σ := List Int × Nat) (fun s => ⟨[(9, zI (s.2 : Int)), (8, zI (a0.length : Int)), (7, .sl 0 (List.map encInt a0)), (0, .sl 0 (List.map encInt a0)), (1, zI a1)], []⟩) (fun s => s.1 = List.drop s.2 a0 ∧ impl_nodesOk_l1 a0 a1 s.1 s.2 = some v0) (fun s => s.1.length) (a0, 0) ⟨rfl, h⟩ (wre [9, 8, 7, 0, 1] []) ?_
 rintro ⟨t1, i1⟩ ⟨hd1, h⟩
 refine seq0 ⟨[(9, zI (i1 : Int)), (8, zI (a0.length : Int)), (7, .sl 0 (List.map encInt a0)), (0, .sl 0 (List.map encInt a0)), (1, zI a1)], []⟩ ?_
 refine runs_len 7 (es := List.map encInt a0) (by kernel_rfl) fun hl1 => ?_
 replace hl1 := len_of_map hl1
 cases t1 with
 | nil =>
   rw [impl_nodesOk_l1] at h
   have hLn1 := dnil hd1
   refine sqr cv hn ?_
   refine ro9 0 1 1 ⟨[(10, zB (decide ((i1 : Int) < (a0.length : Int)))), (9, zI (i1 : Int)), (8, zI (a0.length : Int)), (7, .sl 0 (List.map encInt a0)), (0, .sl 0 (List.map encInt a0)), (1, zI a1)], []⟩ ?_
   refine runs_seq ?_
   refine cf hLn1 ?_
   refine runs_exit ?_
   repeat refine thenX_exit ?_
   refine block_here ?_
   refine wkr [] [] ⟨[], []⟩ ?_
   refine sqr cv hn ?_
   refine ro9 0 1 1 ⟨[(4, zB true)], []⟩ ?_
   refine runs_ret ?_
   exact fin _ _ h (by kernel_rfl)
 | cons x10 t1 =>
   rw [impl_nodesOk_l1] at h
   have hLc1 := dcons hd1
   have hx10 := dget hd1
   have hi1 := dinc hd1 hl1
   refine sqr cv hn ?_
   refine ro9 0 1 1 ⟨[(10, zB (decide ((i1 : Int) < (a0.length : Int)))), (9, zI (i1 : Int)), (8, zI (a0.length : Int)), (7, .sl 0 (List.map encInt a0)), (0, .sl 0 (List.map encInt a0)), (1, zI a1)], []⟩ ?_
   refine runs_seq ?_
   refine ct hLc1 ?_
   refine runs_skip ?_
   refine runs_seq ?_
   refine runs_block ?_
   refine sqr cv hn ?_
   refine ro 0 1 1 ⟨[(11, zI (i1 : Int)), (10, zB (decide ((i1 : Int) < (a0.length : Int)))), (9, zI (i1 : Int)), (8, zI (a0.length : Int)), (7, .sl 0 (List.map encInt a0)), (0, .sl 0 (List.map encInt a0)), (1, zI a1)], []⟩ ?_
   refine rix 1 encInt 3 hx10 (ix_nn hx10) ⟨[(12, .rp (zI x10) 0), (11, zI (i1 : Int)), (10, zB (decide ((i1 : Int) < (a0.length : Int)))), (9, zI (i1 : Int)), (8, zI (a0.length : Int)), (7, .sl 0 (List.map encInt a0)), (0, .sl 0 (List.map encInt a0)), (1, zI a1)], []⟩ ?_
   refine ro9 2 3 3 ⟨[(6, zI x10), (5, zI (i1 : Int)), (13, zI x10), (12, .rp (zI x10) 0), (11, zI (i1 : Int)), (10, zB (decide ((i1 : Int) < (a0.length : Int)))), (9, zI (i1 : Int)), (8, zI (a0.length : Int)), (7, .sl 0 (List.map encInt a0)), (0, .sl 0 (List.map encInt a0)), (1, zI a1)], []⟩ ?_
   refine sqr cv hn ?_
   refine ro 0 3 3 ⟨[(16, zI (w64 (a1 - 1))), (15, zI a1), (14, zI x10), (6, zI x10), (5, zI (i1 : Int)), (13, zI x10), (12, .rp (zI x10) 0), (11, zI (i1 : Int)), (10, zB (decide ((i1 : Int) < (a0.length : Int)))), (9, zI (i1 : Int)), (8, zI (a0.length : Int)), (7, .sl 0 (List.map encInt a0)), (0, .sl 0 (List.map encInt a0)), (1, zI a1)], []⟩ ?_
   obtain ⟨v26, hv27, h⟩ := bindO h
   refine rc 3 ⟨[(17, zB v26), (16, zI (w64 (a1 - 1))), (15, zI a1), (14, zI x10), (6, zI x10), (5, zI (i1 : Int)), (13, zI x10), (12, .rp (zI x10) 0), (11, zI (i1 : Int)), (10, zB (decide ((i1 : Int) < (a0.length : Int)))), (9, zI (i1 : Int)), (8, zI (a0.length : Int)), (7, .sl 0 (List.map encInt a0)), (0, .sl 0 (List.map encInt a0)), (1, zI a1)], []⟩ (impl_in_spec x10 0 (w64 (a1 - 1)) v26 hv27) ?_
   refine ro 4 2 2 ⟨[(19, zB (!v26)), (18, zB (!v26)), (17, zB v26), (16, zI (w64 (a1 - 1))), (15, zI a1), (14, zI x10), (6, zI x10), (5, zI (i1 : Int)), (13, zI x10), (12, .rp (zI x10) 0), (11, zI (i1 : Int)), (10, zB (decide ((i1 : Int) < (a0.length : Int)))), (9, zI (i1 : Int)), (8, zI (a0.length : Int)), (7, .sl 0 (List.map encInt a0)), (0, .sl 0 (List.map encInt a0)), (1, zI a1)], []⟩ ?_
   rcases dich (!v26) with hb28 | hb28
   · replace h := cond_t hb28 h
     refine rl 19 true hb28 ?_
     refine ro9 6 12 1 ⟨[(31, zB true), (30, .tup []), (29, .tup []), (28, .tup []), (27, .tup []), (26, .tup []), (25, .tup []), (24, .tup []), (23, .tup []), (22, .tup []), (21, .tup []), (20, .tup []), (19, zB true), (18, zB (!v26)), (17, zB v26), (16, zI (w64 (a1 - 1))), (15, zI a1), (14, zI x10), (6, zI x10), (5, zI (i1 : Int)), (13, zI x10), (12, .rp (zI x10) 0), (11, zI (i1 : Int)), (10, zB (decide ((i1 : Int) < (a0.length : Int)))), (9, zI (i1 : Int)), (8, zI (a0.length : Int)), (7, .sl 0 (List.map encInt a0)), (0, .sl 0 (List.map encInt a0)), (1, zI a1)], []⟩ ?_
     refine cT ?_
     refine sqr cv hn ?_
     refine ro9 0 1 1 ⟨[(4, zB false), (31, zB true), (30, .tup []), (29, .tup []), (28, .tup []), (27, .tup []), (26, .tup []), (25, .tup []), (24, .tup []), (23, .tup []), (22, .tup []), (21, .tup []), (20, .tup []), (19, zB true), (18, zB (!v26)), (17, zB v26), (16, zI (w64 (a1 - 1))), (15, zI a1), (14, zI x10), (6, zI x10), (5, zI (i1 : Int)), (13, zI x10), (12, .rp (zI x10) 0), (11, zI (i1 : Int)), (10, zB (decide ((i1 : Int) < (a0.length : Int)))), (9, zI (i1 : Int)), (8, zI (a0.length : Int)), (7, .sl 0 (List.map encInt a0)), (0, .sl 0 (List.map encInt a0)), (1, zI a1)], []⟩ ?_
     refine runs_ret ?_
     exact fin _ _ h (by kernel_rfl)
   · replace h := cond_f hb28 h
     refine rl 19 false hb28 ?_
     refine ro 6 3 3 ⟨[(22, zB (decide ((i1 : Int) > 0))), (21, zB (decide ((i1 : Int) > 0))), (20, zI (i1 : Int)), (19, zB false), (18, zB (!v26)), (17, zB v26), (16, zI (w64 (a1 - 1))), (15, zI a1), (14, zI x10), (6, zI x10), (5, zI (i1 : Int)), (13, zI x10), (12, .rp (zI x10) 0), (11, zI (i1 : Int)), (10, zB (decide ((i1 : Int) < (a0.length : Int)))), (9, zI (i1 : Int)), (8, zI (a0.length : Int)), (7, .sl 0 (List.map encInt a0)), (0, .sl 0 (List.map encInt a0)), (1, zI a1)], []⟩ ?_
     rcases dich (decide ((i1 : Int) > 0)) with hb29 | hb29
     · replace h := cond_t hb29 h
       refine rl 22 true hb29 ?_
       refine ro 9 3 3 ⟨[(25, zI (w64 ((i1 : Int) - 1))), (24, zI (i1 : Int)), (23, .sl 0 (List.map encInt a0)), (22, zB true), (21, zB (decide ((i1 : Int) > 0))), (20, zI (i1 : Int)), (19, zB false), (18, zB (!v26)), (17, zB v26), (16, zI (w64 (a1 - 1))), (15, zI a1), (14, zI x10), (6, zI x10), (5, zI (i1 : Int)), (13, zI x10), (12, .rp (zI x10) 0), (11, zI (i1 : Int)), (10, zB (decide ((i1 : Int) < (a0.length : Int)))), (9, zI (i1 : Int)), (8, zI (a0.length : Int)), (7, .sl 0 (List.map encInt a0)), (0, .sl 0 (List.map encInt a0)), (1, zI a1)], []⟩ ?_
       obtain ⟨x30, hx31, h⟩ := bindO h
       refine rix 12 encInt 3 hx31 (ix_nn hx31) ⟨[(26, .rp (zI x30) 0), (25, zI (w64 ((i1 : Int) - 1))), (24, zI (i1 : Int)), (23, .sl 0 (List.map encInt a0)), (22, zB true), (21, zB (decide ((i1 : Int) > 0))), (20, zI (i1 : Int)), (19, zB false), (18, zB (!v26)), (17, zB v26), (16, zI (w64 (a1 - 1))), (15, zI a1), (14, zI x10), (6, zI x10), (5, zI (i1 : Int)), (13, zI x10), (12, .rp (zI x10) 0), (11, zI (i1 : Int)), (10, zB (decide ((i1 : Int) < (a0.length : Int)))), (9, zI (i1 : Int)), (8, zI (a0.length : Int)), (7, .sl 0 (List.map encInt a0)), (0, .sl 0 (List.map encInt a0)), (1, zI a1)], []⟩ ?_
       refine ro9 13 5 5 ⟨[(31, zB (decide (x30 ≥ x10))), (30, zB (decide (x30 ≥ x10))), (29, zB (decide (x30 ≥ x10))), (28, zI x10), (27, zI x30), (26, .rp (zI x30) 0), (25, zI (w64 ((i1 : Int) - 1))), (24, zI (i1 : Int)), (23, .sl 0 (List.map encInt a0)), (22, zB true), (21, zB (decide ((i1 : Int) > 0))), (20, zI (i1 : Int)), (19, zB false), (18, zB (!v26)), (17, zB v26), (16, zI (w64 (a1 - 1))), (15, zI a1), (14, zI x10), (6, zI x10), (5, zI (i1 : Int)), (13, zI x10), (12, .rp (zI x10) 0), (11, zI (i1 : Int)), (10, zB (decide ((i1 : Int) < (a0.length : Int)))), (9, zI (i1 : Int)), (8, zI (a0.length : Int)), (7, .sl 0 (List.map encInt a0)), (0, .sl 0 (List.map encInt a0)), (1, zI a1)], []⟩ ?_
       rcases dich (decide (x30 ≥ x10)) with hb32 | hb32
       · replace h := cond_t hb32 h
         refine ct hb32 ?_
         refine sqr cv hn ?_
         refine ro9 0 1 1 ⟨[(4, zB false), (31, zB (decide (x30 ≥ x10))), (30, zB (decide (x30 ≥ x10))), (29, zB (decide (x30 ≥ x10))), (28, zI x10), (27, zI x30), (26, .rp (zI x30) 0), (25, zI (w64 ((i1 : Int) - 1))), (24, zI (i1 : Int)), (23, .sl 0 (List.map encInt a0)), (22, zB true), (21, zB (decide ((i1 : Int) > 0))), (20, zI (i1 : Int)), (19, zB false), (18, zB (!v26)), (17, zB v26), (16, zI (w64 (a1 - 1))), (15, zI a1), (14, zI x10), (6, zI x10), (5, zI (i1 : Int)), (13, zI x10), (12, .rp (zI x10) 0), (11, zI (i1 : Int)), (10, zB (decide ((i1 : Int) < (a0.length : Int)))), (9, zI (i1 : Int)), (8, zI (a0.length : Int)), (7, .sl 0 (List.map encInt a0)), (0, .sl 0 (List.map encInt a0)), (1, zI a1)], []⟩ ?_
         refine runs_ret ?_
         exact fin _ _ h (by kernel_rfl)
       · replace h := cond_f hb32 h
         refine cf hb32 ?_
         refine runs_skip ?_
         refine rg cv hn ?_
         refine ro9 0 2 2 ⟨[(9, zI ((i1 + 1 : Nat) : Int)), (32, zI ((i1 + 1 : Nat) : Int)), (31, zB (decide (x30 ≥ x10))), (30, zB (decide (x30 ≥ x10))), (29, zB (decide (x30 ≥ x10))), (28, zI x10), (27, zI x30), (26, .rp (zI x30) 0), (25, zI (w64 ((i1 : Int) - 1))), (24, zI (i1 : Int)), (23, .sl 0 (List.map encInt a0)), (22, zB true), (21, zB (decide ((i1 : Int) > 0))), (20, zI (i1 : Int)), (19, zB false), (18, zB (!v26)), (17, zB v26), (16, zI (w64 (a1 - 1))), (15, zI a1), (14, zI x10), (6, zI x10), (5, zI (i1 : Int)), (13, zI x10), (12, .rp (zI x10) 0), (11, zI (i1 : Int)), (10, zB (decide ((i1 : Int) < (a0.length : Int)))), (9, zI (i1 : Int)), (8, zI (a0.length : Int)), (7, .sl 0 (List.map encInt a0)), (0, .sl 0 (List.map encInt a0)), (1, zI a1)], []⟩ ?_ (he := by rw [← hi1]; kernel_rfl)
         exact ⟨(t1, i1 + 1), Nat.lt_succ_self _, ⟨dnext hd1, h⟩, wre [9, 8, 7, 0, 1] []⟩
     · replace h := cond_f hb29 h
       refine rl 22 false hb29 ?_
       refine ro9 9 9 2 ⟨[(31, zB false), (30, zB false), (29, .tup []), (28, .tup []), (27, .tup []), (26, .tup []), (25, .tup []), (24, .tup []), (23, .tup []), (22, zB false), (21, zB (decide ((i1 : Int) > 0))), (20, zI (i1 : Int)), (19, zB false), (18, zB (!v26)), (17, zB v26), (16, zI (w64 (a1 - 1))), (15, zI a1), (14, zI x10), (6, zI x10), (5, zI (i1 : Int)), (13, zI x10), (12, .rp (zI x10) 0), (11, zI (i1 : Int)), (10, zB (decide ((i1 : Int) < (a0.length : Int)))), (9, zI (i1 : Int)), (8, zI (a0.length : Int)), (7, .sl 0 (List.map encInt a0)), (0, .sl 0 (List.map encInt a0)), (1, zI a1)], []⟩ ?_
       refine cF ?_
       refine runs_skip ?_
       refine rg cv hn ?_
       refine ro9 0 2 2 ⟨[(9, zI ((i1 + 1 : Nat) : Int)), (32, zI ((i1 + 1 : Nat) : Int)), (31, zB false), (30, zB false), (29, .tup []), (28, .tup []), (27, .tup []), (26, .tup []), (25, .tup []), (24, .tup []), (23, .tup []), (22, zB false), (21, zB (decide ((i1 : Int) > 0))), (20, zI (i1 : Int)), (19, zB false), (18, zB (!v26)), (17, zB v26), (16, zI (w64 (a1 - 1))), (15, zI a1), (14, zI x10), (6, zI x10), (5, zI (i1 : Int)), (13, zI x10), (12, .rp (zI x10) 0), (11, zI (i1 : Int)), (10, zB (decide ((i1 : Int) < (a0.length : Int)))), (9, zI (i1 : Int)), (8, zI (a0.length : Int)), (7, .sl 0 (List.map encInt a0)), (0, .sl 0 (List.map encInt a0)), (1, zI a1)], []⟩ ?_ (he := by rw [← hi1]; kernel_rfl)
       exact ⟨(t1, i1 + 1), Nat.lt_succ_self _, ⟨dnext hd1, h⟩, wre [9, 8, 7, 0, 1] []⟩

set_option maxRecDepth 100000 in
set_option maxHeartbeats 2000000 in
theorem impl_PropOk_spec (a0 : SProp) (v0 : Bool) (h : impl_PropOk a0 = some v0) : Ax.Spec Try.prog 26 none [encProp0 a0] (zB v0 : X) (.junk : X) := by
 refine walk0 (fn := Try.f26) (fun q0 : Bool => (zB q0 : X)) (fun q0 : Bool => (.junk : X)) v0 ⟨[(0, encProp0 a0)], []⟩ Try.func26 rfl (by decide +kernel) fun Γ hn fin => ?_
 rw [impl_PropOk] at h
 refine sqr cv hn ?_
 refine ro9 0 2 2 ⟨[(2, zB false), (1, .ptr 1 1 0), (0, encProp0 a0)], [(1, ⟨1, 1, true, some (encProp0 a0)⟩)]⟩ ?_
 refine sqr cv hn ?_
 refine ro 0 2 2 ⟨[(4, zI a0.fBal), (3, .ptr 1 1 0), (2, zB false), (1, .ptr 1 1 0), (0, encProp0 a0)], [(1, ⟨1, 1, true, some (encProp0 a0)⟩)]⟩ ?_
 obtain ⟨v1, hv2, h⟩ := bindO h
 refine rc 2 ⟨[(5, zB v1), (4, zI a0.fBal), (3, .ptr 1 1 0), (2, zB false), (1, .ptr 1 1 0), (0, encProp0 a0)], [(1, ⟨1, 1, true, some (encProp0 a0)⟩)]⟩ (impl_isBallot_spec a0.fBal v1 hv2) ?_
 refine ro 3 1 1 ⟨[(6, zB v1), (5, zB v1), (4, zI a0.fBal), (3, .ptr 1 1 0), (2, zB false), (1, .ptr 1 1 0), (0, encProp0 a0)], [(1, ⟨1, 1, true, some (encProp0 a0)⟩)]⟩ ?_
 rcases dich v1 with hb3 | hb3
 · replace h := cond_t hb3 h
   refine rl 6 true hb3 ?_
   refine ro 4 2 2 ⟨[(8, zI a0.fVal), (7, .ptr 1 1 1), (6, zB true), (5, zB v1), (4, zI a0.fBal), (3, .ptr 1 1 0), (2, zB false), (1, .ptr 1 1 0), (0, encProp0 a0)], [(1, ⟨1, 1, true, some (encProp0 a0)⟩)]⟩ ?_
   obtain ⟨v4, hv5, h⟩ := bindO h
   refine rc 6 ⟨[(9, zB v4), (8, zI a0.fVal), (7, .ptr 1 1 1), (6, zB true), (5, zB v1), (4, zI a0.fBal), (3, .ptr 1 1 0), (2, zB false), (1, .ptr 1 1 0), (0, encProp0 a0)], [(1, ⟨1, 1, true, some (encProp0 a0)⟩)]⟩ (impl_isChoice_spec a0.fVal v4 hv5) ?_
   refine ro 7 2 2 ⟨[(11, zB v4), (10, zB v4), (9, zB v4), (8, zI a0.fVal), (7, .ptr 1 1 1), (6, zB true), (5, zB v1), (4, zI a0.fBal), (3, .ptr 1 1 0), (2, zB false), (1, .ptr 1 1 0), (0, encProp0 a0)], [(1, ⟨1, 1, true, some (encProp0 a0)⟩)]⟩ ?_
   rcases dich v4 with hb6 | hb6
   · replace h := cond_t hb6 h
     refine rl 11 true hb6 ?_
     refine ro 9 2 2 ⟨[(13, .sl 0 (List.map encInt a0.fFrom)), (12, .ptr 1 1 2), (11, zB true), (10, zB v4), (9, zB v4), (8, zI a0.fVal), (7, .ptr 1 1 1), (6, zB true), (5, zB v1), (4, zI a0.fBal), (3, .ptr 1 1 0), (2, zB false), (1, .ptr 1 1 0), (0, encProp0 a0)], [(1, ⟨1, 1, true, some (encProp0 a0)⟩)]⟩ ?_
     obtain ⟨v7, hv8, h⟩ := bindO h
     refine rc 11 ⟨[(14, zB v7), (13, .sl 0 (List.map encInt a0.fFrom)), (12, .ptr 1 1 2), (11, zB true), (10, zB v4), (9, zB v4), (8, zI a0.fVal), (7, .ptr 1 1 1), (6, zB true), (5, zB v1), (4, zI a0.fBal), (3, .ptr 1 1 0), (2, zB false), (1, .ptr 1 1 0), (0, encProp0 a0)], [(1, ⟨1, 1, true, some (encProp0 a0)⟩)]⟩ (impl_nodesOk_spec a0.fFrom 4 v7 hv8) ?_
     refine ro 12 2 2 ⟨[(16, zB v7), (15, zB v7), (14, zB v7), (13, .sl 0 (List.map encInt a0.fFrom)), (12, .ptr 1 1 2), (11, zB true), (10, zB v4), (9, zB v4), (8, zI a0.fVal), (7, .ptr 1 1 1), (6, zB true), (5, zB v1), (4, zI a0.fBal), (3, .ptr 1 1 0), (2, zB false), (1, .ptr 1 1 0), (0, encProp0 a0)], [(1, ⟨1, 1, true, some (encProp0 a0)⟩)]⟩ ?_
     rcases dich v7 with hb9 | hb9
     · replace h := cond_t hb9 h
       refine rl 16 true hb9 ?_
       refine ro 14 2 2 ⟨[(18, .sl 0 (List.map encInt a0.fGot)), (17, .ptr 1 1 4), (16, zB true), (15, zB v7), (14, zB v7), (13, .sl 0 (List.map encInt a0.fFrom)), (12, .ptr 1 1 2), (11, zB true), (10, zB v4), (9, zB v4), (8, zI a0.fVal), (7, .ptr 1 1 1), (6, zB true), (5, zB v1), (4, zI a0.fBal), (3, .ptr 1 1 0), (2, zB false), (1, .ptr 1 1 0), (0, encProp0 a0)], [(1, ⟨1, 1, true, some (encProp0 a0)⟩)]⟩ ?_
       obtain ⟨v10, hv11, h⟩ := bindO h
       refine rc 16 ⟨[(19, zB v10), (18, .sl 0 (List.map encInt a0.fGot)), (17, .ptr 1 1 4), (16, zB true), (15, zB v7), (14, zB v7), (13, .sl 0 (List.map encInt a0.fFrom)), (12, .ptr 1 1 2), (11, zB true), (10, zB v4), (9, zB v4), (8, zI a0.fVal), (7, .ptr 1 1 1), (6, zB true), (5, zB v1), (4, zI a0.fBal), (3, .ptr 1 1 0), (2, zB false), (1, .ptr 1 1 0), (0, encProp0 a0)], [(1, ⟨1, 1, true, some (encProp0 a0)⟩)]⟩ (impl_nodesOk_spec a0.fGot 4 v10 hv11) ?_
       refine ro 17 2 2 ⟨[(21, zB v10), (20, zB v10), (19, zB v10), (18, .sl 0 (List.map encInt a0.fGot)), (17, .ptr 1 1 4), (16, zB true), (15, zB v7), (14, zB v7), (13, .sl 0 (List.map encInt a0.fFrom)), (12, .ptr 1 1 2), (11, zB true), (10, zB v4), (9, zB v4), (8, zI a0.fVal), (7, .ptr 1 1 1), (6, zB true), (5, zB v1), (4, zI a0.fBal), (3, .ptr 1 1 0), (2, zB false), (1, .ptr 1 1 0), (0, encProp0 a0)], [(1, ⟨1, 1, true, some (encProp0 a0)⟩)]⟩ ?_
       rcases dich v10 with hb12 | hb12
       · replace h := cond_t hb12 h
         refine rl 21 true hb12 ?_
         refine ro 19 5 5 ⟨[(26, zI (w64 (a0.fBal - 1))), (25, zI a0.fBal), (24, .ptr 1 1 0), (23, zI a0.fBest), (22, .ptr 1 1 3), (21, zB true), (20, zB v10), (19, zB v10), (18, .sl 0 (List.map encInt a0.fGot)), (17, .ptr 1 1 4), (16, zB true), (15, zB v7), (14, zB v7), (13, .sl 0 (List.map encInt a0.fFrom)), (12, .ptr 1 1 2), (11, zB true), (10, zB v4), (9, zB v4), (8, zI a0.fVal), (7, .ptr 1 1 1), (6, zB true), (5, zB v1), (4, zI a0.fBal), (3, .ptr 1 1 0), (2, zB false), (1, .ptr 1 1 0), (0, encProp0 a0)], [(1, ⟨1, 1, true, some (encProp0 a0)⟩)]⟩ ?_
         obtain ⟨v13, hv14, h⟩ := bindO h
         refine rc 24 ⟨[(27, zB v13), (26, zI (w64 (a0.fBal - 1))), (25, zI a0.fBal), (24, .ptr 1 1 0), (23, zI a0.fBest), (22, .ptr 1 1 3), (21, zB true), (20, zB v10), (19, zB v10), (18, .sl 0 (List.map encInt a0.fGot)), (17, .ptr 1 1 4), (16, zB true), (15, zB v7), (14, zB v7), (13, .sl 0 (List.map encInt a0.fFrom)), (12, .ptr 1 1 2), (11, zB true), (10, zB v4), (9, zB v4), (8, zI a0.fVal), (7, .ptr 1 1 1), (6, zB true), (5, zB v1), (4, zI a0.fBal), (3, .ptr 1 1 0), (2, zB false), (1, .ptr 1 1 0), (0, encProp0 a0)], [(1, ⟨1, 1, true, some (encProp0 a0)⟩)]⟩ (impl_in_spec a0.fBest 0 (w64 (a0.fBal - 1)) v13 hv14) ?_
         refine ro9 25 2 2 ⟨[(2, zB v13), (28, zB v13), (27, zB v13), (26, zI (w64 (a0.fBal - 1))), (25, zI a0.fBal), (24, .ptr 1 1 0), (23, zI a0.fBest), (22, .ptr 1 1 3), (21, zB true), (20, zB v10), (19, zB v10), (18, .sl 0 (List.map encInt a0.fGot)), (17, .ptr 1 1 4), (16, zB true), (15, zB v7), (14, zB v7), (13, .sl 0 (List.map encInt a0.fFrom)), (12, .ptr 1 1 2), (11, zB true), (10, zB v4), (9, zB v4), (8, zI a0.fVal), (7, .ptr 1 1 1), (6, zB true), (5, zB v1), (4, zI a0.fBal), (3, .ptr 1 1 0), (2, zB false), (1, .ptr 1 1 0), (0, encProp0 a0)], [(1, ⟨1, 1, true, some (encProp0 a0)⟩)]⟩ ?_
         refine runs_ret ?_
         exact fin _ _ h (by kernel_rfl)
       · replace h := cond_f hb12 h
         refine rl 21 false hb12 ?_
         refine ro9 19 8 2 ⟨[(2, zB false), (28, zB false), (27, .tup []), (26, .tup []), (25, .tup []), (24, .tup []), (23, .tup []), (22, .tup []), (21, zB false), (20, zB v10), (19, zB v10), (18, .sl 0 (List.map encInt a0.fGot)), (17, .ptr 1 1 4), (16, zB true), (15, zB v7), (14, zB v7), (13, .sl 0 (List.map encInt a0.fFrom)), (12, .ptr 1 1 2), (11, zB true), (10, zB v4), (9, zB v4), (8, zI a0.fVal), (7, .ptr 1 1 1), (6, zB true), (5, zB v1), (4, zI a0.fBal), (3, .ptr 1 1 0), (2, zB false), (1, .ptr 1 1 0), (0, encProp0 a0)], [(1, ⟨1, 1, true, some (encProp0 a0)⟩)]⟩ ?_
         refine runs_ret ?_
         exact fin _ _ h (by kernel_rfl)
     · replace h := cond_f hb9 h
       refine rl 16 false hb9 ?_
       refine ro9 14 13 4 ⟨[(2, zB false), (28, zB false), (27, .tup []), (26, .tup []), (25, .tup []), (24, .tup []), (23, .tup []), (22, .tup []), (21, zB false), (20, zB false), (19, .tup []), (18, .tup []), (17, .tup []), (16, zB false), (15, zB v7), (14, zB v7), (13, .sl 0 (List.map encInt a0.fFrom)), (12, .ptr 1 1 2), (11, zB true), (10, zB v4), (9, zB v4), (8, zI a0.fVal), (7, .ptr 1 1 1), (6, zB true), (5, zB v1), (4, zI a0.fBal), (3, .ptr 1 1 0), (2, zB false), (1, .ptr 1 1 0), (0, encProp0 a0)], [(1, ⟨1, 1, true, some (encProp0 a0)⟩)]⟩ ?_
       refine runs_ret ?_
       exact fin _ _ h (by kernel_rfl)
   · replace h := cond_f hb6 h
     refine rl 11 false hb6 ?_
     refine ro9 9 18 6 ⟨[(2, zB false), (28, zB false), (27, .tup []), (26, .tup []), (25, .tup []), (24, .tup []), (23, .tup []), (22, .tup []), (21, zB false), (20, zB false), (19, .tup []), (18, .tup []), (17, .tup []), (16, zB false), (15, zB false), (14, .tup []), (13, .tup []), (12, .tup []), (11, zB false), (10, zB v4), (9, zB v4), (8, zI a0.fVal), (7, .ptr 1 1 1), (6, zB true), (5, zB v1), (4, zI a0.fBal), (3, .ptr 1 1 0), (2, zB false), (1, .ptr 1 1 0), (0, encProp0 a0)], [(1, ⟨1, 1, true, some (encProp0 a0)⟩)]⟩ ?_
     refine runs_ret ?_
     exact fin _ _ h (by kernel_rfl)
 · replace h := cond_f hb3 h
   refine rl 6 false hb3 ?_
   refine ro9 4 23 8 ⟨[(2, zB false), (28, zB false), (27, .tup []), (26, .tup []), (25, .tup []), (24, .tup []), (23, .tup []), (22, .tup []), (21, zB false), (20, zB false), (19, .tup []), (18, .tup []), (17, .tup []), (16, zB false), (15, zB false), (14, .tup []), (13, .tup []), (12, .tup []), (11, zB false), (10, zB false), (9, .tup []), (8, .tup []), (7, .tup []), (6, zB false), (5, zB v1), (4, zI a0.fBal), (3, .ptr 1 1 0), (2, zB false), (1, .ptr 1 1 0), (0, encProp0 a0)], [(1, ⟨1, 1, true, some (encProp0 a0)⟩)]⟩ ?_
   refine runs_ret ?_
   exact fin _ _ h (by kernel_rfl)

set_option maxRecDepth 100000 in
set_option maxHeartbeats 2000000 in
theorem impl_PropNew_spec (a0 : Int) (a1 : Int) (v0 : SProp × Bool) (h : impl_PropNew a0 a1 = some v0) : Ax.Spec Try.prog 33 none [zI a0, zI a1] (.tup [encProp1 v0.1, zB v0.2] : X) (.junk : X) := by
 refine walk0 (fn := Try.f33) (fun q0 : SProp × Bool => (.tup [encProp1 q0.1, zB q0.2] : X)) (fun q0 : SProp × Bool => (.junk : X)) v0 ⟨[(0, zI a0), (1, zI a1)], []⟩ Try.func33 rfl (by decide +kernel) fun Γ hn fin => ?_
 rw [impl_PropNew] at h
 refine sqr cv hn ?_
 refine ro9 0 2 2 ⟨[(5, zB false), (4, .ptr 4 1 0), (0, zI a0), (1, zI a1)], [(4, ⟨1, 1, true, some (.agg [zI 0, zI 0, .sl 1 (List.map encInt []), zI 0, .sl 1 (List.map encInt [])])⟩)]⟩ ?_
 refine sqr cv hn ?_
 refine ro9 0 5 5 ⟨[(6, .ptr 6 1 0), (9, .agg [zI a0, zI a1, .sc (.slice none 0 0), zI 0, .sc (.slice none 0 0)]), (8, zI a1), (7, zI a0), (5, zB false), (4, .ptr 4 1 0), (0, zI a0), (1, zI a1)], [(6, ⟨1, 2, true, some (.agg [zI a0, zI a1, .sl 1 (List.map encInt []), zI 0, .sl 1 (List.map encInt [])])⟩), (6, ⟨1, 1, true, some (.agg [zI 0, zI 0, .sl 1 (List.map encInt []), zI 0, .sl 1 (List.map encInt [])])⟩), (4, ⟨1, 1, true, some (.agg [zI 0, zI 0, .sl 1 (List.map encInt []), zI 0, .sl 1 (List.map encInt [])])⟩)]⟩ ?_
 refine runs_seq ?_
 let T3 : List (Nat × X) := [(6, .ptr 6 0 0), (4, .ptr 4 0 0)]
 let B3 : List (Nat × Bx) := [(6, ⟨0, 0, true, some (.agg [zI a0, zI a1, .sl 1 (List.map encInt []), zI 0, .sl 1 (List.map encInt [])])⟩), (4, ⟨0, 0, true, some (.agg [zI 0, zI 0, .sl 1 (List.map encInt []), zI 0, .sl 1 (List.map encInt [])])⟩)]
 refine wkr [6, 4] [(6, 6, false), (4, 4, false)] ⟨T3, B3⟩ ?_
 refine sqr cv hn ?_
 refine ro 0 1 1 ⟨(10, .agg [zI a0, zI a1, .view 6 0 [] 2, zI 0, .view 6 0 [] 4]) :: T3, B3⟩ ?_
 obtain ⟨v3, hv4, h⟩ := bindO h
 refine rcH 1 [List.map encInt [], List.map encInt []] ⟨(11, zB v3) :: (10, .agg [zI a0, zI a1, .view 6 0 [] 2, zI 0, .view 6 0 [] 4]) :: T3, B3⟩ [X.rds (List.map encInt []) = true, X.roifys (List.map encInt []) = List.map encInt [], X.rds (List.map encInt []) = true, X.roifys (List.map encInt []) = List.map encInt [], rootsBut (cv 26) 0 [.agg [zI a0, zI a1, .view 6 0 [] 2, zI 0, .view 6 0 [] 4]] = false ∨ (X.noRo (zB v3 : X) = true ∧ X.noRo (.junk : X) = true)] (impl_PropOk_spec (SProp.mk a0 a1 [] 0 []) v3 hv4) ⟨rds_map rde_Int _, ro_map ro_Int _, rds_map rde_Int _, ro_map ro_Int _, .inr ⟨rfl, rfl⟩, trivial⟩ ?_
 refine ro9 2 1 1 ⟨(12, zB (!v3)) :: (11, zB v3) :: (10, .agg [zI a0, zI a1, .view 6 0 [] 2, zI 0, .view 6 0 [] 4]) :: T3, B3⟩ ?_
 rcases dich (!v3) with hb5 | hb5
 · replace h := cond_t hb5 h
   refine ct hb5 ?_
   refine sqr cv hn ?_
   refine ro9 0 3 3 ⟨(5, zB false) :: (13, .agg [zI 0, zI 0, .sc (.slice none 0 0), zI 0, .sc (.slice none 0 0)]) :: (12, zB (!v3)) :: (11, zB v3) :: (10, .agg [zI a0, zI a1, .view 6 0 [] 2, zI 0, .view 6 0 [] 4]) :: T3, (4, ⟨0, 1, true, some (.agg [zI 0, zI 0, .sl 1 (List.map encInt []), zI 0, .sl 1 (List.map encInt [])])⟩) :: B3⟩ ?_
   refine runs_ret ?_
   exact fin _ _ h (by kernel_rfl)
 · replace h := cond_f hb5 h
   refine cf hb5 ?_
   refine runs_skip ?_
   refine sqr cv hn ?_
   refine ro9 0 3 3 ⟨(5, zB true) :: (14, .agg [zI a0, zI a1, .view 6 0 [] 2, zI 0, .view 6 0 [] 4]) :: (12, zB (!v3)) :: (11, zB v3) :: (10, .agg [zI a0, zI a1, .view 6 0 [] 2, zI 0, .view 6 0 [] 4]) :: T3, (4, ⟨0, 1, true, some (.agg [zI a0, zI a1, .sl 1 (List.map encInt []), zI 0, .sl 1 (List.map encInt [])])⟩) :: (6, ⟨0, 2, true, some (.agg [zI a0, zI a1, .junk, zI 0, .junk])⟩) :: (6, ⟨0, 1, true, some (.agg [zI a0, zI a1, .junk, zI 0, .sl 1 (List.map encInt [])])⟩) :: B3⟩ ?_
   refine runs_ret ?_
   exact fin _ _ h (by kernel_rfl)

set_option maxRecDepth 100000 in
set_option maxHeartbeats 2000000 in
theorem laws_markIntS_spec (a0 : (List Int)) (a1 : Int) (v0 : (Int) × (List Int)) (h : laws_markIntS a0 a1 = some v0) : Ax.Spec Try.prog 77 (some 0) [.sl 1 (List.map encInt a0), zI a1] (zI v0.1 : X) (.sl 1 (List.map encInt v0.2) : X) := by
 let T1 : List (Nat × X) := [(0, .view 9000 1 [] 0), (1, zI a1)]
 let B1 : List (Nat × Bx) := [(9000, ⟨1, 1, false, some (.sl 2 (List.map encInt a0))⟩)]
 refine walk0 (fn := Try.f77) (fun q0 : (Int) × (List Int) => (zI q0.1 : X)) (fun q0 : (Int) × (List Int) => (.sl 1 (List.map encInt q0.2) : X)) v0 ⟨T1, B1⟩ Try.func77 rfl (by decide +kernel) fun Γ hn fin => ?_
 rw [laws_markIntS] at h
 refine sqr cv hn ?_
 refine ro9 0 1 1 ⟨(4, zI 0) :: T1, B1⟩ ?_
 refine runs_seq ?_
 refine sqr cv hn ?_
 refine ro9 0 1 1 ⟨(5, zI 0) :: (4, zI 0) :: T1, B1⟩ ?_
 refine runs_block ?_
 refine runs_loopM (σ := Nat × Int × Int × (List Int)) (fun s => ⟨[(5, zI s.2.1), (0, .view 5000000 0 [] 0), (1, zI s.2.2.1)], [(5000000, ⟨0, 0, false, some (.sl 2 (List.map encInt s.2.2.2))⟩)]⟩) (fun s => laws_markIntS_l1 s.1 s.2.1 s.2.2.1 s.2.2.2 = some v0) (fun s => s.1) (fuel, 0, a1, a0) h (wre [5, 0, 1] [(5000000, 9000, false)]) ?_
 rintro ⟨n1, y8, y9, y10⟩ h
 let T2 : List (Nat × X) := [(5, zI y8), (0, .view 5000000 0 [] 0), (1, zI y9)]
 let B2 : List (Nat × Bx) := [(5000000, ⟨0, 0, false, some (.sl 2 (List.map encInt y10))⟩)]
 refine seq0 ⟨T2, B2⟩ ?_
 cases n1 with
 | zero => rw [laws_markIntS_l1] at h; cases h
 | succ n1 =>
   rw [laws_markIntS_l1] at h
   refine runs_seq ?_
   refine sqr cv hn ?_
   refine ro9 0 4 4 ⟨(9, zB (decide (y8 < (y10.length : Int)))) :: (8, zI (y10.length : Int)) :: (7, .view 5000000 0 [] 0) :: (6, zI y8) :: T2, B2⟩ ?_ (he := by rw [show (y10.length : Int) = ((List.map encInt y10).length : Int) from by rw [List.length_map]]; kernel_rfl)
   rcases dich (decide (y8 < (y10.length : Int))) with hb19 | hb19
   · replace h := cond_t hb19 h
     refine ct hb19 ?_
     refine runs_skip ?_
     refine runs_seq ?_
     refine runs_block ?_
     refine sqr cv hn ?_
     refine ro 0 3 3 ⟨(14, zI y9) :: (13, zI y8) :: (12, .view 5000000 0 [] 0) :: (9, zB (decide (y8 < (y10.length : Int)))) :: (8, zI (y10.length : Int)) :: (7, .view 5000000 0 [] 0) :: (6, zI y8) :: T2, B2⟩ ?_
     obtain ⟨x20, hx21, h⟩ := bindO h
     refine rix 3 encInt 3 hx21 (ix_nn hx21) ⟨(15, .ep 5000000 0 [(0, (Int.toNat y8))] 0) :: (14, zI y9) :: (13, zI y8) :: (12, .view 5000000 0 [] 0) :: (9, zB (decide (y8 < (y10.length : Int)))) :: (8, zI (y10.length : Int)) :: (7, .view 5000000 0 [] 0) :: (6, zI y8) :: T2, B2⟩ ?_
     refine ra 4 (zI x20 : X) (.sl 2 (List.map encInt (List.set y10 (Int.toNat y8) y9)) : X) ⟨(15, .ep 5000000 0 [(0, (Int.toNat y8))] 0) :: (14, zI y9) :: (13, zI y8) :: (12, .view 5000000 0 [] 0) :: (9, zB (decide (y8 < (y10.length : Int)))) :: (8, zI (y10.length : Int)) :: (7, .view 5000000 0 [] 0) :: (6, zI y8) :: T2, (5000000, ⟨0, 0, false, some (.sl 2 (List.map encInt (List.set y10 (Int.toNat y8) y9)))⟩) :: B2⟩ [X.nav (.sl 2 (List.map encInt y10) : X) [(0, (Int.toNat y8))] = some (zI x20 : X), X.upd false (.sl 2 (List.map encInt y10) : X) [(0, (Int.toNat y8))] (X.puts · 0 [zI y9]) = (.sl 2 (List.map encInt (List.set y10 (Int.toNat y8) y9)) : X)] ⟨nav_one (f := encInt) (t := 1) (by kernel_rfl) hx21, Eq.trans (upd_one (f := encInt) (v := y9) (t := 1) (by kernel_rfl) hx21 (by kernel_rfl)) (by kernel_rfl), trivial⟩ ?_
     refine re0 5 ?_
     refine rg cv hn ?_
     refine ro9 0 3 3 ⟨(1, zI (w64 (y9 + 1))) :: (17, zI (w64 (y9 + 1))) :: (16, zI y9) :: (15, .ep 5000000 0 [(0, (Int.toNat y8))] 0) :: (14, zI y9) :: (13, zI y8) :: (12, .view 5000000 0 [] 0) :: (9, zB (decide (y8 < (y10.length : Int)))) :: (8, zI (y10.length : Int)) :: (7, .view 5000000 0 [] 0) :: (6, zI y8) :: T2, (5000000, ⟨0, 0, false, some (.sl 2 (List.map encInt (List.set y10 (Int.toNat y8) y9)))⟩) :: B2⟩ ?_
     refine rg cv hn ?_
     refine ro9 0 3 3 ⟨(5, zI (w64 (y8 + 1))) :: (11, zI (w64 (y8 + 1))) :: (10, zI y8) :: (1, zI (w64 (y9 + 1))) :: (17, zI (w64 (y9 + 1))) :: (16, zI y9) :: (15, .ep 5000000 0 [(0, (Int.toNat y8))] 0) :: (14, zI y9) :: (13, zI y8) :: (12, .view 5000000 0 [] 0) :: (9, zB (decide (y8 < (y10.length : Int)))) :: (8, zI (y10.length : Int)) :: (7, .view 5000000 0 [] 0) :: (6, zI y8) :: T2, (5000000, ⟨0, 0, false, some (.sl 2 (List.map encInt (List.set y10 (Int.toNat y8) y9)))⟩) :: B2⟩ ?_
     exact ⟨(n1, w64 (y8 + 1), w64 (y9 + 1), List.set y10 (Int.toNat y8) y9), Nat.lt_succ_self _, h, wre [5, 0, 1] [(5000000, 5000000, false)]⟩
   · replace h := cond_f hb19 h
     refine cf hb19 ?_
     refine runs_exit ?_
     repeat refine thenX_exit ?_
     refine block_here ?_
     let B3 : List (Nat × Bx) := [(5000000, ⟨0, 0, false, some (.sl 2 (List.map encInt y10))⟩)]
     refine wkr [1] [(5000000, 5000000, false)] ⟨[(1, zI y9)], B3⟩ ?_
     refine sqr cv hn ?_
     refine ro9 0 2 2 ⟨[(4, zI y9), (18, zI y9), (1, zI y9)], B3⟩ ?_
     refine runs_ret ?_
     exact fin _ _ h (by kernel_rfl)

set_option maxRecDepth 100000 in
set_option maxHeartbeats 2000000 in
theorem laws_markProp_spec (a0 : SProp) (a1 : Int) (v0 : (Int) × SProp) (h : laws_markProp a0 a1 = some v0) : Ax.Spec Try.prog 34 (some 0) [encProp1 a0, zI a1] (zI v0.1 : X) (.agg [.junk, .junk, .sl 1 (List.map encInt v0.2.fFrom), .junk, .sl 1 (List.map encInt v0.2.fGot)] : X) := by
 let T1 : List (Nat × X) := [(0, .agg [zI a0.fBal, zI a0.fVal, .view 9000 1 [] 0, zI a0.fBest, .view 19000 1 [] 0]), (1, zI a1)]
 let B1 : List (Nat × Bx) := [(19000, ⟨1, 1, false, some (.sl 3 (List.map encInt a0.fGot))⟩), (9000, ⟨1, 1, false, some (.sl 2 (List.map encInt a0.fFrom))⟩)]
 refine walk0 (fn := Try.f34) (fun q0 : (Int) × SProp => (zI q0.1 : X)) (fun q0 : (Int) × SProp => (.agg [.junk, .junk, .sl 1 (List.map encInt q0.2.fFrom), .junk, .sl 1 (List.map encInt q0.2.fGot)] : X)) v0 ⟨T1, B1⟩ Try.func34 rfl (by decide +kernel) fun Γ hn fin => ?_
 rw [laws_markProp] at h
 refine sqr cv hn ?_
 refine ro9 0 2 2 ⟨(4, zI 0) :: (2, .ptr 2 1 0) :: T1, (2, ⟨1, 1, true, some (.agg [zI a0.fBal, zI a0.fVal, .sl 2 (List.map encInt a0.fFrom), zI a0.fBest, .sl 3 (List.map encInt a0.fGot)])⟩) :: (19000, ⟨1, 2, false, some (.junk)⟩) :: (9000, ⟨1, 2, false, some (.junk)⟩) :: B1⟩ ?_
 refine sqr cv hn ?_
 refine ro 0 3 3 ⟨(7, zI a1) :: (6, .view 2 1 [] 2) :: (5, .ptr 2 1 2) :: (4, zI 0) :: (2, .ptr 2 1 0) :: T1, (2, ⟨1, 1, true, some (.agg [zI a0.fBal, zI a0.fVal, .sl 2 (List.map encInt a0.fFrom), zI a0.fBest, .sl 3 (List.map encInt a0.fGot)])⟩) :: (19000, ⟨1, 2, false, some (.junk)⟩) :: (9000, ⟨1, 2, false, some (.junk)⟩) :: B1⟩ ?_
 obtain ⟨v3, hv4, h⟩ := bindO h
 refine rc 3 ⟨(8, zI v3.1) :: (7, zI a1) :: (6, .view 2 1 [] 2) :: (5, .ptr 2 1 2) :: (4, zI 0) :: (2, .ptr 2 1 0) :: T1, (2, ⟨1, 1, true, some (.agg [zI a0.fBal, zI a0.fVal, .sl 2 (List.map encInt v3.2), zI a0.fBest, .sl 3 (List.map encInt a0.fGot)])⟩) :: (2, ⟨1, 1, true, some (.agg [zI a0.fBal, zI a0.fVal, .sl 2 (List.map encInt a0.fFrom), zI a0.fBest, .sl 3 (List.map encInt a0.fGot)])⟩) :: (19000, ⟨1, 2, false, some (.junk)⟩) :: (9000, ⟨1, 2, false, some (.junk)⟩) :: B1⟩ (laws_markIntS_spec a0.fFrom a1 v3 hv4) ?_
 refine ro9 4 1 1 ⟨(1, zI v3.1) :: (8, zI v3.1) :: (7, zI a1) :: (6, .view 2 1 [] 2) :: (5, .ptr 2 1 2) :: (4, zI 0) :: (2, .ptr 2 1 0) :: T1, (2, ⟨1, 1, true, some (.agg [zI a0.fBal, zI a0.fVal, .sl 2 (List.map encInt v3.2), zI a0.fBest, .sl 3 (List.map encInt a0.fGot)])⟩) :: (2, ⟨1, 1, true, some (.agg [zI a0.fBal, zI a0.fVal, .sl 2 (List.map encInt a0.fFrom), zI a0.fBest, .sl 3 (List.map encInt a0.fGot)])⟩) :: (19000, ⟨1, 2, false, some (.junk)⟩) :: (9000, ⟨1, 2, false, some (.junk)⟩) :: B1⟩ ?_
 let B2 : List (Nat × Bx) := [(2, ⟨0, 0, true, some (.agg [zI a0.fBal, zI a0.fVal, .sl 2 (List.map encInt v3.2), zI a0.fBest, .sl 3 (List.map encInt a0.fGot)])⟩)]
 refine wkr [1, 2] [(2, 2, false)] ⟨[(1, zI v3.1), (2, .ptr 2 0 0)], B2⟩ ?_
 refine sqr cv hn ?_
 refine ro 0 3 3 ⟨[(11, zI v3.1), (10, .view 2 0 [] 4), (9, .ptr 2 0 4), (1, zI v3.1), (2, .ptr 2 0 0)], B2⟩ ?_
 obtain ⟨v5, hv6, h⟩ := bindO h
 refine rc 3 ⟨[(12, zI v5.1), (11, zI v3.1), (10, .view 2 0 [] 4), (9, .ptr 2 0 4), (1, zI v3.1), (2, .ptr 2 0 0)], (2, ⟨0, 0, true, some (.agg [zI a0.fBal, zI a0.fVal, .sl 2 (List.map encInt v3.2), zI a0.fBest, .sl 3 (List.map encInt v5.2)])⟩) :: B2⟩ (laws_markIntS_spec a0.fGot v3.1 v5 hv6) ?_
 refine ro9 4 1 1 ⟨[(1, zI v5.1), (12, zI v5.1), (11, zI v3.1), (10, .view 2 0 [] 4), (9, .ptr 2 0 4), (1, zI v3.1), (2, .ptr 2 0 0)], (2, ⟨0, 0, true, some (.agg [zI a0.fBal, zI a0.fVal, .sl 2 (List.map encInt v3.2), zI a0.fBest, .sl 3 (List.map encInt v5.2)])⟩) :: B2⟩ ?_
 let B3 : List (Nat × Bx) := [(2, ⟨0, 0, true, some (.agg [zI a0.fBal, zI a0.fVal, .sl 2 (List.map encInt v3.2), zI a0.fBest, .sl 3 (List.map encInt v5.2)])⟩)]
 refine wkr [1] [(2, 2, false)] ⟨[(1, zI v5.1)], B3⟩ ?_
 refine sqr cv hn ?_
 refine ro9 0 2 2 ⟨[(4, zI v5.1), (13, zI v5.1), (1, zI v5.1)], B3⟩ ?_
 refine runs_ret ?_
 exact fin _ _ h (by kernel_rfl)

set_option maxRecDepth 100000 in
set_option maxHeartbeats 2000000 in
theorem laws_heldIntS_spec (a0 : (List Int)) (a1 : Int) (v0 : Int) (h : laws_heldIntS a0 a1 = some v0) : Ax.Spec Try.prog 78 none [.sl 0 (List.map encInt a0), zI a1] (zI v0 : X) (.junk : X) := by
 let T1 : List (Nat × X) := [(0, .sl 0 (List.map encInt a0)), (1, zI a1)]
 refine walk0 (fn := Try.f78) (fun q0 : Int => (zI q0 : X)) (fun q0 : Int => (.junk : X)) v0 ⟨T1, []⟩ Try.func78 rfl (by decide +kernel) fun Γ hn fin => ?_
 rw [laws_heldIntS] at h
 refine sqr cv hn ?_
 refine ro9 0 1 1 ⟨(4, zI 0) :: T1, []⟩ ?_
 refine runs_seq ?_
 refine sqr cv hn ?_
 refine ro9 0 1 1 ⟨(5, zI 0) :: (4, zI 0) :: T1, []⟩ ?_
 refine runs_block ?_
 refine runs_loopM (σ := List Int × Nat × Int) (fun s => ⟨[(5, zI (s.2.1 : Int)), (0, .sl 0 (List.map encInt a0)), (1, zI s.2.2)], []⟩) (fun s => s.1 = List.drop s.2.1 a0 ∧ laws_heldIntS_l1 s.1 s.2.1 s.2.2 = some v0) (fun s => s.1.length) (a0, 0, a1) ⟨rfl, h⟩ (wre [5, 0, 1] []) ?_
 rintro ⟨t1, i1, y9⟩ ⟨hd1, h⟩
 refine seq0 ⟨[(5, zI (i1 : Int)), (0, .sl 0 (List.map encInt a0)), (1, zI y9)], []⟩ ?_
 refine runs_len 0 (es := List.map encInt a0) (by kernel_rfl) fun hl1 => ?_
 replace hl1 := len_of_map hl1
 cases t1 with
 | nil =>
   rw [laws_heldIntS_l1] at h
   have hLn1 := dnil hd1
   refine runs_seq ?_
   refine sqr cv hn ?_
   refine ro9 0 4 4 ⟨[(9, zB (decide ((i1 : Int) < (a0.length : Int)))), (8, zI (a0.length : Int)), (7, .sl 0 (List.map encInt a0)), (6, zI (i1 : Int)), (5, zI (i1 : Int)), (0, .sl 0 (List.map encInt a0)), (1, zI y9)], []⟩ ?_ (he := by rw [show (a0.length : Int) = ((List.map encInt a0).length : Int) from by rw [List.length_map]]; kernel_rfl)
   refine cf hLn1 ?_
   refine runs_exit ?_
   repeat refine thenX_exit ?_
   refine block_here ?_
   refine wkr [1] [] ⟨[(1, zI y9)], []⟩ ?_
   refine sqr cv hn ?_
   refine ro9 0 2 2 ⟨[(4, zI y9), (20, zI y9), (1, zI y9)], []⟩ ?_
   refine runs_ret ?_
   exact fin _ _ h (by kernel_rfl)
 | cons x10 t1 =>
   rw [laws_heldIntS_l1] at h
   have hLc1 := dcons hd1
   have hx10 := dget hd1
   have hi1 := dinc hd1 hl1
   refine runs_seq ?_
   refine sqr cv hn ?_
   refine ro9 0 4 4 ⟨[(9, zB (decide ((i1 : Int) < (a0.length : Int)))), (8, zI (a0.length : Int)), (7, .sl 0 (List.map encInt a0)), (6, zI (i1 : Int)), (5, zI (i1 : Int)), (0, .sl 0 (List.map encInt a0)), (1, zI y9)], []⟩ ?_ (he := by rw [show (a0.length : Int) = ((List.map encInt a0).length : Int) from by rw [List.length_map]]; kernel_rfl)
   refine ct hLc1 ?_
   refine runs_skip ?_
   refine runs_seq ?_
   refine runs_block ?_
   refine runs_seq ?_
   refine sqr cv hn ?_
   refine ro 0 2 2 ⟨[(13, zI (i1 : Int)), (12, .sl 0 (List.map encInt a0)), (9, zB (decide ((i1 : Int) < (a0.length : Int)))), (8, zI (a0.length : Int)), (7, .sl 0 (List.map encInt a0)), (6, zI (i1 : Int)), (5, zI (i1 : Int)), (0, .sl 0 (List.map encInt a0)), (1, zI y9)], []⟩ ?_
   refine rix 2 encInt 3 hx10 (ix_nn hx10) ⟨[(14, .rp (zI x10) 0), (13, zI (i1 : Int)), (12, .sl 0 (List.map encInt a0)), (9, zB (decide ((i1 : Int) < (a0.length : Int)))), (8, zI (a0.length : Int)), (7, .sl 0 (List.map encInt a0)), (6, zI (i1 : Int)), (5, zI (i1 : Int)), (0, .sl 0 (List.map encInt a0)), (1, zI y9)], []⟩ ?_
   refine ro9 3 3 3 ⟨[(17, zB (x10 != y9)), (16, zI y9), (15, zI x10), (14, .rp (zI x10) 0), (13, zI (i1 : Int)), (12, .sl 0 (List.map encInt a0)), (9, zB (decide ((i1 : Int) < (a0.length : Int)))), (8, zI (a0.length : Int)), (7, .sl 0 (List.map encInt a0)), (6, zI (i1 : Int)), (5, zI (i1 : Int)), (0, .sl 0 (List.map encInt a0)), (1, zI y9)], []⟩ ?_
   rcases dich (x10 != y9) with hb17 | hb17
   · replace h := cond_t hb17 h
     refine ct hb17 ?_
     refine sqr cv hn ?_
     refine ro9 0 1 1 ⟨[(4, zI (-1)), (17, zB (x10 != y9)), (16, zI y9), (15, zI x10), (14, .rp (zI x10) 0), (13, zI (i1 : Int)), (12, .sl 0 (List.map encInt a0)), (9, zB (decide ((i1 : Int) < (a0.length : Int)))), (8, zI (a0.length : Int)), (7, .sl 0 (List.map encInt a0)), (6, zI (i1 : Int)), (5, zI (i1 : Int)), (0, .sl 0 (List.map encInt a0)), (1, zI y9)], []⟩ ?_
     refine runs_ret ?_
     exact fin _ _ h (by kernel_rfl)
   · replace h := cond_f hb17 h
     refine cf hb17 ?_
     refine runs_skip ?_
     refine rg cv hn ?_
     refine ro9 0 3 3 ⟨[(1, zI (w64 (y9 + 1))), (19, zI (w64 (y9 + 1))), (18, zI y9), (17, zB (x10 != y9)), (16, zI y9), (15, zI x10), (14, .rp (zI x10) 0), (13, zI (i1 : Int)), (12, .sl 0 (List.map encInt a0)), (9, zB (decide ((i1 : Int) < (a0.length : Int)))), (8, zI (a0.length : Int)), (7, .sl 0 (List.map encInt a0)), (6, zI (i1 : Int)), (5, zI (i1 : Int)), (0, .sl 0 (List.map encInt a0)), (1, zI y9)], []⟩ ?_
     refine rg cv hn ?_
     refine ro9 0 3 3 ⟨[(5, zI ((i1 + 1 : Nat) : Int)), (11, zI ((i1 + 1 : Nat) : Int)), (10, zI (i1 : Int)), (1, zI (w64 (y9 + 1))), (19, zI (w64 (y9 + 1))), (18, zI y9), (17, zB (x10 != y9)), (16, zI y9), (15, zI x10), (14, .rp (zI x10) 0), (13, zI (i1 : Int)), (12, .sl 0 (List.map encInt a0)), (9, zB (decide ((i1 : Int) < (a0.length : Int)))), (8, zI (a0.length : Int)), (7, .sl 0 (List.map encInt a0)), (6, zI (i1 : Int)), (5, zI (i1 : Int)), (0, .sl 0 (List.map encInt a0)), (1, zI y9)], []⟩ ?_ (he := by rw [← hi1]; kernel_rfl)
     exact ⟨(t1, i1 + 1, w64 (y9 + 1)), Nat.lt_succ_self _, ⟨dnext hd1, h⟩, wre [5, 0, 1] []⟩

set_option maxRecDepth 100000 in
set_option maxHeartbeats 2000000 in
theorem laws_heldProp_spec (a0 : SProp) (a1 : Int) (v0 : Int) (h : laws_heldProp a0 a1 = some v0) : Ax.Spec Try.prog 35 none [encProp0 a0, zI a1] (zI v0 : X) (.junk : X) := by
 refine walk0 (fn := Try.f35) (fun q0 : Int => (zI q0 : X)) (fun q0 : Int => (.junk : X)) v0 ⟨[(0, encProp0 a0), (1, zI a1)], []⟩ Try.func35 rfl (by decide +kernel) fun Γ hn fin => ?_
 rw [laws_heldProp] at h
 refine sqr cv hn ?_
 refine ro9 0 2 2 ⟨[(4, zI 0), (2, .ptr 2 1 0), (0, encProp0 a0), (1, zI a1)], [(2, ⟨1, 1, true, some (encProp0 a0)⟩)]⟩ ?_
 refine sqr cv hn ?_
 refine ro 0 3 3 ⟨[(7, zI a1), (6, .sl 0 (List.map encInt a0.fFrom)), (5, .ptr 2 1 2), (4, zI 0), (2, .ptr 2 1 0), (0, encProp0 a0), (1, zI a1)], [(2, ⟨1, 1, true, some (encProp0 a0)⟩)]⟩ ?_
 obtain ⟨v3, hv4, h⟩ := bindO h
 refine rc 3 ⟨[(8, zI v3), (7, zI a1), (6, .sl 0 (List.map encInt a0.fFrom)), (5, .ptr 2 1 2), (4, zI 0), (2, .ptr 2 1 0), (0, encProp0 a0), (1, zI a1)], [(2, ⟨1, 1, true, some (encProp0 a0)⟩)]⟩ (laws_heldIntS_spec a0.fFrom a1 v3 hv4) ?_
 refine ro9 4 1 1 ⟨[(1, zI v3), (8, zI v3), (7, zI a1), (6, .sl 0 (List.map encInt a0.fFrom)), (5, .ptr 2 1 2), (4, zI 0), (2, .ptr 2 1 0), (0, encProp0 a0), (1, zI a1)], [(2, ⟨1, 1, true, some (encProp0 a0)⟩)]⟩ ?_
 refine runs_seq ?_
 let B3 : List (Nat × Bx) := [(2, ⟨0, 0, true, some (encProp0 a0)⟩)]
 refine wkr [1, 2] [(2, 2, false)] ⟨[(1, zI v3), (2, .ptr 2 0 0)], B3⟩ ?_
 refine sqr cv hn ?_
 refine ro9 0 2 2 ⟨[(10, zB (decide (v3 < 0))), (9, zI v3), (1, zI v3), (2, .ptr 2 0 0)], B3⟩ ?_
 rcases dich (decide (v3 < 0)) with hb6 | hb6
 · replace h := cond_t hb6 h
   refine ct hb6 ?_
   refine sqr cv hn ?_
   refine ro9 0 1 1 ⟨[(4, zI (-1)), (10, zB (decide (v3 < 0))), (9, zI v3), (1, zI v3), (2, .ptr 2 0 0)], B3⟩ ?_
   refine runs_ret ?_
   exact fin _ _ h (by kernel_rfl)
 · replace h := cond_f hb6 h
   refine cf hb6 ?_
   refine runs_skip ?_
   refine sqr cv hn ?_
   refine ro 0 3 3 ⟨[(13, zI v3), (12, .sl 0 (List.map encInt a0.fGot)), (11, .ptr 2 0 4), (10, zB (decide (v3 < 0))), (9, zI v3), (1, zI v3), (2, .ptr 2 0 0)], B3⟩ ?_
   obtain ⟨v9, hv10, h⟩ := bindO h
   refine rc 3 ⟨[(14, zI v9), (13, zI v3), (12, .sl 0 (List.map encInt a0.fGot)), (11, .ptr 2 0 4), (10, zB (decide (v3 < 0))), (9, zI v3), (1, zI v3), (2, .ptr 2 0 0)], B3⟩ (laws_heldIntS_spec a0.fGot v3 v9 hv10) ?_
   refine ro9 4 1 1 ⟨[(1, zI v9), (14, zI v9), (13, zI v3), (12, .sl 0 (List.map encInt a0.fGot)), (11, .ptr 2 0 4), (10, zB (decide (v3 < 0))), (9, zI v3), (1, zI v3), (2, .ptr 2 0 0)], B3⟩ ?_
   refine runs_seq ?_
   refine wkr [1] [] ⟨[(1, zI v9)], []⟩ ?_
   refine sqr cv hn ?_
   refine ro9 0 2 2 ⟨[(16, zB (decide (v9 < 0))), (15, zI v9), (1, zI v9)], []⟩ ?_
   rcases dich (decide (v9 < 0)) with hb11 | hb11
   · replace h := cond_t hb11 h
     refine ct hb11 ?_
     refine sqr cv hn ?_
     refine ro9 0 1 1 ⟨[(4, zI (-1)), (16, zB (decide (v9 < 0))), (15, zI v9), (1, zI v9)], []⟩ ?_
     refine runs_ret ?_
     exact fin _ _ h (by kernel_rfl)
   · replace h := cond_f hb11 h
     refine cf hb11 ?_
     refine runs_skip ?_
     refine sqr cv hn ?_
     refine ro9 0 2 2 ⟨[(4, zI v9), (17, zI v9), (16, zB (decide (v9 < 0))), (15, zI v9), (1, zI v9)], []⟩ ?_
     refine runs_ret ?_
     exact fin _ _ h (by kernel_rfl)

set_option maxRecDepth 100000 in
set_option maxHeartbeats 2000000 in
theorem laws_FnExactPropNew_spec (a0 : Int) (a1 : Int) (v0 : Bool) (h : laws_FnExactPropNew a0 a1 = some v0) : Ax.Spec Try.prog 8 none [zI a0, zI a1] (zB v0 : X) (.junk : X) := by
 refine walk0 (fn := Try.f8) (fun q0 : Bool => (zB q0 : X)) (fun q0 : Bool => (.junk : X)) v0 ⟨[(0, zI a0), (1, zI a1)], []⟩ Try.func8 rfl (by decide +kernel) fun Γ hn fin => ?_
 rw [laws_FnExactPropNew] at h
 refine sqr cv hn ?_
 refine ro9 0 1 1 ⟨[(4, zB false), (0, zI a0), (1, zI a1)], []⟩ ?_
 refine sqr cv hn ?_
 refine ro 0 2 2 ⟨[(15, zI a1), (14, zI a0), (4, zB false), (0, zI a0), (1, zI a1)], []⟩ ?_
 obtain ⟨v3, hv4, h⟩ := bindO h
 refine rc 2 ⟨[(16, .tup [.agg [zI v3.1.fBal, zI v3.1.fVal, .view 16 1 [] 0, zI v3.1.fBest, .view 10016 1 [] 0], zB v3.2]), (15, zI a1), (14, zI a0), (4, zB false), (0, zI a0), (1, zI a1)], [(10016, ⟨1, 1, false, some (.sl 1 (List.map encInt v3.1.fGot))⟩), (16, ⟨1, 1, false, some (.sl 1 (List.map encInt v3.1.fFrom))⟩)]⟩ (spec_PropNew_spec a0 a1 v3 hv4) ?_
 refine ro9 3 6 6 ⟨[(6, zB v3.2), (5, .ptr 5 1 0), (18, zB v3.2), (17, .agg [zI v3.1.fBal, zI v3.1.fVal, .view 16 1 [] 0, zI v3.1.fBest, .view 10016 1 [] 0]), (13, .tup [.agg [zI v3.1.fBal, zI v3.1.fVal, .view 16 1 [] 0, zI v3.1.fBest, .view 10016 1 [] 0], zB v3.2]), (16, .tup [.agg [zI v3.1.fBal, zI v3.1.fVal, .view 16 1 [] 0, zI v3.1.fBest, .view 10016 1 [] 0], zB v3.2]), (15, zI a1), (14, zI a0), (4, zB false), (0, zI a0), (1, zI a1)], [(5, ⟨1, 2, true, some (encProp1 v3.1)⟩), (10016, ⟨1, 2, false, some (.junk)⟩), (16, ⟨1, 2, false, some (.junk)⟩), (5, ⟨1, 1, true, some (.agg [zI 0, zI 0, .sl 1 (List.map encInt []), zI 0, .sl 1 (List.map encInt [])])⟩), (10016, ⟨1, 1, false, some (.sl 1 (List.map encInt v3.1.fGot))⟩), (16, ⟨1, 1, false, some (.sl 1 (List.map encInt v3.1.fFrom))⟩)]⟩ ?_
 let T3 : List (Nat × X) := [(6, zB v3.2), (5, .ptr 5 0 0), (0, zI a0), (1, zI a1)]
 let B3 : List (Nat × Bx) := [(5, ⟨0, 0, true, some (encProp1 v3.1)⟩)]
 refine wkr [6, 5, 0, 1] [(5, 5, false)] ⟨T3, B3⟩ ?_
 refine sqr cv hn ?_
 refine ro 0 2 2 ⟨(21, zI a1) :: (20, zI a0) :: T3, B3⟩ ?_
 obtain ⟨v7, hv8, h⟩ := bindO h
 refine rc 2 ⟨(22, .tup [.agg [zI v7.1.fBal, zI v7.1.fVal, .view 22 1 [] 0, zI v7.1.fBest, .view 10022 1 [] 0], zB v7.2]) :: (21, zI a1) :: (20, zI a0) :: T3, (10022, ⟨1, 1, false, some (.sl 1 (List.map encInt v7.1.fGot))⟩) :: (22, ⟨1, 1, false, some (.sl 1 (List.map encInt v7.1.fFrom))⟩) :: B3⟩ (impl_PropNew_spec a0 a1 v7 hv8) ?_
 refine ro9 3 6 6 ⟨(8, zB v7.2) :: (7, .ptr 7 1 0) :: (24, zB v7.2) :: (23, .agg [zI v7.1.fBal, zI v7.1.fVal, .view 22 1 [] 0, zI v7.1.fBest, .view 10022 1 [] 0]) :: (19, .tup [.agg [zI v7.1.fBal, zI v7.1.fVal, .view 22 1 [] 0, zI v7.1.fBest, .view 10022 1 [] 0], zB v7.2]) :: (22, .tup [.agg [zI v7.1.fBal, zI v7.1.fVal, .view 22 1 [] 0, zI v7.1.fBest, .view 10022 1 [] 0], zB v7.2]) :: (21, zI a1) :: (20, zI a0) :: T3, (7, ⟨1, 2, true, some (encProp1 v7.1)⟩) :: (10022, ⟨1, 2, false, some (.junk)⟩) :: (22, ⟨1, 2, false, some (.junk)⟩) :: (7, ⟨1, 1, true, some (.agg [zI 0, zI 0, .sl 1 (List.map encInt []), zI 0, .sl 1 (List.map encInt [])])⟩) :: (10022, ⟨1, 1, false, some (.sl 1 (List.map encInt v7.1.fGot))⟩) :: (22, ⟨1, 1, false, some (.sl 1 (List.map encInt v7.1.fFrom))⟩) :: B3⟩ ?_
 refine runs_seq ?_
 let T7 : List (Nat × X) := [(8, zB v7.2), (7, .ptr 7 0 0), (6, zB v3.2), (5, .ptr 5 0 0), (0, zI a0), (1, zI a1)]
 let B7 : List (Nat × Bx) := [(7, ⟨0, 0, true, some (encProp1 v7.1)⟩), (5, ⟨0, 0, true, some (encProp1 v3.1)⟩)]
 refine wkr [8, 7, 6, 5, 0, 1] [(7, 7, false), (5, 5, false)] ⟨T7, B7⟩ ?_
 refine sqr cv hn ?_
 refine ro 0 2 2 ⟨(26, .agg [zI v3.1.fBal, zI v3.1.fVal, .view 5 0 [] 2, zI v3.1.fBest, .view 5 0 [] 4]) :: (25, .agg [zI v7.1.fBal, zI v7.1.fVal, .view 7 0 [] 2, zI v7.1.fBest, .view 7 0 [] 4]) :: T7, B7⟩ ?_
 obtain ⟨v13, hv14, h⟩ := bindO h
 refine rcH 2 [List.map encInt v7.1.fFrom, List.map encInt v7.1.fGot, List.map encInt v3.1.fFrom, List.map encInt v3.1.fGot] ⟨(27, zB v13) :: (26, .agg [zI v3.1.fBal, zI v3.1.fVal, .view 5 0 [] 2, zI v3.1.fBest, .view 5 0 [] 4]) :: (25, .agg [zI v7.1.fBal, zI v7.1.fVal, .view 7 0 [] 2, zI v7.1.fBest, .view 7 0 [] 4]) :: T7, B7⟩ [X.rds (List.map encInt v7.1.fFrom) = true, X.roifys (List.map encInt v7.1.fFrom) = List.map encInt v7.1.fFrom, X.rds (List.map encInt v7.1.fGot) = true, X.roifys (List.map encInt v7.1.fGot) = List.map encInt v7.1.fGot, X.rds (List.map encInt v3.1.fFrom) = true, X.roifys (List.map encInt v3.1.fFrom) = List.map encInt v3.1.fFrom, X.rds (List.map encInt v3.1.fGot) = true, X.roifys (List.map encInt v3.1.fGot) = List.map encInt v3.1.fGot, rootsBut (cv 27) 0 [.agg [zI v7.1.fBal, zI v7.1.fVal, .view 7 0 [] 2, zI v7.1.fBest, .view 7 0 [] 4], .agg [zI v3.1.fBal, zI v3.1.fVal, .view 5 0 [] 2, zI v3.1.fBest, .view 5 0 [] 4]] = false ∨ (X.noRo (zB v13 : X) = true ∧ X.noRo (.junk : X) = true)] (laws_eqProp_spec v7.1 v3.1 v13 hv14) ⟨rds_map rde_Int _, ro_map ro_Int _, rds_map rde_Int _, ro_map ro_Int _, rds_map rde_Int _, ro_map ro_Int _, rds_map rde_Int _, ro_map ro_Int _, .inr ⟨rfl, rfl⟩, trivial⟩ ?_
 refine ro 3 2 2 ⟨(29, zB (!v13)) :: (28, zB (!v13)) :: (27, zB v13) :: (26, .agg [zI v3.1.fBal, zI v3.1.fVal, .view 5 0 [] 2, zI v3.1.fBest, .view 5 0 [] 4]) :: (25, .agg [zI v7.1.fBal, zI v7.1.fVal, .view 7 0 [] 2, zI v7.1.fBest, .view 7 0 [] 4]) :: T7, B7⟩ ?_
 rcases dich (!v13) with hb15 | hb15
 · replace h := cond_t hb15 h
   refine rl 29 true hb15 ?_
   refine ro9 5 4 1 ⟨(33, zB true) :: (32, .tup []) :: (31, .tup []) :: (30, .tup []) :: (29, zB true) :: (28, zB (!v13)) :: (27, zB v13) :: (26, .agg [zI v3.1.fBal, zI v3.1.fVal, .view 5 0 [] 2, zI v3.1.fBest, .view 5 0 [] 4]) :: (25, .agg [zI v7.1.fBal, zI v7.1.fVal, .view 7 0 [] 2, zI v7.1.fBest, .view 7 0 [] 4]) :: T7, B7⟩ ?_
   refine cT ?_
   let T8 : List (Nat × X) := [(7, .ptr 7 0 0), (6, zB v3.2), (5, .ptr 5 0 0), (0, zI a0), (1, zI a1)]
   let B8 : List (Nat × Bx) := [(7, ⟨0, 0, true, some (encProp1 v7.1)⟩), (5, ⟨0, 0, true, some (encProp1 v3.1)⟩)]
   refine wkr [7, 6, 5, 0, 1] [(7, 7, false), (5, 5, false)] ⟨T8, B8⟩ ?_
   refine sqr cv hn ?_
   refine ro9 0 1 1 ⟨(4, zB false) :: T8, B8⟩ ?_
   refine runs_ret ?_
   exact fin _ _ h (by kernel_rfl)
 · replace h := cond_f hb15 h
   refine rl 29 false hb15 ?_
   refine ro9 5 4 4 ⟨(33, zB (v7.2 != v3.2)) :: (32, zB (v7.2 != v3.2)) :: (31, zB v3.2) :: (30, zB v7.2) :: (29, zB false) :: (28, zB (!v13)) :: (27, zB v13) :: (26, .agg [zI v3.1.fBal, zI v3.1.fVal, .view 5 0 [] 2, zI v3.1.fBest, .view 5 0 [] 4]) :: (25, .agg [zI v7.1.fBal, zI v7.1.fVal, .view 7 0 [] 2, zI v7.1.fBest, .view 7 0 [] 4]) :: T7, B7⟩ ?_
   rcases dich (v7.2 != v3.2) with hb16 | hb16
   · replace h := cond_t hb16 h
     refine ct hb16 ?_
     let T9 : List (Nat × X) := [(7, .ptr 7 0 0), (6, zB v3.2), (5, .ptr 5 0 0), (0, zI a0), (1, zI a1)]
     let B9 : List (Nat × Bx) := [(7, ⟨0, 0, true, some (encProp1 v7.1)⟩), (5, ⟨0, 0, true, some (encProp1 v3.1)⟩)]
     refine wkr [7, 6, 5, 0, 1] [(7, 7, false), (5, 5, false)] ⟨T9, B9⟩ ?_
     refine sqr cv hn ?_
     refine ro9 0 1 1 ⟨(4, zB false) :: T9, B9⟩ ?_
     refine runs_ret ?_
     exact fin _ _ h (by kernel_rfl)
   · replace h := cond_f hb16 h
     refine cf hb16 ?_
     refine runs_skip ?_
     let T11 : List (Nat × X) := [(7, .ptr 7 0 0), (6, zB v3.2), (5, .ptr 5 0 0), (0, zI a0), (1, zI a1)]
     let B11 : List (Nat × Bx) := [(7, ⟨0, 0, true, some (encProp1 v7.1)⟩), (5, ⟨0, 0, true, some (encProp1 v3.1)⟩)]
     refine wkr [7, 6, 5, 0, 1] [(7, 7, false), (5, 5, false)] ⟨T11, B11⟩ ?_
     refine sqr cv hn ?_
     refine ro9 0 1 1 ⟨(9, zI 1) :: T11, B11⟩ ?_
     refine sqr cv hn ?_
     refine ro 0 2 2 ⟨(35, zI 1) :: (34, .agg [zI v7.1.fBal, zI v7.1.fVal, .view 7 0 [] 2, zI v7.1.fBest, .view 7 0 [] 4]) :: (9, zI 1) :: T11, B11⟩ ?_
     obtain ⟨v19, hv20, h⟩ := bindO h
     refine rc 2 ⟨(36, zI v19.1) :: (35, zI 1) :: (34, .agg [zI v7.1.fBal, zI v7.1.fVal, .view 7 0 [] 2, zI v7.1.fBest, .view 7 0 [] 4]) :: (9, zI 1) :: T11, (7, ⟨0, 1, true, some (.agg [zI v7.1.fBal, zI v7.1.fVal, .sl 1 (List.map encInt v19.2.fFrom), zI v7.1.fBest, .sl 1 (List.map encInt v19.2.fGot)])⟩) :: B11⟩ (laws_markProp_spec v7.1 1 v19 hv20) ?_
     refine ro9 3 1 1 ⟨(9, zI v19.1) :: (36, zI v19.1) :: (35, zI 1) :: (34, .agg [zI v7.1.fBal, zI v7.1.fVal, .view 7 0 [] 2, zI v7.1.fBest, .view 7 0 [] 4]) :: (9, zI 1) :: T11, (7, ⟨0, 1, true, some (.agg [zI v7.1.fBal, zI v7.1.fVal, .sl 1 (List.map encInt v19.2.fFrom), zI v7.1.fBest, .sl 1 (List.map encInt v19.2.fGot)])⟩) :: B11⟩ ?_
     refine sqr cv hn ?_
     refine ro9 0 1 1 ⟨(10, zI 1) :: (9, zI v19.1) :: (36, zI v19.1) :: (35, zI 1) :: (34, .agg [zI v7.1.fBal, zI v7.1.fVal, .view 7 0 [] 2, zI v7.1.fBest, .view 7 0 [] 4]) :: (9, zI 1) :: T11, (7, ⟨0, 1, true, some (.agg [zI v7.1.fBal, zI v7.1.fVal, .sl 1 (List.map encInt v19.2.fFrom), zI v7.1.fBest, .sl 1 (List.map encInt v19.2.fGot)])⟩) :: B11⟩ ?_
     refine sqr cv hn ?_
     refine ro 0 2 2 ⟨(38, zI 1) :: (37, .agg [zI v7.1.fBal, zI v7.1.fVal, .view 7 1 [] 2, zI v7.1.fBest, .view 7 1 [] 4]) :: (10, zI 1) :: (9, zI v19.1) :: (36, zI v19.1) :: (35, zI 1) :: (34, .agg [zI v7.1.fBal, zI v7.1.fVal, .view 7 0 [] 2, zI v7.1.fBest, .view 7 0 [] 4]) :: (9, zI 1) :: T11, (7, ⟨0, 1, true, some (.agg [zI v7.1.fBal, zI v7.1.fVal, .sl 1 (List.map encInt v19.2.fFrom), zI v7.1.fBest, .sl 1 (List.map encInt v19.2.fGot)])⟩) :: B11⟩ ?_
     obtain ⟨v23, hv24, h⟩ := bindO h
     refine rcH 2 [List.map encInt v19.2.fFrom, List.map encInt v19.2.fGot] ⟨(39, zI v23) :: (38, zI 1) :: (37, .agg [zI v7.1.fBal, zI v7.1.fVal, .view 7 1 [] 2, zI v7.1.fBest, .view 7 1 [] 4]) :: (10, zI 1) :: (9, zI v19.1) :: (36, zI v19.1) :: (35, zI 1) :: (34, .agg [zI v7.1.fBal, zI v7.1.fVal, .view 7 0 [] 2, zI v7.1.fBest, .view 7 0 [] 4]) :: (9, zI 1) :: T11, (7, ⟨0, 1, true, some (.agg [zI v7.1.fBal, zI v7.1.fVal, .sl 1 (List.map encInt v19.2.fFrom), zI v7.1.fBest, .sl 1 (List.map encInt v19.2.fGot)])⟩) :: B11⟩ [X.rds (List.map encInt v19.2.fFrom) = true, X.roifys (List.map encInt v19.2.fFrom) = List.map encInt v19.2.fFrom, X.rds (List.map encInt v19.2.fGot) = true, X.roifys (List.map encInt v19.2.fGot) = List.map encInt v19.2.fGot, rootsBut (cv 35) 0 [.agg [zI v7.1.fBal, zI v7.1.fVal, .view 7 1 [] 2, zI v7.1.fBest, .view 7 1 [] 4], zI 1] = false ∨ (X.noRo (zI v23 : X) = true ∧ X.noRo (.junk : X) = true)] (laws_heldProp_spec { v7.1 with fFrom := v19.2.fFrom, fGot := v19.2.fGot } 1 v23 hv24) ⟨rds_map rde_Int _, ro_map ro_Int _, rds_map rde_Int _, ro_map ro_Int _, .inr ⟨rfl, rfl⟩, trivial⟩ ?_
     refine ro9 3 1 1 ⟨(10, zI v23) :: (39, zI v23) :: (38, zI 1) :: (37, .agg [zI v7.1.fBal, zI v7.1.fVal, .view 7 1 [] 2, zI v7.1.fBest, .view 7 1 [] 4]) :: (10, zI 1) :: (9, zI v19.1) :: (36, zI v19.1) :: (35, zI 1) :: (34, .agg [zI v7.1.fBal, zI v7.1.fVal, .view 7 0 [] 2, zI v7.1.fBest, .view 7 0 [] 4]) :: (9, zI 1) :: T11, (7, ⟨0, 1, true, some (.agg [zI v7.1.fBal, zI v7.1.fVal, .sl 1 (List.map encInt v19.2.fFrom), zI v7.1.fBest, .sl 1 (List.map encInt v19.2.fGot)])⟩) :: B11⟩ ?_
     refine runs_seq ?_
     let T13 : List (Nat × X) := [(10, zI v23), (9, zI v19.1), (7, .ptr 7 0 0), (6, zB v3.2), (5, .ptr 5 0 0), (0, zI a0), (1, zI a1)]
     let B13 : List (Nat × Bx) := [(7, ⟨0, 0, true, some (.agg [zI v7.1.fBal, zI v7.1.fVal, .sl 1 (List.map encInt v19.2.fFrom), zI v7.1.fBest, .sl 1 (List.map encInt v19.2.fGot)])⟩), (5, ⟨0, 0, true, some (encProp1 v3.1)⟩)]
     refine wkr [10, 9, 7, 6, 5, 0, 1] [(7, 7, false), (5, 5, false)] ⟨T13, B13⟩ ?_
     refine sqr cv hn ?_
     refine ro9 0 2 2 ⟨(41, zB (decide (v23 < 0))) :: (40, zI v23) :: T13, B13⟩ ?_
     rcases dich (decide (v23 < 0)) with hb26 | hb26
     · replace h := cond_t hb26 h
       refine ct hb26 ?_
       refine sqr cv hn ?_
       refine ro9 0 1 1 ⟨(4, zB false) :: (41, zB (decide (v23 < 0))) :: (40, zI v23) :: T13, B13⟩ ?_
       refine runs_ret ?_
       exact fin _ _ h (by kernel_rfl)
     · replace h := cond_f hb26 h
       refine cf hb26 ?_
       refine runs_skip ?_
       refine runs_seq ?_
       refine sqr cv hn ?_
       refine ro9 0 3 3 ⟨(44, zB (v23 != v19.1)) :: (43, zI v19.1) :: (42, zI v23) :: (41, zB (decide (v23 < 0))) :: (40, zI v23) :: T13, B13⟩ ?_
       rcases dich (v23 != v19.1) with hb28 | hb28
       · replace h := cond_t hb28 h
         refine ct hb28 ?_
         let T15 : List (Nat × X) := [(10, zI v23), (9, zI v19.1), (7, .ptr 7 0 0), (6, zB v3.2), (5, .ptr 5 0 0), (0, zI a0), (1, zI a1)]
         let B15 : List (Nat × Bx) := [(7, ⟨0, 0, true, some (.agg [zI v7.1.fBal, zI v7.1.fVal, .sl 1 (List.map encInt v19.2.fFrom), zI v7.1.fBest, .sl 1 (List.map encInt v19.2.fGot)])⟩), (5, ⟨0, 0, true, some (encProp1 v3.1)⟩)]
         refine wkr [10, 9, 7, 6, 5, 0, 1] [(7, 7, false), (5, 5, false)] ⟨T15, B15⟩ ?_
         refine sqr cv hn ?_
         refine ro9 0 1 1 ⟨(4, zB false) :: T15, B15⟩ ?_
         refine runs_ret ?_
         exact fin _ _ h (by kernel_rfl)
       · replace h := cond_f hb28 h
         refine cf hb28 ?_
         refine runs_skip ?_
         let T17 : List (Nat × X) := [(10, zI v23), (9, zI v19.1), (7, .ptr 7 0 0), (6, zB v3.2), (5, .ptr 5 0 0), (0, zI a0), (1, zI a1)]
         let B17 : List (Nat × Bx) := [(7, ⟨0, 0, true, some (.agg [zI v7.1.fBal, zI v7.1.fVal, .sl 1 (List.map encInt v19.2.fFrom), zI v7.1.fBest, .sl 1 (List.map encInt v19.2.fGot)])⟩), (5, ⟨0, 0, true, some (encProp1 v3.1)⟩)]
         refine wkr [10, 9, 7, 6, 5, 0, 1] [(7, 7, false), (5, 5, false)] ⟨T17, B17⟩ ?_
         refine sqr cv hn ?_
         refine ro 0 2 2 ⟨(47, zI a1) :: (46, zI a0) :: T17, B17⟩ ?_
         obtain ⟨v31, hv32, h⟩ := bindO h
         refine rc 2 ⟨(48, .tup [.agg [zI v31.1.fBal, zI v31.1.fVal, .view 48 1 [] 0, zI v31.1.fBest, .view 10048 1 [] 0], zB v31.2]) :: (47, zI a1) :: (46, zI a0) :: T17, (10048, ⟨1, 1, false, some (.sl 1 (List.map encInt v31.1.fGot))⟩) :: (48, ⟨1, 1, false, some (.sl 1 (List.map encInt v31.1.fFrom))⟩) :: B17⟩ (impl_PropNew_spec a0 a1 v31 hv32) ?_
         refine ro9 3 6 6 ⟨(12, zB v31.2) :: (11, .ptr 11 1 0) :: (50, zB v31.2) :: (49, .agg [zI v31.1.fBal, zI v31.1.fVal, .view 48 1 [] 0, zI v31.1.fBest, .view 10048 1 [] 0]) :: (45, .tup [.agg [zI v31.1.fBal, zI v31.1.fVal, .view 48 1 [] 0, zI v31.1.fBest, .view 10048 1 [] 0], zB v31.2]) :: (48, .tup [.agg [zI v31.1.fBal, zI v31.1.fVal, .view 48 1 [] 0, zI v31.1.fBest, .view 10048 1 [] 0], zB v31.2]) :: (47, zI a1) :: (46, zI a0) :: T17, (11, ⟨1, 2, true, some (encProp1 v31.1)⟩) :: (10048, ⟨1, 2, false, some (.junk)⟩) :: (48, ⟨1, 2, false, some (.junk)⟩) :: (11, ⟨1, 1, true, some (.agg [zI 0, zI 0, .sl 1 (List.map encInt []), zI 0, .sl 1 (List.map encInt [])])⟩) :: (10048, ⟨1, 1, false, some (.sl 1 (List.map encInt v31.1.fGot))⟩) :: (48, ⟨1, 1, false, some (.sl 1 (List.map encInt v31.1.fFrom))⟩) :: B17⟩ ?_
         refine runs_seq ?_
         let T21 : List (Nat × X) := [(12, zB v31.2), (11, .ptr 11 0 0), (10, zI v23), (9, zI v19.1), (7, .ptr 7 0 0), (6, zB v3.2), (5, .ptr 5 0 0)]
         let B21 : List (Nat × Bx) := [(11, ⟨0, 0, true, some (encProp1 v31.1)⟩), (7, ⟨0, 0, true, some (.agg [zI v7.1.fBal, zI v7.1.fVal, .sl 1 (List.map encInt v19.2.fFrom), zI v7.1.fBest, .sl 1 (List.map encInt v19.2.fGot)])⟩), (5, ⟨0, 0, true, some (encProp1 v3.1)⟩)]
         refine wkr [12, 11, 10, 9, 7, 6, 5] [(11, 11, false), (7, 7, false), (5, 5, false)] ⟨T21, B21⟩ ?_
         refine sqr cv hn ?_
         refine ro 0 2 2 ⟨(52, .agg [zI v3.1.fBal, zI v3.1.fVal, .view 5 0 [] 2, zI v3.1.fBest, .view 5 0 [] 4]) :: (51, .agg [zI v31.1.fBal, zI v31.1.fVal, .view 11 0 [] 2, zI v31.1.fBest, .view 11 0 [] 4]) :: T21, B21⟩ ?_
         obtain ⟨v37, hv38, h⟩ := bindO h
         refine rcH 2 [List.map encInt v31.1.fFrom, List.map encInt v31.1.fGot, List.map encInt v3.1.fFrom, List.map encInt v3.1.fGot] ⟨(53, zB v37) :: (52, .agg [zI v3.1.fBal, zI v3.1.fVal, .view 5 0 [] 2, zI v3.1.fBest, .view 5 0 [] 4]) :: (51, .agg [zI v31.1.fBal, zI v31.1.fVal, .view 11 0 [] 2, zI v31.1.fBest, .view 11 0 [] 4]) :: T21, B21⟩ [X.rds (List.map encInt v31.1.fFrom) = true, X.roifys (List.map encInt v31.1.fFrom) = List.map encInt v31.1.fFrom, X.rds (List.map encInt v31.1.fGot) = true, X.roifys (List.map encInt v31.1.fGot) = List.map encInt v31.1.fGot, X.rds (List.map encInt v3.1.fFrom) = true, X.roifys (List.map encInt v3.1.fFrom) = List.map encInt v3.1.fFrom, X.rds (List.map encInt v3.1.fGot) = true, X.roifys (List.map encInt v3.1.fGot) = List.map encInt v3.1.fGot, rootsBut (cv 27) 0 [.agg [zI v31.1.fBal, zI v31.1.fVal, .view 11 0 [] 2, zI v31.1.fBest, .view 11 0 [] 4], .agg [zI v3.1.fBal, zI v3.1.fVal, .view 5 0 [] 2, zI v3.1.fBest, .view 5 0 [] 4]] = false ∨ (X.noRo (zB v37 : X) = true ∧ X.noRo (.junk : X) = true)] (laws_eqProp_spec v31.1 v3.1 v37 hv38) ⟨rds_map rde_Int _, ro_map ro_Int _, rds_map rde_Int _, ro_map ro_Int _, rds_map rde_Int _, ro_map ro_Int _, rds_map rde_Int _, ro_map ro_Int _, .inr ⟨rfl, rfl⟩, trivial⟩ ?_
         refine ro 3 2 2 ⟨(55, zB (!v37)) :: (54, zB (!v37)) :: (53, zB v37) :: (52, .agg [zI v3.1.fBal, zI v3.1.fVal, .view 5 0 [] 2, zI v3.1.fBest, .view 5 0 [] 4]) :: (51, .agg [zI v31.1.fBal, zI v31.1.fVal, .view 11 0 [] 2, zI v31.1.fBest, .view 11 0 [] 4]) :: T21, B21⟩ ?_
         rcases dich (!v37) with hb39 | hb39
         · replace h := cond_t hb39 h
           refine rl 55 true hb39 ?_
           refine ro9 5 4 1 ⟨(59, zB true) :: (58, .tup []) :: (57, .tup []) :: (56, .tup []) :: (55, zB true) :: (54, zB (!v37)) :: (53, zB v37) :: (52, .agg [zI v3.1.fBal, zI v3.1.fVal, .view 5 0 [] 2, zI v3.1.fBest, .view 5 0 [] 4]) :: (51, .agg [zI v31.1.fBal, zI v31.1.fVal, .view 11 0 [] 2, zI v31.1.fBest, .view 11 0 [] 4]) :: T21, B21⟩ ?_
           refine cT ?_
           let T22 : List (Nat × X) := [(10, zI v23), (9, zI v19.1), (7, .ptr 7 0 0)]
           let B22 : List (Nat × Bx) := [(7, ⟨0, 0, true, some (.agg [zI v7.1.fBal, zI v7.1.fVal, .sl 1 (List.map encInt v19.2.fFrom), zI v7.1.fBest, .sl 1 (List.map encInt v19.2.fGot)])⟩)]
           refine wkr [10, 9, 7] [(7, 7, false)] ⟨T22, B22⟩ ?_
           refine sqr cv hn ?_
           refine ro9 0 1 1 ⟨(4, zB false) :: T22, B22⟩ ?_
           refine runs_ret ?_
           exact fin _ _ h (by kernel_rfl)
         · replace h := cond_f hb39 h
           refine rl 55 false hb39 ?_
           refine ro9 5 4 4 ⟨(59, zB (v31.2 != v3.2)) :: (58, zB (v31.2 != v3.2)) :: (57, zB v3.2) :: (56, zB v31.2) :: (55, zB false) :: (54, zB (!v37)) :: (53, zB v37) :: (52, .agg [zI v3.1.fBal, zI v3.1.fVal, .view 5 0 [] 2, zI v3.1.fBest, .view 5 0 [] 4]) :: (51, .agg [zI v31.1.fBal, zI v31.1.fVal, .view 11 0 [] 2, zI v31.1.fBest, .view 11 0 [] 4]) :: T21, B21⟩ ?_
           rcases dich (v31.2 != v3.2) with hb40 | hb40
           · replace h := cond_t hb40 h
             refine ct hb40 ?_
             let T23 : List (Nat × X) := [(10, zI v23), (9, zI v19.1), (7, .ptr 7 0 0)]
             let B23 : List (Nat × Bx) := [(7, ⟨0, 0, true, some (.agg [zI v7.1.fBal, zI v7.1.fVal, .sl 1 (List.map encInt v19.2.fFrom), zI v7.1.fBest, .sl 1 (List.map encInt v19.2.fGot)])⟩)]
             refine wkr [10, 9, 7] [(7, 7, false)] ⟨T23, B23⟩ ?_
             refine sqr cv hn ?_
             refine ro9 0 1 1 ⟨(4, zB false) :: T23, B23⟩ ?_
             refine runs_ret ?_
             exact fin _ _ h (by kernel_rfl)
           · replace h := cond_f hb40 h
             refine cf hb40 ?_
             refine runs_skip ?_
             let T25 : List (Nat × X) := [(10, zI v23), (9, zI v19.1), (7, .ptr 7 0 0)]
             let B25 : List (Nat × Bx) := [(7, ⟨0, 0, true, some (.agg [zI v7.1.fBal, zI v7.1.fVal, .sl 1 (List.map encInt v19.2.fFrom), zI v7.1.fBest, .sl 1 (List.map encInt v19.2.fGot)])⟩)]
             refine wkr [10, 9, 7] [(7, 7, false)] ⟨T25, B25⟩ ?_
             refine sqr cv hn ?_
             refine ro9 0 1 1 ⟨(10, zI 1) :: T25, B25⟩ ?_
             refine sqr cv hn ?_
             refine ro 0 2 2 ⟨(61, zI 1) :: (60, .agg [zI v7.1.fBal, zI v7.1.fVal, .view 7 0 [] 2, zI v7.1.fBest, .view 7 0 [] 4]) :: (10, zI 1) :: T25, B25⟩ ?_
             obtain ⟨v43, hv44, h⟩ := bindO h
             refine rcH 2 [List.map encInt v19.2.fFrom, List.map encInt v19.2.fGot] ⟨(62, zI v43) :: (61, zI 1) :: (60, .agg [zI v7.1.fBal, zI v7.1.fVal, .view 7 0 [] 2, zI v7.1.fBest, .view 7 0 [] 4]) :: (10, zI 1) :: T25, B25⟩ [X.rds (List.map encInt v19.2.fFrom) = true, X.roifys (List.map encInt v19.2.fFrom) = List.map encInt v19.2.fFrom, X.rds (List.map encInt v19.2.fGot) = true, X.roifys (List.map encInt v19.2.fGot) = List.map encInt v19.2.fGot, rootsBut (cv 35) 0 [.agg [zI v7.1.fBal, zI v7.1.fVal, .view 7 0 [] 2, zI v7.1.fBest, .view 7 0 [] 4], zI 1] = false ∨ (X.noRo (zI v43 : X) = true ∧ X.noRo (.junk : X) = true)] (laws_heldProp_spec { v7.1 with fFrom := v19.2.fFrom, fGot := v19.2.fGot } 1 v43 hv44) ⟨rds_map rde_Int _, ro_map ro_Int _, rds_map rde_Int _, ro_map ro_Int _, .inr ⟨rfl, rfl⟩, trivial⟩ ?_
             refine ro9 3 1 1 ⟨(10, zI v43) :: (62, zI v43) :: (61, zI 1) :: (60, .agg [zI v7.1.fBal, zI v7.1.fVal, .view 7 0 [] 2, zI v7.1.fBest, .view 7 0 [] 4]) :: (10, zI 1) :: T25, B25⟩ ?_
             refine runs_seq ?_
             refine wkr [10, 9] [] ⟨[(10, zI v43), (9, zI v19.1)], []⟩ ?_
             refine sqr cv hn ?_
             refine ro9 0 2 2 ⟨[(64, zB (decide (v43 < 0))), (63, zI v43), (10, zI v43), (9, zI v19.1)], []⟩ ?_
             rcases dich (decide (v43 < 0)) with hb46 | hb46
             · replace h := cond_t hb46 h
               refine ct hb46 ?_
               refine sqr cv hn ?_
               refine ro9 0 1 1 ⟨[(4, zB false), (64, zB (decide (v43 < 0))), (63, zI v43), (10, zI v43), (9, zI v19.1)], []⟩ ?_
               refine runs_ret ?_
               exact fin _ _ h (by kernel_rfl)
             · replace h := cond_f hb46 h
               refine cf hb46 ?_
               refine runs_skip ?_
               refine runs_seq ?_
               refine sqr cv hn ?_
               refine ro9 0 3 3 ⟨[(67, zB (v43 != v19.1)), (66, zI v19.1), (65, zI v43), (64, zB (decide (v43 < 0))), (63, zI v43), (10, zI v43), (9, zI v19.1)], []⟩ ?_
               rcases dich (v43 != v19.1) with hb47 | hb47
               · replace h := cond_t hb47 h
                 refine ct hb47 ?_
                 refine wkr [] [] ⟨[], []⟩ ?_
                 refine sqr cv hn ?_
                 refine ro9 0 1 1 ⟨[(4, zB false)], []⟩ ?_
                 refine runs_ret ?_
                 exact fin _ _ h (by kernel_rfl)
               · replace h := cond_f hb47 h
                 refine cf hb47 ?_
                 refine runs_skip ?_
                 refine wkr [] [] ⟨[], []⟩ ?_
                 refine sqr cv hn ?_
                 refine ro9 0 1 1 ⟨[(4, zB true)], []⟩ ?_
                 refine runs_ret ?_
                 exact fin _ _ h (by kernel_rfl)

end Go.Proofs.Yteolobihfindjaa
