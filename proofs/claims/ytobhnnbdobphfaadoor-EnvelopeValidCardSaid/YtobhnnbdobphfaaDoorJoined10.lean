/- Envelopes: whether they are authentic, how long their bids are; opening. -/
import Derived.Test.YtobhnnbdobphfaaDoorJoined9
set_option linter.unusedSimpArgs false
set_option linter.unusedVariables false
set_option maxRecDepth 100000
set_option maxHeartbeats 4000000
namespace Go.Big
open Go.Proofs

def checkI (n : List UInt8) (r s : Int) (S T : List UInt8) : Int := if validB n r s S.length T.length = true then verifyI n (signedB n r.toNat s.toNat S) T else 2

theorem valid_parts {n : List UInt8} {r s : Int} {ls lt : Nat} (h : validB n r s ls lt = true) : n.length ≤ 32 ∧ 0 ≤ r ∧ r ≤ 1048576 ∧ 0 ≤ s ∧ s ≤ 1073741824 ∧ 32 ≤ ls ∧ ls ≤ 4128 ∧ lt = 32 := by
  simp only [validB, nameB, Bool.and_eq_true, decide_eq_true_eq, beq_iff_eq] at h
  obtain ⟨⟨hn1', hn2', _⟩, ⟨hr1, hr2⟩, ⟨hs1', hs2'⟩, ⟨hS1, hS2⟩, hT⟩ := h
  refine ⟨hn2', ?_, ?_, ?_, ?_, ?_, ?_, ?_⟩ <;> omega
theorem signed_len {n S : List UInt8} {r s : Nat} (h1 : n.length ≤ 100) (h2 : r ≤ 1048576) (h3 : s ≤ 1073741824) (h4 : S.length ≤ 4128) : (signedB n r s S).length ≤ 60000 := by
  have g1 := groupB_len 3 r (by omega) (by omega)
  have g2 := groupB_len 5 s (by omega) (by omega)
  have g3 := groupB_len 2 n.length (by omega) (by omega)
  have g4 := groupB_len 2 S.length (by omega) (by omega)
  simp only [signedB, strB, List.length_append]; omega

theorem check_ct {m : Mem} (hw : WF m) {x : Value} {n S T : List UInt8} {r s : Int} {sv tv : Value} (hx : BookAt m x) (hs : Bs m sv S) (ht : Bs m tv T) (hn : n.length ≤ 1073741824) :
    Ct Tryd.prog S0 10 [x, envV n r s sv tv] m [] (fun out m' => out = .ret (.int .i64 (checkI n r s S T))) := by
  have hone : [str n, .int .i64 r, .int .i64 s, sv, tv].all oneCell = true := by
    simp only [List.all_cons, List.all_nil, one_sl hs, one_sl ht, one_str, one_int, Bool.and_self]
  have hx0 := hx
  obtain ⟨xb, nv, mb, pv, k1, k2, rfl, h2, h3, h4, h5⟩ := hx
  refine ct_x (spec0 _) (by rfl) Tryd.func10 rfl ?_
  simp (maxSteps := 2000000) (disch := first | assumption | omega | (simp only [nx_push, nx_set, ne_eq] <;> omega) | (simp only [XSide, F10]; done) | decide) only [XWalk, XSl, ↓XPre, reduceIte, Nat.reduceEqDiff, Nat.reduceLT, Nat.reduceAdd, Nat.reduceSub, Nat.reduceMul, Nat.reduceBEq, reduceCtorEq, Int.reduceAdd, Int.reduceSub, Int.reduceMul, Int.reduceLT, Int.reduceLE, Int.reduceGT, Int.reduceGE, Int.reduceEq, Int.reduceNe, Int.reduceBEq, Int.reduceBNe, Int.reduceTMod, Int.reduceTDiv, ↓if_true, ↓if_false, F10, A10, Tryd.ntmps10, XAcc]
  refine x_draw [0, 1, 3, 0, 15, 31, 63, 127, 255] (by kernel_rfl) ?_
  simp (maxSteps := 2000000) (disch := first | assumption | omega | (simp only [nx_push, nx_set, ne_eq] <;> omega) | (simp only [XSide, F10]; done) | decide) only [XWalk, XSl, ↓XPre, reduceIte, Nat.reduceEqDiff, Nat.reduceLT, Nat.reduceAdd, Nat.reduceSub, Nat.reduceMul, Nat.reduceBEq, reduceCtorEq, Int.reduceAdd, Int.reduceSub, Int.reduceMul, Int.reduceLT, Int.reduceLE, Int.reduceGT, Int.reduceGE, Int.reduceEq, Int.reduceNe, Int.reduceBEq, Int.reduceBNe, Int.reduceTMod, Int.reduceTDiv, ↓if_true, ↓if_false, F10, A10, XAcc]
  refine wcall_pu (pu_of unless_ct) ?_
  have hs1 : Bs (m.push (.row [str n, .int .i64 r, .int .i64 s, sv, tv] .rw)) sv S := hs.keep (Keep.push hw)
  have ht1 : Bs (m.push (.row [str n, .int .i64 r, .int .i64 s, sv, tv] .rw)) tv T := ht.keep (Keep.push hw)
  have hx1 : BookAt (m.push (.row [str n, .int .i64 r, .int .i64 s, sv, tv] .rw)) (.pointer (some ⟨xb, 0, none⟩)) := hx0.keep (Keep.push hw)
  simp (maxSteps := 2000000) (disch := first | assumption | omega | (simp only [nx_push, nx_set, ne_eq] <;> omega) | (simp only [XSide, F10]; done) | decide) only [XWalk, XSl, ↓XPre, reduceIte, Nat.reduceEqDiff, Nat.reduceLT, Nat.reduceAdd, Nat.reduceSub, Nat.reduceMul, Nat.reduceBEq, reduceCtorEq, Int.reduceAdd, Int.reduceSub, Int.reduceMul, Int.reduceLT, Int.reduceLE, Int.reduceGT, Int.reduceGE, Int.reduceEq, Int.reduceNe, Int.reduceBEq, Int.reduceBNe, Int.reduceTMod, Int.reduceTDiv, ↓if_true, ↓if_false, F10, A10, XAcc]
  refine wcall_x specLoc (valid_ct hw.push hs1 ht1 hn) hw.push ?_
  rintro out m1 hw1 hn1 f1 rfl
  have row1 : m1.get m.next = some (.row [str n, .int .i64 r, .int .i64 s, sv, tv] .rw) := by rw [f1 _ (by simp), get_push_self]
  have hs2 := hs1.keep (keep_of hw.push f1)
  have ht2 := ht1.keep (keep_of hw.push f1)
  have hx2 := hx1.keep (keep_of hw.push f1)
  simp only [Mem.next_push] at hn1
  simp (maxSteps := 2000000) (disch := first | assumption | omega | (simp only [nx_push, nx_set, ne_eq] <;> omega) | (simp only [XSide, F10]; done) | decide) only [XWalk, XSl, ↓XPre, reduceIte, Nat.reduceEqDiff, Nat.reduceLT, Nat.reduceAdd, Nat.reduceSub, Nat.reduceMul, Nat.reduceBEq, reduceCtorEq, Int.reduceAdd, Int.reduceSub, Int.reduceMul, Int.reduceLT, Int.reduceLE, Int.reduceGT, Int.reduceGE, Int.reduceEq, Int.reduceNe, Int.reduceBEq, Int.reduceBNe, Int.reduceTMod, Int.reduceTDiv, ↓if_true, ↓if_false, F10, A10, XAcc]
  refine wcall_pu (pu_of unless_ct) ?_
  simp (maxSteps := 2000000) (disch := first | assumption | omega | (simp only [nx_push, nx_set, ne_eq] <;> omega) | (simp only [XSide, F10]; done) | decide) only [XWalk, XSl, ↓XPre, reduceIte, Nat.reduceEqDiff, Nat.reduceLT, Nat.reduceAdd, Nat.reduceSub, Nat.reduceMul, Nat.reduceBEq, reduceCtorEq, Int.reduceAdd, Int.reduceSub, Int.reduceMul, Int.reduceLT, Int.reduceLE, Int.reduceGT, Int.reduceGE, Int.reduceEq, Int.reduceNe, Int.reduceBEq, Int.reduceBNe, Int.reduceTMod, Int.reduceTDiv, ↓if_true, ↓if_false, F10, A10, XAcc]
  have hw2 : ∀ o, WF (m1.push o) := fun o => hw1.push
  refine wcall_pu (pu_of (first_ct (hw2 _) (l := [0, if validB n r s S.length T.length = true then 0 else 2]) (kd := .rw) get_push_self (by simp))) ?_
  have row2 : ∀ o, (m1.push o).get m.next = some (.row [str n, .int .i64 r, .int .i64 s, sv, tv] .rw) := fun o => by rw [get_push_ne (by omega)]; exact row1
  unfold checkI
  cases hvb : validB n r s S.length T.length with
  | false => simp (maxSteps := 2000000) (disch := first | assumption | omega | (simp only [nx_push, nx_set, ne_eq] <;> omega) | (simp only [XSide, F10]; done) | decide) only [XWalk, XSl, ↓XPre, reduceIte, Nat.reduceEqDiff, Nat.reduceLT, Nat.reduceAdd, Nat.reduceSub, Nat.reduceMul, Nat.reduceBEq, reduceCtorEq, Int.reduceAdd, Int.reduceSub, Int.reduceMul, Int.reduceLT, Int.reduceLE, Int.reduceGT, Int.reduceGE, Int.reduceEq, Int.reduceNe, Int.reduceBEq, Int.reduceBNe, Int.reduceTMod, Int.reduceTDiv, ↓if_true, ↓if_false, F10, A10, firstE]
  | true =>
    obtain ⟨p1, p2, p3, p4, p5, p6, p7, p8⟩ := valid_parts hvb
    obtain ⟨r', rfl⟩ : ∃ r' : Nat, r = (r' : Int) := ⟨r.toNat, by omega⟩
    obtain ⟨s', rfl⟩ : ∃ s' : Nat, s = (s' : Int) := ⟨s.toNat, by omega⟩
    have hlen := signed_len (n := n) (S := S) (r := r') (s := s') (by omega) (by omega) (by omega) p7
    simp (maxSteps := 2000000) (disch := first | assumption | omega | (simp only [nx_push, nx_set, ne_eq] <;> omega) | (simp only [XSide, F10]; done) | decide) only [XWalk, XSl, ↓XPre, reduceIte, Nat.reduceEqDiff, Nat.reduceLT, Nat.reduceAdd, Nat.reduceSub, Nat.reduceMul, Nat.reduceBEq, reduceCtorEq, Int.reduceAdd, Int.reduceSub, Int.reduceMul, Int.reduceLT, Int.reduceLE, Int.reduceGT, Int.reduceGE, Int.reduceEq, Int.reduceNe, Int.reduceBEq, Int.reduceBNe, Int.reduceTMod, Int.reduceTDiv, ↓if_true, ↓if_false, F10, A10, firstE, show ((0 : Int) != 0) = false from rfl]
    refine x_draw [0, 0, 2, 0, 8, 0, 32, 127, 255] (by kernel_rfl) ?_
    simp (maxSteps := 2000000) (disch := first | assumption | omega | (simp only [nx_push, nx_set, ne_eq] <;> omega) | (simp only [XSide, F10]; done) | decide) only [XWalk, XSl, ↓XPre, reduceIte, Nat.reduceEqDiff, Nat.reduceLT, Nat.reduceAdd, Nat.reduceSub, Nat.reduceMul, Nat.reduceBEq, reduceCtorEq, Int.reduceAdd, Int.reduceSub, Int.reduceMul, Int.reduceLT, Int.reduceLE, Int.reduceGT, Int.reduceGE, Int.reduceEq, Int.reduceNe, Int.reduceBEq, Int.reduceBNe, Int.reduceTMod, Int.reduceTDiv, ↓if_true, ↓if_false, F10, A10, row2, XAcc]
    have hs3 : ∀ o, Bs (m1.push o) sv S := fun o => hs2.keep (Keep.push hw1)
    have ht3 : ∀ o, Bs (m1.push o) tv T := fun o => ht2.keep (Keep.push hw1)
    have hx3 : ∀ o, BookAt (m1.push o) (.pointer (some ⟨xb, 0, none⟩)) := fun o => hx2.keep (Keep.push hw1)
    refine wcall_v specLoc (signed_ct (n := n) (r := r') (s := s') (hw2 _) (hs3 _) (one_sl ht) (by omega) (by omega) (by omega)) (hw2 _) ?_
    intro q m2 hw3 hn3 f3 hq
    have row3 : m2.get m.next = some (.row [str n, .int .i64 (r' : Int), .int .i64 (s' : Int), sv, tv] .rw) := by rw [f3 _ (by simp; omega)]; exact row2 _
    have ht4 := (ht3 _).keep (keep_of (hw2 _) f3)
    have hx4 := (hx3 _).keep (keep_of (hw2 _) f3)
    simp only [Mem.next_push] at hn3
    simp (maxSteps := 2000000) (disch := first | assumption | omega | (simp only [nx_push, nx_set, ne_eq] <;> omega) | (simp only [XSide, F10]; done) | decide) only [XWalk, XSl, ↓XPre, reduceIte, Nat.reduceEqDiff, Nat.reduceLT, Nat.reduceAdd, Nat.reduceSub, Nat.reduceMul, Nat.reduceBEq, reduceCtorEq, Int.reduceAdd, Int.reduceSub, Int.reduceMul, Int.reduceLT, Int.reduceLE, Int.reduceGT, Int.reduceGE, Int.reduceEq, Int.reduceNe, Int.reduceBEq, Int.reduceBNe, Int.reduceTMod, Int.reduceTDiv, ↓if_true, ↓if_false, F10, A10, row3, XAcc]
    refine wcall_x specLoc (verify_ct hw3 hx4 hq.sl ht4 (by omega)) hw3 ?_
    rintro out m4 hw4 hn4 f4 rfl
    simp (maxSteps := 2000000) (disch := first | assumption | omega | (simp only [nx_push, nx_set, ne_eq] <;> omega) | (simp only [XSide, F10]; done) | decide) only [XWalk, XSl, ↓XPre, reduceIte, Nat.reduceEqDiff, Nat.reduceLT, Nat.reduceAdd, Nat.reduceSub, Nat.reduceMul, Nat.reduceBEq, reduceCtorEq, Int.reduceAdd, Int.reduceSub, Int.reduceMul, Int.reduceLT, Int.reduceLE, Int.reduceGT, Int.reduceGE, Int.reduceEq, Int.reduceNe, Int.reduceBEq, Int.reduceBNe, Int.reduceTMod, Int.reduceTDiv, ↓if_true, ↓if_false, F10, A10]
    rfl

theorem check_nil_ct {m : Mem} (hw : WF m) {n S T : List UInt8} {r s : Int} {sv tv : Value} (hs : Bs m sv S) (ht : Bs m tv T) (hn : n.length ≤ 1073741824) :
    Ct Tryd.prog S0 10 [.pointer none, envV n r s sv tv] m [] (fun out m' => out = .ret (.int .i64 1)) := by
  have hone : [str n, .int .i64 r, .int .i64 s, sv, tv].all oneCell = true := by
    simp only [List.all_cons, List.all_nil, one_sl hs, one_sl ht, one_str, one_int, Bool.and_self]
  refine ct_x (spec0 _) (by rfl) Tryd.func10 rfl ?_
  simp (maxSteps := 2000000) (disch := first | assumption | omega | (simp only [nx_push, nx_set, ne_eq] <;> omega) | (simp only [XSide, F10]; done) | decide) only [XWalk, XSl, ↓XPre, reduceIte, Nat.reduceEqDiff, Nat.reduceLT, Nat.reduceAdd, Nat.reduceSub, Nat.reduceMul, Nat.reduceBEq, reduceCtorEq, Int.reduceAdd, Int.reduceSub, Int.reduceMul, Int.reduceLT, Int.reduceLE, Int.reduceGT, Int.reduceGE, Int.reduceEq, Int.reduceNe, Int.reduceBEq, Int.reduceBNe, Int.reduceTMod, Int.reduceTDiv, ↓if_true, ↓if_false, F10, A10, Tryd.ntmps10, XAcc]
  refine x_draw [0, 1, 3, 0, 15, 31, 63, 127, 255] (by kernel_rfl) ?_
  simp (maxSteps := 2000000) (disch := first | assumption | omega | (simp only [nx_push, nx_set, ne_eq] <;> omega) | (simp only [XSide, F10]; done) | decide) only [XWalk, XSl, ↓XPre, reduceIte, Nat.reduceEqDiff, Nat.reduceLT, Nat.reduceAdd, Nat.reduceSub, Nat.reduceMul, Nat.reduceBEq, reduceCtorEq, Int.reduceAdd, Int.reduceSub, Int.reduceMul, Int.reduceLT, Int.reduceLE, Int.reduceGT, Int.reduceGE, Int.reduceEq, Int.reduceNe, Int.reduceBEq, Int.reduceBNe, Int.reduceTMod, Int.reduceTDiv, ↓if_true, ↓if_false, F10, A10, XAcc]
  refine wcall_pu (pu_of unless_ct) ?_
  have hs1 : Bs (m.push (.row [str n, .int .i64 r, .int .i64 s, sv, tv] .rw)) sv S := hs.keep (Keep.push hw)
  have ht1 : Bs (m.push (.row [str n, .int .i64 r, .int .i64 s, sv, tv] .rw)) tv T := ht.keep (Keep.push hw)
  simp (maxSteps := 2000000) (disch := first | assumption | omega | (simp only [nx_push, nx_set, ne_eq] <;> omega) | (simp only [XSide, F10]; done) | decide) only [XWalk, XSl, ↓XPre, reduceIte, Nat.reduceEqDiff, Nat.reduceLT, Nat.reduceAdd, Nat.reduceSub, Nat.reduceMul, Nat.reduceBEq, reduceCtorEq, Int.reduceAdd, Int.reduceSub, Int.reduceMul, Int.reduceLT, Int.reduceLE, Int.reduceGT, Int.reduceGE, Int.reduceEq, Int.reduceNe, Int.reduceBEq, Int.reduceBNe, Int.reduceTMod, Int.reduceTDiv, ↓if_true, ↓if_false, F10, A10, XAcc]
  refine wcall_x specLoc (valid_ct hw.push hs1 ht1 hn) hw.push ?_
  rintro out m1 hw1 hn1 f1 rfl
  simp only [Mem.next_push] at hn1
  simp (maxSteps := 2000000) (disch := first | assumption | omega | (simp only [nx_push, nx_set, ne_eq] <;> omega) | (simp only [XSide, F10]; done) | decide) only [XWalk, XSl, ↓XPre, reduceIte, Nat.reduceEqDiff, Nat.reduceLT, Nat.reduceAdd, Nat.reduceSub, Nat.reduceMul, Nat.reduceBEq, reduceCtorEq, Int.reduceAdd, Int.reduceSub, Int.reduceMul, Int.reduceLT, Int.reduceLE, Int.reduceGT, Int.reduceGE, Int.reduceEq, Int.reduceNe, Int.reduceBEq, Int.reduceBNe, Int.reduceTMod, Int.reduceTDiv, ↓if_true, ↓if_false, F10, A10, XAcc]
  refine wcall_pu (pu_of unless_ct) ?_
  simp (maxSteps := 2000000) (disch := first | assumption | omega | (simp only [nx_push, nx_set, ne_eq] <;> omega) | (simp only [XSide, F10]; done) | decide) only [XWalk, XSl, ↓XPre, reduceIte, Nat.reduceEqDiff, Nat.reduceLT, Nat.reduceAdd, Nat.reduceSub, Nat.reduceMul, Nat.reduceBEq, reduceCtorEq, Int.reduceAdd, Int.reduceSub, Int.reduceMul, Int.reduceLT, Int.reduceLE, Int.reduceGT, Int.reduceGE, Int.reduceEq, Int.reduceNe, Int.reduceBEq, Int.reduceBNe, Int.reduceTMod, Int.reduceTDiv, ↓if_true, ↓if_false, F10, A10, XAcc]
  refine wcall_pu (pu_of (first_ct (hw1.push) (l := [1, if validB n r s S.length T.length = true then 0 else 2]) (kd := .rw) get_push_self (by simp))) ?_
  simp (maxSteps := 2000000) (disch := first | assumption | omega | (simp only [nx_push, nx_set, ne_eq] <;> omega) | (simp only [XSide, F10]; done) | decide) only [XWalk, XSl, ↓XPre, reduceIte, Nat.reduceEqDiff, Nat.reduceLT, Nat.reduceAdd, Nat.reduceSub, Nat.reduceMul, Nat.reduceBEq, reduceCtorEq, Int.reduceAdd, Int.reduceSub, Int.reduceMul, Int.reduceLT, Int.reduceLE, Int.reduceGT, Int.reduceGE, Int.reduceEq, Int.reduceNe, Int.reduceBEq, Int.reduceBNe, Int.reduceTMod, Int.reduceTDiv, ↓if_true, ↓if_false, F10, A10, firstE]

theorem size_ct {m : Mem} (hw : WF m) {n S T : List UInt8} {r s : Int} {sv tv : Value} (hs : Bs m sv S) (ht : Bs m tv T) (hn : n.length ≤ 1073741824) :
    Ct Tryd.prog S0 14 [envV n r s sv tv] m [] (fun out m' => out = .ret (.int .i64 (if validB n r s S.length T.length = true then (S.length : Int) - 32 else -1))) := by
  have hone : [str n, .int .i64 r, .int .i64 s, sv, tv].all oneCell = true := by
    simp only [List.all_cons, List.all_nil, one_sl hs, one_sl ht, one_str, one_int, Bool.and_self]
  refine ct_x (spec0 _) (by rfl) Tryd.func14 rfl ?_
  simp (maxSteps := 2000000) (disch := first | assumption | omega | (simp only [nx_push, nx_set, ne_eq] <;> omega) | (simp only [XSide, F14]; done) | decide) only [XWalk, XSl, ↓XPre, reduceIte, Nat.reduceEqDiff, Nat.reduceLT, Nat.reduceAdd, Nat.reduceSub, Nat.reduceMul, Nat.reduceBEq, reduceCtorEq, Int.reduceAdd, Int.reduceSub, Int.reduceMul, Int.reduceLT, Int.reduceLE, Int.reduceGT, Int.reduceGE, Int.reduceEq, Int.reduceNe, Int.reduceBEq, Int.reduceBNe, Int.reduceTMod, Int.reduceTDiv, ↓if_true, ↓if_false, F14, A14, Tryd.ntmps14, XAcc]
  have hs1 : Bs (m.push (.row [str n, .int .i64 r, .int .i64 s, sv, tv] .rw)) sv S := hs.keep (Keep.push hw)
  have ht1 : Bs (m.push (.row [str n, .int .i64 r, .int .i64 s, sv, tv] .rw)) tv T := ht.keep (Keep.push hw)
  refine wcall_x specLoc (valid_ct hw.push hs1 ht1 hn) hw.push ?_
  rintro out m1 hw1 hn1 f1 rfl
  have row1 : m1.get m.next = some (.row [str n, .int .i64 r, .int .i64 s, sv, tv] .rw) := by rw [f1 _ (by simp), get_push_self]
  have hs2 := hs1.keep (keep_of hw.push f1)
  cases hvb : validB n r s S.length T.length with
  | false => simp (maxSteps := 2000000) (disch := first | assumption | omega | (simp only [nx_push, nx_set, ne_eq] <;> omega) | (simp only [XSide, F14]; done) | decide) only [XWalk, XSl, ↓XPre, reduceIte, Nat.reduceEqDiff, Nat.reduceLT, Nat.reduceAdd, Nat.reduceSub, Nat.reduceMul, Nat.reduceBEq, reduceCtorEq, Int.reduceAdd, Int.reduceSub, Int.reduceMul, Int.reduceLT, Int.reduceLE, Int.reduceGT, Int.reduceGE, Int.reduceEq, Int.reduceNe, Int.reduceBEq, Int.reduceBNe, Int.reduceTMod, Int.reduceTDiv, ↓if_true, ↓if_false, F14, A14]
  | true =>
    obtain ⟨p1, p2, p3, p4, p5, p6, p7, p8⟩ := valid_parts hvb
    have e1 : IntKind.wrap .i64 ((S.length : Int) - 32) = (S.length : Int) - 32 := wrap_i64 (by omega) (by omega)
    simp (maxSteps := 2000000) (disch := first | assumption | omega | (simp only [nx_push, nx_set, ne_eq] <;> omega) | (simp only [XSide, F14]; done) | decide) only [XWalk, XSl, ↓XPre, reduceIte, Nat.reduceEqDiff, Nat.reduceLT, Nat.reduceAdd, Nat.reduceSub, Nat.reduceMul, Nat.reduceBEq, reduceCtorEq, Int.reduceAdd, Int.reduceSub, Int.reduceMul, Int.reduceLT, Int.reduceLE, Int.reduceGT, Int.reduceGE, Int.reduceEq, Int.reduceNe, Int.reduceBEq, Int.reduceBNe, Int.reduceTMod, Int.reduceTDiv, ↓if_true, ↓if_false, F14, A14, row1, alen_bs hs2, e1]

end Go.Big

/- Opening an envelope. -/
set_option linter.unusedSimpArgs false
set_option linter.unusedVariables false
set_option maxRecDepth 100000
set_option maxHeartbeats 4000000
namespace Go.Big
open Go.Proofs

def bidL : List UInt8 := [98, 105, 100, 45]

def openE (n : List UInt8) (r s : Int) (S T key : List UInt8) : Option (List UInt8) × Int :=
  let e := firstE [0, if ((key.length : Int) == 32) = true then 0 else 2, checkI n r s S T]
  if (e != 0) = true then (none, e) else match openB (blakeB key (bidL ++ n)) S with | some p => (some p, 0) | none => (none, 10)

def OpenR (q : Option (List UInt8) × Int) : Value → Mem → Prop := fun v m' => match q with | (some p, e) => ∃ s, v = .tuple #[s, .int .i64 e] ∧ Bs m' s p | (none, e) => v = .tuple #[.slice none 0 0, .int .i64 e]

theorem eopen_ct {m : Mem} (hw : WF m) {x : Value} {n S T key : List UInt8} {r s : Int} {sv tv kv : Value} (hx : BookAt m x) (hs : Bs m sv S) (ht : Bs m tv T) (hk : Bs m kv key) (hn : n.length ≤ 1073741824) (hkl : key.length < 2147483648) :
    Ct Tryd.prog S0 8 [x, envV n r s sv tv, kv] m [] (Rv (OpenR (openE n r s S T key))) := by
  have hone : [str n, .int .i64 r, .int .i64 s, sv, tv].all oneCell = true := by
    simp only [List.all_cons, List.all_nil, one_sl hs, one_sl ht, one_str, one_int, Bool.and_self]
  have hx0 := hx
  obtain ⟨xb, nv, mb, pv, k1, k2, rfl, h2, h3, h4, h5⟩ := hx
  refine ct_x (spec0 _) (by rfl) Tryd.func8 rfl ?_
  simp (maxSteps := 2000000) (disch := first | assumption | omega | (simp only [nx_push, nx_set, ne_eq] <;> omega) | (simp only [XSide, F8]; done) | decide) only [XWalk, XSl, ↓XPre, reduceIte, Nat.reduceEqDiff, Nat.reduceLT, Nat.reduceAdd, Nat.reduceSub, Nat.reduceMul, Nat.reduceBEq, reduceCtorEq, Int.reduceAdd, Int.reduceSub, Int.reduceMul, Int.reduceLT, Int.reduceLE, Int.reduceGT, Int.reduceGE, Int.reduceEq, Int.reduceNe, Int.reduceBEq, Int.reduceBNe, Int.reduceTMod, Int.reduceTDiv, ↓if_true, ↓if_false, F8, A8, Tryd.ntmps8, XAcc]
  refine x_draw [0, 1, 3, 0, 8, 24, 63, 0, 0, 511, 1023, 2047, 4095] (by kernel_rfl) ?_
  simp (maxSteps := 2000000) (disch := first | assumption | omega | (simp only [nx_push, nx_set, ne_eq] <;> omega) | (simp only [XSide, F8]; done) | decide) only [XWalk, XSl, ↓XPre, reduceIte, Nat.reduceEqDiff, Nat.reduceLT, Nat.reduceAdd, Nat.reduceSub, Nat.reduceMul, Nat.reduceBEq, reduceCtorEq, Int.reduceAdd, Int.reduceSub, Int.reduceMul, Int.reduceLT, Int.reduceLE, Int.reduceGT, Int.reduceGE, Int.reduceEq, Int.reduceNe, Int.reduceBEq, Int.reduceBNe, Int.reduceTMod, Int.reduceTDiv, ↓if_true, ↓if_false, F8, A8, XAcc]
  refine wcall_pu (pu_of unless_ct) ?_
  have hs1 : Bs (m.push (.row [str n, .int .i64 r, .int .i64 s, sv, tv] .rw)) sv S := hs.keep (Keep.push hw)
  have ht1 : Bs (m.push (.row [str n, .int .i64 r, .int .i64 s, sv, tv] .rw)) tv T := ht.keep (Keep.push hw)
  have hk1 : Bs (m.push (.row [str n, .int .i64 r, .int .i64 s, sv, tv] .rw)) kv key := hk.keep (Keep.push hw)
  have hx1 : BookAt (m.push (.row [str n, .int .i64 r, .int .i64 s, sv, tv] .rw)) (.pointer (some ⟨xb, 0, none⟩)) := hx0.keep (Keep.push hw)
  simp (maxSteps := 2000000) (disch := first | assumption | omega | (simp only [nx_push, nx_set, ne_eq] <;> omega) | (simp only [XSide, F8]; done) | decide) only [XWalk, XSl, ↓XPre, reduceIte, Nat.reduceEqDiff, Nat.reduceLT, Nat.reduceAdd, Nat.reduceSub, Nat.reduceMul, Nat.reduceBEq, reduceCtorEq, Int.reduceAdd, Int.reduceSub, Int.reduceMul, Int.reduceLT, Int.reduceLE, Int.reduceGT, Int.reduceGE, Int.reduceEq, Int.reduceNe, Int.reduceBEq, Int.reduceBNe, Int.reduceTMod, Int.reduceTDiv, ↓if_true, ↓if_false, F8, A8, XAcc, alen_bs hk1]
  refine wcall_pu (pu_of unless_ct) ?_
  simp (maxSteps := 2000000) (disch := first | assumption | omega | (simp only [nx_push, nx_set, ne_eq] <;> omega) | (simp only [XSide, F8]; done) | decide) only [XWalk, XSl, ↓XPre, reduceIte, Nat.reduceEqDiff, Nat.reduceLT, Nat.reduceAdd, Nat.reduceSub, Nat.reduceMul, Nat.reduceBEq, reduceCtorEq, Int.reduceAdd, Int.reduceSub, Int.reduceMul, Int.reduceLT, Int.reduceLE, Int.reduceGT, Int.reduceGE, Int.reduceEq, Int.reduceNe, Int.reduceBEq, Int.reduceBNe, Int.reduceTMod, Int.reduceTDiv, ↓if_true, ↓if_false, F8, A8, XAcc]
  refine wcall_x specLoc (check_ct hw.push hx1 hs1 ht1 hn) hw.push ?_
  rintro out m1 hw1 hn1 f1 rfl
  have row1 : m1.get m.next = some (.row [str n, .int .i64 r, .int .i64 s, sv, tv] .rw) := by rw [f1 _ (by simp), get_push_self]
  have hs2 := hs1.keep (keep_of hw.push f1)
  have hk2 := hk1.keep (keep_of hw.push f1)
  simp only [Mem.next_push] at hn1
  simp (maxSteps := 2000000) (disch := first | assumption | omega | (simp only [nx_push, nx_set, ne_eq] <;> omega) | (simp only [XSide, F8]; done) | decide) only [XWalk, XSl, ↓XPre, reduceIte, Nat.reduceEqDiff, Nat.reduceLT, Nat.reduceAdd, Nat.reduceSub, Nat.reduceMul, Nat.reduceBEq, reduceCtorEq, Int.reduceAdd, Int.reduceSub, Int.reduceMul, Int.reduceLT, Int.reduceLE, Int.reduceGT, Int.reduceGE, Int.reduceEq, Int.reduceNe, Int.reduceBEq, Int.reduceBNe, Int.reduceTMod, Int.reduceTDiv, ↓if_true, ↓if_false, F8, A8, XAcc]
  refine wcall_pu (pu_of (first_ct (hw1.push) (l := [0, if ((key.length : Int) == 32) = true then 0 else 2, checkI n r s S T]) (kd := .rw) get_push_self (by simp))) ?_
  unfold openE
  generalize he : firstE [0, if ((key.length : Int) == 32) = true then 0 else 2, checkI n r s S T] = e0
  have row2 : ∀ o, (m1.push o).get m.next = some (.row [str n, .int .i64 r, .int .i64 s, sv, tv] .rw) := fun o => by rw [get_push_ne (by omega)]; exact row1
  have hs3 : ∀ o, Bs (m1.push o) sv S := fun o => hs2.keep (Keep.push hw1)
  have hk3 : ∀ o, Bs (m1.push o) kv key := fun o => hk2.keep (Keep.push hw1)
  cases hb : (e0 != 0) with
  | true =>
    simp (maxSteps := 2000000) (disch := first | assumption | omega | (simp only [nx_push, nx_set, ne_eq] <;> omega) | (simp only [XSide, F8]; done) | decide) only [XWalk, XSl, ↓XPre, reduceIte, Nat.reduceEqDiff, Nat.reduceLT, Nat.reduceAdd, Nat.reduceSub, Nat.reduceMul, Nat.reduceBEq, reduceCtorEq, Int.reduceAdd, Int.reduceSub, Int.reduceMul, Int.reduceLT, Int.reduceLE, Int.reduceGT, Int.reduceGE, Int.reduceEq, Int.reduceNe, Int.reduceBEq, Int.reduceBNe, Int.reduceTMod, Int.reduceTDiv, ↓if_true, ↓if_false, F8, A8, hb]
    exact ⟨_, rfl, rfl⟩
  | false =>
    have he0 : e0 = 0 := by simpa using hb
    subst he0
    have hkl32 : key.length = 32 := by
      by_cases hq : ((key.length : Int) == 32) = true
      · simp at hq; omega
      · rw [if_neg hq] at he
        simp [firstE] at he
    have hc0 : checkI n r s S T = 0 := by
      rw [if_pos (by rw [hkl32]; rfl)] at he
      by_cases hc : checkI n r s S T = 0
      · exact hc
      · simp [firstE, hc] at he
    have hvb : validB n r s S.length T.length = true := by
      unfold checkI at hc0
      by_cases hv : validB n r s S.length T.length = true
      · exact hv
      · rw [if_neg hv] at hc0; omega
    obtain ⟨p1, p2, p3, p4, p5, p6, p7, p8⟩ := valid_parts hvb
    have hcat : ∀ (x y : Operand) (m' : Mem) (t : TypeId), abin Tryd.prog .add t x y (.string ⟨#[98, 105, 100, 45]⟩) (str n) m' = some (str (bidL ++ n), m', [], .no) := fun x y m' t => abin_str_add (a := bidL) (by simp [bidL]; omega)
    simp (maxSteps := 2000000) (disch := first | assumption | omega | (simp only [nx_push, nx_set, ne_eq] <;> omega) | (simp only [XSide, F8]; done) | decide) only [XWalk, XSl, ↓XPre, reduceIte, Nat.reduceEqDiff, Nat.reduceLT, Nat.reduceAdd, Nat.reduceSub, Nat.reduceMul, Nat.reduceBEq, reduceCtorEq, Int.reduceAdd, Int.reduceSub, Int.reduceMul, Int.reduceLT, Int.reduceLE, Int.reduceGT, Int.reduceGE, Int.reduceEq, Int.reduceNe, Int.reduceBEq, Int.reduceBNe, Int.reduceTMod, Int.reduceTDiv, ↓if_true, ↓if_false, F8, A8, hb, row2, hcat]
    refine wcall_v specLoc (derive_ct (label := bidL ++ n) (by (repeat (first | exact hw1 | apply WF.push | (refine WF.set ?_ (by first | omega | (simp only [Mem.next_set, Mem.next_push]; omega)))))) (hk3 _) hkl32 (by rw [List.length_append]; simp only [bidL, List.length_cons, List.length_nil]; omega) (by rw [List.length_append]; simp only [bidL, List.length_cons, List.length_nil]; omega)) (by (repeat (first | exact hw1 | apply WF.push | (refine WF.set ?_ (by first | omega | (simp only [Mem.next_set, Mem.next_push]; omega)))))) ?_
    rintro v m2 hw2 hn2 f2 ⟨d, rfl, hd⟩
    have row4 : m2.get m.next = some (.row [str n, .int .i64 r, .int .i64 s, sv, tv] .rw) := by rw [f2 _ (by simp; omega)]; exact row2 _
    have hs4 : Bs m2 sv S := (hs3 _).keep (keep_of (by (repeat (first | exact hw1 | apply WF.push | (refine WF.set ?_ (by first | omega | (simp only [Mem.next_set, Mem.next_push]; omega)))))) f2)
    simp (maxSteps := 2000000) (disch := first | assumption | omega | (simp only [nx_push, nx_set, ne_eq] <;> omega) | (simp only [XSide, F8]; done) | decide) only [XWalk, XSl, ↓XPre, reduceIte, Nat.reduceEqDiff, Nat.reduceLT, Nat.reduceAdd, Nat.reduceSub, Nat.reduceMul, Nat.reduceBEq, reduceCtorEq, Int.reduceAdd, Int.reduceSub, Int.reduceMul, Int.reduceLT, Int.reduceLE, Int.reduceGT, Int.reduceGE, Int.reduceEq, Int.reduceNe, Int.reduceBEq, Int.reduceBNe, Int.reduceTMod, Int.reduceTDiv, ↓if_true, ↓if_false, F8, A8, row4]
    refine wcall_v specLoc (sopen_ct hw2 hd blakeB_length hs4 p6 (by omega)) hw2 ?_
    intro v m3 hw3 hn3 f3 hr
    cases ho : openB (blakeB key (bidL ++ n)) S with
    | none =>
      rw [ho] at hr
      subst hr
      simp (maxSteps := 2000000) (disch := first | assumption | omega | (simp only [nx_push, nx_set, ne_eq] <;> omega) | (simp only [XSide, F8]; done) | decide) only [XWalk, XSl, ↓XPre, reduceIte, Nat.reduceEqDiff, Nat.reduceLT, Nat.reduceAdd, Nat.reduceSub, Nat.reduceMul, Nat.reduceBEq, reduceCtorEq, Int.reduceAdd, Int.reduceSub, Int.reduceMul, Int.reduceLT, Int.reduceLE, Int.reduceGT, Int.reduceGE, Int.reduceEq, Int.reduceNe, Int.reduceBEq, Int.reduceBNe, Int.reduceTMod, Int.reduceTDiv, ↓if_true, ↓if_false, F8, A8]
      exact ⟨_, rfl, rfl⟩
    | some p =>
      rw [ho] at hr
      obtain ⟨sv', rfl, hsv⟩ := hr
      simp (maxSteps := 2000000) (disch := first | assumption | omega | (simp only [nx_push, nx_set, ne_eq] <;> omega) | (simp only [XSide, F8]; done) | decide) only [XWalk, XSl, ↓XPre, reduceIte, Nat.reduceEqDiff, Nat.reduceLT, Nat.reduceAdd, Nat.reduceSub, Nat.reduceMul, Nat.reduceBEq, reduceCtorEq, Int.reduceAdd, Int.reduceSub, Int.reduceMul, Int.reduceLT, Int.reduceLE, Int.reduceGT, Int.reduceGE, Int.reduceEq, Int.reduceNe, Int.reduceBEq, Int.reduceBNe, Int.reduceTMod, Int.reduceTDiv, ↓if_true, ↓if_false, F8, A8]
      exact ⟨_, rfl, sv', rfl, hsv⟩

theorem eopen_nil_ct {m : Mem} (hw : WF m) {n S T key : List UInt8} {r s : Int} {sv tv kv : Value} (hs : Bs m sv S) (ht : Bs m tv T) (hk : Bs m kv key) (hn : n.length ≤ 1073741824) :
    Ct Tryd.prog S0 8 [.pointer none, envV n r s sv tv, kv] m [] (fun out m' => out = .ret (.tuple #[.slice none 0 0, .int .i64 1])) := by
  have hone : [str n, .int .i64 r, .int .i64 s, sv, tv].all oneCell = true := by
    simp only [List.all_cons, List.all_nil, one_sl hs, one_sl ht, one_str, one_int, Bool.and_self]
  refine ct_x (spec0 _) (by rfl) Tryd.func8 rfl ?_
  simp (maxSteps := 2000000) (disch := first | assumption | omega | (simp only [nx_push, nx_set, ne_eq] <;> omega) | (simp only [XSide, F8]; done) | decide) only [XWalk, XSl, ↓XPre, reduceIte, Nat.reduceEqDiff, Nat.reduceLT, Nat.reduceAdd, Nat.reduceSub, Nat.reduceMul, Nat.reduceBEq, reduceCtorEq, Int.reduceAdd, Int.reduceSub, Int.reduceMul, Int.reduceLT, Int.reduceLE, Int.reduceGT, Int.reduceGE, Int.reduceEq, Int.reduceNe, Int.reduceBEq, Int.reduceBNe, Int.reduceTMod, Int.reduceTDiv, ↓if_true, ↓if_false, F8, A8, Tryd.ntmps8, XAcc]
  refine x_draw [0, 1, 3, 0, 8, 24, 63, 0, 0, 511, 1023, 2047, 4095] (by kernel_rfl) ?_
  simp (maxSteps := 2000000) (disch := first | assumption | omega | (simp only [nx_push, nx_set, ne_eq] <;> omega) | (simp only [XSide, F8]; done) | decide) only [XWalk, XSl, ↓XPre, reduceIte, Nat.reduceEqDiff, Nat.reduceLT, Nat.reduceAdd, Nat.reduceSub, Nat.reduceMul, Nat.reduceBEq, reduceCtorEq, Int.reduceAdd, Int.reduceSub, Int.reduceMul, Int.reduceLT, Int.reduceLE, Int.reduceGT, Int.reduceGE, Int.reduceEq, Int.reduceNe, Int.reduceBEq, Int.reduceBNe, Int.reduceTMod, Int.reduceTDiv, ↓if_true, ↓if_false, F8, A8, XAcc]
  refine wcall_pu (pu_of unless_ct) ?_
  have hs1 : Bs (m.push (.row [str n, .int .i64 r, .int .i64 s, sv, tv] .rw)) sv S := hs.keep (Keep.push hw)
  have ht1 : Bs (m.push (.row [str n, .int .i64 r, .int .i64 s, sv, tv] .rw)) tv T := ht.keep (Keep.push hw)
  have hk1 : Bs (m.push (.row [str n, .int .i64 r, .int .i64 s, sv, tv] .rw)) kv key := hk.keep (Keep.push hw)
  simp (maxSteps := 2000000) (disch := first | assumption | omega | (simp only [nx_push, nx_set, ne_eq] <;> omega) | (simp only [XSide, F8]; done) | decide) only [XWalk, XSl, ↓XPre, reduceIte, Nat.reduceEqDiff, Nat.reduceLT, Nat.reduceAdd, Nat.reduceSub, Nat.reduceMul, Nat.reduceBEq, reduceCtorEq, Int.reduceAdd, Int.reduceSub, Int.reduceMul, Int.reduceLT, Int.reduceLE, Int.reduceGT, Int.reduceGE, Int.reduceEq, Int.reduceNe, Int.reduceBEq, Int.reduceBNe, Int.reduceTMod, Int.reduceTDiv, ↓if_true, ↓if_false, F8, A8, XAcc, alen_bs hk1]
  refine wcall_pu (pu_of unless_ct) ?_
  simp (maxSteps := 2000000) (disch := first | assumption | omega | (simp only [nx_push, nx_set, ne_eq] <;> omega) | (simp only [XSide, F8]; done) | decide) only [XWalk, XSl, ↓XPre, reduceIte, Nat.reduceEqDiff, Nat.reduceLT, Nat.reduceAdd, Nat.reduceSub, Nat.reduceMul, Nat.reduceBEq, reduceCtorEq, Int.reduceAdd, Int.reduceSub, Int.reduceMul, Int.reduceLT, Int.reduceLE, Int.reduceGT, Int.reduceGE, Int.reduceEq, Int.reduceNe, Int.reduceBEq, Int.reduceBNe, Int.reduceTMod, Int.reduceTDiv, ↓if_true, ↓if_false, F8, A8, XAcc]
  refine wcall_x specLoc (check_nil_ct hw.push hs1 ht1 hn) hw.push ?_
  rintro out m1 hw1 hn1 f1 rfl
  simp only [Mem.next_push] at hn1
  simp (maxSteps := 2000000) (disch := first | assumption | omega | (simp only [nx_push, nx_set, ne_eq] <;> omega) | (simp only [XSide, F8]; done) | decide) only [XWalk, XSl, ↓XPre, reduceIte, Nat.reduceEqDiff, Nat.reduceLT, Nat.reduceAdd, Nat.reduceSub, Nat.reduceMul, Nat.reduceBEq, reduceCtorEq, Int.reduceAdd, Int.reduceSub, Int.reduceMul, Int.reduceLT, Int.reduceLE, Int.reduceGT, Int.reduceGE, Int.reduceEq, Int.reduceNe, Int.reduceBEq, Int.reduceBNe, Int.reduceTMod, Int.reduceTDiv, ↓if_true, ↓if_false, F8, A8, XAcc]
  refine wcall_pu (pu_of (first_ct (hw1.push) (l := [1, if ((key.length : Int) == 32) = true then 0 else 2, 1]) (kd := .rw) get_push_self (by simp))) ?_
  simp (maxSteps := 2000000) (disch := first | assumption | omega | (simp only [nx_push, nx_set, ne_eq] <;> omega) | (simp only [XSide, F8]; done) | decide) only [XWalk, XSl, ↓XPre, reduceIte, Nat.reduceEqDiff, Nat.reduceLT, Nat.reduceAdd, Nat.reduceSub, Nat.reduceMul, Nat.reduceBEq, reduceCtorEq, Int.reduceAdd, Int.reduceSub, Int.reduceMul, Int.reduceLT, Int.reduceLE, Int.reduceGT, Int.reduceGE, Int.reduceEq, Int.reduceNe, Int.reduceBEq, Int.reduceBNe, Int.reduceTMod, Int.reduceTDiv, ↓if_true, ↓if_false, F8, A8, firstE]

end Go.Big

/- Sealing a bid. -/
set_option linter.unusedSimpArgs false
set_option linter.unusedVariables false
set_option maxRecDepth 100000
set_option maxHeartbeats 4000000
namespace Go.Big
open Go.Proofs

def rangeB (r s : Int) : Bool := (decide (r ≥ 0) && decide (r ≤ 1048576)) && (decide (s ≥ 0) && decide (s ≤ 1073741824))
def lensB (kl nl : Nat) : Bool := ((kl : Int) == 32) && ((nl : Int) == 16)
/-- The error of sealing; 'p' and 'q' speak of the book and of the account. -/
def sealErr (p q : Int) (r s : Int) (kl nl bl : Nat) : Int := firstE [p, if rangeB r s = true then 0 else 2, if lensB kl nl = true then 0 else 2, if decide ((bl : Int) ≤ 4096) = true then 0 else 5, q]
def gotErr (n : List UInt8) : Int := match acctOf n with | some _ => 0 | none => 9

/-- What was sealed. -/
def sealedOf (n key nonce bid : List UInt8) : List UInt8 := sealB (blakeB key (bidL ++ n)) nonce bid
def tagOf (n : List UInt8) (r s : Nat) (S : List UInt8) : List UInt8 := match acctOf n with | some (key, _) => blakeB key (signedB n r s S) | none => []

abbrev env0 : Value := envV [] 0 0 (.slice none 0 0) (.slice none 0 0)
def SealR (n : List UInt8) (r s : Int) (key nonce bid : List UInt8) (e : Int) : Value → Mem → Prop := fun v m' =>
  if (e != 0) = true then v = .tuple #[env0, .int .i64 e] else
  ∃ sv tv, v = .tuple #[envV n r s sv tv, .int .i64 0] ∧ Bs m' sv (sealedOf n key nonce bid) ∧ Bs m' tv (tagOf n r.toNat s.toNat (sealedOf n key nonce bid))

theorem abuild24 : abuild Tryd.prog 24 [] = some env0 := by kernel_rfl
theorem build24 {n : ByteArray} {r s : Int} : abuild Tryd.prog 24 [(0, .string n), (1, .int .i64 r), (2, .int .i64 s)] = some (.agg #[.string n, .int .i64 r, .int .i64 s, .slice none 0 0, .slice none 0 0]) := by kernel_rfl

theorem firstE_q {a b c d q : Int} (h : firstE [a, b, c, d, q] = 0) : a = 0 ∧ b = 0 ∧ c = 0 ∧ d = 0 ∧ q = 0 := by
  simp only [firstE] at h
  by_cases h1 : a = 0
  · by_cases h2 : b = 0
    · by_cases h3 : c = 0
      · by_cases h4 : d = 0
        · by_cases h5 : q = 0
          · exact ⟨h1, h2, h3, h4, h5⟩
          · simp [h1, h2, h3, h4, h5] at h
        · simp [h1, h2, h3, h4] at h
      · simp [h1, h2, h3] at h
    · simp [h1, h2] at h
  · simp [h1] at h

theorem Sl.not_blk {m : Mem} {v : Value} {cs rs : List Value} {b : Nat} {k : Kind} (h : Sl m v cs) (hm : m.get b = some (.row rs k)) (hl : rs.length < cs.length) : slBlk v ≠ some b := by
  intro e
  cases h with
  | nil => cases e
  | spot h => simp at hl
  | row h1 h2 h3 h4 h5 =>
    cases e
    rw [hm] at h1
    cases h1
    rw [← h2, List.length_take, List.length_drop] at hl
    omega

theorem sealed_len {n key nonce bid : List UInt8} (h : nonce.length = 16) : (sealedOf n key nonce bid).length = bid.length + 32 := by
  rw [sealedOf, sealB, List.length_append, cipherB, List.length_append, xorB_length streamB_length, List.length_take, blakeB_length, h]; omega

theorem eseal_ct {m : Mem} (hw : WF m) {x : Value} {n key nonce bid : List UInt8} {r s : Int} {kv nv bv : Value} (hx : BookAt m x) (hk : Bs m kv key) (hn : Bs m nv nonce) (hb : Bs m bv bid) (hnl : n.length ≤ 100) (hbl : bid.length ≤ 60000) (hkl : key.length < 2147483648) (hnnl : nonce.length < 2147483648) :
    Ct Tryd.prog S0 7 [x, str n, .int .i64 r, .int .i64 s, kv, nv, bv] m [] (Rv (SealR n r s key nonce bid (sealErr 0 (gotErr n) r s key.length nonce.length bid.length))) := by
  have hx0 := hx
  obtain ⟨xb, nmv, mb, pv, k1, k2, rfl, h2, h3, h4, h5⟩ := hx
  refine ct_x (spec0 _) (by rfl) Tryd.func7 rfl ?_
  simp (maxSteps := 2000000) (disch := first | assumption | omega | (simp only [nx_push, nx_set, ne_eq] <;> omega) | (simp only [XSide, F7]; done) | decide) only [XWalk, XSl, ↓XPre, reduceIte, Nat.reduceEqDiff, Nat.reduceLT, Nat.reduceAdd, Nat.reduceSub, Nat.reduceMul, Nat.reduceBEq, reduceCtorEq, Int.reduceAdd, Int.reduceSub, Int.reduceMul, Int.reduceLT, Int.reduceLE, Int.reduceGT, Int.reduceGE, Int.reduceEq, Int.reduceNe, Int.reduceBEq, Int.reduceBNe, Int.reduceTMod, Int.reduceTDiv, ↓if_true, ↓if_false, F7, A7, Tryd.ntmps7, XAcc]
  refine wcall_v specLoc (get_ct hw.push (hx0.keep (Keep.push hw))) hw.push ?_
  intro gv m1 hw1 hn1 f1 hg
  obtain ⟨av, rfl, hgv⟩ : ∃ av : List Value, gv = .tuple #[.agg av.toArray, .int .i64 (gotErr n)] ∧ av.length = 5 ∧ av.all oneCell = true := by
    unfold GotR at hg
    unfold gotErr
    cases ho : acctOf n with
    | none => rw [ho] at hg; exact ⟨_, hg, rfl, rfl⟩
    | some kn =>
      obtain ⟨ky, num⟩ := kn
      rw [ho] at hg
      obtain ⟨kv', rfl, hkv'⟩ := hg
      obtain ⟨a, l, c, rfl⟩ := sl_shape hkv'
      exact ⟨_, rfl, rfl, rfl⟩
  obtain ⟨hal, hao⟩ := hgv
  have row1 : m1.get m.next = some (.row [str [], .int .i64 0, .int .i64 0, .slice none 0 0, .slice none 0 0] .rw) := by rw [f1 _ (by simp), get_push_self]
  have hk1 : Bs m1 kv key := (hk.keep (Keep.push hw)).keep (keep_of hw.push f1)
  have hno1 : Bs m1 nv nonce := (hn.keep (Keep.push hw)).keep (keep_of hw.push f1)
  have hb1 : Bs m1 bv bid := (hb.keep (Keep.push hw)).keep (keep_of hw.push f1)
  have hx1 : BookAt m1 (.pointer (some ⟨xb, 0, none⟩)) := (hx0.keep (Keep.push hw)).keep (keep_of hw.push f1)
  simp only [Mem.next_push] at hn1
  clear f1 hg
  have b5 : Nat.beq av.length 5 = true := by rw [hal]; rfl
  have l5 : ∀ a b c d f : Value, av.length = [a, b, c, d, f].length := fun _ _ _ _ _ => by rw [hal]; rfl
  have l5' : av.length = [Value.string ⟨#[]⟩, .int .i64 0, .slice none 0 0, .int .i64 0, .int .i64 0].length := l5 _ _ _ _ _
  simp (maxSteps := 2000000) (disch := first | assumption | omega | (simp only [nx_push, nx_set, ne_eq] <;> omega) | (simp only [XSide, F7]; done) | decide) only [XWalk, XSl, ↓XPre, reduceIte, Nat.reduceEqDiff, Nat.reduceLT, Nat.reduceAdd, Nat.reduceSub, Nat.reduceMul, Nat.reduceBEq, reduceCtorEq, Int.reduceAdd, Int.reduceSub, Int.reduceMul, Int.reduceLT, Int.reduceLE, Int.reduceGT, Int.reduceGE, Int.reduceEq, Int.reduceNe, Int.reduceBEq, Int.reduceBNe, Int.reduceTMod, Int.reduceTDiv, ↓if_true, ↓if_false, F7, A7, b5]
  have hw2 : ∀ o o', WF ((m1.push o).set m1.next o') := fun o o' => by (repeat (first | exact hw1 | apply WF.push | (refine WF.set ?_ (by first | omega | (simp only [Mem.next_set, Mem.next_push]; omega)))))
  have row2 : ∀ o o', ((m1.push o).set m1.next o').get m.next = some (.row [str [], .int .i64 0, .int .i64 0, .slice none 0 0, .slice none 0 0] .rw) := fun o o' => by rw [get_set_ne (by omega), get_push_ne (by omega)]; exact row1
  have bs2 : ∀ (v : Value) (l : List UInt8), Bs m1 v l → ∀ o o', Bs ((m1.push o).set m1.next o') v l := fun v l h o o' => (h.keep (Keep.push hw1)).frame_at fun c hc => by rw [get_set_ne]; have := h.blk_lt hw1 hc; omega
  have bk2 : ∀ o o', BookAt ((m1.push o).set m1.next o') (.pointer (some ⟨xb, 0, none⟩)) := fun o o' => hx1.keep fun c hc => by
    have := hw1.lt hc
    rw [get_set_ne (by omega), get_push_ne (by omega)]
  have nx2 : ∀ o o', ((m1.push o).set m1.next o').next = m1.next + 1 := fun o o' => rfl
  obtain ⟨m2, hm2⟩ : ∃ m2, m2 = (m1.push (.row [.string ⟨#[]⟩, .int .i64 0, .slice none 0 0, .int .i64 0, .int .i64 0] .rw)).set m1.next (.row av .rw) := ⟨_, rfl⟩
  have hw2' : WF m2 := by rw [hm2]; exact hw2 _ _
  have row2' : m2.get m.next = some (.row [str [], .int .i64 0, .int .i64 0, .slice none 0 0, .slice none 0 0] .rw) := by rw [hm2]; exact row2 _ _
  have hk2 : Bs m2 kv key := by rw [hm2]; exact bs2 _ _ hk1 _ _
  have hno2 : Bs m2 nv nonce := by rw [hm2]; exact bs2 _ _ hno1 _ _
  have hb2 : Bs m2 bv bid := by rw [hm2]; exact bs2 _ _ hb1 _ _
  have hx2 : BookAt m2 (.pointer (some ⟨xb, 0, none⟩)) := by rw [hm2]; exact bk2 _ _
  have hn2 : m2.next = m1.next + 1 := by rw [hm2]; rfl
  rw [← hm2]
  clear hm2 bs2 bk2 row2 hw2 nx2 hk1 hno1 hb1 hx1 row1 hk hn hb hx0 h2 h3 h4 h5 b5 l5 l5'
  cases h1 : (decide (r ≥ 0) && decide (r ≤ 1048576)) with
  | false =>
    cases h2 : ((key.length : Int) == 32) with
    | false =>
      refine wcall_pu (pu_of unless_ct) ?_
      simp (maxSteps := 2000000) (disch := first | assumption | omega | (simp only [nx_push, nx_set, ne_eq] <;> omega) | (simp only [XSide, F7]; done) | decide) only [XWalk, XSl, ↓XPre, reduceIte, Nat.reduceEqDiff, Nat.reduceLT, Nat.reduceAdd, Nat.reduceSub, Nat.reduceMul, Nat.reduceBEq, reduceCtorEq, Int.reduceAdd, Int.reduceSub, Int.reduceMul, Int.reduceLT, Int.reduceLE, Int.reduceGT, Int.reduceGE, Int.reduceEq, Int.reduceNe, Int.reduceBEq, Int.reduceBNe, Int.reduceTMod, Int.reduceTDiv, ↓if_true, ↓if_false, F7, A7]
      refine wcall_pu (pu_of within_ct) ?_
      simp (maxSteps := 2000000) (disch := first | assumption | omega | (simp only [nx_push, nx_set, ne_eq] <;> omega) | (simp only [XSide, F7]; done) | decide) only [XWalk, XSl, ↓XPre, reduceIte, Nat.reduceEqDiff, Nat.reduceLT, Nat.reduceAdd, Nat.reduceSub, Nat.reduceMul, Nat.reduceBEq, reduceCtorEq, Int.reduceAdd, Int.reduceSub, Int.reduceMul, Int.reduceLT, Int.reduceLE, Int.reduceGT, Int.reduceGE, Int.reduceEq, Int.reduceNe, Int.reduceBEq, Int.reduceBNe, Int.reduceTMod, Int.reduceTDiv, ↓if_true, ↓if_false, F7, A7, h1]
      refine wcall_pu (pu_of unless_ct) ?_
      simp (maxSteps := 2000000) (disch := first | assumption | omega | (simp only [nx_push, nx_set, ne_eq] <;> omega) | (simp only [XSide, F7]; done) | decide) only [XWalk, XSl, ↓XPre, reduceIte, Nat.reduceEqDiff, Nat.reduceLT, Nat.reduceAdd, Nat.reduceSub, Nat.reduceMul, Nat.reduceBEq, reduceCtorEq, Int.reduceAdd, Int.reduceSub, Int.reduceMul, Int.reduceLT, Int.reduceLE, Int.reduceGT, Int.reduceGE, Int.reduceEq, Int.reduceNe, Int.reduceBEq, Int.reduceBNe, Int.reduceTMod, Int.reduceTDiv, ↓if_true, ↓if_false, F7, A7, alen_bs hk2, h2, alen_bs hno2]
      refine wcall_pu (pu_of unless_ct) ?_
      simp (maxSteps := 2000000) (disch := first | assumption | omega | (simp only [nx_push, nx_set, ne_eq] <;> omega) | (simp only [XSide, F7]; done) | decide) only [XWalk, XSl, ↓XPre, reduceIte, Nat.reduceEqDiff, Nat.reduceLT, Nat.reduceAdd, Nat.reduceSub, Nat.reduceMul, Nat.reduceBEq, reduceCtorEq, Int.reduceAdd, Int.reduceSub, Int.reduceMul, Int.reduceLT, Int.reduceLE, Int.reduceGT, Int.reduceGE, Int.reduceEq, Int.reduceNe, Int.reduceBEq, Int.reduceBNe, Int.reduceTMod, Int.reduceTDiv, ↓if_true, ↓if_false, F7, A7, alen_bs hb2]
      refine wcall_pu (pu_of unless_ct) ?_
      simp (maxSteps := 2000000) (disch := first | assumption | omega | (simp only [nx_push, nx_set, ne_eq] <;> omega) | (simp only [XSide, F7]; done) | decide) only [XWalk, XSl, ↓XPre, reduceIte, Nat.reduceEqDiff, Nat.reduceLT, Nat.reduceAdd, Nat.reduceSub, Nat.reduceMul, Nat.reduceBEq, reduceCtorEq, Int.reduceAdd, Int.reduceSub, Int.reduceMul, Int.reduceLT, Int.reduceLE, Int.reduceGT, Int.reduceGE, Int.reduceEq, Int.reduceNe, Int.reduceBEq, Int.reduceBNe, Int.reduceTMod, Int.reduceTDiv, ↓if_true, ↓if_false, F7, A7]
      have hse : sealErr 0 (gotErr n) r s key.length nonce.length bid.length = firstE [0, 2, 2, (if decide ((bid.length : Int) ≤ 4096) = true then 0 else 5), gotErr n] := by
        unfold sealErr rangeB lensB
        rw [h1, h2]
        simp
      rw [hse]
      refine wcall_pu (pu_of (first_ct hw2'.push (l := [0, 2, 2, (if decide ((bid.length : Int) ≤ 4096) = true then 0 else 5), gotErr n]) (kd := .rw) get_push_self (by simp))) ?_
      have hne : (firstE [0, 2, 2, (if decide ((bid.length : Int) ≤ 4096) = true then 0 else 5), gotErr n] != 0) = true := by
        rw [bne_iff_ne]; intro h0; have := firstE_q h0; omega
      generalize firstE [0, 2, 2, (if decide ((bid.length : Int) ≤ 4096) = true then 0 else 5), gotErr n] = e0 at *
      have row3 : ∀ o, (m2.push o).get m.next = some (.row [str [], .int .i64 0, .int .i64 0, .slice none 0 0, .slice none 0 0] .rw) := fun o => by rw [get_push_ne (by omega)]; exact row2'
      simp (maxSteps := 2000000) (disch := first | assumption | omega | (simp only [nx_push, nx_set, ne_eq] <;> omega) | (simp only [XSide, F7]; done) | decide) only [XWalk, XSl, ↓XPre, reduceIte, Nat.reduceEqDiff, Nat.reduceLT, Nat.reduceAdd, Nat.reduceSub, Nat.reduceMul, Nat.reduceBEq, reduceCtorEq, Int.reduceAdd, Int.reduceSub, Int.reduceMul, Int.reduceLT, Int.reduceLE, Int.reduceGT, Int.reduceGE, Int.reduceEq, Int.reduceNe, Int.reduceBEq, Int.reduceBNe, Int.reduceTMod, Int.reduceTDiv, ↓if_true, ↓if_false, F7, A7, hne, abuild24, row3, XAcc]
      exact ⟨_, rfl, by rw [SealR, if_pos hne]⟩
    | true =>
      refine wcall_pu (pu_of unless_ct) ?_
      simp (maxSteps := 2000000) (disch := first | assumption | omega | (simp only [nx_push, nx_set, ne_eq] <;> omega) | (simp only [XSide, F7]; done) | decide) only [XWalk, XSl, ↓XPre, reduceIte, Nat.reduceEqDiff, Nat.reduceLT, Nat.reduceAdd, Nat.reduceSub, Nat.reduceMul, Nat.reduceBEq, reduceCtorEq, Int.reduceAdd, Int.reduceSub, Int.reduceMul, Int.reduceLT, Int.reduceLE, Int.reduceGT, Int.reduceGE, Int.reduceEq, Int.reduceNe, Int.reduceBEq, Int.reduceBNe, Int.reduceTMod, Int.reduceTDiv, ↓if_true, ↓if_false, F7, A7]
      refine wcall_pu (pu_of within_ct) ?_
      simp (maxSteps := 2000000) (disch := first | assumption | omega | (simp only [nx_push, nx_set, ne_eq] <;> omega) | (simp only [XSide, F7]; done) | decide) only [XWalk, XSl, ↓XPre, reduceIte, Nat.reduceEqDiff, Nat.reduceLT, Nat.reduceAdd, Nat.reduceSub, Nat.reduceMul, Nat.reduceBEq, reduceCtorEq, Int.reduceAdd, Int.reduceSub, Int.reduceMul, Int.reduceLT, Int.reduceLE, Int.reduceGT, Int.reduceGE, Int.reduceEq, Int.reduceNe, Int.reduceBEq, Int.reduceBNe, Int.reduceTMod, Int.reduceTDiv, ↓if_true, ↓if_false, F7, A7, h1]
      refine wcall_pu (pu_of unless_ct) ?_
      simp (maxSteps := 2000000) (disch := first | assumption | omega | (simp only [nx_push, nx_set, ne_eq] <;> omega) | (simp only [XSide, F7]; done) | decide) only [XWalk, XSl, ↓XPre, reduceIte, Nat.reduceEqDiff, Nat.reduceLT, Nat.reduceAdd, Nat.reduceSub, Nat.reduceMul, Nat.reduceBEq, reduceCtorEq, Int.reduceAdd, Int.reduceSub, Int.reduceMul, Int.reduceLT, Int.reduceLE, Int.reduceGT, Int.reduceGE, Int.reduceEq, Int.reduceNe, Int.reduceBEq, Int.reduceBNe, Int.reduceTMod, Int.reduceTDiv, ↓if_true, ↓if_false, F7, A7, alen_bs hk2, h2, alen_bs hno2]
      refine wcall_pu (pu_of unless_ct) ?_
      simp (maxSteps := 2000000) (disch := first | assumption | omega | (simp only [nx_push, nx_set, ne_eq] <;> omega) | (simp only [XSide, F7]; done) | decide) only [XWalk, XSl, ↓XPre, reduceIte, Nat.reduceEqDiff, Nat.reduceLT, Nat.reduceAdd, Nat.reduceSub, Nat.reduceMul, Nat.reduceBEq, reduceCtorEq, Int.reduceAdd, Int.reduceSub, Int.reduceMul, Int.reduceLT, Int.reduceLE, Int.reduceGT, Int.reduceGE, Int.reduceEq, Int.reduceNe, Int.reduceBEq, Int.reduceBNe, Int.reduceTMod, Int.reduceTDiv, ↓if_true, ↓if_false, F7, A7, alen_bs hb2]
      refine wcall_pu (pu_of unless_ct) ?_
      simp (maxSteps := 2000000) (disch := first | assumption | omega | (simp only [nx_push, nx_set, ne_eq] <;> omega) | (simp only [XSide, F7]; done) | decide) only [XWalk, XSl, ↓XPre, reduceIte, Nat.reduceEqDiff, Nat.reduceLT, Nat.reduceAdd, Nat.reduceSub, Nat.reduceMul, Nat.reduceBEq, reduceCtorEq, Int.reduceAdd, Int.reduceSub, Int.reduceMul, Int.reduceLT, Int.reduceLE, Int.reduceGT, Int.reduceGE, Int.reduceEq, Int.reduceNe, Int.reduceBEq, Int.reduceBNe, Int.reduceTMod, Int.reduceTDiv, ↓if_true, ↓if_false, F7, A7]
      have hse : sealErr 0 (gotErr n) r s key.length nonce.length bid.length = firstE [0, 2, (if ((nonce.length : Int) == 16) = true then 0 else 2), (if decide ((bid.length : Int) ≤ 4096) = true then 0 else 5), gotErr n] := by
        unfold sealErr rangeB lensB
        rw [h1, h2]
        simp
      rw [hse]
      refine wcall_pu (pu_of (first_ct hw2'.push (l := [0, 2, (if ((nonce.length : Int) == 16) = true then 0 else 2), (if decide ((bid.length : Int) ≤ 4096) = true then 0 else 5), gotErr n]) (kd := .rw) get_push_self (by simp))) ?_
      have hne : (firstE [0, 2, (if ((nonce.length : Int) == 16) = true then 0 else 2), (if decide ((bid.length : Int) ≤ 4096) = true then 0 else 5), gotErr n] != 0) = true := by
        rw [bne_iff_ne]; intro h0; have := firstE_q h0; omega
      generalize firstE [0, 2, (if ((nonce.length : Int) == 16) = true then 0 else 2), (if decide ((bid.length : Int) ≤ 4096) = true then 0 else 5), gotErr n] = e0 at *
      have row3 : ∀ o, (m2.push o).get m.next = some (.row [str [], .int .i64 0, .int .i64 0, .slice none 0 0, .slice none 0 0] .rw) := fun o => by rw [get_push_ne (by omega)]; exact row2'
      simp (maxSteps := 2000000) (disch := first | assumption | omega | (simp only [nx_push, nx_set, ne_eq] <;> omega) | (simp only [XSide, F7]; done) | decide) only [XWalk, XSl, ↓XPre, reduceIte, Nat.reduceEqDiff, Nat.reduceLT, Nat.reduceAdd, Nat.reduceSub, Nat.reduceMul, Nat.reduceBEq, reduceCtorEq, Int.reduceAdd, Int.reduceSub, Int.reduceMul, Int.reduceLT, Int.reduceLE, Int.reduceGT, Int.reduceGE, Int.reduceEq, Int.reduceNe, Int.reduceBEq, Int.reduceBNe, Int.reduceTMod, Int.reduceTDiv, ↓if_true, ↓if_false, F7, A7, hne, abuild24, row3, XAcc]
      exact ⟨_, rfl, by rw [SealR, if_pos hne]⟩
  | true =>
    cases h2 : ((key.length : Int) == 32) with
    | false =>
      refine wcall_pu (pu_of unless_ct) ?_
      simp (maxSteps := 2000000) (disch := first | assumption | omega | (simp only [nx_push, nx_set, ne_eq] <;> omega) | (simp only [XSide, F7]; done) | decide) only [XWalk, XSl, ↓XPre, reduceIte, Nat.reduceEqDiff, Nat.reduceLT, Nat.reduceAdd, Nat.reduceSub, Nat.reduceMul, Nat.reduceBEq, reduceCtorEq, Int.reduceAdd, Int.reduceSub, Int.reduceMul, Int.reduceLT, Int.reduceLE, Int.reduceGT, Int.reduceGE, Int.reduceEq, Int.reduceNe, Int.reduceBEq, Int.reduceBNe, Int.reduceTMod, Int.reduceTDiv, ↓if_true, ↓if_false, F7, A7]
      refine wcall_pu (pu_of within_ct) ?_
      simp (maxSteps := 2000000) (disch := first | assumption | omega | (simp only [nx_push, nx_set, ne_eq] <;> omega) | (simp only [XSide, F7]; done) | decide) only [XWalk, XSl, ↓XPre, reduceIte, Nat.reduceEqDiff, Nat.reduceLT, Nat.reduceAdd, Nat.reduceSub, Nat.reduceMul, Nat.reduceBEq, reduceCtorEq, Int.reduceAdd, Int.reduceSub, Int.reduceMul, Int.reduceLT, Int.reduceLE, Int.reduceGT, Int.reduceGE, Int.reduceEq, Int.reduceNe, Int.reduceBEq, Int.reduceBNe, Int.reduceTMod, Int.reduceTDiv, ↓if_true, ↓if_false, F7, A7, h1]
      refine wcall_pu (pu_of within_ct) ?_
      simp (maxSteps := 2000000) (disch := first | assumption | omega | (simp only [nx_push, nx_set, ne_eq] <;> omega) | (simp only [XSide, F7]; done) | decide) only [XWalk, XSl, ↓XPre, reduceIte, Nat.reduceEqDiff, Nat.reduceLT, Nat.reduceAdd, Nat.reduceSub, Nat.reduceMul, Nat.reduceBEq, reduceCtorEq, Int.reduceAdd, Int.reduceSub, Int.reduceMul, Int.reduceLT, Int.reduceLE, Int.reduceGT, Int.reduceGE, Int.reduceEq, Int.reduceNe, Int.reduceBEq, Int.reduceBNe, Int.reduceTMod, Int.reduceTDiv, ↓if_true, ↓if_false, F7, A7]
      refine wcall_pu (pu_of unless_ct) ?_
      simp (maxSteps := 2000000) (disch := first | assumption | omega | (simp only [nx_push, nx_set, ne_eq] <;> omega) | (simp only [XSide, F7]; done) | decide) only [XWalk, XSl, ↓XPre, reduceIte, Nat.reduceEqDiff, Nat.reduceLT, Nat.reduceAdd, Nat.reduceSub, Nat.reduceMul, Nat.reduceBEq, reduceCtorEq, Int.reduceAdd, Int.reduceSub, Int.reduceMul, Int.reduceLT, Int.reduceLE, Int.reduceGT, Int.reduceGE, Int.reduceEq, Int.reduceNe, Int.reduceBEq, Int.reduceBNe, Int.reduceTMod, Int.reduceTDiv, ↓if_true, ↓if_false, F7, A7, alen_bs hk2, h2, alen_bs hno2]
      refine wcall_pu (pu_of unless_ct) ?_
      simp (maxSteps := 2000000) (disch := first | assumption | omega | (simp only [nx_push, nx_set, ne_eq] <;> omega) | (simp only [XSide, F7]; done) | decide) only [XWalk, XSl, ↓XPre, reduceIte, Nat.reduceEqDiff, Nat.reduceLT, Nat.reduceAdd, Nat.reduceSub, Nat.reduceMul, Nat.reduceBEq, reduceCtorEq, Int.reduceAdd, Int.reduceSub, Int.reduceMul, Int.reduceLT, Int.reduceLE, Int.reduceGT, Int.reduceGE, Int.reduceEq, Int.reduceNe, Int.reduceBEq, Int.reduceBNe, Int.reduceTMod, Int.reduceTDiv, ↓if_true, ↓if_false, F7, A7, alen_bs hb2]
      refine wcall_pu (pu_of unless_ct) ?_
      simp (maxSteps := 2000000) (disch := first | assumption | omega | (simp only [nx_push, nx_set, ne_eq] <;> omega) | (simp only [XSide, F7]; done) | decide) only [XWalk, XSl, ↓XPre, reduceIte, Nat.reduceEqDiff, Nat.reduceLT, Nat.reduceAdd, Nat.reduceSub, Nat.reduceMul, Nat.reduceBEq, reduceCtorEq, Int.reduceAdd, Int.reduceSub, Int.reduceMul, Int.reduceLT, Int.reduceLE, Int.reduceGT, Int.reduceGE, Int.reduceEq, Int.reduceNe, Int.reduceBEq, Int.reduceBNe, Int.reduceTMod, Int.reduceTDiv, ↓if_true, ↓if_false, F7, A7]
      have hse : sealErr 0 (gotErr n) r s key.length nonce.length bid.length = firstE [0, (if (decide (s ≥ 0) && decide (s ≤ 1073741824)) = true then 0 else 2), 2, (if decide ((bid.length : Int) ≤ 4096) = true then 0 else 5), gotErr n] := by
        unfold sealErr rangeB lensB
        rw [h1, h2]
        simp
      rw [hse]
      refine wcall_pu (pu_of (first_ct hw2'.push (l := [0, (if (decide (s ≥ 0) && decide (s ≤ 1073741824)) = true then 0 else 2), 2, (if decide ((bid.length : Int) ≤ 4096) = true then 0 else 5), gotErr n]) (kd := .rw) get_push_self (by simp))) ?_
      have hne : (firstE [0, (if (decide (s ≥ 0) && decide (s ≤ 1073741824)) = true then 0 else 2), 2, (if decide ((bid.length : Int) ≤ 4096) = true then 0 else 5), gotErr n] != 0) = true := by
        rw [bne_iff_ne]; intro h0; have := firstE_q h0; omega
      generalize firstE [0, (if (decide (s ≥ 0) && decide (s ≤ 1073741824)) = true then 0 else 2), 2, (if decide ((bid.length : Int) ≤ 4096) = true then 0 else 5), gotErr n] = e0 at *
      have row3 : ∀ o, (m2.push o).get m.next = some (.row [str [], .int .i64 0, .int .i64 0, .slice none 0 0, .slice none 0 0] .rw) := fun o => by rw [get_push_ne (by omega)]; exact row2'
      simp (maxSteps := 2000000) (disch := first | assumption | omega | (simp only [nx_push, nx_set, ne_eq] <;> omega) | (simp only [XSide, F7]; done) | decide) only [XWalk, XSl, ↓XPre, reduceIte, Nat.reduceEqDiff, Nat.reduceLT, Nat.reduceAdd, Nat.reduceSub, Nat.reduceMul, Nat.reduceBEq, reduceCtorEq, Int.reduceAdd, Int.reduceSub, Int.reduceMul, Int.reduceLT, Int.reduceLE, Int.reduceGT, Int.reduceGE, Int.reduceEq, Int.reduceNe, Int.reduceBEq, Int.reduceBNe, Int.reduceTMod, Int.reduceTDiv, ↓if_true, ↓if_false, F7, A7, hne, abuild24, row3, XAcc]
      exact ⟨_, rfl, by rw [SealR, if_pos hne]⟩
    | true =>
      refine wcall_pu (pu_of unless_ct) ?_
      simp (maxSteps := 2000000) (disch := first | assumption | omega | (simp only [nx_push, nx_set, ne_eq] <;> omega) | (simp only [XSide, F7]; done) | decide) only [XWalk, XSl, ↓XPre, reduceIte, Nat.reduceEqDiff, Nat.reduceLT, Nat.reduceAdd, Nat.reduceSub, Nat.reduceMul, Nat.reduceBEq, reduceCtorEq, Int.reduceAdd, Int.reduceSub, Int.reduceMul, Int.reduceLT, Int.reduceLE, Int.reduceGT, Int.reduceGE, Int.reduceEq, Int.reduceNe, Int.reduceBEq, Int.reduceBNe, Int.reduceTMod, Int.reduceTDiv, ↓if_true, ↓if_false, F7, A7]
      refine wcall_pu (pu_of within_ct) ?_
      simp (maxSteps := 2000000) (disch := first | assumption | omega | (simp only [nx_push, nx_set, ne_eq] <;> omega) | (simp only [XSide, F7]; done) | decide) only [XWalk, XSl, ↓XPre, reduceIte, Nat.reduceEqDiff, Nat.reduceLT, Nat.reduceAdd, Nat.reduceSub, Nat.reduceMul, Nat.reduceBEq, reduceCtorEq, Int.reduceAdd, Int.reduceSub, Int.reduceMul, Int.reduceLT, Int.reduceLE, Int.reduceGT, Int.reduceGE, Int.reduceEq, Int.reduceNe, Int.reduceBEq, Int.reduceBNe, Int.reduceTMod, Int.reduceTDiv, ↓if_true, ↓if_false, F7, A7, h1]
      refine wcall_pu (pu_of within_ct) ?_
      simp (maxSteps := 2000000) (disch := first | assumption | omega | (simp only [nx_push, nx_set, ne_eq] <;> omega) | (simp only [XSide, F7]; done) | decide) only [XWalk, XSl, ↓XPre, reduceIte, Nat.reduceEqDiff, Nat.reduceLT, Nat.reduceAdd, Nat.reduceSub, Nat.reduceMul, Nat.reduceBEq, reduceCtorEq, Int.reduceAdd, Int.reduceSub, Int.reduceMul, Int.reduceLT, Int.reduceLE, Int.reduceGT, Int.reduceGE, Int.reduceEq, Int.reduceNe, Int.reduceBEq, Int.reduceBNe, Int.reduceTMod, Int.reduceTDiv, ↓if_true, ↓if_false, F7, A7]
      refine wcall_pu (pu_of unless_ct) ?_
      simp (maxSteps := 2000000) (disch := first | assumption | omega | (simp only [nx_push, nx_set, ne_eq] <;> omega) | (simp only [XSide, F7]; done) | decide) only [XWalk, XSl, ↓XPre, reduceIte, Nat.reduceEqDiff, Nat.reduceLT, Nat.reduceAdd, Nat.reduceSub, Nat.reduceMul, Nat.reduceBEq, reduceCtorEq, Int.reduceAdd, Int.reduceSub, Int.reduceMul, Int.reduceLT, Int.reduceLE, Int.reduceGT, Int.reduceGE, Int.reduceEq, Int.reduceNe, Int.reduceBEq, Int.reduceBNe, Int.reduceTMod, Int.reduceTDiv, ↓if_true, ↓if_false, F7, A7, alen_bs hk2, h2, alen_bs hno2]
      refine wcall_pu (pu_of unless_ct) ?_
      simp (maxSteps := 2000000) (disch := first | assumption | omega | (simp only [nx_push, nx_set, ne_eq] <;> omega) | (simp only [XSide, F7]; done) | decide) only [XWalk, XSl, ↓XPre, reduceIte, Nat.reduceEqDiff, Nat.reduceLT, Nat.reduceAdd, Nat.reduceSub, Nat.reduceMul, Nat.reduceBEq, reduceCtorEq, Int.reduceAdd, Int.reduceSub, Int.reduceMul, Int.reduceLT, Int.reduceLE, Int.reduceGT, Int.reduceGE, Int.reduceEq, Int.reduceNe, Int.reduceBEq, Int.reduceBNe, Int.reduceTMod, Int.reduceTDiv, ↓if_true, ↓if_false, F7, A7, alen_bs hb2]
      refine wcall_pu (pu_of unless_ct) ?_
      simp (maxSteps := 2000000) (disch := first | assumption | omega | (simp only [nx_push, nx_set, ne_eq] <;> omega) | (simp only [XSide, F7]; done) | decide) only [XWalk, XSl, ↓XPre, reduceIte, Nat.reduceEqDiff, Nat.reduceLT, Nat.reduceAdd, Nat.reduceSub, Nat.reduceMul, Nat.reduceBEq, reduceCtorEq, Int.reduceAdd, Int.reduceSub, Int.reduceMul, Int.reduceLT, Int.reduceLE, Int.reduceGT, Int.reduceGE, Int.reduceEq, Int.reduceNe, Int.reduceBEq, Int.reduceBNe, Int.reduceTMod, Int.reduceTDiv, ↓if_true, ↓if_false, F7, A7]
      have hse : sealErr 0 (gotErr n) r s key.length nonce.length bid.length = firstE [0, (if (decide (s ≥ 0) && decide (s ≤ 1073741824)) = true then 0 else 2), (if ((nonce.length : Int) == 16) = true then 0 else 2), (if decide ((bid.length : Int) ≤ 4096) = true then 0 else 5), gotErr n] := by
        unfold sealErr rangeB lensB
        rw [h1, h2]
        simp
      rw [hse]
      refine wcall_pu (pu_of (first_ct hw2'.push (l := [0, (if (decide (s ≥ 0) && decide (s ≤ 1073741824)) = true then 0 else 2), (if ((nonce.length : Int) == 16) = true then 0 else 2), (if decide ((bid.length : Int) ≤ 4096) = true then 0 else 5), gotErr n]) (kd := .rw) get_push_self (by simp))) ?_
      generalize hl : firstE [0, (if (decide (s ≥ 0) && decide (s ≤ 1073741824)) = true then 0 else 2), (if ((nonce.length : Int) == 16) = true then 0 else 2), (if decide ((bid.length : Int) ≤ 4096) = true then 0 else 5), gotErr n] = e0 at *
      have row3 : ∀ o, (m2.push o).get m.next = some (.row [str [], .int .i64 0, .int .i64 0, .slice none 0 0, .slice none 0 0] .rw) := fun o => by rw [get_push_ne (by omega)]; exact row2'
      cases hne : (e0 != 0) with
      | true =>
        simp (maxSteps := 2000000) (disch := first | assumption | omega | (simp only [nx_push, nx_set, ne_eq] <;> omega) | (simp only [XSide, F7]; done) | decide) only [XWalk, XSl, ↓XPre, reduceIte, Nat.reduceEqDiff, Nat.reduceLT, Nat.reduceAdd, Nat.reduceSub, Nat.reduceMul, Nat.reduceBEq, reduceCtorEq, Int.reduceAdd, Int.reduceSub, Int.reduceMul, Int.reduceLT, Int.reduceLE, Int.reduceGT, Int.reduceGE, Int.reduceEq, Int.reduceNe, Int.reduceBEq, Int.reduceBNe, Int.reduceTMod, Int.reduceTDiv, ↓if_true, ↓if_false, F7, A7, hne, abuild24, row3, XAcc]
        exact ⟨_, rfl, by rw [SealR, if_pos hne]⟩
      | false =>
        have he0 : e0 = 0 := by simpa using hne
        subst he0
        obtain ⟨_, g1, g2, g3, g4⟩ := firstE_q hl
        have hcat : ∀ (x y : Operand) (m' : Mem) (t : TypeId), abin Tryd.prog .add t x y (.string ⟨#[98, 105, 100, 45]⟩) (str n) m' = some (str (bidL ++ n), m', [], .no) := fun x y m' t => abin_str_add (a := bidL) (by simp [bidL]; omega)
        simp (maxSteps := 2000000) (disch := first | assumption | omega | (simp only [nx_push, nx_set, ne_eq] <;> omega) | (simp only [XSide, F7]; done) | decide) only [XWalk, XSl, ↓XPre, reduceIte, Nat.reduceEqDiff, Nat.reduceLT, Nat.reduceAdd, Nat.reduceSub, Nat.reduceMul, Nat.reduceBEq, reduceCtorEq, Int.reduceAdd, Int.reduceSub, Int.reduceMul, Int.reduceLT, Int.reduceLE, Int.reduceGT, Int.reduceGE, Int.reduceEq, Int.reduceNe, Int.reduceBEq, Int.reduceBNe, Int.reduceTMod, Int.reduceTDiv, ↓if_true, ↓if_false, F7, A7, hne, build24, row3, XAcc, hcat]
        obtain ⟨m3, hm3⟩ : ∃ m3, m3 = ((m2.push (.row [.int .i64 0, .int .i64 (if (decide (s ≥ 0) && decide (s ≤ 1073741824)) = true then 0 else 2), .int .i64 (if ((nonce.length : Int) == 16) = true then 0 else 2), .int .i64 (if decide ((bid.length : Int) ≤ 4096) = true then 0 else 5), .int .i64 (gotErr n)] .rw)).push (.row [.string ⟨#[]⟩, .int .i64 0, .int .i64 0, .slice none 0 0, .slice none 0 0] .rw)).set (m2.next + 1) (.row [.string ⟨n.toArray⟩, .int .i64 r, .int .i64 s, .slice none 0 0, .slice none 0 0] .rw) := ⟨_, rfl⟩
        rw [← hm3]
        have bs3 : ∀ (v : Value) (l : List UInt8), Bs m2 v l → Bs m3 v l := fun v l h => by
          rw [hm3]
          exact ((h.keep (Keep.push hw2')).keep (Keep.push hw2'.push)).frame_at fun c hc => by rw [get_set_ne]; have := h.blk_lt hw2' hc; omega
        have hw3 : WF m3 := by rw [hm3]; (repeat (first | exact hw2' | apply WF.push | (refine WF.set ?_ (by first | omega | (simp only [Mem.next_set, Mem.next_push]; omega)))))
        have hx3 : BookAt m3 (.pointer (some ⟨xb, 0, none⟩)) := hx2.keep fun c hc => by
          have := hw2'.lt hc
          rw [hm3, get_set_ne (by omega), get_push_ne (by simp; omega), get_push_ne (by omega)]
        have rowz : m3.get m.next = some (.row [str [], .int .i64 0, .int .i64 0, .slice none 0 0, .slice none 0 0] .rw) := by rw [hm3, get_set_ne (by omega), get_push_ne (by simp; omega), get_push_ne (by omega)]; exact row2'
        have rowx : m3.get (m2.next + 1) = some (.row [str n, .int .i64 r, .int .i64 s, .slice none 0 0, .slice none 0 0] .rw) := by rw [hm3, get_set_self]
        have hk3 := bs3 _ _ hk2
        have hno3 := bs3 _ _ hno2
        have hb3 := bs3 _ _ hb2
        have hn3 : m3.next = m2.next + 2 := by rw [hm3]; rfl
        have k23 : ∀ c, c < m2.next → m3.get c = m2.get c := fun c hc => by rw [hm3, get_set_ne (by omega), get_push_ne (by simp; omega), get_push_ne (by omega)]
        clear hm3 bs3
        have hkl32 : key.length = 32 := by simp at h2; omega
        have hnl16 : nonce.length = 16 := by
          by_cases hq : ((nonce.length : Int) == 16) = true
          · simp at hq; omega
          · rw [if_neg hq] at g2; omega
        have hbl4 : bid.length ≤ 4096 := by
          by_cases hq : decide ((bid.length : Int) ≤ 4096) = true
          · have := of_decide_eq_true hq; omega
          · rw [if_neg hq] at g3; omega
        have hrs : 0 ≤ r ∧ r ≤ 1048576 ∧ 0 ≤ s ∧ s ≤ 1073741824 := by
          by_cases hq : (decide (s ≥ 0) && decide (s ≤ 1073741824)) = true
          · simp only [Bool.and_eq_true, decide_eq_true_eq] at hq h1
            omega
          · rw [if_neg hq] at g1; omega
        obtain ⟨hr0, hr1, hs0, hs1⟩ := hrs
        obtain ⟨r', rfl⟩ : ∃ r' : Nat, r = (r' : Int) := ⟨r.toNat, by omega⟩
        obtain ⟨s', rfl⟩ : ∃ s' : Nat, s = (s' : Int) := ⟨s.toNat, by omega⟩
        obtain ⟨aky, anum, hao'⟩ : ∃ aky anum, acctOf n = some (aky, anum) := by
          unfold gotErr at g4
          cases ho : acctOf n with
          | none => rw [ho] at g4; simp at g4
          | some kn => exact ⟨kn.1, kn.2, rfl⟩
        refine wcall_v specLoc (derive_ct (label := bidL ++ n) hw3 hk3 hkl32 (by rw [List.length_append]; simp only [bidL, List.length_cons, List.length_nil]; omega) (by
          have : n.length ≤ 4 := by
            unfold acctOf at hao'
            by_cases ha : n = acmeN
            · subst ha; decide
            · by_cases hb : n = bellN
              · subst hb; decide
              · rw [if_neg ha, if_neg hb] at hao'; cases hao'
          rw [List.length_append]; simp only [bidL, List.length_cons, List.length_nil]; omega)) hw3 ?_
        rintro v m4 hw4 hn4 f4 ⟨d, rfl, hd⟩
        have hno4 := hno3.keep (keep_of hw3 f4)
        have hb4 := hb3.keep (keep_of hw3 f4)
        have hx4 := hx3.keep (keep_of hw3 f4)
        simp (maxSteps := 2000000) (disch := first | assumption | omega | (simp only [nx_push, nx_set, ne_eq] <;> omega) | (simp only [XSide, F7]; done) | decide) only [XWalk, XSl, ↓XPre, reduceIte, Nat.reduceEqDiff, Nat.reduceLT, Nat.reduceAdd, Nat.reduceSub, Nat.reduceMul, Nat.reduceBEq, reduceCtorEq, Int.reduceAdd, Int.reduceSub, Int.reduceMul, Int.reduceLT, Int.reduceLE, Int.reduceGT, Int.reduceGE, Int.reduceEq, Int.reduceNe, Int.reduceBEq, Int.reduceBNe, Int.reduceTMod, Int.reduceTDiv, ↓if_true, ↓if_false, F7, A7]
        refine wcall_v specLoc (sseal_ct hw4 hd blakeB_length hno4 hnl16 hb4 (by omega)) hw4 ?_
        rintro v m5 hw5 hn5 f5 ⟨sv, rfl, hsv⟩
        have hx5 := hx4.keep (keep_of hw4 f5)
        have rowz5 : m5.get m.next = some (.row [str [], .int .i64 0, .int .i64 0, .slice none 0 0, .slice none 0 0] .rw) := by rw [f5 _ (by omega), f4 _ (by omega)]; exact rowz
        have rowx5 : m5.get (m2.next + 1) = some (.row [str n, .int .i64 (r' : Int), .int .i64 (s' : Int), .slice none 0 0, .slice none 0 0] .rw) := by rw [f5 _ (by omega), f4 _ (by omega)]; exact rowx
        have lS : (sealB (blakeB key (bidL ++ n)) nonce bid).length = bid.length + 32 := sealed_len (n := n) (key := key) (bid := bid) hnl16
        have hsx : slBlk sv ≠ some (m2.next + 1) := Sl.not_blk hsv rowx5 (by rw [u8s_length, lS]; simp <;> omega)
        have hsz : slBlk sv ≠ some m.next := Sl.not_blk hsv rowz5 (by rw [u8s_length, lS]; simp <;> omega)
        obtain ⟨a, l, c, rfl⟩ := sl_shape hsv
        simp (maxSteps := 2000000) (disch := first | assumption | omega | (simp only [nx_push, nx_set, ne_eq] <;> omega) | (simp only [XSide, F7]; done) | decide) only [XWalk, XSl, ↓XPre, reduceIte, Nat.reduceEqDiff, Nat.reduceLT, Nat.reduceAdd, Nat.reduceSub, Nat.reduceMul, Nat.reduceBEq, reduceCtorEq, Int.reduceAdd, Int.reduceSub, Int.reduceMul, Int.reduceLT, Int.reduceLE, Int.reduceGT, Int.reduceGE, Int.reduceEq, Int.reduceNe, Int.reduceBEq, Int.reduceBNe, Int.reduceTMod, Int.reduceTDiv, ↓if_true, ↓if_false, F7, A7, rowx5, XAcc]
        have hlt5 : m2.next + 1 < m5.next := by omega
        have hw6 : ∀ o, WF (m5.set (m2.next + 1) o) := fun o => hw5.set hlt5
        have hsv6 : ∀ o, Bs (m5.set (m2.next + 1) o) (.slice a l c) (sealB (blakeB key (bidL ++ n)) nonce bid) := fun o => hsv.frame_at fun d hd => by rw [get_set_ne]; rintro rfl; exact hsx hd
        have hnl4 : n.length ≤ 4 := by
          unfold acctOf at hao'
          by_cases ha : n = acmeN
          · subst ha; decide
          · by_cases hb : n = bellN
            · subst hb; decide
            · rw [if_neg ha, if_neg hb] at hao'; cases hao'
        have hsl := signed_len (n := n) (S := sealB (blakeB key (bidL ++ n)) nonce bid) (r := r') (s := s') (by omega) (by omega) (by omega) (by omega)
        refine wcall_v specLoc (signed_ct (n := n) (r := r') (s := s') (tv := .slice none 0 0) (hw6 _) (hsv6 _) rfl (by omega) (by omega) (by omega)) (hw6 _) ?_
        intro q m7 hw7 hn7 f7 hq
        simp only [Mem.next_set] at hn7 f7
        have rowz7 : m7.get m.next = some (.row [str [], .int .i64 0, .int .i64 0, .slice none 0 0, .slice none 0 0] .rw) := by rw [f7 _ (by omega), get_set_ne (by omega)]; exact rowz5
        have rowx7 : m7.get (m2.next + 1) = some (.row [str n, .int .i64 (r' : Int), .int .i64 (s' : Int), .slice a l c, .slice none 0 0] .rw) := by rw [f7 _ (by omega), get_set_self]
        have hsv7 : Bs m7 (.slice a l c) (sealB (blakeB key (bidL ++ n)) nonce bid) := (hsv6 _).frame_at fun d hd => f7 d (hsv.blk_lt hw5 hd)
        have hx7 : BookAt m7 (.pointer (some ⟨xb, 0, none⟩)) := hx2.keep fun d hd => by
          have := hw2'.lt hd
          rw [f7 _ (by omega), get_set_ne (by omega), f5 _ (by omega), f4 _ (by omega), k23 _ this]
        simp (maxSteps := 2000000) (disch := first | assumption | omega | (simp only [nx_push, nx_set, ne_eq] <;> omega) | (simp only [XSide, F7]; done) | decide) only [XWalk, XSl, ↓XPre, reduceIte, Nat.reduceEqDiff, Nat.reduceLT, Nat.reduceAdd, Nat.reduceSub, Nat.reduceMul, Nat.reduceBEq, reduceCtorEq, Int.reduceAdd, Int.reduceSub, Int.reduceMul, Int.reduceLT, Int.reduceLE, Int.reduceGT, Int.reduceGE, Int.reduceEq, Int.reduceNe, Int.reduceBEq, Int.reduceBNe, Int.reduceTMod, Int.reduceTDiv, ↓if_true, ↓if_false, F7, A7]
        refine wcall_v specLoc (tag_ct (n := n) hw7 hx7 hq.sl (by omega)) hw7 ?_
        rintro v m8 hw8 hn8 f8 htr
        unfold TagR at htr
        rw [hao', ] at htr
        simp only at htr
        rw [if_neg (by omega)] at htr
        obtain ⟨tv, rfl, ht⟩ := htr
        have rowz8 : m8.get m.next = some (.row [str [], .int .i64 0, .int .i64 0, .slice none 0 0, .slice none 0 0] .rw) := by rw [f8 _ (by omega)]; exact rowz7
        have rowx8 : m8.get (m2.next + 1) = some (.row [str n, .int .i64 (r' : Int), .int .i64 (s' : Int), .slice a l c, .slice none 0 0] .rw) := by rw [f8 _ (by omega)]; exact rowx7
        have hsv8 := hsv7.keep (keep_of hw7 f8)
        have htx : slBlk tv ≠ some (m2.next + 1) := Sl.not_blk ht rowx8 (by rw [u8s_length, blakeB_length]; simp)
        have htz : slBlk tv ≠ some m.next := Sl.not_blk ht rowz8 (by rw [u8s_length, blakeB_length]; simp)
        obtain ⟨a', l', c', rfl⟩ := sl_shape ht
        simp (maxSteps := 2000000) (disch := first | assumption | omega | (simp only [nx_push, nx_set, ne_eq] <;> omega) | (simp only [XSide, F7]; done) | decide) only [XWalk, XSl, ↓XPre, reduceIte, Nat.reduceEqDiff, Nat.reduceLT, Nat.reduceAdd, Nat.reduceSub, Nat.reduceMul, Nat.reduceBEq, reduceCtorEq, Int.reduceAdd, Int.reduceSub, Int.reduceMul, Int.reduceLT, Int.reduceLE, Int.reduceGT, Int.reduceGE, Int.reduceEq, Int.reduceNe, Int.reduceBEq, Int.reduceBNe, Int.reduceTMod, Int.reduceTDiv, ↓if_true, ↓if_false, F7, A7, rowx8, rowz8, XAcc]
        refine ⟨_, rfl, ?_⟩
        rw [SealR, if_neg (by simp)]
        have hz1 : m.next ≠ m2.next + 1 := by omega
        refine ⟨_, _, rfl, hsv8.frame_at fun d hd => ?_, ?_⟩
        · rw [get_set_ne (fun e => hsz (by rw [← e]; exact hd)), get_set_ne (fun e => hsx (by rw [← e]; exact hd))]
        · have ht' : tagOf n (r' : Int).toNat (s' : Int).toNat (sealedOf n key nonce bid) = blakeB aky (signedB n r' s' (sealB (blakeB key (bidL ++ n)) nonce bid)) := by
            rw [tagOf, hao']; rfl
          rw [ht']
          exact ht.frame_at fun d hd => by rw [get_set_ne (fun e => htz (by rw [← e]; exact hd)), get_set_ne (fun e => htx (by rw [← e]; exact hd))]

end Go.Big

/- Rows of bytes; the statements' small functions; the reference's validity. -/
set_option linter.unusedSimpArgs false
set_option linter.unusedVariables false
set_option maxRecDepth 100000
set_option maxHeartbeats 4000000
namespace Go.Big
open Go.Proofs

theorem row_ct {m : Mem} (hw : WF m) {b : UInt8} {n : Nat} (hn : n ≤ 1073741824) : Ct Tryd.prog S0 11 [.int .u8 (b.toNat : Int), .int .i64 (n : Int)] m [] (Rv fun v m' => Bs m' v (List.replicate n b) ∧ v ≠ .slice none 0 0) := by
  have hmk : amkS Tryd.prog 22 (.int .i64 (n : Int)) (.int .i64 (n : Int)) m = _ := amkS_bytes (l := n) (c := n) (show mkK Tryd.prog 22 = true by kernel_rfl) (Nat.le_refl _) hn
  refine ct_x (spec0 _) (by rfl) Tryd.func11 rfl ?_
  simp (maxSteps := 2000000) (disch := first | assumption | omega | (simp only [nx_push, nx_set, ne_eq] <;> omega) | (simp only [XSide, F11]; done) | decide) only [XWalk, XSl, ↓XPre, reduceIte, Nat.reduceEqDiff, Nat.reduceLT, Nat.reduceAdd, Nat.reduceSub, Nat.reduceMul, Nat.reduceBEq, reduceCtorEq, Int.reduceAdd, Int.reduceSub, Int.reduceMul, Int.reduceLT, Int.reduceLE, Int.reduceGT, Int.reduceGE, Int.reduceEq, Int.reduceNe, Int.reduceBEq, Int.reduceBNe, Int.reduceTMod, Int.reduceTDiv, ↓if_true, ↓if_false, F11, A11, Tryd.ntmps11, hmk]
  refine x_loop (fun k e m1 => ∃ i, i + k = n ∧ e.n = 19 ∧ e.get 0 = .int .u8 (b.toNat : Int) ∧ e.get 1 = .int .i64 (n : Int) ∧ e.get 5 = .slice (some ⟨m.next, 0, none⟩) n n ∧ e.get 6 = .int .i64 ((i : Nat) : Int) ∧ WF m1 ∧ m1.next = m.next + 1 ∧
    m1.get m.next = some (.row (u8s (List.replicate i b ++ List.replicate (n - i) 0)) .rw)) n ⟨0, by omega, by simp (maxSteps := 2000000) (disch := first | assumption | omega | (simp only [nx_push, nx_set, ne_eq] <;> omega) | (simp only [XSide]; done) | decide) only [XWalk, XSl, ↓XPre, reduceIte, Nat.reduceEqDiff, Nat.reduceLT, Nat.reduceAdd, Nat.reduceSub, Nat.reduceMul, Nat.reduceBEq, reduceCtorEq, Int.reduceAdd, Int.reduceSub, Int.reduceMul, Int.reduceLT, Int.reduceLE, Int.reduceGT, Int.reduceGE, Int.reduceEq, Int.reduceNe, Int.reduceBEq, Int.reduceBNe, Int.reduceTMod, Int.reduceTDiv, ↓if_true, ↓if_false], by simp (maxSteps := 2000000) (disch := first | assumption | omega | (simp only [nx_push, nx_set, ne_eq] <;> omega) | (simp only [XSide]; done) | decide) only [XWalk, XSl, ↓XPre, reduceIte, Nat.reduceEqDiff, Nat.reduceLT, Nat.reduceAdd, Nat.reduceSub, Nat.reduceMul, Nat.reduceBEq, reduceCtorEq, Int.reduceAdd, Int.reduceSub, Int.reduceMul, Int.reduceLT, Int.reduceLE, Int.reduceGT, Int.reduceGE, Int.reduceEq, Int.reduceNe, Int.reduceBEq, Int.reduceBNe, Int.reduceTMod, Int.reduceTDiv, ↓if_true, ↓if_false], by simp (maxSteps := 2000000) (disch := first | assumption | omega | (simp only [nx_push, nx_set, ne_eq] <;> omega) | (simp only [XSide]; done) | decide) only [XWalk, XSl, ↓XPre, reduceIte, Nat.reduceEqDiff, Nat.reduceLT, Nat.reduceAdd, Nat.reduceSub, Nat.reduceMul, Nat.reduceBEq, reduceCtorEq, Int.reduceAdd, Int.reduceSub, Int.reduceMul, Int.reduceLT, Int.reduceLE, Int.reduceGT, Int.reduceGE, Int.reduceEq, Int.reduceNe, Int.reduceBEq, Int.reduceBNe, Int.reduceTMod, Int.reduceTDiv, ↓if_true, ↓if_false], by simp (maxSteps := 2000000) (disch := first | assumption | omega | (simp only [nx_push, nx_set, ne_eq] <;> omega) | (simp only [XSide]; done) | decide) only [XWalk, XSl, ↓XPre, reduceIte, Nat.reduceEqDiff, Nat.reduceLT, Nat.reduceAdd, Nat.reduceSub, Nat.reduceMul, Nat.reduceBEq, reduceCtorEq, Int.reduceAdd, Int.reduceSub, Int.reduceMul, Int.reduceLT, Int.reduceLE, Int.reduceGT, Int.reduceGE, Int.reduceEq, Int.reduceNe, Int.reduceBEq, Int.reduceBNe, Int.reduceTMod, Int.reduceTDiv, ↓if_true, ↓if_false], by simp (maxSteps := 2000000) (disch := first | assumption | omega | (simp only [nx_push, nx_set, ne_eq] <;> omega) | (simp only [XSide]; done) | decide) only [XWalk, XSl, ↓XPre, reduceIte, Nat.reduceEqDiff, Nat.reduceLT, Nat.reduceAdd, Nat.reduceSub, Nat.reduceMul, Nat.reduceBEq, reduceCtorEq, Int.reduceAdd, Int.reduceSub, Int.reduceMul, Int.reduceLT, Int.reduceLE, Int.reduceGT, Int.reduceGE, Int.reduceEq, Int.reduceNe, Int.reduceBEq, Int.reduceBNe, Int.reduceTMod, Int.reduceTDiv, ↓if_true, ↓if_false]; rfl, hw.push, rfl, by rw [get_push_self]; simp⟩ ?_
  rintro k e m1 ⟨i, hi, he, q0, q1, q5, q6, hw1, hn1, hm1⟩
  simp (maxSteps := 2000000) (disch := first | assumption | omega | (simp only [nx_push, nx_set, ne_eq] <;> omega) | (simp only [XSide, F11]; done) | decide) only [XWalk, XSl, ↓XPre, reduceIte, Nat.reduceEqDiff, Nat.reduceLT, Nat.reduceAdd, Nat.reduceSub, Nat.reduceMul, Nat.reduceBEq, reduceCtorEq, Int.reduceAdd, Int.reduceSub, Int.reduceMul, Int.reduceLT, Int.reduceLE, Int.reduceGT, Int.reduceGE, Int.reduceEq, Int.reduceNe, Int.reduceBEq, Int.reduceBNe, Int.reduceTMod, Int.reduceTDiv, ↓if_true, ↓if_false, F11, A11, he, q1, q6]
  refine x_if (fun ht => ?_) (fun ht => ?_)
  · have hk : i < n := by have := of_decide_eq_true ht; omega
    have e2 : IntKind.wrap .i64 ((i : Int) + 1) = ((i + 1 : Nat) : Int) := by rw [wrap_i64 (by omega) (by omega)]; omega
    have hl : (u8s (List.replicate i b ++ List.replicate (n - i) 0)).length = n := by rw [u8s_length]; simp; omega
    simp (maxSteps := 2000000) (disch := first | assumption | omega | (simp only [nx_push, nx_set, ne_eq] <;> omega) | (simp only [XSide, F11]; done) | decide) only [XWalk, XSl, ↓XPre, reduceIte, Nat.reduceEqDiff, Nat.reduceLT, Nat.reduceAdd, Nat.reduceSub, Nat.reduceMul, Nat.reduceBEq, reduceCtorEq, Int.reduceAdd, Int.reduceSub, Int.reduceMul, Int.reduceLT, Int.reduceLE, Int.reduceGT, Int.reduceGE, Int.reduceEq, Int.reduceNe, Int.reduceBEq, Int.reduceBNe, Int.reduceTMod, Int.reduceTDiv, ↓if_true, ↓if_false, F11, A11, he, q0, q1, q5, q6, hm1, hl, e2, u8s_set]
    refine ⟨k - 1, by omega, i + 1, by omega, rfl, hw1.set (by omega), hn1, ?_⟩
    congr 3
    rw [List.set_append_right _ _ (by simp), List.length_replicate, Nat.sub_self, show n - i = (n - (i + 1)) + 1 from by omega, List.replicate_succ, List.set_cons_zero, List.replicate_succ', List.append_assoc]
    rfl
  · have hk : i = n := by have := of_decide_eq_false ht; omega
    subst hk
    rw [Nat.sub_self, List.replicate_zero, List.append_nil] at hm1
    simp (maxSteps := 2000000) (disch := first | assumption | omega | (simp only [nx_push, nx_set, ne_eq] <;> omega) | (simp only [XSide, F11]; done) | decide) only [XWalk, XSl, ↓XPre, reduceIte, Nat.reduceEqDiff, Nat.reduceLT, Nat.reduceAdd, Nat.reduceSub, Nat.reduceMul, Nat.reduceBEq, reduceCtorEq, Int.reduceAdd, Int.reduceSub, Int.reduceMul, Int.reduceLT, Int.reduceLE, Int.reduceGT, Int.reduceGE, Int.reduceEq, Int.reduceNe, Int.reduceBEq, Int.reduceBNe, Int.reduceTMod, Int.reduceTDiv, ↓if_true, ↓if_false, F11, A11, he, q5]
    exact ⟨_, rfl, Sl.of_row hm1 (by rw [List.drop_zero, List.take_of_length_le (by rw [u8s_length]; simp)]) (by rw [u8s_length]; simp) (Nat.le_refl _), by simp⟩

def shortB (n : List UInt8) (ls lt : Nat) : Bool := decide ((n.length : Int) ≤ 100) && (decide ((ls : Int) ≤ 400) && decide ((lt : Int) ≤ 100))
theorem short_ct {m : Mem} (hw : WF m) {n S T : List UInt8} {r s : Int} {sv tv : Value} (hs : Bs m sv S) (ht : Bs m tv T) : Ct Tryd.prog S0 5 [envV n r s sv tv] m [] (fun out m' => out = .ret (.bool (shortB n S.length T.length))) := by
  have hone : [str n, .int .i64 r, .int .i64 s, sv, tv].all oneCell = true := by
    simp only [List.all_cons, List.all_nil, one_sl hs, one_sl ht, one_str, one_int, Bool.and_self]
  have hs1 : Bs (m.push (.row [str n, .int .i64 r, .int .i64 s, sv, tv] .rw)) sv S := hs.keep (Keep.push hw)
  have ht1 : Bs (m.push (.row [str n, .int .i64 r, .int .i64 s, sv, tv] .rw)) tv T := ht.keep (Keep.push hw)
  refine ct_x (spec0 _) (by rfl) Tryd.func5 rfl ?_
  unfold shortB
  simp (maxSteps := 2000000) (disch := first | assumption | omega | (simp only [nx_push, nx_set, ne_eq] <;> omega) | (simp only [XSide, F5]; done) | decide) only [XWalk, XSl, ↓XPre, reduceIte, Nat.reduceEqDiff, Nat.reduceLT, Nat.reduceAdd, Nat.reduceSub, Nat.reduceMul, Nat.reduceBEq, reduceCtorEq, Int.reduceAdd, Int.reduceSub, Int.reduceMul, Int.reduceLT, Int.reduceLE, Int.reduceGT, Int.reduceGE, Int.reduceEq, Int.reduceNe, Int.reduceBEq, Int.reduceBNe, Int.reduceTMod, Int.reduceTDiv, ↓if_true, ↓if_false, F5, A5, Tryd.ntmps5, XAcc]
  cases h1 : decide ((n.length : Int) ≤ 100) with
  | false => simp (maxSteps := 2000000) (disch := first | assumption | omega | (simp only [nx_push, nx_set, ne_eq] <;> omega) | (simp only [XSide, F5]; done) | decide) only [XWalk, XSl, ↓XPre, reduceIte, Nat.reduceEqDiff, Nat.reduceLT, Nat.reduceAdd, Nat.reduceSub, Nat.reduceMul, Nat.reduceBEq, reduceCtorEq, Int.reduceAdd, Int.reduceSub, Int.reduceMul, Int.reduceLT, Int.reduceLE, Int.reduceGT, Int.reduceGE, Int.reduceEq, Int.reduceNe, Int.reduceBEq, Int.reduceBNe, Int.reduceTMod, Int.reduceTDiv, ↓if_true, ↓if_false, F5, A5, h1] <;> rfl
  | true =>
    simp (maxSteps := 2000000) (disch := first | assumption | omega | (simp only [nx_push, nx_set, ne_eq] <;> omega) | (simp only [XSide, F5]; done) | decide) only [XWalk, XSl, ↓XPre, reduceIte, Nat.reduceEqDiff, Nat.reduceLT, Nat.reduceAdd, Nat.reduceSub, Nat.reduceMul, Nat.reduceBEq, reduceCtorEq, Int.reduceAdd, Int.reduceSub, Int.reduceMul, Int.reduceLT, Int.reduceLE, Int.reduceGT, Int.reduceGE, Int.reduceEq, Int.reduceNe, Int.reduceBEq, Int.reduceBNe, Int.reduceTMod, Int.reduceTDiv, ↓if_true, ↓if_false, F5, A5, h1, alen_bs hs1]
    cases h2 : decide ((S.length : Int) ≤ 400) with
    | false => simp (maxSteps := 2000000) (disch := first | assumption | omega | (simp only [nx_push, nx_set, ne_eq] <;> omega) | (simp only [XSide, F5]; done) | decide) only [XWalk, XSl, ↓XPre, reduceIte, Nat.reduceEqDiff, Nat.reduceLT, Nat.reduceAdd, Nat.reduceSub, Nat.reduceMul, Nat.reduceBEq, reduceCtorEq, Int.reduceAdd, Int.reduceSub, Int.reduceMul, Int.reduceLT, Int.reduceLE, Int.reduceGT, Int.reduceGE, Int.reduceEq, Int.reduceNe, Int.reduceBEq, Int.reduceBNe, Int.reduceTMod, Int.reduceTDiv, ↓if_true, ↓if_false, F5, A5, h1, h2] <;> rfl
    | true => simp (maxSteps := 2000000) (disch := first | assumption | omega | (simp only [nx_push, nx_set, ne_eq] <;> omega) | (simp only [XSide, F5]; done) | decide) only [XWalk, XSl, ↓XPre, reduceIte, Nat.reduceEqDiff, Nat.reduceLT, Nat.reduceAdd, Nat.reduceSub, Nat.reduceMul, Nat.reduceBEq, reduceCtorEq, Int.reduceAdd, Int.reduceSub, Int.reduceMul, Int.reduceLT, Int.reduceLE, Int.reduceGT, Int.reduceGE, Int.reduceEq, Int.reduceNe, Int.reduceBEq, Int.reduceBNe, Int.reduceTMod, Int.reduceTDiv, ↓if_true, ↓if_false, F5, A5, h1, h2, alen_bs ht1] <;> rfl

def sameB (n n' : List UInt8) (r r' s s' : Int) (S S' T T' : List UInt8) : Bool := (n == n') && ((r == r') && ((s == s') && ((S == S') && (T == T'))))
theorem same_ct {m : Mem} (hw : WF m) {n n' S S' T T' : List UInt8} {r r' s s' : Int} {sv sv' tv tv' : Value} (hs : Bs m sv S) (ht : Bs m tv T) (hs' : Bs m sv' S') (ht' : Bs m tv' T') :
    Ct Tryd.prog S0 9 [envV n r s sv tv, envV n' r' s' sv' tv'] m [] (fun out m' => out = .ret (.bool (sameB n n' r r' s s' S S' T T'))) := by
  have hone : [str n, .int .i64 r, .int .i64 s, sv, tv].all oneCell = true := by
    simp only [List.all_cons, List.all_nil, one_sl hs, one_sl ht, one_str, one_int, Bool.and_self]
  have hone' : [str n', .int .i64 r', .int .i64 s', sv', tv'].all oneCell = true := by
    simp only [List.all_cons, List.all_nil, one_sl hs', one_sl ht', one_str, one_int, Bool.and_self]
  have kp : ∀ (v : Value) (l : List UInt8) o o', Bs m v l → Bs ((m.push o).push o') v l := fun v l o o' h => (h.keep (Keep.push hw)).keep (Keep.push hw.push)
  refine ct_x (spec0 _) (by rfl) Tryd.func9 rfl ?_
  unfold sameB
  simp (maxSteps := 2000000) (disch := first | assumption | omega | (simp only [nx_push, nx_set, ne_eq] <;> omega) | (simp only [XSide, F9]; done) | decide) only [XWalk, XSl, ↓XPre, reduceIte, Nat.reduceEqDiff, Nat.reduceLT, Nat.reduceAdd, Nat.reduceSub, Nat.reduceMul, Nat.reduceBEq, reduceCtorEq, Int.reduceAdd, Int.reduceSub, Int.reduceMul, Int.reduceLT, Int.reduceLE, Int.reduceGT, Int.reduceGE, Int.reduceEq, Int.reduceNe, Int.reduceBEq, Int.reduceBNe, Int.reduceTMod, Int.reduceTDiv, ↓if_true, ↓if_false, F9, A9, Tryd.ntmps9]
  cases h1 : (n == n') with
  | false => simp (maxSteps := 2000000) (disch := first | assumption | omega | (simp only [nx_push, nx_set, ne_eq] <;> omega) | (simp only [XSide, F9]; done) | decide) only [XWalk, XSl, ↓XPre, reduceIte, Nat.reduceEqDiff, Nat.reduceLT, Nat.reduceAdd, Nat.reduceSub, Nat.reduceMul, Nat.reduceBEq, reduceCtorEq, Int.reduceAdd, Int.reduceSub, Int.reduceMul, Int.reduceLT, Int.reduceLE, Int.reduceGT, Int.reduceGE, Int.reduceEq, Int.reduceNe, Int.reduceBEq, Int.reduceBNe, Int.reduceTMod, Int.reduceTDiv, ↓if_true, ↓if_false, F9, A9, h1] <;> rfl
  | true =>
    simp (maxSteps := 2000000) (disch := first | assumption | omega | (simp only [nx_push, nx_set, ne_eq] <;> omega) | (simp only [XSide, F9]; done) | decide) only [XWalk, XSl, ↓XPre, reduceIte, Nat.reduceEqDiff, Nat.reduceLT, Nat.reduceAdd, Nat.reduceSub, Nat.reduceMul, Nat.reduceBEq, reduceCtorEq, Int.reduceAdd, Int.reduceSub, Int.reduceMul, Int.reduceLT, Int.reduceLE, Int.reduceGT, Int.reduceGE, Int.reduceEq, Int.reduceNe, Int.reduceBEq, Int.reduceBNe, Int.reduceTMod, Int.reduceTDiv, ↓if_true, ↓if_false, F9, A9, h1]
    cases h2 : (r == r') with
    | false => simp (maxSteps := 2000000) (disch := first | assumption | omega | (simp only [nx_push, nx_set, ne_eq] <;> omega) | (simp only [XSide, F9]; done) | decide) only [XWalk, XSl, ↓XPre, reduceIte, Nat.reduceEqDiff, Nat.reduceLT, Nat.reduceAdd, Nat.reduceSub, Nat.reduceMul, Nat.reduceBEq, reduceCtorEq, Int.reduceAdd, Int.reduceSub, Int.reduceMul, Int.reduceLT, Int.reduceLE, Int.reduceGT, Int.reduceGE, Int.reduceEq, Int.reduceNe, Int.reduceBEq, Int.reduceBNe, Int.reduceTMod, Int.reduceTDiv, ↓if_true, ↓if_false, F9, A9, h1, h2] <;> rfl
    | true =>
      simp (maxSteps := 2000000) (disch := first | assumption | omega | (simp only [nx_push, nx_set, ne_eq] <;> omega) | (simp only [XSide, F9]; done) | decide) only [XWalk, XSl, ↓XPre, reduceIte, Nat.reduceEqDiff, Nat.reduceLT, Nat.reduceAdd, Nat.reduceSub, Nat.reduceMul, Nat.reduceBEq, reduceCtorEq, Int.reduceAdd, Int.reduceSub, Int.reduceMul, Int.reduceLT, Int.reduceLE, Int.reduceGT, Int.reduceGE, Int.reduceEq, Int.reduceNe, Int.reduceBEq, Int.reduceBNe, Int.reduceTMod, Int.reduceTDiv, ↓if_true, ↓if_false, F9, A9, h1, h2]
      cases h3 : (s == s') with
      | false => simp (maxSteps := 2000000) (disch := first | assumption | omega | (simp only [nx_push, nx_set, ne_eq] <;> omega) | (simp only [XSide, F9]; done) | decide) only [XWalk, XSl, ↓XPre, reduceIte, Nat.reduceEqDiff, Nat.reduceLT, Nat.reduceAdd, Nat.reduceSub, Nat.reduceMul, Nat.reduceBEq, reduceCtorEq, Int.reduceAdd, Int.reduceSub, Int.reduceMul, Int.reduceLT, Int.reduceLE, Int.reduceGT, Int.reduceGE, Int.reduceEq, Int.reduceNe, Int.reduceBEq, Int.reduceBNe, Int.reduceTMod, Int.reduceTDiv, ↓if_true, ↓if_false, F9, A9, h1, h2, h3] <;> rfl
      | true =>
        simp (maxSteps := 2000000) (disch := first | assumption | omega | (simp only [nx_push, nx_set, ne_eq] <;> omega) | (simp only [XSide, F9]; done) | decide) only [XWalk, XSl, ↓XPre, reduceIte, Nat.reduceEqDiff, Nat.reduceLT, Nat.reduceAdd, Nat.reduceSub, Nat.reduceMul, Nat.reduceBEq, reduceCtorEq, Int.reduceAdd, Int.reduceSub, Int.reduceMul, Int.reduceLT, Int.reduceLE, Int.reduceGT, Int.reduceGE, Int.reduceEq, Int.reduceNe, Int.reduceBEq, Int.reduceBNe, Int.reduceTMod, Int.reduceTDiv, ↓if_true, ↓if_false, F9, A9, h1, h2, h3]
        refine (kp _ _ _ _ hs).wconv (by simp only [F9]) (by simp only [F9]) fun q hq => ?_
        simp (maxSteps := 2000000) (disch := first | assumption | omega | (simp only [nx_push, nx_set, ne_eq] <;> omega) | (simp only [XSide, F9]; done) | decide) only [XWalk, XSl, ↓XPre, reduceIte, Nat.reduceEqDiff, Nat.reduceLT, Nat.reduceAdd, Nat.reduceSub, Nat.reduceMul, Nat.reduceBEq, reduceCtorEq, Int.reduceAdd, Int.reduceSub, Int.reduceMul, Int.reduceLT, Int.reduceLE, Int.reduceGT, Int.reduceGE, Int.reduceEq, Int.reduceNe, Int.reduceBEq, Int.reduceBNe, Int.reduceTMod, Int.reduceTDiv, ↓if_true, ↓if_false, F9, A9]
        refine (kp _ _ _ _ hs').wconv (by simp only [F9]) (by simp only [F9]) fun q hq => ?_
        simp (maxSteps := 2000000) (disch := first | assumption | omega | (simp only [nx_push, nx_set, ne_eq] <;> omega) | (simp only [XSide, F9]; done) | decide) only [XWalk, XSl, ↓XPre, reduceIte, Nat.reduceEqDiff, Nat.reduceLT, Nat.reduceAdd, Nat.reduceSub, Nat.reduceMul, Nat.reduceBEq, reduceCtorEq, Int.reduceAdd, Int.reduceSub, Int.reduceMul, Int.reduceLT, Int.reduceLE, Int.reduceGT, Int.reduceGE, Int.reduceEq, Int.reduceNe, Int.reduceBEq, Int.reduceBNe, Int.reduceTMod, Int.reduceTDiv, ↓if_true, ↓if_false, F9, A9]
        cases h4 : (S == S') with
        | false => simp (maxSteps := 2000000) (disch := first | assumption | omega | (simp only [nx_push, nx_set, ne_eq] <;> omega) | (simp only [XSide, F9]; done) | decide) only [XWalk, XSl, ↓XPre, reduceIte, Nat.reduceEqDiff, Nat.reduceLT, Nat.reduceAdd, Nat.reduceSub, Nat.reduceMul, Nat.reduceBEq, reduceCtorEq, Int.reduceAdd, Int.reduceSub, Int.reduceMul, Int.reduceLT, Int.reduceLE, Int.reduceGT, Int.reduceGE, Int.reduceEq, Int.reduceNe, Int.reduceBEq, Int.reduceBNe, Int.reduceTMod, Int.reduceTDiv, ↓if_true, ↓if_false, F9, A9, h4] <;> rfl
        | true =>
          simp (maxSteps := 2000000) (disch := first | assumption | omega | (simp only [nx_push, nx_set, ne_eq] <;> omega) | (simp only [XSide, F9]; done) | decide) only [XWalk, XSl, ↓XPre, reduceIte, Nat.reduceEqDiff, Nat.reduceLT, Nat.reduceAdd, Nat.reduceSub, Nat.reduceMul, Nat.reduceBEq, reduceCtorEq, Int.reduceAdd, Int.reduceSub, Int.reduceMul, Int.reduceLT, Int.reduceLE, Int.reduceGT, Int.reduceGE, Int.reduceEq, Int.reduceNe, Int.reduceBEq, Int.reduceBNe, Int.reduceTMod, Int.reduceTDiv, ↓if_true, ↓if_false, F9, A9, h4]
          refine (kp _ _ _ _ ht).wconv (by simp only [F9]) (by simp only [F9]) fun q hq => ?_
          simp (maxSteps := 2000000) (disch := first | assumption | omega | (simp only [nx_push, nx_set, ne_eq] <;> omega) | (simp only [XSide, F9]; done) | decide) only [XWalk, XSl, ↓XPre, reduceIte, Nat.reduceEqDiff, Nat.reduceLT, Nat.reduceAdd, Nat.reduceSub, Nat.reduceMul, Nat.reduceBEq, reduceCtorEq, Int.reduceAdd, Int.reduceSub, Int.reduceMul, Int.reduceLT, Int.reduceLE, Int.reduceGT, Int.reduceGE, Int.reduceEq, Int.reduceNe, Int.reduceBEq, Int.reduceBNe, Int.reduceTMod, Int.reduceTDiv, ↓if_true, ↓if_false, F9, A9]
          refine (kp _ _ _ _ ht').wconv (by simp only [F9]) (by simp only [F9]) fun q hq => ?_
          simp (maxSteps := 2000000) (disch := first | assumption | omega | (simp only [nx_push, nx_set, ne_eq] <;> omega) | (simp only [XSide, F9]; done) | decide) only [XWalk, XSl, ↓XPre, reduceIte, Nat.reduceEqDiff, Nat.reduceLT, Nat.reduceAdd, Nat.reduceSub, Nat.reduceMul, Nat.reduceBEq, reduceCtorEq, Int.reduceAdd, Int.reduceSub, Int.reduceMul, Int.reduceLT, Int.reduceLE, Int.reduceGT, Int.reduceGE, Int.reduceEq, Int.reduceNe, Int.reduceBEq, Int.reduceBNe, Int.reduceTMod, Int.reduceTDiv, ↓if_true, ↓if_false, F9, A9] <;> rfl

end Go.Big
