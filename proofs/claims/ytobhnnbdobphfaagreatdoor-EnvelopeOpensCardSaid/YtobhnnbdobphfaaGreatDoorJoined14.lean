/- The reference's signed bytes; which envelopes are authentic; opening. -/
import Derived.Test.YtobhnnbdobphfaaGreatDoorJoined13
import Derived.ProofKit
import Derived.LaidMore
import Derived.OpenShut
import Derived.Stop.Joined
import Derived.Lib.SmallJoins
import Derived.Carry
import Derived.Test.YtobhnnbdobphfaaGreatDoorTie
import Derived.Test.YtobhnnbdobphfaaGreatDoorCards
import Derived.Lay
import Derived.SevenTiedAt
set_option linter.unusedSimpArgs false
set_option linter.unusedVariables false
set_option linter.unusedSimpArgs false
set_option linter.unusedVariables false
set_option maxRecDepth 100000
set_option maxHeartbeats 4000000
namespace Go.Big
open Go.Proofs

theorem rsigned_ct {m : Mem} (hw : WF m) {n S : List UInt8} {r s : Nat} {sv tv : Value} (hs : Bs m sv S) (ht : oneCell tv = true) (hn : n.length ≤ 65536) (hr : r < 9223372036854775808) (hs' : s < 9223372036854775808) (lS : S.length ≤ 100000) :
    Ct Tryz.prog S0 38 [envV n r s sv tv] m [] (Rv fun v m' => Ab m' m.next v (signedB n r s S)) := by
  have hone : [str n, .int .i64 (r : Int), .int .i64 (s : Int), sv, tv].all oneCell = true := by
    simp only [List.all_cons, List.all_nil, one_sl hs, ht, one_str, one_int, Bool.and_self]
  have g1 := groupB_len 9 r (by omega) (by omega)
  have g2 := groupB_len 9 s (by omega) (by omega)
  have g3 := groupB_len 9 n.length (by omega) (by omega)
  have g4 := groupB_len 9 S.length (by omega) (by omega)
  have c1 : (r : Int) % 18446744073709551616 = (r : Int) := by omega
  have c2 : (s : Int) % 18446744073709551616 = (s : Int) := by omega
  refine ct_x (spec0 _) (by rfl) Tryz.func38 rfl ?_
  simp (maxSteps := 2000000) (disch := first | assumption | omega | (simp only [nx_push, nx_set, ne_eq] <;> omega) | (simp only [XSide, F38]; done) | decide) only [XWalk, XSl, ↓XPre, reduceIte, Nat.reduceEqDiff, Nat.reduceLT, Nat.reduceAdd, Nat.reduceSub, Nat.reduceMul, Nat.reduceBEq, reduceCtorEq, Int.reduceAdd, Int.reduceSub, Int.reduceMul, Int.reduceLT, Int.reduceLE, Int.reduceGT, Int.reduceGE, Int.reduceEq, Int.reduceNe, Int.reduceBEq, Int.reduceBNe, Int.reduceTMod, Int.reduceTDiv, ↓if_true, ↓if_false, F38, A38, Tryz.ntmps38, XAcc, aconv_str2]
  have hs1 : ∀ o, Bs (m.push o) sv S := fun o => hs.keep (Keep.push hw)
  have hl : Bs ((m.push (.row [str n, .int .i64 (r : Int), .int .i64 (s : Int), sv, tv] .rw)).push (.row (u8s n) (.slack 1))) (.slice (some ⟨m.next + 1, 0, none⟩) n.length n.length) n := .row (get_push_eq (by simp)) (by rw [List.drop_zero, List.take_of_length_le (by rw [u8s_length]; omega)]) (by rw [u8s_length]) (Nat.le_refl _) (fun s hs => by cases hs; exact ⟨rfl, by rw [u8s_length]; omega⟩)
  refine wcall_v specLoc (rstring_ct hw.push.push hl (by omega)) hw.push.push ?_
  intro v1 m1 hw1 hn1 f1 hv1
  simp only [Mem.next_push] at hn1 f1
  have row1 : m1.get m.next = some (.row [str n, .int .i64 (r : Int), .int .i64 (s : Int), sv, tv] .rw) := by rw [f1 _ (by omega), get_push_ne (by simp), get_push_self]
  have hv1 := hv1.mono (n1 := m.next + 1) (by simp)
  have hsv1 : Bs m1 sv S := (hs1 (.row [str n, .int .i64 (r : Int), .int .i64 (s : Int), sv, tv] .rw)).frame_at fun c hc => by
    have := hs.blk_lt hw hc
    rw [f1 c (by omega), get_push_ne (by simp; omega)]
  simp (maxSteps := 2000000) (disch := first | assumption | omega | (simp only [nx_push, nx_set, ne_eq] <;> omega) | (simp only [XSide, F38]; done) | decide) only [XWalk, XSl, ↓XPre, reduceIte, Nat.reduceEqDiff, Nat.reduceLT, Nat.reduceAdd, Nat.reduceSub, Nat.reduceMul, Nat.reduceBEq, reduceCtorEq, Int.reduceAdd, Int.reduceSub, Int.reduceMul, Int.reduceLT, Int.reduceLE, Int.reduceGT, Int.reduceGE, Int.reduceEq, Int.reduceNe, Int.reduceBEq, Int.reduceBNe, Int.reduceTMod, Int.reduceTDiv, ↓if_true, ↓if_false, F38, A38, row1, c1]
  refine wcall_v specLoc (rgroup_ct hw1 hr) hw1 ?_
  intro v2 m2 hw2 hn2 f2 hv2
  simp (maxSteps := 2000000) (disch := first | assumption | omega | (simp only [nx_push, nx_set, ne_eq] <;> omega) | (simp only [XSide, F38]; done) | decide) only [XWalk, XSl, ↓XPre, reduceIte, Nat.reduceEqDiff, Nat.reduceLT, Nat.reduceAdd, Nat.reduceSub, Nat.reduceMul, Nat.reduceBEq, reduceCtorEq, Int.reduceAdd, Int.reduceSub, Int.reduceMul, Int.reduceLT, Int.reduceLE, Int.reduceGT, Int.reduceGE, Int.reduceEq, Int.reduceNe, Int.reduceBEq, Int.reduceBNe, Int.reduceTMod, Int.reduceTDiv, ↓if_true, ↓if_false, F38, A38]
  refine wappend (bytes := 1) (by simp only [F38]) (hv1.frame fun c hc => f2 c (hv1.blk_lt hw1 hc)) hv2.sl (by simp only [strB, List.length_append]; omega) (by omega) hw2 fun v3 m3 w3 ha3 ok3 => ?_
  have old3 : ∀ b, b < m.next + 1 → m3.get b = m1.get b := fun b hb => by rw [ha3.old (fun b hb => hv1.blk_ge hb) b hb (by omega), f2 b (by omega)]
  have hn3 : m1.next ≤ m3.next := by have := ha3.next; omega
  have row3 := (old3 m.next (by omega)).trans row1
  simp (maxSteps := 2000000) (disch := first | assumption | omega | (simp only [nx_push, nx_set, ne_eq] <;> omega) | (simp only [XSide, F38]; done) | decide) only [XWalk, XSl, ↓XPre, reduceIte, Nat.reduceEqDiff, Nat.reduceLT, Nat.reduceAdd, Nat.reduceSub, Nat.reduceMul, Nat.reduceBEq, reduceCtorEq, Int.reduceAdd, Int.reduceSub, Int.reduceMul, Int.reduceLT, Int.reduceLE, Int.reduceGT, Int.reduceGE, Int.reduceEq, Int.reduceNe, Int.reduceBEq, Int.reduceBNe, Int.reduceTMod, Int.reduceTDiv, ↓if_true, ↓if_false, F38, A38, row3, c2, ok3 m.next [] (by omega)]
  refine wcall_v specLoc (rgroup_ct ha3.wf hs') ha3.wf ?_
  intro v4 m4 hw4 hn4 f4 hv4
  simp (maxSteps := 2000000) (disch := first | assumption | omega | (simp only [nx_push, nx_set, ne_eq] <;> omega) | (simp only [XSide, F38]; done) | decide) only [XWalk, XSl, ↓XPre, reduceIte, Nat.reduceEqDiff, Nat.reduceLT, Nat.reduceAdd, Nat.reduceSub, Nat.reduceMul, Nat.reduceBEq, reduceCtorEq, Int.reduceAdd, Int.reduceSub, Int.reduceMul, Int.reduceLT, Int.reduceLE, Int.reduceGT, Int.reduceGE, Int.reduceEq, Int.reduceNe, Int.reduceBEq, Int.reduceBNe, Int.reduceTMod, Int.reduceTDiv, ↓if_true, ↓if_false, F38, A38]
  refine wappend (bytes := 1) (by simp only [F38]) (ha3.app.frame fun c hc => f4 c (ha3.app.blk_lt ha3.wf hc)) hv4.sl (by simp only [strB, List.length_append]; omega) (by omega) hw4 fun v5 m5 w5 ha5 ok5 => ?_
  have old5 : ∀ b, b < m.next + 1 → m5.get b = m1.get b := fun b hb => by rw [ha5.old (fun b hb => ha3.app.blk_ge hb) b hb (by omega), f4 b (by omega)]; exact old3 b hb
  have hn5 : m1.next ≤ m5.next := by have := ha5.next; omega
  have row5 := (old5 m.next (by omega)).trans row1
  have hsv5 : Bs m5 sv S := hsv1.frame_at fun c hc => old5 c (by have := hs.blk_lt hw hc; omega)
  simp (maxSteps := 2000000) (disch := first | assumption | omega | (simp only [nx_push, nx_set, ne_eq] <;> omega) | (simp only [XSide, F38]; done) | decide) only [XWalk, XSl, ↓XPre, reduceIte, Nat.reduceEqDiff, Nat.reduceLT, Nat.reduceAdd, Nat.reduceSub, Nat.reduceMul, Nat.reduceBEq, reduceCtorEq, Int.reduceAdd, Int.reduceSub, Int.reduceMul, Int.reduceLT, Int.reduceLE, Int.reduceGT, Int.reduceGE, Int.reduceEq, Int.reduceNe, Int.reduceBEq, Int.reduceBNe, Int.reduceTMod, Int.reduceTDiv, ↓if_true, ↓if_false, F38, A38, row5, ok5 m.next [] (by omega)]
  refine wcall_v specLoc (rstring_ct ha5.wf hsv5 (by omega)) ha5.wf ?_
  intro v6 m6 hw6 hn6 f6 hv6
  simp (maxSteps := 2000000) (disch := first | assumption | omega | (simp only [nx_push, nx_set, ne_eq] <;> omega) | (simp only [XSide, F38]; done) | decide) only [XWalk, XSl, ↓XPre, reduceIte, Nat.reduceEqDiff, Nat.reduceLT, Nat.reduceAdd, Nat.reduceSub, Nat.reduceMul, Nat.reduceBEq, reduceCtorEq, Int.reduceAdd, Int.reduceSub, Int.reduceMul, Int.reduceLT, Int.reduceLE, Int.reduceGT, Int.reduceGE, Int.reduceEq, Int.reduceNe, Int.reduceBEq, Int.reduceBNe, Int.reduceTMod, Int.reduceTDiv, ↓if_true, ↓if_false, F38, A38]
  refine wappend (bytes := 1) (by simp only [F38]) (ha5.app.frame fun c hc => f6 c (ha5.app.blk_lt ha5.wf hc)) hv6.sl (by simp only [strB, List.length_append]; omega) (by omega) hw6 fun v7 m7 w7 ha7 ok7 => ?_
  simp (maxSteps := 2000000) (disch := first | assumption | omega | (simp only [nx_push, nx_set, ne_eq] <;> omega) | (simp only [XSide, F38]; done) | decide) only [XWalk, XSl, ↓XPre, reduceIte, Nat.reduceEqDiff, Nat.reduceLT, Nat.reduceAdd, Nat.reduceSub, Nat.reduceMul, Nat.reduceBEq, reduceCtorEq, Int.reduceAdd, Int.reduceSub, Int.reduceMul, Int.reduceLT, Int.reduceLE, Int.reduceGT, Int.reduceGE, Int.reduceEq, Int.reduceNe, Int.reduceBEq, Int.reduceBNe, Int.reduceTMod, Int.reduceTDiv, ↓if_true, ↓if_false, F38, A38, ok7 m.next [] (by omega)]
  exact ⟨_, rfl, ha7.app.mono (by omega)⟩

theorem rauth_ct {m : Mem} (hw : WF m) {w : Value} {n S T : List UInt8} {r s : Int} {sv tv : Value} (hb : RefBook m w) (hs : Bs m sv S) (ht : Bs m tv T) (hn : n.length ≤ 65536) (lS : S.length ≤ 100000) :
    Ct Tryz.prog S0 13 [w, envV n r s sv tv] m [] (fun out m' => out = .ret (.int .i64 (checkI n r s S T))) := by
  have hb0 := hb
  obtain ⟨rb, k1, k2, rfl, hr, hk1, hk2⟩ := hb
  have hone : [str n, .int .i64 r, .int .i64 s, sv, tv].all oneCell = true := by
    simp only [List.all_cons, List.all_nil, one_sl hs, one_sl ht, one_str, one_int, Bool.and_self]
  have kp : ∀ (v : Value) (l : List UInt8) o o', Bs m v l → Bs ((m.push o).push o') v l := fun v l o o' h => (h.keep (Keep.push hw)).keep (Keep.push hw.push)
  have hb2 : ∀ o o', RefBook ((m.push o).push o') (.agg #[.slice (some ⟨rb, 0, none⟩) 2 2]) := fun o o' => (hb0.keep (Keep.push hw)).keep (Keep.push hw.push)
  refine ct_x (spec0 _) (by rfl) Tryz.func13 rfl ?_
  simp (maxSteps := 2000000) (disch := first | assumption | omega | (simp only [nx_push, nx_set, ne_eq] <;> omega) | (simp only [XSide, F13]; done) | decide) only [XWalk, XSl, ↓XPre, reduceIte, Nat.reduceEqDiff, Nat.reduceLT, Nat.reduceAdd, Nat.reduceSub, Nat.reduceMul, Nat.reduceBEq, reduceCtorEq, Int.reduceAdd, Int.reduceSub, Int.reduceMul, Int.reduceLT, Int.reduceLE, Int.reduceGT, Int.reduceGE, Int.reduceEq, Int.reduceNe, Int.reduceBEq, Int.reduceBNe, Int.reduceTMod, Int.reduceTDiv, ↓if_true, ↓if_false, F13, A13, Tryz.ntmps13, XAcc, loadN1]
  refine wcall_x specLoc (refvalid_ct hw.push.push (kp _ _ _ _ hs) (kp _ _ _ _ ht) (by omega)) hw.push.push ?_
  rintro out m1 hw1 hn1 f1 rfl
  simp only [Mem.next_push] at hn1 f1
  unfold checkI
  cases hvb : validB n r s S.length T.length with
  | false =>
    simp (maxSteps := 2000000) (disch := first | assumption | omega | (simp only [nx_push, nx_set, ne_eq] <;> omega) | (simp only [XSide, F13]; done) | decide) only [XWalk, XSl, ↓XPre, reduceIte, Nat.reduceEqDiff, Nat.reduceLT, Nat.reduceAdd, Nat.reduceSub, Nat.reduceMul, Nat.reduceBEq, reduceCtorEq, Int.reduceAdd, Int.reduceSub, Int.reduceMul, Int.reduceLT, Int.reduceLE, Int.reduceGT, Int.reduceGE, Int.reduceEq, Int.reduceNe, Int.reduceBEq, Int.reduceBNe, Int.reduceTMod, Int.reduceTDiv, ↓if_true, ↓if_false, F13, A13]
  | true =>
    have hvb' := hvb
    simp only [validB, nameB, Bool.and_eq_true, decide_eq_true_eq, beq_iff_eq] at hvb'
    obtain ⟨⟨hn1', hn2', _⟩, ⟨hr1, hr2⟩, ⟨hs1', hs2'⟩, ⟨hS1, hS2⟩, hT⟩ := hvb'
    obtain ⟨r', rfl⟩ : ∃ r' : Nat, r = (r' : Int) := ⟨r.toNat, by omega⟩
    obtain ⟨s', rfl⟩ : ∃ s' : Nat, s = (s' : Int) := ⟨s.toNat, by omega⟩
    have g1 := groupB_len 9 r' (by omega) (by omega)
    have g2 := groupB_len 9 s' (by omega) (by omega)
    have g3 := groupB_len 9 n.length (by omega) (by omega)
    have g4 := groupB_len 9 S.length (by omega) (by omega)
    have hll : (signedB n r' s' S).length ≤ 60000 := by simp only [signedB, strB, List.length_append]; omega
    have rowb : m1.get m.next = some (.row [.slice (some ⟨rb, 0, none⟩) 2 2] .rw) := by rw [f1 _ (by omega), get_push_ne (by simp), get_push_self]
    have rowe : m1.get (m.next + 1) = some (.row [str n, .int .i64 (r' : Int), .int .i64 (s' : Int), sv, tv] .rw) := by rw [f1 _ (by omega), get_push_eq (by simp)]
    have hs2 : Bs m1 sv S := hs.frame_at fun c hc => by
      have := hs.blk_lt hw hc
      rw [f1 c (by omega), get_push_ne (by simp; omega), get_push_ne (by omega)]
    have ht2 : Bs m1 tv T := ht.frame_at fun c hc => by
      have := ht.blk_lt hw hc
      rw [f1 c (by omega), get_push_ne (by simp; omega), get_push_ne (by omega)]
    have hbk2 : RefBook m1 (.agg #[.slice (some ⟨rb, 0, none⟩) 2 2]) := hb0.keep fun c hc => by
      have := hw.lt hc
      rw [f1 c (by omega), get_push_ne (by simp; omega), get_push_ne (by omega)]
    simp (maxSteps := 2000000) (disch := first | assumption | omega | (simp only [nx_push, nx_set, ne_eq] <;> omega) | (simp only [XSide, F13]; done) | decide) only [XWalk, XSl, ↓XPre, reduceIte, Nat.reduceEqDiff, Nat.reduceLT, Nat.reduceAdd, Nat.reduceSub, Nat.reduceMul, Nat.reduceBEq, reduceCtorEq, Int.reduceAdd, Int.reduceSub, Int.reduceMul, Int.reduceLT, Int.reduceLE, Int.reduceGT, Int.reduceGE, Int.reduceEq, Int.reduceNe, Int.reduceBEq, Int.reduceBNe, Int.reduceTMod, Int.reduceTDiv, ↓if_true, ↓if_false, F13, A13]
    refine x_draw [0, 0, 2, 0, 8, 31, 63, 127, 127, 255, 1023] (by kernel_rfl) ?_
    simp (maxSteps := 2000000) (disch := first | assumption | omega | (simp only [nx_push, nx_set, ne_eq] <;> omega) | (simp only [XSide, F13]; done) | decide) only [XWalk, XSl, ↓XPre, reduceIte, Nat.reduceEqDiff, Nat.reduceLT, Nat.reduceAdd, Nat.reduceSub, Nat.reduceMul, Nat.reduceBEq, reduceCtorEq, Int.reduceAdd, Int.reduceSub, Int.reduceMul, Int.reduceLT, Int.reduceLE, Int.reduceGT, Int.reduceGE, Int.reduceEq, Int.reduceNe, Int.reduceBEq, Int.reduceBNe, Int.reduceTMod, Int.reduceTDiv, ↓if_true, ↓if_false, F13, A13, XAcc, loadN1, rowb, rowe]
    refine wcall_v specLoc (rsigned_ct (n := n) (S := S) (r := r') (s := s') hw1 hs2 (one_sl ht) (by omega) (by omega) (by omega) lS) hw1 ?_
    intro v2 m2 hw2 hn2 f2 hv2
    simp (maxSteps := 2000000) (disch := first | assumption | omega | (simp only [nx_push, nx_set, ne_eq] <;> omega) | (simp only [XSide, F13]; done) | decide) only [XWalk, XSl, ↓XPre, reduceIte, Nat.reduceEqDiff, Nat.reduceLT, Nat.reduceAdd, Nat.reduceSub, Nat.reduceMul, Nat.reduceBEq, reduceCtorEq, Int.reduceAdd, Int.reduceSub, Int.reduceMul, Int.reduceLT, Int.reduceLE, Int.reduceGT, Int.reduceGE, Int.reduceEq, Int.reduceNe, Int.reduceBEq, Int.reduceBNe, Int.reduceTMod, Int.reduceTDiv, ↓if_true, ↓if_false, F13, A13]
    refine wcall_x specLoc (rbtag_ct hw2 (hbk2.keep (keep_of hw1 f2)) hv2.sl (by omega)) hw2 ?_
    rintro out m3 hw3 hn3 f3 rfl
    have rowe3 : m3.get (m.next + 1) = some (.row [str n, .int .i64 (r' : Int), .int .i64 (s' : Int), sv, tv] .rw) := by rw [f3 _ (by omega), f2 _ (by omega)]; exact rowe
    have ht3 : Bs m3 tv T := (ht2.keep (keep_of hw1 f2)).keep (keep_of hw2 f3)
    unfold rtagV verifyI
    cases ho : acctOf n with
    | none =>
      simp (maxSteps := 2000000) (disch := first | assumption | omega | (simp only [nx_push, nx_set, ne_eq] <;> omega) | (simp only [XSide, F13]; done) | decide) only [XWalk, XSl, ↓XPre, reduceIte, Nat.reduceEqDiff, Nat.reduceLT, Nat.reduceAdd, Nat.reduceSub, Nat.reduceMul, Nat.reduceBEq, reduceCtorEq, Int.reduceAdd, Int.reduceSub, Int.reduceMul, Int.reduceLT, Int.reduceLE, Int.reduceGT, Int.reduceGE, Int.reduceEq, Int.reduceNe, Int.reduceBEq, Int.reduceBNe, Int.reduceTMod, Int.reduceTDiv, ↓if_true, ↓if_false, F13, A13]
    | some kn =>
      obtain ⟨key, num⟩ := kn
      have hnl : ¬ 65536 < (signedB n r' s' S).length := by omega
      simp only [Int.toNat_natCast, if_neg hnl]
      simp (maxSteps := 2000000) (disch := first | assumption | omega | (simp only [nx_push, nx_set, ne_eq] <;> omega) | (simp only [XSide, F13]; done) | decide) only [XWalk, XSl, ↓XPre, reduceIte, Nat.reduceEqDiff, Nat.reduceLT, Nat.reduceAdd, Nat.reduceSub, Nat.reduceMul, Nat.reduceBEq, reduceCtorEq, Int.reduceAdd, Int.reduceSub, Int.reduceMul, Int.reduceLT, Int.reduceLE, Int.reduceGT, Int.reduceGE, Int.reduceEq, Int.reduceNe, Int.reduceBEq, Int.reduceBNe, Int.reduceTMod, Int.reduceTDiv, ↓if_true, ↓if_false, F13, A13, rowe3]
      refine ht3.wconv (by simp only [F13]) (by simp only [F13]) fun q hq => ?_
      rcases Bool.eq_false_or_eq_true (blakeB key (signedB n r' s' S) == T) with hq2 | hq2
      · simp (maxSteps := 2000000) (disch := first | assumption | omega | (simp only [nx_push, nx_set, ne_eq] <;> omega) | (simp only [XSide, F13]; done) | decide) only [XWalk, XSl, ↓XPre, reduceIte, Nat.reduceEqDiff, Nat.reduceLT, Nat.reduceAdd, Nat.reduceSub, Nat.reduceMul, Nat.reduceBEq, reduceCtorEq, Int.reduceAdd, Int.reduceSub, Int.reduceMul, Int.reduceLT, Int.reduceLE, Int.reduceGT, Int.reduceGE, Int.reduceEq, Int.reduceNe, Int.reduceBEq, Int.reduceBNe, Int.reduceTMod, Int.reduceTDiv, ↓if_true, ↓if_false, F13, A13, hq2]
      · simp (maxSteps := 2000000) (disch := first | assumption | omega | (simp only [nx_push, nx_set, ne_eq] <;> omega) | (simp only [XSide, F13]; done) | decide) only [XWalk, XSl, ↓XPre, reduceIte, Nat.reduceEqDiff, Nat.reduceLT, Nat.reduceAdd, Nat.reduceSub, Nat.reduceMul, Nat.reduceBEq, reduceCtorEq, Int.reduceAdd, Int.reduceSub, Int.reduceMul, Int.reduceLT, Int.reduceLE, Int.reduceGT, Int.reduceGE, Int.reduceEq, Int.reduceNe, Int.reduceBEq, Int.reduceBNe, Int.reduceTMod, Int.reduceTDiv, ↓if_true, ↓if_false, F13, A13, hq2]
section
variable {n S T key : List UInt8} {r s : Int}
theorem openE_bad (h : key.length ≠ 32) : openE n r s S T key = (none, 2) := by
  have h1 : ((key.length : Int) == 32) = false := by rw [beq_eq_false_iff_ne]; omega
  simp [openE, firstE, h1]
theorem openE_chk (h : key.length = 32) (h2 : checkI n r s S T ≠ 0) : openE n r s S T key = (none, checkI n r s S T) := by
  have h1 : ((key.length : Int) == 32) = true := by rw [beq_iff_eq]; omega
  simp [openE, firstE, h1, h2]
theorem openE_ok (h : key.length = 32) (h2 : checkI n r s S T = 0) : openE n r s S T key = match openB (blakeB key (bidL ++ n)) S with | some p => (some p, 0) | none => (none, 10) := by
  have h1 : ((key.length : Int) == 32) = true := by rw [beq_iff_eq]; omega
  simp [openE, firstE, h1, h2]
  cases openB (blakeB key (bidL ++ n)) S <;> rfl
theorem check_valid (h : checkI n r s S T = 0) : validB n r s S.length T.length = true := by
  unfold checkI at h
  split at h
  · assumption
  · cases h
end

/-- What the reference's opening answers. -/
def ropenV (q : Option (List UInt8) × Int) : Value := .tuple #[str (q.1.getD []), .int .i64 q.2]

theorem rbopen_ct {m : Mem} (hw : WF m) {w : Value} {n S T key : List UInt8} {r s : Int} {sv tv kv : Value} (hb : RefBook m w) (hs : Bs m sv S) (ht : Bs m tv T) (hk : Bs m kv key) (hn : n.length ≤ 60000) (lS : S.length ≤ 65536) (lk : key.length ≤ 100) :
    Ct Tryz.prog S0 11 [w, envV n r s sv tv, kv] m [] (fun out m' => out = .ret (ropenV (openE n r s S T key))) := by
  have hb0 := hb
  obtain ⟨rb, k1, k2, rfl, hr, hk1, hk2⟩ := hb
  have hone : [str n, .int .i64 r, .int .i64 s, sv, tv].all oneCell = true := by
    simp only [List.all_cons, List.all_nil, one_sl hs, one_sl ht, one_str, one_int, Bool.and_self]
  have kp : ∀ (v : Value) (l : List UInt8) o o', Bs m v l → Bs ((m.push o).push o') v l := fun v l o o' h => (h.keep (Keep.push hw)).keep (Keep.push hw.push)
  have hb2 : ∀ o o', RefBook ((m.push o).push o') (.agg #[.slice (some ⟨rb, 0, none⟩) 2 2]) := fun o o' => (hb0.keep (Keep.push hw)).keep (Keep.push hw.push)
  refine ct_x (spec0 _) (by rfl) Tryz.func11 rfl ?_
  simp (maxSteps := 2000000) (disch := first | assumption | omega | (simp only [nx_push, nx_set, ne_eq] <;> omega) | (simp only [XSide, F11]; done) | decide) only [XWalk, XSl, ↓XPre, reduceIte, Nat.reduceEqDiff, Nat.reduceLT, Nat.reduceAdd, Nat.reduceSub, Nat.reduceMul, Nat.reduceBEq, reduceCtorEq, Int.reduceAdd, Int.reduceSub, Int.reduceMul, Int.reduceLT, Int.reduceLE, Int.reduceGT, Int.reduceGE, Int.reduceEq, Int.reduceNe, Int.reduceBEq, Int.reduceBNe, Int.reduceTMod, Int.reduceTDiv, ↓if_true, ↓if_false, F11, A11, Tryz.ntmps11, XAcc, loadN1, alen_bs (kp _ _ _ _ hk)]
  by_cases h1 : key.length = 32
  · have h1' : ((key.length : Int) != 32) = false := by rw [h1]; rfl
    simp (maxSteps := 2000000) (disch := first | assumption | omega | (simp only [nx_push, nx_set, ne_eq] <;> omega) | (simp only [XSide, F11]; done) | decide) only [XWalk, XSl, ↓XPre, reduceIte, Nat.reduceEqDiff, Nat.reduceLT, Nat.reduceAdd, Nat.reduceSub, Nat.reduceMul, Nat.reduceBEq, reduceCtorEq, Int.reduceAdd, Int.reduceSub, Int.reduceMul, Int.reduceLT, Int.reduceLE, Int.reduceGT, Int.reduceGE, Int.reduceEq, Int.reduceNe, Int.reduceBEq, Int.reduceBNe, Int.reduceTMod, Int.reduceTDiv, ↓if_true, ↓if_false, F11, A11, h1', XAcc, loadN1]
    refine wcall_x specLoc (rauth_ct hw.push.push (hb2 _ _) (kp _ _ _ _ hs) (kp _ _ _ _ ht) (by omega) (by omega)) hw.push.push ?_
    rintro out m1 hw1 hn1 f1 rfl
    simp only [Mem.next_push] at hn1 f1
    have rowe : m1.get (m.next + 1) = some (.row [str n, .int .i64 r, .int .i64 s, sv, tv] .rw) := by rw [f1 _ (by omega), get_push_eq (by simp)]
    have fr : ∀ v l, Bs m v l → Bs m1 v l := fun v l h => h.frame_at fun c hc => by
      have := h.blk_lt hw hc
      rw [f1 c (by omega), get_push_ne (by simp; omega), get_push_ne (by omega)]
    have hs2 := fr _ _ hs
    have hk2 := fr _ _ hk
    by_cases h2 : checkI n r s S T = 0
    · rw [openE_ok h1 h2]
      have hv := check_valid h2
      simp only [validB, nameB, Bool.and_eq_true, decide_eq_true_eq, beq_iff_eq] at hv
      obtain ⟨⟨hn1', hn2', _⟩, ⟨hr1, hr2⟩, ⟨hs1', hs2'⟩, ⟨hS1, hS2⟩, hT⟩ := hv
      have hcat : ∀ (x y : Operand) (m' : Mem) (t : TypeId), abin Tryz.prog .add t x y (.string ⟨#[98, 105, 100, 45]⟩) (str n) m' = some (str (bidL ++ n), m', [], .no) := fun x y m' t => abin_str_add (a := bidL) (by simp [bidL]; omega)
      rw [h2]
      simp (maxSteps := 2000000) (disch := first | assumption | omega | (simp only [nx_push, nx_set, ne_eq] <;> omega) | (simp only [XSide, F11]; done) | decide) only [XWalk, XSl, ↓XPre, reduceIte, Nat.reduceEqDiff, Nat.reduceLT, Nat.reduceAdd, Nat.reduceSub, Nat.reduceMul, Nat.reduceBEq, reduceCtorEq, Int.reduceAdd, Int.reduceSub, Int.reduceMul, Int.reduceLT, Int.reduceLE, Int.reduceGT, Int.reduceGE, Int.reduceEq, Int.reduceNe, Int.reduceBEq, Int.reduceBNe, Int.reduceTMod, Int.reduceTDiv, ↓if_true, ↓if_false, F11, A11]
      refine x_draw [0, 0, 2, 6, 15, 0, 32, 127, 255, 511, 511, 1023, 4095] (by kernel_rfl) ?_
      simp (maxSteps := 2000000) (disch := first | assumption | omega | (simp only [nx_push, nx_set, ne_eq] <;> omega) | (simp only [XSide, F11]; done) | decide) only [XWalk, XSl, ↓XPre, reduceIte, Nat.reduceEqDiff, Nat.reduceLT, Nat.reduceAdd, Nat.reduceSub, Nat.reduceMul, Nat.reduceBEq, reduceCtorEq, Int.reduceAdd, Int.reduceSub, Int.reduceMul, Int.reduceLT, Int.reduceLE, Int.reduceGT, Int.reduceGE, Int.reduceEq, Int.reduceNe, Int.reduceBEq, Int.reduceBNe, Int.reduceTMod, Int.reduceTDiv, ↓if_true, ↓if_false, F11, A11, rowe, hcat]
      refine wcall_v specLoc (rderive_ct (label := bidL ++ n) hw1 hk2 (by omega) (by rw [List.length_append]; simp [bidL]; omega)) hw1 ?_
      intro dv m2 hw2 hn2 f2 hd2
      have rowe2 : m2.get (m.next + 1) = some (.row [str n, .int .i64 r, .int .i64 s, sv, tv] .rw) := by rw [f2 _ (by omega)]; exact rowe
      simp (maxSteps := 2000000) (disch := first | assumption | omega | (simp only [nx_push, nx_set, ne_eq] <;> omega) | (simp only [XSide, F11]; done) | decide) only [XWalk, XSl, ↓XPre, reduceIte, Nat.reduceEqDiff, Nat.reduceLT, Nat.reduceAdd, Nat.reduceSub, Nat.reduceMul, Nat.reduceBEq, reduceCtorEq, Int.reduceAdd, Int.reduceSub, Int.reduceMul, Int.reduceLT, Int.reduceLE, Int.reduceGT, Int.reduceGE, Int.reduceEq, Int.reduceNe, Int.reduceBEq, Int.reduceBNe, Int.reduceTMod, Int.reduceTDiv, ↓if_true, ↓if_false, F11, A11, rowe2]
      refine wcall_v specLoc (ropen_ct hw2 hd2.sl (by rw [blakeB_length]; omega) (hs2.keep (keep_of hw1 f2)) (by omega) lS) hw2 ?_
      intro ov m3 hw3 hn3 f3 ho
      cases hq : openB (blakeB key (bidL ++ n)) S with
      | none =>
        rw [hq] at ho
        change ov = _ at ho
        subst ho
        simp (maxSteps := 2000000) (disch := first | assumption | omega | (simp only [nx_push, nx_set, ne_eq] <;> omega) | (simp only [XSide, F11]; done) | decide) only [XWalk, XSl, ↓XPre, reduceIte, Nat.reduceEqDiff, Nat.reduceLT, Nat.reduceAdd, Nat.reduceSub, Nat.reduceMul, Nat.reduceBEq, reduceCtorEq, Int.reduceAdd, Int.reduceSub, Int.reduceMul, Int.reduceLT, Int.reduceLE, Int.reduceGT, Int.reduceGE, Int.reduceEq, Int.reduceNe, Int.reduceBEq, Int.reduceBNe, Int.reduceTMod, Int.reduceTDiv, ↓if_true, ↓if_false, F11, A11]
        rfl
      | some p =>
        rw [hq] at ho
        obtain ⟨pv, rfl, hp⟩ := ho
        simp (maxSteps := 2000000) (disch := first | assumption | omega | (simp only [nx_push, nx_set, ne_eq] <;> omega) | (simp only [XSide, F11]; done) | decide) only [XWalk, XSl, ↓XPre, reduceIte, Nat.reduceEqDiff, Nat.reduceLT, Nat.reduceAdd, Nat.reduceSub, Nat.reduceMul, Nat.reduceBEq, reduceCtorEq, Int.reduceAdd, Int.reduceSub, Int.reduceMul, Int.reduceLT, Int.reduceLE, Int.reduceGT, Int.reduceGE, Int.reduceEq, Int.reduceNe, Int.reduceBEq, Int.reduceBNe, Int.reduceTMod, Int.reduceTDiv, ↓if_true, ↓if_false, F11, A11]
        refine hp.wconv (by simp only [F11]) (by simp only [F11]) fun q hq => ?_
        simp (maxSteps := 2000000) (disch := first | assumption | omega | (simp only [nx_push, nx_set, ne_eq] <;> omega) | (simp only [XSide, F11]; done) | decide) only [XWalk, XSl, ↓XPre, reduceIte, Nat.reduceEqDiff, Nat.reduceLT, Nat.reduceAdd, Nat.reduceSub, Nat.reduceMul, Nat.reduceBEq, reduceCtorEq, Int.reduceAdd, Int.reduceSub, Int.reduceMul, Int.reduceLT, Int.reduceLE, Int.reduceGT, Int.reduceGE, Int.reduceEq, Int.reduceNe, Int.reduceBEq, Int.reduceBNe, Int.reduceTMod, Int.reduceTDiv, ↓if_true, ↓if_false, F11, A11]
        rfl
    · rw [openE_chk h1 h2]
      have h2' : (checkI n r s S T != 0) = true := by simpa using h2
      simp (maxSteps := 2000000) (disch := first | assumption | omega | (simp only [nx_push, nx_set, ne_eq] <;> omega) | (simp only [XSide, F11]; done) | decide) only [XWalk, XSl, ↓XPre, reduceIte, Nat.reduceEqDiff, Nat.reduceLT, Nat.reduceAdd, Nat.reduceSub, Nat.reduceMul, Nat.reduceBEq, reduceCtorEq, Int.reduceAdd, Int.reduceSub, Int.reduceMul, Int.reduceLT, Int.reduceLE, Int.reduceGT, Int.reduceGE, Int.reduceEq, Int.reduceNe, Int.reduceBEq, Int.reduceBNe, Int.reduceTMod, Int.reduceTDiv, ↓if_true, ↓if_false, F11, A11, h2']
      rfl
  · have h1' : ((key.length : Int) != 32) = true := by rw [bne_iff_ne]; omega
    rw [openE_bad h1]
    simp (maxSteps := 2000000) (disch := first | assumption | omega | (simp only [nx_push, nx_set, ne_eq] <;> omega) | (simp only [XSide, F11]; done) | decide) only [XWalk, XSl, ↓XPre, reduceIte, Nat.reduceEqDiff, Nat.reduceLT, Nat.reduceAdd, Nat.reduceSub, Nat.reduceMul, Nat.reduceBEq, reduceCtorEq, Int.reduceAdd, Int.reduceSub, Int.reduceMul, Int.reduceLT, Int.reduceLE, Int.reduceGT, Int.reduceGE, Int.reduceEq, Int.reduceNe, Int.reduceBEq, Int.reduceBNe, Int.reduceTMod, Int.reduceTDiv, ↓if_true, ↓if_false, F11, A11, h1']
    rfl
end Go.Big

/- The law EnvelopeOpens: its walk. -/
set_option linter.unusedSimpArgs false
set_option linter.unusedVariables false
set_option maxRecDepth 100000
set_option maxHeartbeats 4000000
namespace Go.Big
open Go.Proofs

theorem rdV_ne {v : Value} : rdV v ≠ .all := by
  unfold rdV
  split
  · unfold rdA; split <;> simp
  · unfold rdA; split <;> simp
  · simp

theorem OpenR.bs {q : Option (List UInt8) × Int} {v : Value} {m : Mem} (h : OpenR q v m) : ∃ bv, v = .tuple #[bv, .int .i64 q.2] ∧ Bs m bv (q.1.getD []) := by
  obtain ⟨o, e⟩ := q
  cases o with
  | none => exact ⟨_, h, .nil⟩
  | some p =>
    obtain ⟨s, h1, h2⟩ := h
    exact ⟨s, h1, h2⟩

theorem opens_ct {m : Mem} (hw : WF m) {n S T key : List UInt8} {r s : Int} {sv tv kv : Value} (hs : Bs m sv S) (ht : Bs m tv T) (hk : Bs m kv key) :
    Ct Tryz.prog S0 3 [envV n r s sv tv, kv] m [] (fun out m' => out = .ret (.bool true)) := by
  have hone : [str n, .int .i64 r, .int .i64 s, sv, tv].all oneCell = true := by
    simp only [List.all_cons, List.all_nil, one_sl hs, one_sl ht, one_str, one_int, Bool.and_self]
  have hs1 : Bs (m.push (.row [str n, .int .i64 r, .int .i64 s, sv, tv] .rw)) sv S := hs.keep (Keep.push hw)
  have ht1 : Bs (m.push (.row [str n, .int .i64 r, .int .i64 s, sv, tv] .rw)) tv T := ht.keep (Keep.push hw)
  have hk1 : Bs (m.push (.row [str n, .int .i64 r, .int .i64 s, sv, tv] .rw)) kv key := hk.keep (Keep.push hw)
  refine ct_x (spec0 _) (by rfl) Tryz.func3 rfl ?_
  simp (maxSteps := 2000000) (disch := first | assumption | omega | (simp only [nx_push, nx_set, ne_eq] <;> omega) | (simp only [XSide, F3]; done) | decide) only [XWalk, XSl, ↓XPre, reduceIte, Nat.reduceEqDiff, Nat.reduceLT, Nat.reduceAdd, Nat.reduceSub, Nat.reduceMul, Nat.reduceBEq, reduceCtorEq, Int.reduceAdd, Int.reduceSub, Int.reduceMul, Int.reduceLT, Int.reduceLE, Int.reduceGT, Int.reduceGE, Int.reduceEq, Int.reduceNe, Int.reduceBEq, Int.reduceBNe, Int.reduceTMod, Int.reduceTDiv, ↓if_true, ↓if_false, F3, A3, Tryz.ntmps3, XAcc]
  refine wcall_x specLoc (short_ct hw.push hs1 ht1) hw.push ?_
  rintro out m1 hw1 hn1 f1 rfl
  have known : ∀ (m' : Mem), WF m' → True := fun _ _ => trivial
  have hs2 := hs1.keep (keep_of hw.push f1)
  have ht2 := ht1.keep (keep_of hw.push f1)
  have hk2 := hk1.keep (keep_of hw.push f1)
  have row1 : m1.get m.next = some (.row [str n, .int .i64 r, .int .i64 s, sv, tv] .rw) := by rw [f1 _ (by simp), get_push_self]
  simp only [Mem.next_push] at hn1
  cases hsh : shortB n S.length T.length with
  | false =>
    simp (maxSteps := 2000000) (disch := first | assumption | omega | (simp only [nx_push, nx_set, ne_eq] <;> omega) | (simp only [XSide, F3]; done) | decide) only [XWalk, XSl, ↓XPre, reduceIte, Nat.reduceEqDiff, Nat.reduceLT, Nat.reduceAdd, Nat.reduceSub, Nat.reduceMul, Nat.reduceBEq, reduceCtorEq, Int.reduceAdd, Int.reduceSub, Int.reduceMul, Int.reduceLT, Int.reduceLE, Int.reduceGT, Int.reduceGE, Int.reduceEq, Int.reduceNe, Int.reduceBEq, Int.reduceBNe, Int.reduceTMod, Int.reduceTDiv, ↓if_true, ↓if_false, F3, A3, hsh]
    refine wcall_x specLoc (known_ct hw1) hw1 ?_
    rintro out m2 hw2 hn2 f2 rfl
    simp (maxSteps := 2000000) (disch := first | assumption | omega | (simp only [nx_push, nx_set, ne_eq] <;> omega) | (simp only [XSide, F3]; done) | decide) only [XWalk, XSl, ↓XPre, reduceIte, Nat.reduceEqDiff, Nat.reduceLT, Nat.reduceAdd, Nat.reduceSub, Nat.reduceMul, Nat.reduceBEq, reduceCtorEq, Int.reduceAdd, Int.reduceSub, Int.reduceMul, Int.reduceLT, Int.reduceLE, Int.reduceGT, Int.reduceGE, Int.reduceEq, Int.reduceNe, Int.reduceBEq, Int.reduceBNe, Int.reduceTMod, Int.reduceTDiv, ↓if_true, ↓if_false, F3, A3]
  | true =>
    by_cases hkl : key.length ≤ 100
    · have hn : n.length ≤ 100 ∧ S.length ≤ 400 := by
        unfold shortB at hsh
        simp only [Bool.and_eq_true, decide_eq_true_eq] at hsh
        omega
      have e1 : decide ((key.length : Int) > 100) = false := by simp; omega
      simp (maxSteps := 2000000) (disch := first | assumption | omega | (simp only [nx_push, nx_set, ne_eq] <;> omega) | (simp only [XSide, F3]; done) | decide) only [XWalk, XSl, ↓XPre, reduceIte, Nat.reduceEqDiff, Nat.reduceLT, Nat.reduceAdd, Nat.reduceSub, Nat.reduceMul, Nat.reduceBEq, reduceCtorEq, Int.reduceAdd, Int.reduceSub, Int.reduceMul, Int.reduceLT, Int.reduceLE, Int.reduceGT, Int.reduceGE, Int.reduceEq, Int.reduceNe, Int.reduceBEq, Int.reduceBNe, Int.reduceTMod, Int.reduceTDiv, ↓if_true, ↓if_false, F3, A3, hsh, alen_bs hk2, e1]
      refine wcall_v specLoc (given_ct hw1) hw1 ?_
      rintro v m2 hw2 hn2 f2 ⟨x, w, rfl, hx2, hb2⟩
      have hb0 := hb2
      obtain ⟨rb, k1, k2, rfl, hrb, -, -⟩ := hb2
      have hs3 := hs2.keep (keep_of hw1 f2)
      have ht3 := ht2.keep (keep_of hw1 f2)
      have hk3 := hk2.keep (keep_of hw1 f2)
      have row2 : m2.get m.next = some (.row [str n, .int .i64 r, .int .i64 s, sv, tv] .rw) := by rw [f2 _ (by omega)]; exact row1
      simp (maxSteps := 2000000) (disch := first | assumption | omega | (simp only [nx_push, nx_set, ne_eq] <;> omega) | (simp only [XSide, F3]; done) | decide) only [XWalk, XSl, ↓XPre, reduceIte, Nat.reduceEqDiff, Nat.reduceLT, Nat.reduceAdd, Nat.reduceSub, Nat.reduceMul, Nat.reduceBEq, reduceCtorEq, Int.reduceAdd, Int.reduceSub, Int.reduceMul, Int.reduceLT, Int.reduceLE, Int.reduceGT, Int.reduceGE, Int.reduceEq, Int.reduceNe, Int.reduceBEq, Int.reduceBNe, Int.reduceTMod, Int.reduceTDiv, ↓if_true, ↓if_false, F3, A3, row2, XAcc]
      obtain ⟨m3, hm3⟩ : ∃ m3, m3 = (m2.push (.row [.slice none 0 0] .rw)).set m2.next (.row [.slice (some ⟨rb, 0, none⟩) 2 2] .rw) := ⟨_, rfl⟩
      have hw3 : WF m3 := by rw [hm3]; (repeat (first | exact hw2 | apply WF.push | (refine WF.set ?_ (by first | omega | (simp only [Mem.next_set, Mem.next_push]; omega)))))
      have G3 : ∀ b, b < m2.next → m3.get b = m2.get b := fun b hb => by rw [hm3, get_set_ne (by omega), get_push_ne (by omega)]
      have hn3 : m3.next = m2.next + 1 := by rw [hm3]; rfl
      have rowb3 : m3.get m2.next = some (.row [.slice (some ⟨rb, 0, none⟩) 2 2] .rw) := by rw [hm3, get_set_self]
      rw [← hm3]
      clear hm3
      have toS : ∀ m' : Mem, (∀ b, b < m2.next → m'.get b = m2.get b) → Bs m' sv S := fun m' F => hs3.frame_at fun b hb => F b (hs3.blk_lt hw2 hb)
      have toT : ∀ m' : Mem, (∀ b, b < m2.next → m'.get b = m2.get b) → Bs m' tv T := fun m' F => ht3.frame_at fun b hb => F b (ht3.blk_lt hw2 hb)
      have toK : ∀ m' : Mem, (∀ b, b < m2.next → m'.get b = m2.get b) → Bs m' kv key := fun m' F => hk3.frame_at fun b hb => F b (hk3.blk_lt hw2 hb)
      have toX : ∀ m' : Mem, (∀ b, b < m2.next → m'.get b = m2.get b) → BookAt m' x := fun m' F => hx2.keep fun b hb => F b (hw2.lt hb)
      have toB : ∀ m' : Mem, (∀ b, b < m2.next → m'.get b = m2.get b) → RefBook m' (.agg #[.slice (some ⟨rb, 0, none⟩) 2 2]) := fun m' F => hb0.keep fun b hb => F b (hw2.lt hb)
      refine wcall_v specLoc (eopen_ct (n := n) (r := r) (s := s) hw3 (toX _ G3) (toS _ G3) (toT _ G3) (toK _ G3) (by omega) (by omega)) hw3 ?_
      intro v m4 hw4 hn4 f4 ho4
      obtain ⟨bv, rfl, hbv4⟩ := ho4.bs
      have G4 : ∀ b, b < m2.next → m4.get b = m2.get b := fun b hb => by rw [f4 b (by omega)]; exact G3 b hb
      have rowe4 : m4.get m.next = some (.row [str n, .int .i64 r, .int .i64 s, sv, tv] .rw) := (G4 _ (by omega)).trans row2
      have rowb4 : m4.get m2.next = some (.row [.slice (some ⟨rb, 0, none⟩) 2 2] .rw) := (f4 _ (by omega)).trans rowb3
      simp (maxSteps := 2000000) (disch := first | assumption | omega | (simp only [nx_push, nx_set, ne_eq] <;> omega) | (simp only [XSide, F3]; done) | decide) only [XWalk, XSl, ↓XPre, reduceIte, Nat.reduceEqDiff, Nat.reduceLT, Nat.reduceAdd, Nat.reduceSub, Nat.reduceMul, Nat.reduceBEq, reduceCtorEq, Int.reduceAdd, Int.reduceSub, Int.reduceMul, Int.reduceLT, Int.reduceLE, Int.reduceGT, Int.reduceGE, Int.reduceEq, Int.reduceNe, Int.reduceBEq, Int.reduceBNe, Int.reduceTMod, Int.reduceTDiv, ↓if_true, ↓if_false, F3, A3, rowe4, rowb4, XAcc, loadN1]
      refine wcall_x specLoc (rbopen_ct (n := n) (r := r) (s := s) hw4 (toB _ G4) (toS _ G4) (toT _ G4) (toK _ G4) (by omega) (by omega) hkl) hw4 ?_
      rintro out m5 hw5 hn5 f5 rfl
      have G5 : ∀ b, b < m2.next → m5.get b = m2.get b := fun b hb => by rw [f5 b (by omega)]; exact G4 b hb
      have rowe5 : m5.get m.next = some (.row [str n, .int .i64 r, .int .i64 s, sv, tv] .rw) := (G5 _ (by omega)).trans row2
      have rowb5 : m5.get m2.next = some (.row [.slice (some ⟨rb, 0, none⟩) 2 2] .rw) := (f5 _ (by omega)).trans rowb4
      have hbv5 := hbv4.keep (keep_of hw4 f5)
      unfold ropenV
      generalize (openE n r s S T key).1.getD [] = pb at *
      generalize (openE n r s S T key).2 = pe at *
      simp (maxSteps := 2000000) (disch := first | assumption | omega | (simp only [nx_push, nx_set, ne_eq] <;> omega) | (simp only [XSide, F3]; done) | decide) only [XWalk, XSl, ↓XPre, reduceIte, Nat.reduceEqDiff, Nat.reduceLT, Nat.reduceAdd, Nat.reduceSub, Nat.reduceMul, Nat.reduceBEq, reduceCtorEq, Int.reduceAdd, Int.reduceSub, Int.reduceMul, Int.reduceLT, Int.reduceLE, Int.reduceGT, Int.reduceGE, Int.reduceEq, Int.reduceNe, Int.reduceBEq, Int.reduceBNe, Int.reduceTMod, Int.reduceTDiv, ↓if_true, ↓if_false, F3, A3]
      refine x_draw [0, 0, 3, 0, 0, 31, 63, 127, 255, 511, 255, 2047, 4095, 8191, 16383, 16383, 65535, 131071, 262143, 524287, 1048575, 2097151] (by kernel_rfl) ?_
      simp (maxSteps := 2000000) (disch := first | assumption | omega | (simp only [nx_push, nx_set, ne_eq] <;> omega) | (simp only [XSide, F3]; done) | decide) only [XWalk, XSl, ↓XPre, reduceIte, Nat.reduceEqDiff, Nat.reduceLT, Nat.reduceAdd, Nat.reduceSub, Nat.reduceMul, Nat.reduceBEq, reduceCtorEq, Int.reduceAdd, Int.reduceSub, Int.reduceMul, Int.reduceLT, Int.reduceLE, Int.reduceGT, Int.reduceGE, Int.reduceEq, Int.reduceNe, Int.reduceBEq, Int.reduceBNe, Int.reduceTMod, Int.reduceTDiv, ↓if_true, ↓if_false, F3, A3, rowe5, rowb5, XAcc, loadN1]
      refine wcall_x specLoc (check_ct (n := n) (r := r) (s := s) hw5 (toX _ G5) (toS _ G5) (toT _ G5) (by omega)) hw5 ?_
      rintro out m6 hw6 hn6 f6 rfl
      have G6 : ∀ b, b < m2.next → m6.get b = m2.get b := fun b hb => by rw [f6 b (by omega)]; exact G5 b hb
      have rowe6 : m6.get m.next = some (.row [str n, .int .i64 r, .int .i64 s, sv, tv] .rw) := (G6 _ (by omega)).trans row2
      have rowb6 : m6.get m2.next = some (.row [.slice (some ⟨rb, 0, none⟩) 2 2] .rw) := (f6 _ (by omega)).trans rowb5
      have hbv6 := hbv5.keep (keep_of hw5 f6)
      simp (maxSteps := 2000000) (disch := first | assumption | omega | (simp only [nx_push, nx_set, ne_eq] <;> omega) | (simp only [XSide, F3]; done) | decide) only [XWalk, XSl, ↓XPre, reduceIte, Nat.reduceEqDiff, Nat.reduceLT, Nat.reduceAdd, Nat.reduceSub, Nat.reduceMul, Nat.reduceBEq, reduceCtorEq, Int.reduceAdd, Int.reduceSub, Int.reduceMul, Int.reduceLT, Int.reduceLE, Int.reduceGT, Int.reduceGE, Int.reduceEq, Int.reduceNe, Int.reduceBEq, Int.reduceBNe, Int.reduceTMod, Int.reduceTDiv, ↓if_true, ↓if_false, F3, A3, rowe6, rowb6, XAcc, loadN1]
      refine wcall_x specLoc (rauth_ct (n := n) (r := r) (s := s) hw6 (toB _ G6) (toS _ G6) (toT _ G6) (by omega) (by omega)) hw6 ?_
      rintro out m7 hw7 hn7 f7 rfl
      have hbv7 := hbv6.keep (keep_of hw6 f7)
      simp (maxSteps := 2000000) (disch := first | assumption | omega | (simp only [nx_push, nx_set, ne_eq] <;> omega) | (simp only [XSide, F3]; done) | decide) only [XWalk, XSl, ↓XPre, reduceIte, Nat.reduceEqDiff, Nat.reduceLT, Nat.reduceAdd, Nat.reduceSub, Nat.reduceMul, Nat.reduceBEq, reduceCtorEq, Int.reduceAdd, Int.reduceSub, Int.reduceMul, Int.reduceLT, Int.reduceLE, Int.reduceGT, Int.reduceGE, Int.reduceEq, Int.reduceNe, Int.reduceBEq, Int.reduceBNe, Int.reduceTMod, Int.reduceTDiv, ↓if_true, ↓if_false, F3, A3]
      have hc : (checkI n r s S T == checkI n r s S T) = true := by simp
      have hp : (pb == pb) = true := by simp
      have he : (pe == pe) = true := by simp
      simp (maxSteps := 2000000) (disch := first | assumption | omega | (simp only [nx_push, nx_set, ne_eq] <;> omega) | (simp only [XSide, F3]; done) | decide) only [XWalk, XSl, ↓XPre, reduceIte, Nat.reduceEqDiff, Nat.reduceLT, Nat.reduceAdd, Nat.reduceSub, Nat.reduceMul, Nat.reduceBEq, reduceCtorEq, Int.reduceAdd, Int.reduceSub, Int.reduceMul, Int.reduceLT, Int.reduceLE, Int.reduceGT, Int.reduceGE, Int.reduceEq, Int.reduceNe, Int.reduceBEq, Int.reduceBNe, Int.reduceTMod, Int.reduceTDiv, ↓if_true, ↓if_false, F3, A3, hc]
      refine Bs.wconv hbv7 (by simp only [F3]) (by simp only [F3]) fun q hq => ?_
      cases q with
      | all => exact absurd hq.symm rdV_ne
      | no =>
        simp (maxSteps := 2000000) (disch := first | assumption | omega | (simp only [nx_push, nx_set, ne_eq] <;> omega) | (simp only [XSide, F3]; done) | decide) only [XWalk, XSl, ↓XPre, reduceIte, Nat.reduceEqDiff, Nat.reduceLT, Nat.reduceAdd, Nat.reduceSub, Nat.reduceMul, Nat.reduceBEq, reduceCtorEq, Int.reduceAdd, Int.reduceSub, Int.reduceMul, Int.reduceLT, Int.reduceLE, Int.reduceGT, Int.reduceGE, Int.reduceEq, Int.reduceNe, Int.reduceBEq, Int.reduceBNe, Int.reduceTMod, Int.reduceTDiv, ↓if_true, ↓if_false, F3, A3, hp, he]
        refine wcall_x specLoc (known_ct hw7) hw7 ?_
        rintro out m8 hw8 hn8 f8 rfl
        simp (maxSteps := 2000000) (disch := first | assumption | omega | (simp only [nx_push, nx_set, ne_eq] <;> omega) | (simp only [XSide, F3]; done) | decide) only [XWalk, XSl, ↓XPre, reduceIte, Nat.reduceEqDiff, Nat.reduceLT, Nat.reduceAdd, Nat.reduceSub, Nat.reduceMul, Nat.reduceBEq, reduceCtorEq, Int.reduceAdd, Int.reduceSub, Int.reduceMul, Int.reduceLT, Int.reduceLE, Int.reduceGT, Int.reduceGE, Int.reduceEq, Int.reduceNe, Int.reduceBEq, Int.reduceBNe, Int.reduceTMod, Int.reduceTDiv, ↓if_true, ↓if_false, F3, A3]
      | one b =>
        simp (maxSteps := 2000000) (disch := first | assumption | omega | (simp only [nx_push, nx_set, ne_eq] <;> omega) | (simp only [XSide, F3]; done) | decide) only [XWalk, XSl, ↓XPre, reduceIte, Nat.reduceEqDiff, Nat.reduceLT, Nat.reduceAdd, Nat.reduceSub, Nat.reduceMul, Nat.reduceBEq, reduceCtorEq, Int.reduceAdd, Int.reduceSub, Int.reduceMul, Int.reduceLT, Int.reduceLE, Int.reduceGT, Int.reduceGE, Int.reduceEq, Int.reduceNe, Int.reduceBEq, Int.reduceBNe, Int.reduceTMod, Int.reduceTDiv, ↓if_true, ↓if_false, F3, A3, hp, he]
        refine wcall_x specLoc (known_ct hw7) hw7 ?_
        rintro out m8 hw8 hn8 f8 rfl
        simp (maxSteps := 2000000) (disch := first | assumption | omega | (simp only [nx_push, nx_set, ne_eq] <;> omega) | (simp only [XSide, F3]; done) | decide) only [XWalk, XSl, ↓XPre, reduceIte, Nat.reduceEqDiff, Nat.reduceLT, Nat.reduceAdd, Nat.reduceSub, Nat.reduceMul, Nat.reduceBEq, reduceCtorEq, Int.reduceAdd, Int.reduceSub, Int.reduceMul, Int.reduceLT, Int.reduceLE, Int.reduceGT, Int.reduceGE, Int.reduceEq, Int.reduceNe, Int.reduceBEq, Int.reduceBNe, Int.reduceTMod, Int.reduceTDiv, ↓if_true, ↓if_false, F3, A3]
    · have e1 : decide ((key.length : Int) > 100) = true := by simp; omega
      simp (maxSteps := 2000000) (disch := first | assumption | omega | (simp only [nx_push, nx_set, ne_eq] <;> omega) | (simp only [XSide, F3]; done) | decide) only [XWalk, XSl, ↓XPre, reduceIte, Nat.reduceEqDiff, Nat.reduceLT, Nat.reduceAdd, Nat.reduceSub, Nat.reduceMul, Nat.reduceBEq, reduceCtorEq, Int.reduceAdd, Int.reduceSub, Int.reduceMul, Int.reduceLT, Int.reduceLE, Int.reduceGT, Int.reduceGE, Int.reduceEq, Int.reduceNe, Int.reduceBEq, Int.reduceBNe, Int.reduceTMod, Int.reduceTDiv, ↓if_true, ↓if_false, F3, A3, hsh, alen_bs hk2, e1]
      refine wcall_x specLoc (known_ct hw1) hw1 ?_
      rintro out m2 hw2 hn2 f2 rfl
      simp (maxSteps := 2000000) (disch := first | assumption | omega | (simp only [nx_push, nx_set, ne_eq] <;> omega) | (simp only [XSide, F3]; done) | decide) only [XWalk, XSl, ↓XPre, reduceIte, Nat.reduceEqDiff, Nat.reduceLT, Nat.reduceAdd, Nat.reduceSub, Nat.reduceMul, Nat.reduceBEq, reduceCtorEq, Int.reduceAdd, Int.reduceSub, Int.reduceMul, Int.reduceLT, Int.reduceLE, Int.reduceGT, Int.reduceGE, Int.reduceEq, Int.reduceNe, Int.reduceBEq, Int.reduceBNe, Int.reduceTMod, Int.reduceTDiv, ↓if_true, ↓if_false, F3, A3]
end Go.Big

/- From a statement's arguments to the abstract memory. -/
set_option linter.unusedSimpArgs false
set_option linter.unusedVariables false
namespace Go.Big
open Go.Proofs Go.ChangeShapes Go.WideShapes Go.ChangeAt Go.RowKit Go.Deep

/-- A row that was there before the call. -/
theorem Sim.push_ro {H : Nat} {φ : Place} {m : Mem} {w : World} (h : Sim H φ m w) (hn : m.get m.next = none) {cs : List Value} {a : Nat} {o : Nat} (ha : a < H)
    (hcs : ∀ i v, cs[i]? = some v → w.cell? ⟨a, o + i, none⟩ = some v) (hp : cs.all scalar = true) :
    Sim H (φ.add m.next ⟨a, o, cs.length, cs.length, none⟩) (m.push (.row cs .ro)) w := by
  refine h.add hn (fun cs2 k2 he => ?_) (fun _ _ he => by cases he) ?_
  · cases he
    exact { len := rfl, lim := Nat.le_refl _, kind := ⟨rfl, rfl⟩, cells := fun i v hv => ⟨v, hcs i v hv, .base (List.all_eq_true.1 hp v (List.mem_of_getElem? hv))⟩, own := (fun hx => nomatch hx), old := (fun _ => ha) }
  · intro b q hb hq
    exact .inl (by have := (h.blk_lt hb hq).2; simp; omega)

theorem u8_of_wf {n : Int} (h : (Lit.int .u8 n).wf = true) : n = ((UInt8.ofNat n.toNat).toNat : Int) := by
  simp only [Lit.wf, Bool.and_eq_true, decide_eq_true_eq] at h
  have h1 : (0 : Int) ≤ n := h.1
  have h2 : n ≤ 255 := h.2
  rw [UInt8.toNat_ofNat']
  omega

/-- A slice of bytes that a statement's argument reads: as the abstract memory has it. -/
theorem ext_bytes {H : Type} {enc : TypeId × Value → H} {P : Program} {W : World} {φ : Place} {m : Mem} {t e : TypeId} {fuel : Nat} {v : Value} {x : DataW H × List MemPlace} (hs : Sim W.heap.size φ m W) (hw : WF m)
    (ht : P.underlying t = some (.slice e)) (he : P.underlying e = some (.int .u8)) (hc : P.cellsOf e = 1) (h : DataW.trod enc P W 0 (fun _ => true) true fuel t [v] = some x) :
    ∃ (m' : Mem) (φ' : Place) (v' : Value) (l : List UInt8), Sim W.heap.size φ' m' W ∧ WF m' ∧ φ.le φ' ∧ Keep m m' ∧ VRel φ' v' v ∧ Bs m' v' l := by
  rcases open_ints ht he hc h with ⟨hv, hx⟩ | ⟨a, len, cap, zs, hv, hb, hl, hm, hlen, hx, hcell, hwf⟩
  · cases hv
    exact ⟨m, φ, .slice none 0 0, [], hs, hw, Place.le_refl _, fun _ _ => rfl, .base rfl, .nil⟩
  · cases hv
    simp only [if_true] at hlen
    rcases Nat.eq_zero_or_pos len with h0 | h0
    · subst h0
      exact ⟨m, φ, .slice (some ⟨0, 0, some 0⟩) 0 0, [], hs, hw, Place.le_refl _, fun _ _ => rfl, .dead, .spot rfl⟩
    · have hc0 := hcell 0 (by omega)
      rw [show a.add 0 = a from rfl] at hc0
      obtain ⟨ab, ao, asp⟩ := a
      have hspot : asp = none := by
        cases asp with
        | none => rfl
        | some s =>
          simp only [World.cell?] at hc0
          split at hc0 <;> simp at hc0
      subst hspot
      have hblk : ab < W.heap.size := by
        rcases Nat.lt_or_ge ab W.heap.size with h1 | h1
        · exact h1
        · simp only [World.cell?] at hc0
          rw [Array.getElem?_eq_none h1] at hc0
          cases hc0
      let l : List UInt8 := zs.map fun z => UInt8.ofNat z.toNat
      have hll : (u8s l).length = cap := by rw [u8s_length, List.length_map, hlen]
      have hcs : ∀ i v, (u8s l)[i]? = some v → W.cell? ⟨ab, ao + i, none⟩ = some v := fun i v hv => by
        have hi : i < zs.length := by
          rcases Nat.lt_or_ge i zs.length with h1 | h1
          · exact h1
          · rw [List.getElem?_eq_none (by omega)] at hv; cases hv
        have h1 := hcell i hi
        have h2 : (Addr.add ⟨ab, ao, none⟩ i) = ⟨ab, ao + i, none⟩ := by
          unfold Addr.add
          split
          · next h3 => subst h3; rfl
          · rfl
        rw [h2] at h1
        rw [h1, ← hv, List.getD_eq_getElem?_getD, List.getElem?_eq_getElem hi, Option.getD_some]
        simp only [l, u8s, List.map_map, List.getElem?_map, List.getElem?_eq_getElem hi, Option.map_some, Function.comp]
        rw [← u8_of_wf (hwf _ (List.getElem_mem hi))]
      have hsc : (u8s l).all scalar = true := by
        rw [List.all_eq_true]
        intro y hy
        simp only [u8s, List.mem_map] at hy
        obtain ⟨b, _, rfl⟩ := hy
        rfl
      have hn := hw m.next (Nat.le_refl _)
      refine ⟨m.push (.row (u8s l) .ro), _, .slice (some ⟨m.next, 0, none⟩) len cap, l.take len, hs.push_ro hn hblk hcs hsc, hw.push, Place.le_add (hs.none_ _ hn), Keep.push hw, ?_, ?_⟩
      · exact .slice (p := ⟨ab, ao, (u8s l).length, (u8s l).length, none⟩) (by simp [Place.add]) (by simp [capRel])
      · exact .row get_push_self (by rw [List.drop_zero, ← u8s_take]) (by rw [u8s_length, List.length_take, List.length_map]; omega) hl (fun s hs => by cases hs)

/-! ### The shapes of the arguments -/

def isStr (P : Program) (t : TypeId) : Bool := match P.underlying t with | some .string => true | _ => false
def isI64 (P : Program) (t : TypeId) : Bool := match P.underlying t with | some (.int .i64) => true | _ => false
def isU8 (P : Program) (t : TypeId) : Bool := match P.underlying t with | some (.int .u8) => true | _ => false
def isBytes (P : Program) (t : TypeId) : Bool := match P.underlying t with | some (.slice e) => isU8 P e && Nat.beq (P.cellsOf e) 1 | _ => false
def isEnv (P : Program) (t : TypeId) : Bool :=
  match P.underlying t with
  | some (.struct fs) => (match fs.toList with
    | [f0, f1, f2, f3, f4] => isStr P f0.type && (isI64 P f1.type && (isI64 P f2.type && (isBytes P f3.type && (isBytes P f4.type && (oneCellFields P fs && Nat.beq (P.cellsOf t) 5)))))
    | _ => false)
  | _ => false

theorem isStr_of {P : Program} {t : TypeId} (h : isStr P t = true) : P.underlying t = some .string := by
  unfold isStr at h; split at h
  · assumption
  · cases h
theorem isI64_of {P : Program} {t : TypeId} (h : isI64 P t = true) : P.underlying t = some (.int .i64) := by
  unfold isI64 at h; split at h
  · assumption
  · cases h
theorem isU8_of {P : Program} {t : TypeId} (h : isU8 P t = true) : P.underlying t = some (.int .u8) := by
  unfold isU8 at h; split at h
  · assumption
  · cases h
theorem isBytes_of {P : Program} {t : TypeId} (h : isBytes P t = true) : ∃ e, P.underlying t = some (.slice e) ∧ P.underlying e = some (.int .u8) ∧ P.cellsOf e = 1 := by
  unfold isBytes at h; split at h
  · next e he =>
    rw [Bool.and_eq_true] at h
    exact ⟨e, he, isU8_of h.1, Nat.eq_of_beq_eq_true h.2⟩
  · cases h

theorem array5 {α : Type} {cs : Array α} (h : cs.size = 5) : ∃ c0 c1 c2 c3 c4, cs = #[c0, c1, c2, c3, c4] := by
  obtain ⟨l⟩ := cs
  match l, h with
  | [c0, c1, c2, c3, c4], _ => exact ⟨c0, c1, c2, c3, c4, rfl⟩

section
variable {H : Type} {enc : TypeId × Value → H} {P : Program} {W : World} {φ : Place} {m : Mem} {t : TypeId} {b0 : Nat} {v : Value} {d : DataW H} {p : List MemPlace}

/-- An argument of the statements' envelope type. -/
theorem ext_env (hs : Sim W.heap.size φ m W) (hw : WF m) (ht : isEnv P t = true) (hv : Value.okWide P W .any b0 t v) (h : DataW.Trod enc P W 0 (fun _ => true) true t v d p) :
    ∃ (m' : Mem) (φ' : Place) (n S T : List UInt8) (r s : Int) (sv tv : Value), Sim W.heap.size φ' m' W ∧ WF m' ∧ φ.le φ' ∧ Keep m m' ∧
      VRel φ' (.agg #[str n, .int .i64 r, .int .i64 s, sv, tv]) v ∧ Bs m' sv S ∧ Bs m' tv T ∧ (Lit.int .i64 r).wf = true ∧ (Lit.int .i64 s).wf = true ∧ n.length ≤ maxLen := by
  unfold isEnv at ht
  split at ht
  · next fs hfs =>
    obtain ⟨fl⟩ := fs
    match fl, ht, hfs with
    | [f0, f1, f2, f3, f4], ht, hfs =>
      simp only [Bool.and_eq_true] at ht
      obtain ⟨t0, t1, t2, t3, t4, hone, hC⟩ := ht
      have hC' := Nat.eq_of_beq_eq_true hC
      obtain ⟨cs, rfl, hsz⟩ := okWide_struct hfs hv
      obtain ⟨c0, c1, c2, c3, c4, rfl⟩ := array5 (hsz.trans hC')
      obtain ⟨fuel, hf⟩ := h
      obtain ⟨xs, k, _, hx, _, hl, hel⟩ := DataW.trod_struct hfs hf
      have hl5 : xs.length = 5 := hl
      obtain ⟨o0, k0⟩ := hone_of hone 0 f0 rfl
      obtain ⟨o1, k1⟩ := hone_of hone 1 f1 rfl
      obtain ⟨o2, k2⟩ := hone_of hone 2 f2 rfl
      obtain ⟨o3, k3⟩ := hone_of hone 3 f3 rfl
      obtain ⟨o4, k4⟩ := hone_of hone 4 f4 rfl
      have e0 := hel 0 f0 rfl
      have e1 := hel 1 f1 rfl
      have e2 := hel 2 f2 rfl
      have e3 := hel 3 f3 rfl
      have e4 := hel 4 f4 rfl
      rw [o0, k0, List.getElem?_eq_getElem (by omega)] at e0
      rw [o1, k1, List.getElem?_eq_getElem (by omega)] at e1
      rw [o2, k2, List.getElem?_eq_getElem (by omega)] at e2
      rw [o3, k3, List.getElem?_eq_getElem (by omega)] at e3
      rw [o4, k4, List.getElem?_eq_getElem (by omega)] at e4
      obtain ⟨bs, h0, _, hbs⟩ := DataW.trod_string (isStr_of t0) e0
      obtain ⟨r, h1, _, hr⟩ := DataW.trod_int (isI64_of t1) e1
      obtain ⟨s, h2, _, hss⟩ := DataW.trod_int (isI64_of t2) e2
      obtain ⟨el, u1, u2, u3⟩ := isBytes_of t3
      obtain ⟨el', u1', u2', u3'⟩ := isBytes_of t4
      obtain ⟨m1, φ1, sv, S, hs1, hw1, hle1, hk1, hr1, hb1⟩ := ext_bytes (v := c3) hs hw u1 u2 u3 e3
      obtain ⟨m2, φ2, tv, T, hs2, hw2, hle2, hk2, hr2, hb2⟩ := ext_bytes (v := c4) hs1 hw1 u1' u2' u3' e4
      cases h0; cases h1; cases h2
      refine ⟨m2, φ2, bs.data.toList, S, T, r, s, sv, tv, hs2, hw2, Place.le_trans hle1 hle2, fun b hb => (hk2 b (by rw [hk1 b hb]; exact hb)).trans (hk1 b hb), ?_, hb1.keep hk2, hb2, hr, hss, ?_⟩
      · refine (LRel.arr (.cons (v' := .string bs) ?_ (.cons (.base rfl) (.cons (.base rfl) (.cons (hr1.mono hle2) (.cons hr2 .nil)))))).agg
        exact .base rfl
      · simpa using hbs
  · cases ht

theorem trodAll_below (hl : laidOutB P = true) {W' : World} (hb : Below W.heap.size W W') : ∀ {ts : List TypeId} {vs : List Value} {ds : List (DataW H)} {ps : List MemPlace}, DataW.TrodAll enc P W 0 (fun _ => true) true ts vs ds ps →
    (∀ t ∈ ts, P.readableRec t = true ∧ t < P.types.size) → (∀ x ∈ ps, x.block < W.heap.size) → DataW.TrodAll enc P W' 0 (fun b => decide (b < W.heap.size)) true ts vs ds ps
  | [], _, _, _, h, _, _ => by
    obtain ⟨rfl, rfl, rfl⟩ := trodAll_nil h
    rfl
  | t :: ts, _, _, _, h, ht, hp => by
    obtain ⟨v, vs, d, ds, p, q, rfl, rfl, rfl, h1, h2⟩ := trodAll_cons h
    refine ⟨p, q, Below.trod hl (ht t (List.mem_cons_self ..)).1 (ht t (List.mem_cons_self ..)).2 h1 hb (fun x hx => hp x (List.mem_append_left _ hx)), trodAll_below hl hb h2 (fun u hu => ht u (List.mem_cons_of_mem _ hu)) (fun x hx => hp x (List.mem_append_right _ hx)), rfl⟩

/-- What a row of the template asks, of a call that left all that was there as it was. -/
theorem post_true {f : Func} {s : ChangeSpec} {W' : World} {args : Array Value} {ds gs : List (DataW H)} {before : List MemPlace} {tb : TypeId} (hl : laidOutB P = true)
    (hW : DataW.Whole enc P f.params.toList s.vars false W args.toList ds gs before) (hv : s.vars = []) (hp : ∀ t ∈ f.params.toList, P.readableRec t = true ∧ t < P.types.size) (hb : Below W.heap.size W W')
    (hf : s.fn H ds = { results := [.lit (.bool true)], args := ds }) (hr : f.resultTypes = #[tb]) (ht : P.underlying tb = some .bool) : s.post enc P f false true false false W args (.bool true) W' := by
  have hlt := hW.lt
  have hW0 := hW
  obtain ⟨p, q, hA, hV, rfl, hfz, hnd⟩ := hW
  rw [hv] at hV
  obtain ⟨rfl, rfl⟩ := trodVars_none hV
  rw [List.append_nil] at hlt hW0
  refine ⟨ds, [], p, [], p, [], hW0, ?_, ?_, ?_, hb.frame _, fun h => by cases h⟩
  · rw [List.append_nil, hf, hr]
    exact trodAll_mk1 (shut_bool ht true)
  · rw [List.append_nil, hf]
    exact trodAll_below hl hb hA hp hlt
  · rw [List.append_nil, hf, hv]
    rfl

theorem calls_true {S : Cfg} {f : FuncId} {args : List Value} {args' : Array Value} (hS : SpecSim P W.heap.size S.spec) (hL : SpecLoc S.spec) (hF : FuncsOk P S) (hmix : P.follows .mixedOrders = true)
    (hct : Ct P S f args m [] (fun out _ => out = .ret (.bool true))) (hw : WF m) (hs : Sim W.heap.size φ m W) (ha : LRel φ args args'.toList) :
    Calls P f args' W fun e W' => e = .returned (.bool true) ∧ Below W.heap.size W W' := by
  obtain ⟨out, m', wr, hc, _, rfl⟩ := hct
  obtain ⟨n, hn⟩ := acall_iff.1 hc
  refine (ev_calls hS hL hF hmix hn hw hs ha).mono fun e W' ⟨ψ, _, _, hb, v', he, hv⟩ => ⟨?_, hb⟩
  rw [he, hv.scalar_eq rfl]
end

end Go.Big

/- What the rows of this seat have in common. -/
set_option linter.unusedSimpArgs false
set_option linter.unusedVariables false
namespace Go.Proofs.YtobhnnbdobphfaaGreatDoor
open Go.ChangeShapes Go.WideShapes Go.ChangeAt Go.RowKit Go.Big

theorem own : ownKnob Tryz.prog.godebug = none := by kernel_rfl
theorem laidOut : laidOutB Tryz.prog = true := by kernel_rfl
theorem env24 : isEnv Tryz.prog 24 = true := by kernel_rfl
theorem bytes22 : isBytes Tryz.prog 22 = true := by kernel_rfl
theorem bool4 : Tryz.prog.underlying 4 = some .bool := by kernel_rfl
theorem readable24 : Tryz.prog.readableRec 24 = true ∧ 24 < Tryz.prog.types.size := ⟨by kernel_rfl, of_decide_eq_true (by kernel_rfl)⟩
theorem readable22 : Tryz.prog.readableRec 22 = true ∧ 22 < Tryz.prog.types.size := ⟨by kernel_rfl, of_decide_eq_true (by kernel_rfl)⟩
def laid : List (String × DataW Unit) := [("unicode/utf8.acceptRanges", Rows.laid_unicode_utf8_acceptRanges), ("unicode/utf8.first", Rows.laid_unicode_utf8_first)]
def envZero : Value := .agg #[.string ⟨#[]⟩, .int .i64 0, .int .i64 0, .slice none 0 0, .slice none 0 0]

theorem sim0 (W : World) : Sim W.heap.size (fun _ => none) Mem.empty W := ⟨Nat.le_refl _, fun _ _ => rfl, fun b cs k hb => (by cases hb), fun b es c hb => (by cases hb), fun b c p q _ _ _ hp => (by cases hp)⟩
theorem wf0 : WF Mem.empty := fun b _ => rfl

/-- An argument of bytes. -/
theorem arg_bytes {H : Type} {enc : TypeId × Value → H} {P : Program} {W : World} {φ : Big.Place} {m : Mem} {t : TypeId} {b0 : Nat} {v : Value} {d : DataW H} {p : List MemPlace} (hs : Sim W.heap.size φ m W) (hw : WF m)
    (ht : isBytes P t = true) (hv : Value.okWide P W .any b0 t v) (h : DataW.Trod enc P W 0 (fun _ => true) true t v d p) :
    ∃ (m' : Mem) (φ' : Big.Place) (v' : Value) (l : List UInt8), Sim W.heap.size φ' m' W ∧ WF m' ∧ φ.le φ' ∧ Keep m m' ∧ VRel φ' v' v ∧ Bs m' v' l := by
  obtain ⟨e, h1, h2, h3⟩ := isBytes_of ht
  obtain ⟨a, len, cap, rfl⟩ := okWide_slice h1 hv
  obtain ⟨fuel, hf⟩ := h
  exact ext_bytes hs hw h1 h2 h3 hf
end Go.Proofs.YtobhnnbdobphfaaGreatDoor

/- The row of EnvelopeOpens. -/
set_option linter.unusedSimpArgs false
set_option linter.unusedVariables false
namespace Go.Proofs.YtobhnnbdobphfaaGreatDoor
open Go.ChangeShapes Go.WideShapes Go.ChangeAt Go.RowKit Go.Big

set_option maxRecDepth 100000 in
theorem opens_lifted (os : Os) (started : os.Started) (H : Type) (enc : TypeId × Value → H) :
    ReturnsInHanded {} Tryz.checked os 3 .any (fun w args => (Rows.envelopeOpensSpec.pre enc Tryz.prog Tryz.f3 Rows.envelopeOpensRow.domain false w args ∧ laidMetH Tryz.prog laid w) ∧ sizedMet enc Tryz.prog Tryz.f3 (OpenSpec.ofChange Rows.envelopeOpensSpec) false w args)
      (Rows.envelopeOpensSpec.post enc Tryz.prog Tryz.f3 false true false false) := by
  refine returnsInHanded_of_change_and (C := Tryz.checked) (X := fun w _ => laidMetH Tryz.prog laid w) (fun _ _ _ hh h => h.of_heap hh) own started (by kernel_rfl) Tryz.func3
    (ChangeSpec.witness_shaped (enc := enc) (C := Tryz.checked) (os := os) (X := fun w _ => laidMetH Tryz.prog laid w) false (World.laidAll Tryz.prog os laid) #[envZero, .slice none 0 0] 8 (World.laidAll_os _ _ _)
      (World.shaped_of_ZipB (by kernel_rfl) (by kernel_rfl)) (by kernel_rfl) (by kernel_rfl) (by kernel_rfl)
      (by rw [MakeChecks.laidMetH_plain _ _ _ (by kernel_rfl)]; exact laidMet_laidAll _ (by kernel_rfl) (by kernel_rfl))) ?_
  intro W base args ds gs before hval0 hW _ _ _ _
  have hval : ∀ (j : Nat) t v, Tryz.f3.params[j]? = some t → args[j]? = some v → Value.okWide Tryz.prog W .any base t v := hval0
  have hpar : Tryz.f3.params = #[24, 22] := by kernel_rfl
  have hW' := hW
  obtain ⟨p, q, hA0, hV, rfl, _, _⟩ := hW
  have hA : DataW.TrodAll enc Tryz.prog W 0 (fun _ => true) true Tryz.f3.params.toList args.toList ds p := hA0
  rw [hpar] at hA hval
  obtain ⟨v0, v1, d0, d1, p0, p1, rfl, rfl, rfl, h0, h1⟩ := trodAll_two hA
  obtain ⟨m, φ, n, S, T, r, s, sv, tv, hs, hw, _, _, hr, hbS, hbT, _, _, _⟩ := ext_env (sim0 W) wf0 env24 (hval 0 24 v0 rfl rfl) h0
  obtain ⟨m', φ', kv, key, hs', hw', hle, hk, hr', hbK⟩ := arg_bytes hs hw bytes22 (hval 1 22 v1 rfl rfl) h1
  refine (calls_true (specSim _) specLoc funcsOk mixed (opens_ct hw' (hbS.keep hk) (hbT.keep hk) hbK) hw' hs' (LRel.cons (hr.mono hle) (.cons hr' .nil))).mono fun e W' ⟨he, hb⟩ => ?_
  subst he
  obtain ⟨rfl, rfl⟩ := trodVars_none hV
  exact ⟨_, rfl, post_true laidOut hW' rfl (fun t ht => by
    rw [hpar] at ht
    simp only [List.mem_cons, List.not_mem_nil, or_false] at ht
    rcases ht with rfl | rfl
    · exact readable24
    · exact readable22) hb rfl (by kernel_rfl) bool4⟩

theorem opens_holds : Rows.EnvelopeOpensSaid :=
  OpenClaim.holds_of_wide 3 Tryz.f3 rfl rfl rfl rfl rfl rfl rfl ⟨rfl, rfl, rfl, rfl, rfl⟩ rfl rfl rfl rfl rfl (by kernel_rfl) Tryz.func3 (by kernel_rfl)
    (of_decide_eq_true (by kernel_rfl)) (by unfold Func.isWrapper; first | (rw [if_pos (by decide +kernel)]; kernel_rfl) | (rw [if_neg (by decide +kernel)]; exact ⟨rfl, rfl⟩))
    (fun os started H enc _ => opens_lifted os started H enc)
theorem opens_card_holds : Rows.EnvelopeOpensCardSaid :=
  Claim7.holds_tied_plain_at .later [] [.data, .pinned] true (true, "d347fc042601f405e21d86b9dc011d938d4b73474fb80a0e006b166a7a1a5ee7") true opens_holds (fun _ h => by cases h) (by kernel_rfl) (fun _ h => by cases h) envelopeOpens_row_tie rfl ⟨rfl, rfl⟩ (by kernel_rfl) rfl
    (fun f fn hf hfn => by
      obtain rfl : f = 3 := Option.some.inj ((show Tryz.prog.funcNamed "bandplan/bandplanlaw42.EnvelopeOpens" = some 3 by kernel_rfl).symm.trans hf) |>.symm
      obtain rfl : fn = Tryz.f3 := (Option.some.inj (Tryz.func3.symm.trans hfn)).symm
      exact ⟨by kernel_rfl, fun j t ht => by
        rw [show Tryz.f3.params = #[24, 22] by kernel_rfl] at ht
        have hm : t ∈ [24, 22] := by simpa using Array.mem_of_getElem? ht
        have hall : ([24, 22].all fun u => !Tryz.prog.wantsStandIn u) = true := by kernel_rfl
        exact (show Tryz.prog.wantsStandIn t = false by simpa using List.all_eq_true.1 hall t hm)⟩)
    (by kernel_rfl)
#print axioms opens_card_holds
end Go.Proofs.YtobhnnbdobphfaaGreatDoor
