/- EnvelopeValid: of any two envelopes and any count, validity, size and equality of the program answer as the reference does; conditions: none beyond the row (the two tables of utf8 start as the text lays them). -/
import Derived.Test.YtobhnnbdobphfaaDoorJoined11
set_option linter.unusedSimpArgs false
set_option linter.unusedVariables false
set_option maxRecDepth 100000
set_option maxHeartbeats 4000000
namespace Go.Big
open Go.Proofs

theorem eequal_ct {m : Mem} (hw : WF m) {n n' S S' T T' : List UInt8} {r r' s s' : Int} {sv sv' tv tv' : Value} (hs : Bs m sv S) (ht : Bs m tv T) (hs' : Bs m sv' S') (ht' : Bs m tv' T') :
    Ct Tryd.prog S0 15 [envV n r s sv tv, envV n' r' s' sv' tv'] m [] (fun out m' => out = .ret (.bool (sameB n n' r r' s s' S S' T T'))) := by
  have hone : [str n, .int .i64 r, .int .i64 s, sv, tv].all oneCell = true := by
    simp only [List.all_cons, List.all_nil, one_sl hs, one_sl ht, one_str, one_int, Bool.and_self]
  have hone' : [str n', .int .i64 r', .int .i64 s', sv', tv'].all oneCell = true := by
    simp only [List.all_cons, List.all_nil, one_sl hs', one_sl ht', one_str, one_int, Bool.and_self]
  have kp : ∀ (v : Value) (l : List UInt8) o o', Bs m v l → Bs ((m.push o).push o') v l := fun v l o o' h => (h.keep (Keep.push hw)).keep (Keep.push hw.push)
  refine ct_x (spec0 _) (by rfl) Tryd.func15 rfl ?_
  unfold sameB
  simp (maxSteps := 2000000) (disch := first | assumption | omega | (simp only [nx_push, nx_set, ne_eq] <;> omega) | (simp only [XSide, F15]; done) | decide) only [XWalk, XSl, ↓XPre, reduceIte, Nat.reduceEqDiff, Nat.reduceLT, Nat.reduceAdd, Nat.reduceSub, Nat.reduceMul, Nat.reduceBEq, reduceCtorEq, Int.reduceAdd, Int.reduceSub, Int.reduceMul, Int.reduceLT, Int.reduceLE, Int.reduceGT, Int.reduceGE, Int.reduceEq, Int.reduceNe, Int.reduceBEq, Int.reduceBNe, Int.reduceTMod, Int.reduceTDiv, ↓if_true, ↓if_false, F15, A15, Tryd.ntmps15]
  cases h1 : (n == n') with
  | false => simp (maxSteps := 2000000) (disch := first | assumption | omega | (simp only [nx_push, nx_set, ne_eq] <;> omega) | (simp only [XSide, F15]; done) | decide) only [XWalk, XSl, ↓XPre, reduceIte, Nat.reduceEqDiff, Nat.reduceLT, Nat.reduceAdd, Nat.reduceSub, Nat.reduceMul, Nat.reduceBEq, reduceCtorEq, Int.reduceAdd, Int.reduceSub, Int.reduceMul, Int.reduceLT, Int.reduceLE, Int.reduceGT, Int.reduceGE, Int.reduceEq, Int.reduceNe, Int.reduceBEq, Int.reduceBNe, Int.reduceTMod, Int.reduceTDiv, ↓if_true, ↓if_false, F15, A15, h1] <;> rfl
  | true =>
    simp (maxSteps := 2000000) (disch := first | assumption | omega | (simp only [nx_push, nx_set, ne_eq] <;> omega) | (simp only [XSide, F15]; done) | decide) only [XWalk, XSl, ↓XPre, reduceIte, Nat.reduceEqDiff, Nat.reduceLT, Nat.reduceAdd, Nat.reduceSub, Nat.reduceMul, Nat.reduceBEq, reduceCtorEq, Int.reduceAdd, Int.reduceSub, Int.reduceMul, Int.reduceLT, Int.reduceLE, Int.reduceGT, Int.reduceGE, Int.reduceEq, Int.reduceNe, Int.reduceBEq, Int.reduceBNe, Int.reduceTMod, Int.reduceTDiv, ↓if_true, ↓if_false, F15, A15, h1]
    cases h2 : (r == r') with
    | false => simp (maxSteps := 2000000) (disch := first | assumption | omega | (simp only [nx_push, nx_set, ne_eq] <;> omega) | (simp only [XSide, F15]; done) | decide) only [XWalk, XSl, ↓XPre, reduceIte, Nat.reduceEqDiff, Nat.reduceLT, Nat.reduceAdd, Nat.reduceSub, Nat.reduceMul, Nat.reduceBEq, reduceCtorEq, Int.reduceAdd, Int.reduceSub, Int.reduceMul, Int.reduceLT, Int.reduceLE, Int.reduceGT, Int.reduceGE, Int.reduceEq, Int.reduceNe, Int.reduceBEq, Int.reduceBNe, Int.reduceTMod, Int.reduceTDiv, ↓if_true, ↓if_false, F15, A15, h1, h2] <;> rfl
    | true =>
      simp (maxSteps := 2000000) (disch := first | assumption | omega | (simp only [nx_push, nx_set, ne_eq] <;> omega) | (simp only [XSide, F15]; done) | decide) only [XWalk, XSl, ↓XPre, reduceIte, Nat.reduceEqDiff, Nat.reduceLT, Nat.reduceAdd, Nat.reduceSub, Nat.reduceMul, Nat.reduceBEq, reduceCtorEq, Int.reduceAdd, Int.reduceSub, Int.reduceMul, Int.reduceLT, Int.reduceLE, Int.reduceGT, Int.reduceGE, Int.reduceEq, Int.reduceNe, Int.reduceBEq, Int.reduceBNe, Int.reduceTMod, Int.reduceTDiv, ↓if_true, ↓if_false, F15, A15, h1, h2]
      cases h3 : (s == s') with
      | false => simp (maxSteps := 2000000) (disch := first | assumption | omega | (simp only [nx_push, nx_set, ne_eq] <;> omega) | (simp only [XSide, F15]; done) | decide) only [XWalk, XSl, ↓XPre, reduceIte, Nat.reduceEqDiff, Nat.reduceLT, Nat.reduceAdd, Nat.reduceSub, Nat.reduceMul, Nat.reduceBEq, reduceCtorEq, Int.reduceAdd, Int.reduceSub, Int.reduceMul, Int.reduceLT, Int.reduceLE, Int.reduceGT, Int.reduceGE, Int.reduceEq, Int.reduceNe, Int.reduceBEq, Int.reduceBNe, Int.reduceTMod, Int.reduceTDiv, ↓if_true, ↓if_false, F15, A15, h1, h2, h3] <;> rfl
      | true =>
        simp (maxSteps := 2000000) (disch := first | assumption | omega | (simp only [nx_push, nx_set, ne_eq] <;> omega) | (simp only [XSide, F15]; done) | decide) only [XWalk, XSl, ↓XPre, reduceIte, Nat.reduceEqDiff, Nat.reduceLT, Nat.reduceAdd, Nat.reduceSub, Nat.reduceMul, Nat.reduceBEq, reduceCtorEq, Int.reduceAdd, Int.reduceSub, Int.reduceMul, Int.reduceLT, Int.reduceLE, Int.reduceGT, Int.reduceGE, Int.reduceEq, Int.reduceNe, Int.reduceBEq, Int.reduceBNe, Int.reduceTMod, Int.reduceTDiv, ↓if_true, ↓if_false, F15, A15, h1, h2, h3]
        refine wcall_pu (pu_of (equal_ct (kp _ _ _ _ hs) (kp _ _ _ _ hs'))) ?_
        simp (maxSteps := 2000000) (disch := first | assumption | omega | (simp only [nx_push, nx_set, ne_eq] <;> omega) | (simp only [XSide, F15]; done) | decide) only [XWalk, XSl, ↓XPre, reduceIte, Nat.reduceEqDiff, Nat.reduceLT, Nat.reduceAdd, Nat.reduceSub, Nat.reduceMul, Nat.reduceBEq, reduceCtorEq, Int.reduceAdd, Int.reduceSub, Int.reduceMul, Int.reduceLT, Int.reduceLE, Int.reduceGT, Int.reduceGE, Int.reduceEq, Int.reduceNe, Int.reduceBEq, Int.reduceBNe, Int.reduceTMod, Int.reduceTDiv, ↓if_true, ↓if_false, F15, A15]
        cases h4 : (S == S') with
        | false => simp (maxSteps := 2000000) (disch := first | assumption | omega | (simp only [nx_push, nx_set, ne_eq] <;> omega) | (simp only [XSide, F15]; done) | decide) only [XWalk, XSl, ↓XPre, reduceIte, Nat.reduceEqDiff, Nat.reduceLT, Nat.reduceAdd, Nat.reduceSub, Nat.reduceMul, Nat.reduceBEq, reduceCtorEq, Int.reduceAdd, Int.reduceSub, Int.reduceMul, Int.reduceLT, Int.reduceLE, Int.reduceGT, Int.reduceGE, Int.reduceEq, Int.reduceNe, Int.reduceBEq, Int.reduceBNe, Int.reduceTMod, Int.reduceTDiv, ↓if_true, ↓if_false, F15, A15, h4] <;> rfl
        | true =>
          simp (maxSteps := 2000000) (disch := first | assumption | omega | (simp only [nx_push, nx_set, ne_eq] <;> omega) | (simp only [XSide, F15]; done) | decide) only [XWalk, XSl, ↓XPre, reduceIte, Nat.reduceEqDiff, Nat.reduceLT, Nat.reduceAdd, Nat.reduceSub, Nat.reduceMul, Nat.reduceBEq, reduceCtorEq, Int.reduceAdd, Int.reduceSub, Int.reduceMul, Int.reduceLT, Int.reduceLE, Int.reduceGT, Int.reduceGE, Int.reduceEq, Int.reduceNe, Int.reduceBEq, Int.reduceBNe, Int.reduceTMod, Int.reduceTDiv, ↓if_true, ↓if_false, F15, A15, h4]
          refine wcall_pu (pu_of (equal_ct (kp _ _ _ _ ht) (kp _ _ _ _ ht'))) ?_
          simp (maxSteps := 2000000) (disch := first | assumption | omega | (simp only [nx_push, nx_set, ne_eq] <;> omega) | (simp only [XSide, F15]; done) | decide) only [XWalk, XSl, ↓XPre, reduceIte, Nat.reduceEqDiff, Nat.reduceLT, Nat.reduceAdd, Nat.reduceSub, Nat.reduceMul, Nat.reduceBEq, reduceCtorEq, Int.reduceAdd, Int.reduceSub, Int.reduceMul, Int.reduceLT, Int.reduceLE, Int.reduceGT, Int.reduceGE, Int.reduceEq, Int.reduceNe, Int.reduceBEq, Int.reduceBNe, Int.reduceTMod, Int.reduceTDiv, ↓if_true, ↓if_false, F15, A15] <;> rfl

theorem eqGuard_bool {P : Program} {op : BinOp} {t : TypeId} {x y : Operand} {a b : Bool} : eval0 P (eqGuard op t x y (.bool a) (.bool b)) = some () := by
  unfold eqGuard
  cases op <;> rfl

theorem binOp_bool (a b : Bool) : eval0 Tryd.prog (Go.binOp .eql 4 (.bool a) (.bool b)) = some (.bool (a == b)) := by
  cases a <;> cases b <;> kernel_rfl

theorem abin_bool {x y : Operand} {a b : Bool} {m : Mem} : abin Tryd.prog .eql 4 x y (.bool a) (.bool b) m = some (.bool (a == b), m, [], .no) := by
  unfold abin
  rw [guardEq_of (fun dd => by cases dd <;> rfl)]
  simp only [cond_false, show plain (.bool a) = true from rfl, show plain (.bool b) = true from rfl, Bool.and_self, cond_true, ev0_bind, eqGuard_bool, Option.bind_some, binOp_bool]
  rfl

theorem Sl.len_le {m : Mem} {v : Value} {cs rs : List Value} {b : Nat} {kd : Kind} (h : Sl m v cs) (hb : slBlk v = some b) (hr : m.get b = some (.row rs kd)) : cs.length ≤ rs.length := by
  cases h with
  | nil => exact Nat.zero_le _
  | spot _ => exact Nat.zero_le _
  | row h1 h2 h3 h4 h5 =>
    cases hb
    rw [hr] at h1
    cases h1
    rw [← h2, List.length_take, List.length_drop]
    omega

theorem x_cut {P : Program} {S : Cfg} {base : Nat} {L : List Nat} {a : Code} {e : Env} {m : Mem} {Q : Ex → Env → Mem → Prop} (I : Env → Mem → Prop) (h1 : WX P S base L a e m fun x e' m' => x = .normal ∧ I e' m') (h2 : ∀ e' m', I e' m' → Q .normal e' m') : WX P S base L a e m Q :=
  wx_mono (fun x e' m' hx => by obtain ⟨rfl, hi⟩ := hx; exact h2 _ _ hi) h1

theorem valid_law {m : Mem} (hw : WF m) {n n' S S' T T' : List UInt8} {r r' s s' q : Int} {sv sv' tv tv' : Value} (hs : Bs m sv S) (ht : Bs m tv T) (hs' : Bs m sv' S') (ht' : Bs m tv' T') :
    Ct Tryd.prog S0 4 [envV n r s sv tv, envV n' r' s' sv' tv', .int .i64 q] m [] (fun out m' => out = .ret (.bool true)) := by
  have hone : [str n, .int .i64 r, .int .i64 s, sv, tv].all oneCell = true := by
    simp only [List.all_cons, List.all_nil, one_sl hs, one_sl ht, one_str, one_int, Bool.and_self]
  have hone' : [str n', .int .i64 r', .int .i64 s', sv', tv'].all oneCell = true := by
    simp only [List.all_cons, List.all_nil, one_sl hs', one_sl ht', one_str, one_int, Bool.and_self]
  refine ct_x (spec0 _) (by rfl) Tryd.func4 rfl ?_
  simp (maxSteps := 2000000) (disch := first | assumption | omega | (simp only [nx_push, nx_set, ne_eq] <;> omega) | (simp only [XSide, F4]; done) | decide) only [XWalk, XSl, ↓XPre, reduceIte, Nat.reduceEqDiff, Nat.reduceLT, Nat.reduceAdd, Nat.reduceSub, Nat.reduceMul, Nat.reduceBEq, reduceCtorEq, Int.reduceAdd, Int.reduceSub, Int.reduceMul, Int.reduceLT, Int.reduceLE, Int.reduceGT, Int.reduceGE, Int.reduceEq, Int.reduceNe, Int.reduceBEq, Int.reduceBNe, Int.reduceTMod, Int.reduceTDiv, ↓if_true, ↓if_false, F4, A4, Tryd.ntmps4, XAcc]
  obtain ⟨m0, hm0⟩ : ∃ m0, m0 = (m.push (.row [str n, .int .i64 r, .int .i64 s, sv, tv] .rw)).push (.row [str n', .int .i64 r', .int .i64 s', sv', tv'] .rw) := ⟨_, rfl⟩
  have hw0 : WF m0 := by rw [hm0]; exact hw.push.push
  have F0 : ∀ b, b < m.next → m0.get b = m.get b := fun b hb => by rw [hm0, get_push_ne (by simp; omega), get_push_ne (by omega)]
  have hn0 : m0.next = m.next + 2 := by rw [hm0]; rfl
  have ra0 : m0.get m.next = some (.row [str n, .int .i64 r, .int .i64 s, sv, tv] .rw) := by rw [hm0, get_push_ne (by simp), get_push_self]
  have rb0 : m0.get (m.next + 1) = some (.row [str n', .int .i64 r', .int .i64 s', sv', tv'] .rw) := by rw [hm0]; exact get_push_self
  have toS : ∀ m' : Mem, (∀ b, b < m.next → m'.get b = m.get b) → Bs m' sv S := fun m' F => hs.frame_at fun b hb => F b (hs.blk_lt hw hb)
  have toT : ∀ m' : Mem, (∀ b, b < m.next → m'.get b = m.get b) → Bs m' tv T := fun m' F => ht.frame_at fun b hb => F b (ht.blk_lt hw hb)
  have toS' : ∀ m' : Mem, (∀ b, b < m.next → m'.get b = m.get b) → Bs m' sv' S' := fun m' F => hs'.frame_at fun b hb => F b (hs'.blk_lt hw hb)
  have toT' : ∀ m' : Mem, (∀ b, b < m.next → m'.get b = m.get b) → Bs m' tv' T' := fun m' F => ht'.frame_at fun b hb => F b (ht'.blk_lt hw hb)
  rw [← hm0]
  clear hm0
  refine wcall_x specLoc (short_ct hw0 (toS _ F0) (toT _ F0)) hw0 ?_
  rintro out m1 hw1 hn1 f1 rfl
  have F1 : ∀ b, b < m.next → m1.get b = m.get b := fun b hb => by rw [f1 b (by omega)]; exact F0 b hb
  have ra1 : m1.get m.next = some (.row [str n, .int .i64 r, .int .i64 s, sv, tv] .rw) := by rw [f1 _ (by omega)]; exact ra0
  have rb1 : m1.get (m.next + 1) = some (.row [str n', .int .i64 r', .int .i64 s', sv', tv'] .rw) := by rw [f1 _ (by omega)]; exact rb0
  cases hsh : shortB n S.length T.length with
  | false =>
    simp (maxSteps := 2000000) (disch := first | assumption | omega | (simp only [nx_push, nx_set, ne_eq] <;> omega) | (simp only [XSide, F4]; done) | decide) only [XWalk, XSl, ↓XPre, reduceIte, Nat.reduceEqDiff, Nat.reduceLT, Nat.reduceAdd, Nat.reduceSub, Nat.reduceMul, Nat.reduceBEq, reduceCtorEq, Int.reduceAdd, Int.reduceSub, Int.reduceMul, Int.reduceLT, Int.reduceLE, Int.reduceGT, Int.reduceGE, Int.reduceEq, Int.reduceNe, Int.reduceBEq, Int.reduceBNe, Int.reduceTMod, Int.reduceTDiv, ↓if_true, ↓if_false, F4, A4, hsh]
    refine wcall_x specLoc (known_ct hw1) hw1 ?_
    rintro out m2 hw2 hn2 f2 rfl
    simp (maxSteps := 2000000) (disch := first | assumption | omega | (simp only [nx_push, nx_set, ne_eq] <;> omega) | (simp only [XSide, F4]; done) | decide) only [XWalk, XSl, ↓XPre, reduceIte, Nat.reduceEqDiff, Nat.reduceLT, Nat.reduceAdd, Nat.reduceSub, Nat.reduceMul, Nat.reduceBEq, reduceCtorEq, Int.reduceAdd, Int.reduceSub, Int.reduceMul, Int.reduceLT, Int.reduceLE, Int.reduceGT, Int.reduceGE, Int.reduceEq, Int.reduceNe, Int.reduceBEq, Int.reduceBNe, Int.reduceTMod, Int.reduceTDiv, ↓if_true, ↓if_false, F4, A4]
  | true =>
    simp (maxSteps := 2000000) (disch := first | assumption | omega | (simp only [nx_push, nx_set, ne_eq] <;> omega) | (simp only [XSide, F4]; done) | decide) only [XWalk, XSl, ↓XPre, reduceIte, Nat.reduceEqDiff, Nat.reduceLT, Nat.reduceAdd, Nat.reduceSub, Nat.reduceMul, Nat.reduceBEq, reduceCtorEq, Int.reduceAdd, Int.reduceSub, Int.reduceMul, Int.reduceLT, Int.reduceLE, Int.reduceGT, Int.reduceGE, Int.reduceEq, Int.reduceNe, Int.reduceBEq, Int.reduceBNe, Int.reduceTMod, Int.reduceTDiv, ↓if_true, ↓if_false, F4, A4, hsh, rb1, XAcc]
    refine wcall_x specLoc (short_ct hw1 (toS' _ F1) (toT' _ F1)) hw1 ?_
    rintro out m2 hw2 hn2 f2 rfl
    have F2 : ∀ b, b < m.next → m2.get b = m.get b := fun b hb => by rw [f2 b (by omega)]; exact F1 b hb
    have ra2 : m2.get m.next = some (.row [str n, .int .i64 r, .int .i64 s, sv, tv] .rw) := by rw [f2 _ (by omega)]; exact ra1
    have rb2 : m2.get (m.next + 1) = some (.row [str n', .int .i64 r', .int .i64 s', sv', tv'] .rw) := by rw [f2 _ (by omega)]; exact rb1
    simp (maxSteps := 2000000) (disch := first | assumption | omega | (simp only [nx_push, nx_set, ne_eq] <;> omega) | (simp only [XSide, F4]; done) | decide) only [XWalk, XSl, ↓XPre, reduceIte, Nat.reduceEqDiff, Nat.reduceLT, Nat.reduceAdd, Nat.reduceSub, Nat.reduceMul, Nat.reduceBEq, reduceCtorEq, Int.reduceAdd, Int.reduceSub, Int.reduceMul, Int.reduceLT, Int.reduceLE, Int.reduceGT, Int.reduceGE, Int.reduceEq, Int.reduceNe, Int.reduceBEq, Int.reduceBNe, Int.reduceTMod, Int.reduceTDiv, ↓if_true, ↓if_false, F4, A4, XAcc]
    refine x_if (fun h => ?_) (fun h => ?_)
    · simp (maxSteps := 2000000) (disch := first | assumption | omega | (simp only [nx_push, nx_set, ne_eq] <;> omega) | (simp only [XSide, F4]; done) | decide) only [XWalk, XSl, ↓XPre, reduceIte, Nat.reduceEqDiff, Nat.reduceLT, Nat.reduceAdd, Nat.reduceSub, Nat.reduceMul, Nat.reduceBEq, reduceCtorEq, Int.reduceAdd, Int.reduceSub, Int.reduceMul, Int.reduceLT, Int.reduceLE, Int.reduceGT, Int.reduceGE, Int.reduceEq, Int.reduceNe, Int.reduceBEq, Int.reduceBNe, Int.reduceTMod, Int.reduceTDiv, ↓if_true, ↓if_false, F4, A4]
      refine wcall_x specLoc (known_ct hw2) hw2 ?_
      rintro out m3 hw3 hn3 f3 rfl
      simp (maxSteps := 2000000) (disch := first | assumption | omega | (simp only [nx_push, nx_set, ne_eq] <;> omega) | (simp only [XSide, F4]; done) | decide) only [XWalk, XSl, ↓XPre, reduceIte, Nat.reduceEqDiff, Nat.reduceLT, Nat.reduceAdd, Nat.reduceSub, Nat.reduceMul, Nat.reduceBEq, reduceCtorEq, Int.reduceAdd, Int.reduceSub, Int.reduceMul, Int.reduceLT, Int.reduceLE, Int.reduceGT, Int.reduceGE, Int.reduceEq, Int.reduceNe, Int.reduceBEq, Int.reduceBNe, Int.reduceTMod, Int.reduceTDiv, ↓if_true, ↓if_false, F4, A4]
    · have hn : n.length ≤ 1073741824 := by
        unfold shortB at hsh
        simp only [Bool.and_eq_true, decide_eq_true_eq] at hsh
        omega
      rw [wx_skip, andX_normal, wx_seq]
      refine x_cut (fun e m' => ∃ S1 sv1, e.n = 69 ∧ e.get 3 = .pointer (some ⟨m.next, 0, none⟩) ∧ e.get 4 = .pointer (some ⟨m.next + 1, 0, none⟩) ∧ WF m' ∧ m2.next ≤ m'.next ∧ (∀ b, b < m.next → m'.get b = m.get b) ∧
        m'.get m.next = some (.row [str n, .int .i64 r, .int .i64 s, sv1, tv] .rw) ∧ m'.get (m.next + 1) = some (.row [str n', .int .i64 r', .int .i64 s', sv', tv'] .rw) ∧ Bs m' sv1 S1) ?_ ?_
      · simp (maxSteps := 2000000) (disch := first | assumption | omega | (simp only [nx_push, nx_set, ne_eq] <;> omega) | (simp only [XSide, F4]; done) | decide) only [XWalk, XSl, ↓XPre, reduceIte, Nat.reduceEqDiff, Nat.reduceLT, Nat.reduceAdd, Nat.reduceSub, Nat.reduceMul, Nat.reduceBEq, reduceCtorEq, Int.reduceAdd, Int.reduceSub, Int.reduceMul, Int.reduceLT, Int.reduceLE, Int.reduceGT, Int.reduceGE, Int.reduceEq, Int.reduceNe, Int.reduceBEq, Int.reduceBNe, Int.reduceTMod, Int.reduceTDiv, ↓if_true, ↓if_false, F4, A4, XAcc]
        refine x_gd (fun h => ?_) (fun h => ?_)
        · simp (maxSteps := 2000000) (disch := first | assumption | omega | (simp only [nx_push, nx_set, ne_eq] <;> omega) | (simp only [XSide, F4]; done) | decide) only [XWalk, XSl, ↓XPre, reduceIte, Nat.reduceEqDiff, Nat.reduceLT, Nat.reduceAdd, Nat.reduceSub, Nat.reduceMul, Nat.reduceBEq, reduceCtorEq, Int.reduceAdd, Int.reduceSub, Int.reduceMul, Int.reduceLT, Int.reduceLE, Int.reduceGT, Int.reduceGE, Int.reduceEq, Int.reduceNe, Int.reduceBEq, Int.reduceBNe, Int.reduceTMod, Int.reduceTDiv, ↓if_true, ↓if_false, F4, A4, XAcc, h]
          refine x_if (fun h2 => ?_) (fun h2 => ?_)
          · have hq1 := of_decide_eq_true h
            have hq2 := of_decide_eq_true h2
            obtain ⟨k, rfl⟩ : ∃ k : Nat, q = (k : Int) := ⟨q.toNat, by omega⟩
            simp (maxSteps := 2000000) (disch := first | assumption | omega | (simp only [nx_push, nx_set, ne_eq] <;> omega) | (simp only [XSide, F4]; done) | decide) only [XWalk, XSl, ↓XPre, reduceIte, Nat.reduceEqDiff, Nat.reduceLT, Nat.reduceAdd, Nat.reduceSub, Nat.reduceMul, Nat.reduceBEq, reduceCtorEq, Int.reduceAdd, Int.reduceSub, Int.reduceMul, Int.reduceLT, Int.reduceLE, Int.reduceGT, Int.reduceGE, Int.reduceEq, Int.reduceNe, Int.reduceBEq, Int.reduceBNe, Int.reduceTMod, Int.reduceTDiv, ↓if_true, ↓if_false, F4, A4, XAcc]
            refine wcall_v specLoc (row_ct (b := 5) (n := k) hw2 (by omega)) hw2 ?_
            rintro v m3 hw3 hn3 f3 ⟨hv3, _⟩
            obtain ⟨va, vl, vc, rfl⟩ := sl_shape hv3
            have F3 : ∀ b, b < m.next → m3.get b = m.get b := fun b hb => by rw [f3 b (by omega)]; exact F2 b hb
            have ra3 : m3.get m.next = some (.row [str n, .int .i64 r, .int .i64 s, sv, tv] .rw) := by rw [f3 _ (by omega)]; exact ra2
            have rb3 : m3.get (m.next + 1) = some (.row [str n', .int .i64 r', .int .i64 s', sv', tv'] .rw) := by rw [f3 _ (by omega)]; exact rb2
            simp (maxSteps := 2000000) (disch := first | assumption | omega | (simp only [nx_push, nx_set, ne_eq] <;> omega) | (simp only [XSide, F4]; done) | decide) only [XWalk, XSl, ↓XPre, reduceIte, Nat.reduceEqDiff, Nat.reduceLT, Nat.reduceAdd, Nat.reduceSub, Nat.reduceMul, Nat.reduceBEq, reduceCtorEq, Int.reduceAdd, Int.reduceSub, Int.reduceMul, Int.reduceLT, Int.reduceLE, Int.reduceGT, Int.reduceGE, Int.reduceEq, Int.reduceNe, Int.reduceBEq, Int.reduceBNe, Int.reduceTMod, Int.reduceTDiv, ↓if_true, ↓if_false, F4, A4, XAcc, ra3, one_sl hv3]
            refine ⟨List.replicate k 5, .slice va vl vc, ?_, ?_, ?_, ?_, ?_, ?_⟩
            · (repeat (first | exact hw3 | apply WF.push | (refine WF.set ?_ (by first | omega | (simp only [Mem.next_set, Mem.next_push]; omega)))))
            · exact hn3
            · intro b hb
              rw [get_set_ne (by omega)]; exact F3 b hb
            · rfl
            · exact rb3
            · exact hv3.frame_at fun b hb => get_set_ne (by
                intro e; subst e
                have := hv3.len_le hb ra3
                rw [u8s_length, List.length_replicate] at this
                simp only [List.length_cons, List.length_nil] at this
                omega)
          · simp (maxSteps := 2000000) (disch := first | assumption | omega | (simp only [nx_push, nx_set, ne_eq] <;> omega) | (simp only [XSide, F4]; done) | decide) only [XWalk, XSl, ↓XPre, reduceIte, Nat.reduceEqDiff, Nat.reduceLT, Nat.reduceAdd, Nat.reduceSub, Nat.reduceMul, Nat.reduceBEq, reduceCtorEq, Int.reduceAdd, Int.reduceSub, Int.reduceMul, Int.reduceLT, Int.reduceLE, Int.reduceGT, Int.reduceGE, Int.reduceEq, Int.reduceNe, Int.reduceBEq, Int.reduceBNe, Int.reduceTMod, Int.reduceTDiv, ↓if_true, ↓if_false, F4, A4, XAcc]
            exact ⟨S, sv, hw2, Nat.le_refl _, F2, ra2, rb2, toS _ F2⟩
        · have h' : decide (q ≥ 4120) = false := h
          simp (maxSteps := 2000000) (disch := first | assumption | omega | (simp only [nx_push, nx_set, ne_eq] <;> omega) | (simp only [XSide, F4]; done) | decide) only [XWalk, XSl, ↓XPre, reduceIte, Nat.reduceEqDiff, Nat.reduceLT, Nat.reduceAdd, Nat.reduceSub, Nat.reduceMul, Nat.reduceBEq, reduceCtorEq, Int.reduceAdd, Int.reduceSub, Int.reduceMul, Int.reduceLT, Int.reduceLE, Int.reduceGT, Int.reduceGE, Int.reduceEq, Int.reduceNe, Int.reduceBEq, Int.reduceBNe, Int.reduceTMod, Int.reduceTDiv, ↓if_true, ↓if_false, F4, A4, XAcc, h']
          exact ⟨S, sv, hw2, Nat.le_refl _, F2, ra2, rb2, toS _ F2⟩
      · rintro e m3 ⟨S1, sv1, he, q3, q4, hw3, hn3, F3, ra3, rb3, hS1⟩
        rw [andX_normal, wx_seq]
        refine x_cut (fun e m' => m' = m3 ∧ e.n = 69 ∧ e.get 3 = .pointer (some ⟨m.next, 0, none⟩) ∧ e.get 4 = .pointer (some ⟨m.next + 1, 0, none⟩) ∧ e.get 7 = .int .i64 (-1)) ?_ ?_
        · simp (maxSteps := 2000000) (disch := first | assumption | omega | (simp only [nx_push, nx_set, ne_eq] <;> omega) | (simp only [XSide, F4]; done) | decide) only [XWalk, XSl, ↓XPre, reduceIte, Nat.reduceEqDiff, Nat.reduceLT, Nat.reduceAdd, Nat.reduceSub, Nat.reduceMul, Nat.reduceBEq, reduceCtorEq, Int.reduceAdd, Int.reduceSub, Int.reduceMul, Int.reduceLT, Int.reduceLE, Int.reduceGT, Int.reduceGE, Int.reduceEq, Int.reduceNe, Int.reduceBEq, Int.reduceBNe, Int.reduceTMod, Int.reduceTDiv, ↓if_true, ↓if_false, F4, A4, he, q3, q4]
        rintro e m3' ⟨rfl, he, q3, q4, q7⟩
        rw [andX_normal, wx_seq]
        have one1 : [str n, .int .i64 r, .int .i64 s, sv1, tv].all oneCell = true := by
          simp only [List.all_cons, List.all_nil, one_sl hS1, one_sl ht, one_str, one_int, Bool.and_self]
        obtain ⟨va, vl, vc, rfl⟩ := sl_shape hS1
        refine x_cut (fun e m' => e.n = 69 ∧ e.get 3 = .pointer (some ⟨m.next, 0, none⟩) ∧ e.get 4 = .pointer (some ⟨m.next + 1, 0, none⟩) ∧ e.get 7 = .int .i64 (if validB n r s S1.length T.length = true then (S1.length : Int) - 32 else -1) ∧
          WF m' ∧ m3'.next ≤ m'.next ∧ (∀ b, b < m3'.next → m'.get b = m3'.get b)) ?_ ?_
        · simp (maxSteps := 2000000) (disch := first | assumption | omega | (simp only [nx_push, nx_set, ne_eq] <;> omega) | (simp only [XSide, F4]; done) | decide) only [XWalk, XSl, ↓XPre, reduceIte, Nat.reduceEqDiff, Nat.reduceLT, Nat.reduceAdd, Nat.reduceSub, Nat.reduceMul, Nat.reduceBEq, reduceCtorEq, Int.reduceAdd, Int.reduceSub, Int.reduceMul, Int.reduceLT, Int.reduceLE, Int.reduceGT, Int.reduceGE, Int.reduceEq, Int.reduceNe, Int.reduceBEq, Int.reduceBNe, Int.reduceTMod, Int.reduceTDiv, ↓if_true, ↓if_false, F4, A4, he, q3, q4, q7, ra3, XAcc]
          refine wcall_x specLoc (refvalid_ct hw3 hS1 (toT _ F3) hn) hw3 ?_
          rintro out m4 hw4 hn4 f4 rfl
          have ra4 : m4.get m.next = some (.row [str n, .int .i64 r, .int .i64 s, .slice va vl vc, tv] .rw) := by rw [f4 _ (by omega)]; exact ra3
          have hS4 := hS1.keep (keep_of hw3 f4)
          cases hv : validB n r s S1.length T.length with
          | false =>
            simp (maxSteps := 2000000) (disch := first | assumption | omega | (simp only [nx_push, nx_set, ne_eq] <;> omega) | (simp only [XSide, F4]; done) | decide) only [XWalk, XSl, ↓XPre, reduceIte, Nat.reduceEqDiff, Nat.reduceLT, Nat.reduceAdd, Nat.reduceSub, Nat.reduceMul, Nat.reduceBEq, reduceCtorEq, Int.reduceAdd, Int.reduceSub, Int.reduceMul, Int.reduceLT, Int.reduceLE, Int.reduceGT, Int.reduceGE, Int.reduceEq, Int.reduceNe, Int.reduceBEq, Int.reduceBNe, Int.reduceTMod, Int.reduceTDiv, ↓if_true, ↓if_false, F4, A4, hv, he, q3, q4, q7]
            exact ⟨hw4, by omega, f4⟩
          | true =>
            have hl : S1.length ≤ 4128 := by
              unfold validB at hv
              simp only [Bool.and_eq_true, decide_eq_true_eq] at hv
              omega
            have e2 : IntKind.wrap .i64 ((S1.length : Int) - 32) = (S1.length : Int) - 32 := wrap_i64 (by omega) (by omega)
            simp (maxSteps := 2000000) (disch := first | assumption | omega | (simp only [nx_push, nx_set, ne_eq] <;> omega) | (simp only [XSide, F4]; done) | decide) only [XWalk, XSl, ↓XPre, reduceIte, Nat.reduceEqDiff, Nat.reduceLT, Nat.reduceAdd, Nat.reduceSub, Nat.reduceMul, Nat.reduceBEq, reduceCtorEq, Int.reduceAdd, Int.reduceSub, Int.reduceMul, Int.reduceLT, Int.reduceLE, Int.reduceGT, Int.reduceGE, Int.reduceEq, Int.reduceNe, Int.reduceBEq, Int.reduceBNe, Int.reduceTMod, Int.reduceTDiv, ↓if_true, ↓if_false, F4, A4, hv, he, q3, q4, ra4, XAcc, alen_bs hS4, e2]
            exact ⟨hw4, by omega, f4⟩
        rintro e m5 ⟨he, q3, q4, q7, hw5, hn5, f5⟩
        have ra5 : m5.get m.next = some (.row [str n, .int .i64 r, .int .i64 s, .slice va vl vc, tv] .rw) := by rw [f5 _ (by omega)]; exact ra3
        have rb5 : m5.get (m.next + 1) = some (.row [str n', .int .i64 r', .int .i64 s', sv', tv'] .rw) := by rw [f5 _ (by omega)]; exact rb3
        have F5 : ∀ b, b < m.next → m5.get b = m.get b := fun b hb => by rw [f5 b (by omega)]; exact F3 b hb
        have toA : ∀ m' : Mem, (∀ b, b < m3'.next → m'.get b = m3'.get b) → Bs m' (.slice va vl vc) S1 := fun m' F => hS1.frame_at fun b hb => F b (hS1.blk_lt hw3 hb)
        rw [andX_normal, wx_seq]
        refine x_draw [0, 1, 0, 7, 15, 31, 63, 127, 63, 511, 1023, 2047, 4095, 4095, 16383, 4095, 4095, 131071, 262143, 524287, 1048575, 2097151, 2097151, 8388607, 2097151, 2097151, 67108863, 134217727, 268435455, 536870911, 1073741823, 1073741823, 4294967295, 8589934591, 17179869183, 34359738367, 68719476735, 137438953471] (by kernel_rfl) ?_
        simp (maxSteps := 2000000) (disch := first | assumption | omega | (simp only [nx_push, nx_set, ne_eq] <;> omega) | (simp only [XSide, F4]; done) | decide) only [XWalk, XSl, ↓XPre, reduceIte, Nat.reduceEqDiff, Nat.reduceLT, Nat.reduceAdd, Nat.reduceSub, Nat.reduceMul, Nat.reduceBEq, reduceCtorEq, Int.reduceAdd, Int.reduceSub, Int.reduceMul, Int.reduceLT, Int.reduceLE, Int.reduceGT, Int.reduceGE, Int.reduceEq, Int.reduceNe, Int.reduceBEq, Int.reduceBNe, Int.reduceTMod, Int.reduceTDiv, ↓if_true, ↓if_false, F4, A4, he, q3, q4, q7, ra5, rb5, XAcc]
        have G5 := f5
        refine wcall_x specLoc (valid_ct hw5 (toA _ G5) (toT _ F5) hn) hw5 ?_
        rintro out m6 hw6 hn6 f6 rfl
        have G6 : ∀ b, b < m3'.next → m6.get b = m3'.get b := fun b hb => by rw [f6 b (by omega)]; exact G5 b hb
        have F6 : ∀ b, b < m.next → m6.get b = m.get b := fun b hb => by rw [G6 b (by omega)]; exact F3 b hb
        have ra6 : m6.get m.next = some (.row [str n, .int .i64 r, .int .i64 s, .slice va vl vc, tv] .rw) := by rw [G6 _ (by omega)]; exact ra3
        have rb6 : m6.get (m.next + 1) = some (.row [str n', .int .i64 r', .int .i64 s', sv', tv'] .rw) := by rw [G6 _ (by omega)]; exact rb3
        simp (maxSteps := 2000000) (disch := first | assumption | omega | (simp only [nx_push, nx_set, ne_eq] <;> omega) | (simp only [XSide, F4]; done) | decide) only [XWalk, XSl, ↓XPre, reduceIte, Nat.reduceEqDiff, Nat.reduceLT, Nat.reduceAdd, Nat.reduceSub, Nat.reduceMul, Nat.reduceBEq, reduceCtorEq, Int.reduceAdd, Int.reduceSub, Int.reduceMul, Int.reduceLT, Int.reduceLE, Int.reduceGT, Int.reduceGE, Int.reduceEq, Int.reduceNe, Int.reduceBEq, Int.reduceBNe, Int.reduceTMod, Int.reduceTDiv, ↓if_true, ↓if_false, F4, A4, he, q3, q4, q7, ra6, rb6, XAcc, beq_self_eq_true, abin_bool]
        refine wcall_x specLoc (refvalid_ct hw6 (toA _ G6) (toT _ F6) hn) hw6 ?_
        rintro out m7 hw7 hn7 f7 rfl
        have G7 : ∀ b, b < m3'.next → m7.get b = m3'.get b := fun b hb => by rw [f7 b (by omega)]; exact G6 b hb
        have F7 : ∀ b, b < m.next → m7.get b = m.get b := fun b hb => by rw [G7 b (by omega)]; exact F3 b hb
        have ra7 : m7.get m.next = some (.row [str n, .int .i64 r, .int .i64 s, .slice va vl vc, tv] .rw) := by rw [G7 _ (by omega)]; exact ra3
        have rb7 : m7.get (m.next + 1) = some (.row [str n', .int .i64 r', .int .i64 s', sv', tv'] .rw) := by rw [G7 _ (by omega)]; exact rb3
        simp (maxSteps := 2000000) (disch := first | assumption | omega | (simp only [nx_push, nx_set, ne_eq] <;> omega) | (simp only [XSide, F4]; done) | decide) only [XWalk, XSl, ↓XPre, reduceIte, Nat.reduceEqDiff, Nat.reduceLT, Nat.reduceAdd, Nat.reduceSub, Nat.reduceMul, Nat.reduceBEq, reduceCtorEq, Int.reduceAdd, Int.reduceSub, Int.reduceMul, Int.reduceLT, Int.reduceLE, Int.reduceGT, Int.reduceGE, Int.reduceEq, Int.reduceNe, Int.reduceBEq, Int.reduceBNe, Int.reduceTMod, Int.reduceTDiv, ↓if_true, ↓if_false, F4, A4, he, q3, q4, q7, ra7, rb7, XAcc, beq_self_eq_true, abin_bool]
        refine wcall_x specLoc (size_ct hw7 (toA _ G7) (toT _ F7) hn) hw7 ?_
        rintro out m8 hw8 hn8 f8 rfl
        have G8 : ∀ b, b < m3'.next → m8.get b = m3'.get b := fun b hb => by rw [f8 b (by omega)]; exact G7 b hb
        have F8 : ∀ b, b < m.next → m8.get b = m.get b := fun b hb => by rw [G8 b (by omega)]; exact F3 b hb
        have ra8 : m8.get m.next = some (.row [str n, .int .i64 r, .int .i64 s, .slice va vl vc, tv] .rw) := by rw [G8 _ (by omega)]; exact ra3
        have rb8 : m8.get (m.next + 1) = some (.row [str n', .int .i64 r', .int .i64 s', sv', tv'] .rw) := by rw [G8 _ (by omega)]; exact rb3
        simp (maxSteps := 2000000) (disch := first | assumption | omega | (simp only [nx_push, nx_set, ne_eq] <;> omega) | (simp only [XSide, F4]; done) | decide) only [XWalk, XSl, ↓XPre, reduceIte, Nat.reduceEqDiff, Nat.reduceLT, Nat.reduceAdd, Nat.reduceSub, Nat.reduceMul, Nat.reduceBEq, reduceCtorEq, Int.reduceAdd, Int.reduceSub, Int.reduceMul, Int.reduceLT, Int.reduceLE, Int.reduceGT, Int.reduceGE, Int.reduceEq, Int.reduceNe, Int.reduceBEq, Int.reduceBNe, Int.reduceTMod, Int.reduceTDiv, ↓if_true, ↓if_false, F4, A4, he, q3, q4, q7, ra8, rb8, XAcc, beq_self_eq_true, abin_bool]
        refine wcall_x specLoc (eequal_ct hw8 (toA _ G8) (toT _ F8) (toS' _ F8) (toT' _ F8)) hw8 ?_
        rintro out m9 hw9 hn9 f9 rfl
        have G9 : ∀ b, b < m3'.next → m9.get b = m3'.get b := fun b hb => by rw [f9 b (by omega)]; exact G8 b hb
        have F9 : ∀ b, b < m.next → m9.get b = m.get b := fun b hb => by rw [G9 b (by omega)]; exact F3 b hb
        have ra9 : m9.get m.next = some (.row [str n, .int .i64 r, .int .i64 s, .slice va vl vc, tv] .rw) := by rw [G9 _ (by omega)]; exact ra3
        have rb9 : m9.get (m.next + 1) = some (.row [str n', .int .i64 r', .int .i64 s', sv', tv'] .rw) := by rw [G9 _ (by omega)]; exact rb3
        simp (maxSteps := 2000000) (disch := first | assumption | omega | (simp only [nx_push, nx_set, ne_eq] <;> omega) | (simp only [XSide, F4]; done) | decide) only [XWalk, XSl, ↓XPre, reduceIte, Nat.reduceEqDiff, Nat.reduceLT, Nat.reduceAdd, Nat.reduceSub, Nat.reduceMul, Nat.reduceBEq, reduceCtorEq, Int.reduceAdd, Int.reduceSub, Int.reduceMul, Int.reduceLT, Int.reduceLE, Int.reduceGT, Int.reduceGE, Int.reduceEq, Int.reduceNe, Int.reduceBEq, Int.reduceBNe, Int.reduceTMod, Int.reduceTDiv, ↓if_true, ↓if_false, F4, A4, he, q3, q4, q7, ra9, rb9, XAcc, beq_self_eq_true, abin_bool]
        refine wcall_x specLoc (same_ct hw9 (toA _ G9) (toT _ F9) (toS' _ F9) (toT' _ F9)) hw9 ?_
        rintro out m10 hw10 hn10 f10 rfl
        have G10 : ∀ b, b < m3'.next → m10.get b = m3'.get b := fun b hb => by rw [f10 b (by omega)]; exact G9 b hb
        have F10 : ∀ b, b < m.next → m10.get b = m.get b := fun b hb => by rw [G10 b (by omega)]; exact F3 b hb
        have ra10 : m10.get m.next = some (.row [str n, .int .i64 r, .int .i64 s, .slice va vl vc, tv] .rw) := by rw [G10 _ (by omega)]; exact ra3
        have rb10 : m10.get (m.next + 1) = some (.row [str n', .int .i64 r', .int .i64 s', sv', tv'] .rw) := by rw [G10 _ (by omega)]; exact rb3
        simp (maxSteps := 2000000) (disch := first | assumption | omega | (simp only [nx_push, nx_set, ne_eq] <;> omega) | (simp only [XSide, F4]; done) | decide) only [XWalk, XSl, ↓XPre, reduceIte, Nat.reduceEqDiff, Nat.reduceLT, Nat.reduceAdd, Nat.reduceSub, Nat.reduceMul, Nat.reduceBEq, reduceCtorEq, Int.reduceAdd, Int.reduceSub, Int.reduceMul, Int.reduceLT, Int.reduceLE, Int.reduceGT, Int.reduceGE, Int.reduceEq, Int.reduceNe, Int.reduceBEq, Int.reduceBNe, Int.reduceTMod, Int.reduceTDiv, ↓if_true, ↓if_false, F4, A4, he, q3, q4, q7, ra10, rb10, XAcc, beq_self_eq_true, abin_bool]
        refine wcall_x specLoc (eequal_ct hw10 (toS' _ F10) (toT' _ F10) (toA _ G10) (toT _ F10)) hw10 ?_
        rintro out m11 hw11 hn11 f11 rfl
        have G11 : ∀ b, b < m3'.next → m11.get b = m3'.get b := fun b hb => by rw [f11 b (by omega)]; exact G10 b hb
        have F11 : ∀ b, b < m.next → m11.get b = m.get b := fun b hb => by rw [G11 b (by omega)]; exact F3 b hb
        have ra11 : m11.get m.next = some (.row [str n, .int .i64 r, .int .i64 s, .slice va vl vc, tv] .rw) := by rw [G11 _ (by omega)]; exact ra3
        have rb11 : m11.get (m.next + 1) = some (.row [str n', .int .i64 r', .int .i64 s', sv', tv'] .rw) := by rw [G11 _ (by omega)]; exact rb3
        simp (maxSteps := 2000000) (disch := first | assumption | omega | (simp only [nx_push, nx_set, ne_eq] <;> omega) | (simp only [XSide, F4]; done) | decide) only [XWalk, XSl, ↓XPre, reduceIte, Nat.reduceEqDiff, Nat.reduceLT, Nat.reduceAdd, Nat.reduceSub, Nat.reduceMul, Nat.reduceBEq, reduceCtorEq, Int.reduceAdd, Int.reduceSub, Int.reduceMul, Int.reduceLT, Int.reduceLE, Int.reduceGT, Int.reduceGE, Int.reduceEq, Int.reduceNe, Int.reduceBEq, Int.reduceBNe, Int.reduceTMod, Int.reduceTDiv, ↓if_true, ↓if_false, F4, A4, he, q3, q4, q7, ra11, rb11, XAcc, beq_self_eq_true, abin_bool]
        refine wcall_x specLoc (same_ct hw11 (toS' _ F11) (toT' _ F11) (toA _ G11) (toT _ F11)) hw11 ?_
        rintro out m12 hw12 hn12 f12 rfl
        have G12 : ∀ b, b < m3'.next → m12.get b = m3'.get b := fun b hb => by rw [f12 b (by omega)]; exact G11 b hb
        have F12 : ∀ b, b < m.next → m12.get b = m.get b := fun b hb => by rw [G12 b (by omega)]; exact F3 b hb
        have ra12 : m12.get m.next = some (.row [str n, .int .i64 r, .int .i64 s, .slice va vl vc, tv] .rw) := by rw [G12 _ (by omega)]; exact ra3
        have rb12 : m12.get (m.next + 1) = some (.row [str n', .int .i64 r', .int .i64 s', sv', tv'] .rw) := by rw [G12 _ (by omega)]; exact rb3
        simp (maxSteps := 2000000) (disch := first | assumption | omega | (simp only [nx_push, nx_set, ne_eq] <;> omega) | (simp only [XSide, F4]; done) | decide) only [XWalk, XSl, ↓XPre, reduceIte, Nat.reduceEqDiff, Nat.reduceLT, Nat.reduceAdd, Nat.reduceSub, Nat.reduceMul, Nat.reduceBEq, reduceCtorEq, Int.reduceAdd, Int.reduceSub, Int.reduceMul, Int.reduceLT, Int.reduceLE, Int.reduceGT, Int.reduceGE, Int.reduceEq, Int.reduceNe, Int.reduceBEq, Int.reduceBNe, Int.reduceTMod, Int.reduceTDiv, ↓if_true, ↓if_false, F4, A4, he, q3, q4, q7, ra12, rb12, XAcc, beq_self_eq_true, abin_bool]
        refine wcall_x specLoc (eequal_ct hw12 (toA _ G12) (toT _ F12) (toA _ G12) (toT _ F12)) hw12 ?_
        rintro out m13 hw13 hn13 f13 rfl
        have G13 : ∀ b, b < m3'.next → m13.get b = m3'.get b := fun b hb => by rw [f13 b (by omega)]; exact G12 b hb
        have F13 : ∀ b, b < m.next → m13.get b = m.get b := fun b hb => by rw [G13 b (by omega)]; exact F3 b hb
        have ra13 : m13.get m.next = some (.row [str n, .int .i64 r, .int .i64 s, .slice va vl vc, tv] .rw) := by rw [G13 _ (by omega)]; exact ra3
        have rb13 : m13.get (m.next + 1) = some (.row [str n', .int .i64 r', .int .i64 s', sv', tv'] .rw) := by rw [G13 _ (by omega)]; exact rb3
        simp (maxSteps := 2000000) (disch := first | assumption | omega | (simp only [nx_push, nx_set, ne_eq] <;> omega) | (simp only [XSide, F4]; done) | decide) only [XWalk, XSl, ↓XPre, reduceIte, Nat.reduceEqDiff, Nat.reduceLT, Nat.reduceAdd, Nat.reduceSub, Nat.reduceMul, Nat.reduceBEq, reduceCtorEq, Int.reduceAdd, Int.reduceSub, Int.reduceMul, Int.reduceLT, Int.reduceLE, Int.reduceGT, Int.reduceGE, Int.reduceEq, Int.reduceNe, Int.reduceBEq, Int.reduceBNe, Int.reduceTMod, Int.reduceTDiv, ↓if_true, ↓if_false, F4, A4, he, q3, q4, q7, ra13, rb13, XAcc, beq_self_eq_true, abin_bool, show sameB n n r r s s S1 S1 T T = true from by unfold sameB; simp]
        refine wcall_x specLoc (known_ct hw13) hw13 ?_
        rintro out m14 hw14 hn14 f14 rfl
        simp (maxSteps := 2000000) (disch := first | assumption | omega | (simp only [nx_push, nx_set, ne_eq] <;> omega) | (simp only [XSide, F4]; done) | decide) only [XWalk, XSl, ↓XPre, reduceIte, Nat.reduceEqDiff, Nat.reduceLT, Nat.reduceAdd, Nat.reduceSub, Nat.reduceMul, Nat.reduceBEq, reduceCtorEq, Int.reduceAdd, Int.reduceSub, Int.reduceMul, Int.reduceLT, Int.reduceLE, Int.reduceGT, Int.reduceGE, Int.reduceEq, Int.reduceNe, Int.reduceBEq, Int.reduceBNe, Int.reduceTMod, Int.reduceTDiv, ↓if_true, ↓if_false, F4, A4, he]

end Go.Big

/- The row of EnvelopeValid. -/
set_option linter.unusedSimpArgs false
set_option linter.unusedVariables false
namespace Go.Proofs.YtobhnnbdobphfaaDoor
open Go.ChangeShapes Go.WideShapes Go.ChangeAt Go.RowKit Go.Big

set_option maxRecDepth 100000 in
theorem valid_lifted (os : Os) (started : os.Started) (H : Type) (enc : TypeId × Value → H) :
    ReturnsInHanded {} Tryd.checked os 4 .any (fun w args => (Rows.envelopeValidSpec.pre enc Tryd.prog Tryd.f4 Rows.envelopeValidRow.domain false w args ∧ laidMetH Tryd.prog laid w) ∧ sizedMet enc Tryd.prog Tryd.f4 (OpenSpec.ofChange Rows.envelopeValidSpec) false w args)
      (Rows.envelopeValidSpec.post enc Tryd.prog Tryd.f4 false true false false) := by
  refine returnsInHanded_of_change_and (C := Tryd.checked) (X := fun w _ => laidMetH Tryd.prog laid w) (fun _ _ _ hh h => h.of_heap hh) own started (by kernel_rfl) Tryd.func4
    (ChangeSpec.witness_shaped (enc := enc) (C := Tryd.checked) (os := os) (X := fun w _ => laidMetH Tryd.prog laid w) false (World.laidAll Tryd.prog os laid) #[envZero, envZero, .int .i64 0] 8 (World.laidAll_os _ _ _)
      (World.shaped_of_ZipB (by kernel_rfl) (by kernel_rfl)) (by kernel_rfl) (by kernel_rfl) (by kernel_rfl)
      (by rw [MakeChecks.laidMetH_plain _ _ _ (by kernel_rfl)]; exact laidMet_laidAll _ (by kernel_rfl) (by kernel_rfl))) ?_
  intro W base args ds gs before hval0 hW _ _ _ _
  have hval : ∀ (j : Nat) t v, Tryd.f4.params[j]? = some t → args[j]? = some v → Value.okWide Tryd.prog W .any base t v := hval0
  have hpar : Tryd.f4.params = #[24, 24, 3] := by kernel_rfl
  have hW' := hW
  obtain ⟨p, q, hA0, hV, rfl, _, _⟩ := hW
  have hA : DataW.TrodAll enc Tryd.prog W 0 (fun _ => true) true Tryd.f4.params.toList args.toList ds p := hA0
  rw [hpar] at hA hval
  obtain ⟨v0, v1, v2, d0, d1, d2, p0, p1, p2, rfl, rfl, rfl, h0, h1, h2⟩ := trodAll_three hA
  obtain ⟨m, φ, n, S, T, r, s, sv, tv, hs, hw, _, _, hr, hbS, hbT, _, _, _⟩ := ext_env (sim0 W) wf0 env24 (hval 0 24 v0 rfl rfl) h0
  obtain ⟨m', φ', n', S', T', r', s', sv', tv', hs', hw', hle, hk, hr', hbS', hbT', _, _, _⟩ := ext_env hs hw env24 (hval 1 24 v1 rfl rfl) h1
  obtain ⟨k, rfl, rfl, rfl, wk⟩ := open_int int3 (hval 2 3 v2 rfl rfl) h2
  refine (calls_true (specSim _) specLoc funcsOk mixed (valid_law (q := k) hw' (hbS.keep hk) (hbT.keep hk) hbS' hbT') hw' hs' (LRel.cons (hr.mono hle) (.cons hr' (.cons (.base rfl) .nil)))).mono fun e W' ⟨he, hb⟩ => ?_
  subst he
  obtain ⟨rfl, rfl⟩ := trodVars_none hV
  exact ⟨_, rfl, post_true laidOut hW' rfl (fun t ht => by
    rw [hpar] at ht
    simp only [List.mem_cons, List.not_mem_nil, or_false] at ht
    rcases ht with rfl | rfl | rfl
    · exact readable24
    · exact readable24
    · exact readable3) hb rfl (by kernel_rfl) bool4⟩

theorem valid_holds : Rows.EnvelopeValidSaid :=
  OpenClaim.holds_of_wide 4 Tryd.f4 rfl rfl rfl rfl rfl rfl rfl ⟨rfl, rfl, rfl, rfl, rfl⟩ rfl rfl rfl rfl rfl (by kernel_rfl) Tryd.func4 (by kernel_rfl)
    (of_decide_eq_true (by kernel_rfl)) (by unfold Func.isWrapper; first | (rw [if_pos (by decide +kernel)]; kernel_rfl) | (rw [if_neg (by decide +kernel)]; exact ⟨rfl, rfl⟩))
    (fun os started H enc _ => valid_lifted os started H enc)
theorem valid_card_holds : Rows.EnvelopeValidCardSaid :=
  Claim7.holds_tied_plain_at .later [] [.data, .pinned] true (true, "e5903af1cd62969ff4b0040717dee158c3274cb06ad2409b2c84d22848c0bef0") false valid_holds (fun _ h => by cases h) (by kernel_rfl) (fun _ h => by cases h) envelopeValid_row_tie rfl ⟨rfl, rfl⟩ (by kernel_rfl) rfl
    (fun f fn hf hfn => by
      obtain rfl : f = 4 := Option.some.inj ((show Tryd.prog.funcNamed "bandplan/bandplanlaw42.EnvelopeValid" = some 4 by kernel_rfl).symm.trans hf) |>.symm
      obtain rfl : fn = Tryd.f4 := (Option.some.inj (Tryd.func4.symm.trans hfn)).symm
      exact ⟨by kernel_rfl, fun j t ht => by
        rw [show Tryd.f4.params = #[24, 24, 3] by kernel_rfl] at ht
        have hm : t ∈ [24, 24, 3] := by simpa using Array.mem_of_getElem? ht
        have hall : ([24, 24, 3].all fun u => !Tryd.prog.wantsStandIn u) = true := by kernel_rfl
        exact (show Tryd.prog.wantsStandIn t = false by simpa using List.all_eq_true.1 hall t hm)⟩)
    (by kernel_rfl)
#print axioms valid_card_holds
end Go.Proofs.YtobhnnbdobphfaaDoor
