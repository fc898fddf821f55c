/- The mixing function of the hash. -/
import Derived.Test.YtobhnnbdobphfaaDoorJoined5
set_option linter.unusedSimpArgs false
set_option maxRecDepth 100000
set_option maxHeartbeats 8000000
namespace Go.Big
open Go.Proofs

/-- A word rotated to the right. -/
def rotr (x : UInt32) (n : UInt32) : UInt32 := (x <<< (32 - n)) ||| (x >>> n)

theorem rot_ct {m : Mem} {x : UInt32} {k : Int} {s : Nat} (hk : andI .u64 (IntKind.wrap .u64 k) 31 = (s : Int)) (h0 : 0 < s) (hs : s < 32) : acall Tryd.prog S0 87 [w32 x, .int .i64 k] m = some (.ret (w32 ((x <<< UInt32.ofNat s) ||| (x >>> UInt32.ofNat (32 - s)))), m, []) := by
  refine pu_of (ct_body (spec0 _) (by rfl) Tryd.func87 rfl ?_)
  rw [Tryd.ntmps87]
  simp only [ofArgs_cons, ofArgs_nil]
  have e1 : IntKind.wrap .u64 (32 - (s : Int)) = ((32 - s : Nat) : Int) := by rw [wrap_u64 (by omega) (by omega)]; omega
  refine w_seq (w_region ?_)
  simp (maxSteps := 2000000) (disch := (first | assumption | omega | (simp only [F87, Option.isSome_some, List.all_cons, List.all_nil, Bool.and_self, List.length_cons, List.length_nil, writable_rw, one_int, one_bool, one_str, one_slice, one_ptr, one_map]) | decide)) only [StepL, Env.eval, ↓wput_some, ↓wput_none, reduceIte, Nat.reduceEqDiff, Nat.reduceLT, Nat.reduceAdd, Nat.reduceSub, Nat.reduceMul, Nat.reduceBEq, reduceCtorEq, F87, andThen]
  refine w_seq (w_region ?_)
  simp (maxSteps := 2000000) (disch := (first | assumption | omega | (simp only [F87, Option.isSome_some, List.all_cons, List.all_nil, Bool.and_self, List.length_cons, List.length_nil, writable_rw, one_int, one_bool, one_str, one_slice, one_ptr, one_map]) | decide)) only [StepL, Env.eval, ↓wput_some, ↓wput_none, reduceIte, Nat.reduceEqDiff, Nat.reduceLT, Nat.reduceAdd, Nat.reduceSub, Nat.reduceMul, Nat.reduceBEq, reduceCtorEq, F87, andThen, hk]
  refine w_seq (w_region ?_)
  simp (maxSteps := 2000000) (disch := (first | assumption | omega | (simp only [F87, Option.isSome_some, List.all_cons, List.all_nil, Bool.and_self, List.length_cons, List.length_nil, writable_rw, one_int, one_bool, one_str, one_slice, one_ptr, one_map]) | decide)) only [StepL, Env.eval, ↓wput_some, ↓wput_none, reduceIte, Nat.reduceEqDiff, Nat.reduceLT, Nat.reduceAdd, Nat.reduceSub, Nat.reduceMul, Nat.reduceBEq, reduceCtorEq, F87, andThen, e1, shlK_32 x s hs, shrK_32 x (32 - s) (by omega), orI_32]
  refine w_ret (ret_one (.inl rfl) Tryd.results87 ?_)
  simp (maxSteps := 2000000) (disch := (first | assumption | omega | (simp only [Option.isSome_some, List.all_cons, List.all_nil, Bool.and_self, List.length_cons, List.length_nil, writable_rw, one_int, one_bool, one_str, one_slice, one_ptr, one_map]) | decide)) only [StepL, Env.eval, ↓wput_some, ↓wput_none, reduceIte, Nat.reduceEqDiff, Nat.reduceLT, Nat.reduceAdd, Nat.reduceSub, Nat.reduceMul, Nat.reduceBEq, reduceCtorEq]

/-- Cells of a row at four places after the mixing. -/
structure Mix where
  a : UInt32
  b : UInt32
  c : UInt32
  d : UInt32

def mixW (a b c d x y : UInt32) : Mix :=
  let a1 := a + (b + x)
  let d1 := rotr (d ^^^ a1) 16
  let c1 := c + d1
  let b1 := rotr (b ^^^ c1) 12
  let a2 := a1 + (b1 + y)
  let d2 := rotr (d1 ^^^ a2) 8
  let c2 := c1 + d2
  let b2 := rotr (b1 ^^^ c2) 7
  ⟨a2, b2, c2, d2⟩

theorem rot16 {m : Mem} {x : UInt32} : acall Tryd.prog S0 87 [w32 x, .int .i64 (-16)] m = some (.ret (w32 (rotr x 16)), m, []) := rot_ct (s := 16) (by kernel_rfl) (by omega) (by omega)
theorem rot12 {m : Mem} {x : UInt32} : acall Tryd.prog S0 87 [w32 x, .int .i64 (-12)] m = some (.ret (w32 (rotr x 12)), m, []) := rot_ct (s := 20) (by kernel_rfl) (by omega) (by omega)
theorem rot8 {m : Mem} {x : UInt32} : acall Tryd.prog S0 87 [w32 x, .int .i64 (-8)] m = some (.ret (w32 (rotr x 8)), m, []) := rot_ct (s := 24) (by kernel_rfl) (by omega) (by omega)
theorem rot7 {m : Mem} {x : UInt32} : acall Tryd.prog S0 87 [w32 x, .int .i64 (-7)] m = some (.ret (w32 (rotr x 7)), m, []) := rot_ct (s := 25) (by kernel_rfl) (by omega) (by omega)

/-- Four words in a row. -/
structure R4 (m : Mem) (b : Nat) (cs : List Value) (ia ib ic id : Nat) (a0 b0 c0 d0 : UInt32) : Prop where
  hm : m.get b = some (.row cs .rw)
  ha : cs[ia]? = some (w32 a0)
  hb : cs[ib]? = some (w32 b0)
  hc : cs[ic]? = some (w32 c0)
  hd : cs[id]? = some (w32 d0)
  la : ia < cs.length
  lb : ib < cs.length
  lc : ic < cs.length
  ld : id < cs.length

section
variable {m : Mem} {b ia ib ic id : Nat} {cs : List Value} {a0 b0 c0 d0 v : UInt32}
theorem R4.seta (h : R4 m b cs ia ib ic id a0 b0 c0 d0) (nab : ia ≠ ib) (nac : ia ≠ ic) (nad : ia ≠ id) : ∃ m1 cs1, m.set b (.row (cs.set ia (w32 v)) .rw) = m1 ∧ R4 m1 b cs1 ia ib ic id v b0 c0 d0 ∧ m1.next = m.next ∧ cs1.length = cs.length ∧ ∀ j, j ≠ ia → cs1[j]? = cs[j]? := by
  obtain ⟨h1, h2, h3, h4, h5, h6, h7, h8, h9⟩ := h
  refine ⟨_, cs.set ia (w32 v), rfl, ⟨by rw [Mem.get_set, if_pos rfl], ?_, ?_, ?_, ?_, ?_, ?_, ?_, ?_⟩, rfl, List.length_set, fun j hj => List.getElem?_set_ne hj.symm⟩
  · rw [set_self, if_pos h6]
  · rw [List.getElem?_set_ne nab]; exact h3
  · rw [List.getElem?_set_ne nac]; exact h4
  · rw [List.getElem?_set_ne nad]; exact h5
  all_goals rw [List.length_set]; assumption
theorem R4.rot (h : R4 m b cs ia ib ic id a0 b0 c0 d0) : R4 m b cs ib ic id ia b0 c0 d0 a0 := by
  obtain ⟨h1, h2, h3, h4, h5, h6, h7, h8, h9⟩ := h
  exact ⟨h1, h3, h4, h5, h2, h7, h8, h9, h6⟩
theorem R4.setb (h : R4 m b cs ia ib ic id a0 b0 c0 d0) (nab : ia ≠ ib) (nbc : ib ≠ ic) (nbd : ib ≠ id) : ∃ m1 cs1, m.set b (.row (cs.set ib (w32 v)) .rw) = m1 ∧ R4 m1 b cs1 ia ib ic id a0 v c0 d0 ∧ m1.next = m.next ∧ cs1.length = cs.length ∧ ∀ j, j ≠ ib → cs1[j]? = cs[j]? := by
  obtain ⟨m1, cs1, e1, h1, e2, e3, e4⟩ := h.rot.seta (v := v) nbc nbd nab.symm
  exact ⟨m1, cs1, e1, h1.rot.rot.rot, e2, e3, e4⟩
theorem R4.setc (h : R4 m b cs ia ib ic id a0 b0 c0 d0) (nac : ia ≠ ic) (nbc : ib ≠ ic) (ncd : ic ≠ id) : ∃ m1 cs1, m.set b (.row (cs.set ic (w32 v)) .rw) = m1 ∧ R4 m1 b cs1 ia ib ic id a0 b0 v d0 ∧ m1.next = m.next ∧ cs1.length = cs.length ∧ ∀ j, j ≠ ic → cs1[j]? = cs[j]? := by
  obtain ⟨m1, cs1, e1, h1, e2, e3, e4⟩ := h.rot.rot.seta (v := v) ncd nac.symm nbc.symm
  exact ⟨m1, cs1, e1, h1.rot.rot, e2, e3, e4⟩
theorem R4.setd (h : R4 m b cs ia ib ic id a0 b0 c0 d0) (nad : ia ≠ id) (nbd : ib ≠ id) (ncd : ic ≠ id) : ∃ m1 cs1, m.set b (.row (cs.set id (w32 v)) .rw) = m1 ∧ R4 m1 b cs1 ia ib ic id a0 b0 c0 v ∧ m1.next = m.next ∧ cs1.length = cs.length ∧ ∀ j, j ≠ id → cs1[j]? = cs[j]? := by
  obtain ⟨m1, cs1, e1, h1, e2, e3, e4⟩ := h.rot.rot.rot.seta (v := v) nad.symm nbd.symm ncd.symm
  exact ⟨m1, cs1, e1, h1.rot, e2, e3, e4⟩
end

theorem mix_ct {m : Mem} {b ia ib ic id : Nat} {cs : List Value} {a0 b0 c0 d0 x y : UInt32} (h0 : R4 m b cs ia ib ic id a0 b0 c0 d0) (nab : ia ≠ ib) (nac : ia ≠ ic) (nad : ia ≠ id) (nbc : ib ≠ ic) (nbd : ib ≠ id) (ncd : ic ≠ id) :
    Ct Tryd.prog S0 83 [.pointer (some ⟨b, ia, none⟩), .pointer (some ⟨b, ib, none⟩), .pointer (some ⟨b, ic, none⟩), .pointer (some ⟨b, id, none⟩), w32 x, w32 y] m [b]
      (fun out m' => out = .ret (.tuple #[]) ∧ m'.next = m.next ∧ ∃ cs', R4 m' b cs' ia ib ic id (mixW a0 b0 c0 d0 x y).a (mixW a0 b0 c0 d0 x y).b (mixW a0 b0 c0 d0 x y).c (mixW a0 b0 c0 d0 x y).d ∧ cs'.length = cs.length ∧
        ∀ j, j ≠ ia → j ≠ ib → j ≠ ic → j ≠ id → cs'[j]? = cs[j]?) := by
  refine ct_body (spec0 _) (by rfl) Tryd.func83 rfl ?_
  rw [Tryd.ntmps83]
  simp only [ofArgs_cons, ofArgs_nil]
  refine w_keep (fun e => e.n = 88 ∧ e.get 0 = .pointer (some ⟨b, ia, none⟩) ∧ e.get 1 = .pointer (some ⟨b, ib, none⟩) ∧ e.get 2 = .pointer (some ⟨b, ic, none⟩) ∧ e.get 3 = .pointer (some ⟨b, id, none⟩) ∧ e.get 4 = w32 x ∧ e.get 5 = w32 y) ⟨by simp (maxSteps := 2000000) (disch := (first | assumption | omega | (simp only [Option.isSome_some, List.all_cons, List.all_nil, Bool.and_self, List.length_cons, List.length_nil, writable_rw, one_int, one_bool, one_str, one_slice, one_ptr, one_map]) | decide)) only [StepL, Env.eval, ↓wput_some, ↓wput_none, reduceIte, Nat.reduceEqDiff, Nat.reduceLT, Nat.reduceAdd, Nat.reduceSub, Nat.reduceMul, Nat.reduceBEq, reduceCtorEq], by simp (maxSteps := 2000000) (disch := (first | assumption | omega | (simp only [Option.isSome_some, List.all_cons, List.all_nil, Bool.and_self, List.length_cons, List.length_nil, writable_rw, one_int, one_bool, one_str, one_slice, one_ptr, one_map]) | decide)) only [StepL, Env.eval, ↓wput_some, ↓wput_none, reduceIte, Nat.reduceEqDiff, Nat.reduceLT, Nat.reduceAdd, Nat.reduceSub, Nat.reduceMul, Nat.reduceBEq, reduceCtorEq], by simp (maxSteps := 2000000) (disch := (first | assumption | omega | (simp only [Option.isSome_some, List.all_cons, List.all_nil, Bool.and_self, List.length_cons, List.length_nil, writable_rw, one_int, one_bool, one_str, one_slice, one_ptr, one_map]) | decide)) only [StepL, Env.eval, ↓wput_some, ↓wput_none, reduceIte, Nat.reduceEqDiff, Nat.reduceLT, Nat.reduceAdd, Nat.reduceSub, Nat.reduceMul, Nat.reduceBEq, reduceCtorEq], by simp (maxSteps := 2000000) (disch := (first | assumption | omega | (simp only [Option.isSome_some, List.all_cons, List.all_nil, Bool.and_self, List.length_cons, List.length_nil, writable_rw, one_int, one_bool, one_str, one_slice, one_ptr, one_map]) | decide)) only [StepL, Env.eval, ↓wput_some, ↓wput_none, reduceIte, Nat.reduceEqDiff, Nat.reduceLT, Nat.reduceAdd, Nat.reduceSub, Nat.reduceMul, Nat.reduceBEq, reduceCtorEq], by simp (maxSteps := 2000000) (disch := (first | assumption | omega | (simp only [Option.isSome_some, List.all_cons, List.all_nil, Bool.and_self, List.length_cons, List.length_nil, writable_rw, one_int, one_bool, one_str, one_slice, one_ptr, one_map]) | decide)) only [StepL, Env.eval, ↓wput_some, ↓wput_none, reduceIte, Nat.reduceEqDiff, Nat.reduceLT, Nat.reduceAdd, Nat.reduceSub, Nat.reduceMul, Nat.reduceBEq, reduceCtorEq], by simp (maxSteps := 2000000) (disch := (first | assumption | omega | (simp only [Option.isSome_some, List.all_cons, List.all_nil, Bool.and_self, List.length_cons, List.length_nil, writable_rw, one_int, one_bool, one_str, one_slice, one_ptr, one_map]) | decide)) only [StepL, Env.eval, ↓wput_some, ↓wput_none, reduceIte, Nat.reduceEqDiff, Nat.reduceLT, Nat.reduceAdd, Nat.reduceSub, Nat.reduceMul, Nat.reduceBEq, reduceCtorEq], by simp (maxSteps := 2000000) (disch := (first | assumption | omega | (simp only [Option.isSome_some, List.all_cons, List.all_nil, Bool.and_self, List.length_cons, List.length_nil, writable_rw, one_int, one_bool, one_str, one_slice, one_ptr, one_map]) | decide)) only [StepL, Env.eval, ↓wput_some, ↓wput_none, reduceIte, Nat.reduceEqDiff, Nat.reduceLT, Nat.reduceAdd, Nat.reduceSub, Nat.reduceMul, Nat.reduceBEq, reduceCtorEq]⟩ ?_
  rintro e ⟨he, q0, q1, q2, q3, q4, q5⟩
  refine w_seq (w_draw [0, 1, 3, 0, 8, 24, 0, 120, 255, 511, 1023] (by kernel_rfl) ?_)
  simp (maxSteps := 2000000) (disch := (first | assumption | omega | (simp only [F83, Option.isSome_some, List.all_cons, List.all_nil, Bool.and_self, List.length_cons, List.length_nil, writable_rw, one_int, one_bool, one_str, one_slice, one_ptr, one_map]) | decide)) only [StepL, Env.eval, ↓wput_some, ↓wput_none, reduceIte, Nat.reduceEqDiff, Nat.reduceLT, Nat.reduceAdd, Nat.reduceSub, Nat.reduceMul, Nat.reduceBEq, reduceCtorEq, F83, andThen, he, q0, q1, q2, q3, q4, q5, h0.hm, h0.ha, h0.hb, h0.hc, h0.hd, h0.la, h0.lb, h0.lc, h0.ld, addI_32, xorI_32]
  obtain ⟨m1, cs1, e1, h1, n1, l1, o1⟩ := h0.seta (v := a0 + (b0 + x)) nab nac nad
  rw [e1]
  clear e1
  generalize g1 : a0 + (b0 + x) = a1 at h1 ⊢
  refine w_keep (fun e => e.n = 88 ∧ e.get 0 = .pointer (some ⟨b, ia, none⟩) ∧ e.get 1 = .pointer (some ⟨b, ib, none⟩) ∧ e.get 2 = .pointer (some ⟨b, ic, none⟩) ∧ e.get 3 = .pointer (some ⟨b, id, none⟩) ∧ e.get 4 = w32 x ∧ e.get 5 = w32 y) ⟨by simp (maxSteps := 2000000) (disch := (first | assumption | omega | (simp only [Option.isSome_some, List.all_cons, List.all_nil, Bool.and_self, List.length_cons, List.length_nil, writable_rw, one_int, one_bool, one_str, one_slice, one_ptr, one_map]) | decide)) only [StepL, Env.eval, ↓wput_some, ↓wput_none, reduceIte, Nat.reduceEqDiff, Nat.reduceLT, Nat.reduceAdd, Nat.reduceSub, Nat.reduceMul, Nat.reduceBEq, reduceCtorEq, he, q0, q1, q2, q3, q4, q5], by simp (maxSteps := 2000000) (disch := (first | assumption | omega | (simp only [Option.isSome_some, List.all_cons, List.all_nil, Bool.and_self, List.length_cons, List.length_nil, writable_rw, one_int, one_bool, one_str, one_slice, one_ptr, one_map]) | decide)) only [StepL, Env.eval, ↓wput_some, ↓wput_none, reduceIte, Nat.reduceEqDiff, Nat.reduceLT, Nat.reduceAdd, Nat.reduceSub, Nat.reduceMul, Nat.reduceBEq, reduceCtorEq, he, q0, q1, q2, q3, q4, q5], by simp (maxSteps := 2000000) (disch := (first | assumption | omega | (simp only [Option.isSome_some, List.all_cons, List.all_nil, Bool.and_self, List.length_cons, List.length_nil, writable_rw, one_int, one_bool, one_str, one_slice, one_ptr, one_map]) | decide)) only [StepL, Env.eval, ↓wput_some, ↓wput_none, reduceIte, Nat.reduceEqDiff, Nat.reduceLT, Nat.reduceAdd, Nat.reduceSub, Nat.reduceMul, Nat.reduceBEq, reduceCtorEq, he, q0, q1, q2, q3, q4, q5], by simp (maxSteps := 2000000) (disch := (first | assumption | omega | (simp only [Option.isSome_some, List.all_cons, List.all_nil, Bool.and_self, List.length_cons, List.length_nil, writable_rw, one_int, one_bool, one_str, one_slice, one_ptr, one_map]) | decide)) only [StepL, Env.eval, ↓wput_some, ↓wput_none, reduceIte, Nat.reduceEqDiff, Nat.reduceLT, Nat.reduceAdd, Nat.reduceSub, Nat.reduceMul, Nat.reduceBEq, reduceCtorEq, he, q0, q1, q2, q3, q4, q5], by simp (maxSteps := 2000000) (disch := (first | assumption | omega | (simp only [Option.isSome_some, List.all_cons, List.all_nil, Bool.and_self, List.length_cons, List.length_nil, writable_rw, one_int, one_bool, one_str, one_slice, one_ptr, one_map]) | decide)) only [StepL, Env.eval, ↓wput_some, ↓wput_none, reduceIte, Nat.reduceEqDiff, Nat.reduceLT, Nat.reduceAdd, Nat.reduceSub, Nat.reduceMul, Nat.reduceBEq, reduceCtorEq, he, q0, q1, q2, q3, q4, q5], by simp (maxSteps := 2000000) (disch := (first | assumption | omega | (simp only [Option.isSome_some, List.all_cons, List.all_nil, Bool.and_self, List.length_cons, List.length_nil, writable_rw, one_int, one_bool, one_str, one_slice, one_ptr, one_map]) | decide)) only [StepL, Env.eval, ↓wput_some, ↓wput_none, reduceIte, Nat.reduceEqDiff, Nat.reduceLT, Nat.reduceAdd, Nat.reduceSub, Nat.reduceMul, Nat.reduceBEq, reduceCtorEq, he, q0, q1, q2, q3, q4, q5], by simp (maxSteps := 2000000) (disch := (first | assumption | omega | (simp only [Option.isSome_some, List.all_cons, List.all_nil, Bool.and_self, List.length_cons, List.length_nil, writable_rw, one_int, one_bool, one_str, one_slice, one_ptr, one_map]) | decide)) only [StepL, Env.eval, ↓wput_some, ↓wput_none, reduceIte, Nat.reduceEqDiff, Nat.reduceLT, Nat.reduceAdd, Nat.reduceSub, Nat.reduceMul, Nat.reduceBEq, reduceCtorEq, he, q0, q1, q2, q3, q4, q5]⟩ ?_
  clear he q0 q1 q2 q3 q4 q5 e
  rintro e ⟨he, q0, q1, q2, q3, q4, q5⟩
  refine w_seq (w_draw [0, 0, 2, 6, 0, 16, 48, 126, 254, 511, 1023] (by kernel_rfl) ?_)
  simp (maxSteps := 2000000) (disch := (first | assumption | omega | (simp only [F83, Option.isSome_some, List.all_cons, List.all_nil, Bool.and_self, List.length_cons, List.length_nil, writable_rw, one_int, one_bool, one_str, one_slice, one_ptr, one_map]) | decide)) only [StepL, Env.eval, ↓wput_some, ↓wput_none, reduceIte, Nat.reduceEqDiff, Nat.reduceLT, Nat.reduceAdd, Nat.reduceSub, Nat.reduceMul, Nat.reduceBEq, reduceCtorEq, F83, andThen, he, q0, q1, q2, q3, q4, q5, h1.hm, h1.ha, h1.hb, h1.hc, h1.hd, h1.la, h1.lb, h1.lc, h1.ld, addI_32, xorI_32]
  refine wcall_pu rot16 ?_
  simp (maxSteps := 2000000) (disch := (first | assumption | omega | (simp only [F83, Option.isSome_some, List.all_cons, List.all_nil, Bool.and_self, List.length_cons, List.length_nil, writable_rw, one_int, one_bool, one_str, one_slice, one_ptr, one_map]) | decide)) only [StepL, Env.eval, ↓wput_some, ↓wput_none, reduceIte, Nat.reduceEqDiff, Nat.reduceLT, Nat.reduceAdd, Nat.reduceSub, Nat.reduceMul, Nat.reduceBEq, reduceCtorEq, F83, andThen, he, q0, q1, q2, q3, q4, q5, h1.hm, h1.ha, h1.hb, h1.hc, h1.hd, h1.la, h1.lb, h1.lc, h1.ld, addI_32, xorI_32]
  obtain ⟨m2, cs2, e2, h2, n2, l2, o2⟩ := h1.setd (v := rotr (d0 ^^^ a1) 16) nad nbd ncd
  rw [e2]
  clear e2
  generalize g2 : rotr (d0 ^^^ a1) 16 = d1 at h2 ⊢
  refine w_keep (fun e => e.n = 88 ∧ e.get 0 = .pointer (some ⟨b, ia, none⟩) ∧ e.get 1 = .pointer (some ⟨b, ib, none⟩) ∧ e.get 2 = .pointer (some ⟨b, ic, none⟩) ∧ e.get 3 = .pointer (some ⟨b, id, none⟩) ∧ e.get 4 = w32 x ∧ e.get 5 = w32 y) ⟨by simp (maxSteps := 2000000) (disch := (first | assumption | omega | (simp only [Option.isSome_some, List.all_cons, List.all_nil, Bool.and_self, List.length_cons, List.length_nil, writable_rw, one_int, one_bool, one_str, one_slice, one_ptr, one_map]) | decide)) only [StepL, Env.eval, ↓wput_some, ↓wput_none, reduceIte, Nat.reduceEqDiff, Nat.reduceLT, Nat.reduceAdd, Nat.reduceSub, Nat.reduceMul, Nat.reduceBEq, reduceCtorEq, he, q0, q1, q2, q3, q4, q5], by simp (maxSteps := 2000000) (disch := (first | assumption | omega | (simp only [Option.isSome_some, List.all_cons, List.all_nil, Bool.and_self, List.length_cons, List.length_nil, writable_rw, one_int, one_bool, one_str, one_slice, one_ptr, one_map]) | decide)) only [StepL, Env.eval, ↓wput_some, ↓wput_none, reduceIte, Nat.reduceEqDiff, Nat.reduceLT, Nat.reduceAdd, Nat.reduceSub, Nat.reduceMul, Nat.reduceBEq, reduceCtorEq, he, q0, q1, q2, q3, q4, q5], by simp (maxSteps := 2000000) (disch := (first | assumption | omega | (simp only [Option.isSome_some, List.all_cons, List.all_nil, Bool.and_self, List.length_cons, List.length_nil, writable_rw, one_int, one_bool, one_str, one_slice, one_ptr, one_map]) | decide)) only [StepL, Env.eval, ↓wput_some, ↓wput_none, reduceIte, Nat.reduceEqDiff, Nat.reduceLT, Nat.reduceAdd, Nat.reduceSub, Nat.reduceMul, Nat.reduceBEq, reduceCtorEq, he, q0, q1, q2, q3, q4, q5], by simp (maxSteps := 2000000) (disch := (first | assumption | omega | (simp only [Option.isSome_some, List.all_cons, List.all_nil, Bool.and_self, List.length_cons, List.length_nil, writable_rw, one_int, one_bool, one_str, one_slice, one_ptr, one_map]) | decide)) only [StepL, Env.eval, ↓wput_some, ↓wput_none, reduceIte, Nat.reduceEqDiff, Nat.reduceLT, Nat.reduceAdd, Nat.reduceSub, Nat.reduceMul, Nat.reduceBEq, reduceCtorEq, he, q0, q1, q2, q3, q4, q5], by simp (maxSteps := 2000000) (disch := (first | assumption | omega | (simp only [Option.isSome_some, List.all_cons, List.all_nil, Bool.and_self, List.length_cons, List.length_nil, writable_rw, one_int, one_bool, one_str, one_slice, one_ptr, one_map]) | decide)) only [StepL, Env.eval, ↓wput_some, ↓wput_none, reduceIte, Nat.reduceEqDiff, Nat.reduceLT, Nat.reduceAdd, Nat.reduceSub, Nat.reduceMul, Nat.reduceBEq, reduceCtorEq, he, q0, q1, q2, q3, q4, q5], by simp (maxSteps := 2000000) (disch := (first | assumption | omega | (simp only [Option.isSome_some, List.all_cons, List.all_nil, Bool.and_self, List.length_cons, List.length_nil, writable_rw, one_int, one_bool, one_str, one_slice, one_ptr, one_map]) | decide)) only [StepL, Env.eval, ↓wput_some, ↓wput_none, reduceIte, Nat.reduceEqDiff, Nat.reduceLT, Nat.reduceAdd, Nat.reduceSub, Nat.reduceMul, Nat.reduceBEq, reduceCtorEq, he, q0, q1, q2, q3, q4, q5], by simp (maxSteps := 2000000) (disch := (first | assumption | omega | (simp only [Option.isSome_some, List.all_cons, List.all_nil, Bool.and_self, List.length_cons, List.length_nil, writable_rw, one_int, one_bool, one_str, one_slice, one_ptr, one_map]) | decide)) only [StepL, Env.eval, ↓wput_some, ↓wput_none, reduceIte, Nat.reduceEqDiff, Nat.reduceLT, Nat.reduceAdd, Nat.reduceSub, Nat.reduceMul, Nat.reduceBEq, reduceCtorEq, he, q0, q1, q2, q3, q4, q5]⟩ ?_
  clear he q0 q1 q2 q3 q4 q5 e
  rintro e ⟨he, q0, q1, q2, q3, q4, q5⟩
  refine w_seq (w_draw [0, 1, 3, 0, 8, 24, 63, 127, 255] (by kernel_rfl) ?_)
  simp (maxSteps := 2000000) (disch := (first | assumption | omega | (simp only [F83, Option.isSome_some, List.all_cons, List.all_nil, Bool.and_self, List.length_cons, List.length_nil, writable_rw, one_int, one_bool, one_str, one_slice, one_ptr, one_map]) | decide)) only [StepL, Env.eval, ↓wput_some, ↓wput_none, reduceIte, Nat.reduceEqDiff, Nat.reduceLT, Nat.reduceAdd, Nat.reduceSub, Nat.reduceMul, Nat.reduceBEq, reduceCtorEq, F83, andThen, he, q0, q1, q2, q3, q4, q5, h2.hm, h2.ha, h2.hb, h2.hc, h2.hd, h2.la, h2.lb, h2.lc, h2.ld, addI_32, xorI_32]
  obtain ⟨m3, cs3, e3, h3, n3, l3, o3⟩ := h2.setc (v := c0 + d1) nac nbc ncd
  rw [e3]
  clear e3
  generalize g3 : c0 + d1 = c1 at h3 ⊢
  refine w_keep (fun e => e.n = 88 ∧ e.get 0 = .pointer (some ⟨b, ia, none⟩) ∧ e.get 1 = .pointer (some ⟨b, ib, none⟩) ∧ e.get 2 = .pointer (some ⟨b, ic, none⟩) ∧ e.get 3 = .pointer (some ⟨b, id, none⟩) ∧ e.get 4 = w32 x ∧ e.get 5 = w32 y) ⟨by simp (maxSteps := 2000000) (disch := (first | assumption | omega | (simp only [Option.isSome_some, List.all_cons, List.all_nil, Bool.and_self, List.length_cons, List.length_nil, writable_rw, one_int, one_bool, one_str, one_slice, one_ptr, one_map]) | decide)) only [StepL, Env.eval, ↓wput_some, ↓wput_none, reduceIte, Nat.reduceEqDiff, Nat.reduceLT, Nat.reduceAdd, Nat.reduceSub, Nat.reduceMul, Nat.reduceBEq, reduceCtorEq, he, q0, q1, q2, q3, q4, q5], by simp (maxSteps := 2000000) (disch := (first | assumption | omega | (simp only [Option.isSome_some, List.all_cons, List.all_nil, Bool.and_self, List.length_cons, List.length_nil, writable_rw, one_int, one_bool, one_str, one_slice, one_ptr, one_map]) | decide)) only [StepL, Env.eval, ↓wput_some, ↓wput_none, reduceIte, Nat.reduceEqDiff, Nat.reduceLT, Nat.reduceAdd, Nat.reduceSub, Nat.reduceMul, Nat.reduceBEq, reduceCtorEq, he, q0, q1, q2, q3, q4, q5], by simp (maxSteps := 2000000) (disch := (first | assumption | omega | (simp only [Option.isSome_some, List.all_cons, List.all_nil, Bool.and_self, List.length_cons, List.length_nil, writable_rw, one_int, one_bool, one_str, one_slice, one_ptr, one_map]) | decide)) only [StepL, Env.eval, ↓wput_some, ↓wput_none, reduceIte, Nat.reduceEqDiff, Nat.reduceLT, Nat.reduceAdd, Nat.reduceSub, Nat.reduceMul, Nat.reduceBEq, reduceCtorEq, he, q0, q1, q2, q3, q4, q5], by simp (maxSteps := 2000000) (disch := (first | assumption | omega | (simp only [Option.isSome_some, List.all_cons, List.all_nil, Bool.and_self, List.length_cons, List.length_nil, writable_rw, one_int, one_bool, one_str, one_slice, one_ptr, one_map]) | decide)) only [StepL, Env.eval, ↓wput_some, ↓wput_none, reduceIte, Nat.reduceEqDiff, Nat.reduceLT, Nat.reduceAdd, Nat.reduceSub, Nat.reduceMul, Nat.reduceBEq, reduceCtorEq, he, q0, q1, q2, q3, q4, q5], by simp (maxSteps := 2000000) (disch := (first | assumption | omega | (simp only [Option.isSome_some, List.all_cons, List.all_nil, Bool.and_self, List.length_cons, List.length_nil, writable_rw, one_int, one_bool, one_str, one_slice, one_ptr, one_map]) | decide)) only [StepL, Env.eval, ↓wput_some, ↓wput_none, reduceIte, Nat.reduceEqDiff, Nat.reduceLT, Nat.reduceAdd, Nat.reduceSub, Nat.reduceMul, Nat.reduceBEq, reduceCtorEq, he, q0, q1, q2, q3, q4, q5], by simp (maxSteps := 2000000) (disch := (first | assumption | omega | (simp only [Option.isSome_some, List.all_cons, List.all_nil, Bool.and_self, List.length_cons, List.length_nil, writable_rw, one_int, one_bool, one_str, one_slice, one_ptr, one_map]) | decide)) only [StepL, Env.eval, ↓wput_some, ↓wput_none, reduceIte, Nat.reduceEqDiff, Nat.reduceLT, Nat.reduceAdd, Nat.reduceSub, Nat.reduceMul, Nat.reduceBEq, reduceCtorEq, he, q0, q1, q2, q3, q4, q5], by simp (maxSteps := 2000000) (disch := (first | assumption | omega | (simp only [Option.isSome_some, List.all_cons, List.all_nil, Bool.and_self, List.length_cons, List.length_nil, writable_rw, one_int, one_bool, one_str, one_slice, one_ptr, one_map]) | decide)) only [StepL, Env.eval, ↓wput_some, ↓wput_none, reduceIte, Nat.reduceEqDiff, Nat.reduceLT, Nat.reduceAdd, Nat.reduceSub, Nat.reduceMul, Nat.reduceBEq, reduceCtorEq, he, q0, q1, q2, q3, q4, q5]⟩ ?_
  clear he q0 q1 q2 q3 q4 q5 e
  rintro e ⟨he, q0, q1, q2, q3, q4, q5⟩
  refine w_seq (w_draw [0, 0, 2, 6, 0, 16, 48, 126, 254, 511, 1023] (by kernel_rfl) ?_)
  simp (maxSteps := 2000000) (disch := (first | assumption | omega | (simp only [F83, Option.isSome_some, List.all_cons, List.all_nil, Bool.and_self, List.length_cons, List.length_nil, writable_rw, one_int, one_bool, one_str, one_slice, one_ptr, one_map]) | decide)) only [StepL, Env.eval, ↓wput_some, ↓wput_none, reduceIte, Nat.reduceEqDiff, Nat.reduceLT, Nat.reduceAdd, Nat.reduceSub, Nat.reduceMul, Nat.reduceBEq, reduceCtorEq, F83, andThen, he, q0, q1, q2, q3, q4, q5, h3.hm, h3.ha, h3.hb, h3.hc, h3.hd, h3.la, h3.lb, h3.lc, h3.ld, addI_32, xorI_32]
  refine wcall_pu rot12 ?_
  simp (maxSteps := 2000000) (disch := (first | assumption | omega | (simp only [F83, Option.isSome_some, List.all_cons, List.all_nil, Bool.and_self, List.length_cons, List.length_nil, writable_rw, one_int, one_bool, one_str, one_slice, one_ptr, one_map]) | decide)) only [StepL, Env.eval, ↓wput_some, ↓wput_none, reduceIte, Nat.reduceEqDiff, Nat.reduceLT, Nat.reduceAdd, Nat.reduceSub, Nat.reduceMul, Nat.reduceBEq, reduceCtorEq, F83, andThen, he, q0, q1, q2, q3, q4, q5, h3.hm, h3.ha, h3.hb, h3.hc, h3.hd, h3.la, h3.lb, h3.lc, h3.ld, addI_32, xorI_32]
  obtain ⟨m4, cs4, e4, h4, n4, l4, o4⟩ := h3.setb (v := rotr (b0 ^^^ c1) 12) nab nbc nbd
  rw [e4]
  clear e4
  generalize g4 : rotr (b0 ^^^ c1) 12 = b1 at h4 ⊢
  refine w_keep (fun e => e.n = 88 ∧ e.get 0 = .pointer (some ⟨b, ia, none⟩) ∧ e.get 1 = .pointer (some ⟨b, ib, none⟩) ∧ e.get 2 = .pointer (some ⟨b, ic, none⟩) ∧ e.get 3 = .pointer (some ⟨b, id, none⟩) ∧ e.get 4 = w32 x ∧ e.get 5 = w32 y) ⟨by simp (maxSteps := 2000000) (disch := (first | assumption | omega | (simp only [Option.isSome_some, List.all_cons, List.all_nil, Bool.and_self, List.length_cons, List.length_nil, writable_rw, one_int, one_bool, one_str, one_slice, one_ptr, one_map]) | decide)) only [StepL, Env.eval, ↓wput_some, ↓wput_none, reduceIte, Nat.reduceEqDiff, Nat.reduceLT, Nat.reduceAdd, Nat.reduceSub, Nat.reduceMul, Nat.reduceBEq, reduceCtorEq, he, q0, q1, q2, q3, q4, q5], by simp (maxSteps := 2000000) (disch := (first | assumption | omega | (simp only [Option.isSome_some, List.all_cons, List.all_nil, Bool.and_self, List.length_cons, List.length_nil, writable_rw, one_int, one_bool, one_str, one_slice, one_ptr, one_map]) | decide)) only [StepL, Env.eval, ↓wput_some, ↓wput_none, reduceIte, Nat.reduceEqDiff, Nat.reduceLT, Nat.reduceAdd, Nat.reduceSub, Nat.reduceMul, Nat.reduceBEq, reduceCtorEq, he, q0, q1, q2, q3, q4, q5], by simp (maxSteps := 2000000) (disch := (first | assumption | omega | (simp only [Option.isSome_some, List.all_cons, List.all_nil, Bool.and_self, List.length_cons, List.length_nil, writable_rw, one_int, one_bool, one_str, one_slice, one_ptr, one_map]) | decide)) only [StepL, Env.eval, ↓wput_some, ↓wput_none, reduceIte, Nat.reduceEqDiff, Nat.reduceLT, Nat.reduceAdd, Nat.reduceSub, Nat.reduceMul, Nat.reduceBEq, reduceCtorEq, he, q0, q1, q2, q3, q4, q5], by simp (maxSteps := 2000000) (disch := (first | assumption | omega | (simp only [Option.isSome_some, List.all_cons, List.all_nil, Bool.and_self, List.length_cons, List.length_nil, writable_rw, one_int, one_bool, one_str, one_slice, one_ptr, one_map]) | decide)) only [StepL, Env.eval, ↓wput_some, ↓wput_none, reduceIte, Nat.reduceEqDiff, Nat.reduceLT, Nat.reduceAdd, Nat.reduceSub, Nat.reduceMul, Nat.reduceBEq, reduceCtorEq, he, q0, q1, q2, q3, q4, q5], by simp (maxSteps := 2000000) (disch := (first | assumption | omega | (simp only [Option.isSome_some, List.all_cons, List.all_nil, Bool.and_self, List.length_cons, List.length_nil, writable_rw, one_int, one_bool, one_str, one_slice, one_ptr, one_map]) | decide)) only [StepL, Env.eval, ↓wput_some, ↓wput_none, reduceIte, Nat.reduceEqDiff, Nat.reduceLT, Nat.reduceAdd, Nat.reduceSub, Nat.reduceMul, Nat.reduceBEq, reduceCtorEq, he, q0, q1, q2, q3, q4, q5], by simp (maxSteps := 2000000) (disch := (first | assumption | omega | (simp only [Option.isSome_some, List.all_cons, List.all_nil, Bool.and_self, List.length_cons, List.length_nil, writable_rw, one_int, one_bool, one_str, one_slice, one_ptr, one_map]) | decide)) only [StepL, Env.eval, ↓wput_some, ↓wput_none, reduceIte, Nat.reduceEqDiff, Nat.reduceLT, Nat.reduceAdd, Nat.reduceSub, Nat.reduceMul, Nat.reduceBEq, reduceCtorEq, he, q0, q1, q2, q3, q4, q5], by simp (maxSteps := 2000000) (disch := (first | assumption | omega | (simp only [Option.isSome_some, List.all_cons, List.all_nil, Bool.and_self, List.length_cons, List.length_nil, writable_rw, one_int, one_bool, one_str, one_slice, one_ptr, one_map]) | decide)) only [StepL, Env.eval, ↓wput_some, ↓wput_none, reduceIte, Nat.reduceEqDiff, Nat.reduceLT, Nat.reduceAdd, Nat.reduceSub, Nat.reduceMul, Nat.reduceBEq, reduceCtorEq, he, q0, q1, q2, q3, q4, q5]⟩ ?_
  clear he q0 q1 q2 q3 q4 q5 e
  rintro e ⟨he, q0, q1, q2, q3, q4, q5⟩
  refine w_seq (w_draw [0, 1, 3, 0, 8, 24, 0, 120, 255, 511, 1023] (by kernel_rfl) ?_)
  simp (maxSteps := 2000000) (disch := (first | assumption | omega | (simp only [F83, Option.isSome_some, List.all_cons, List.all_nil, Bool.and_self, List.length_cons, List.length_nil, writable_rw, one_int, one_bool, one_str, one_slice, one_ptr, one_map]) | decide)) only [StepL, Env.eval, ↓wput_some, ↓wput_none, reduceIte, Nat.reduceEqDiff, Nat.reduceLT, Nat.reduceAdd, Nat.reduceSub, Nat.reduceMul, Nat.reduceBEq, reduceCtorEq, F83, andThen, he, q0, q1, q2, q3, q4, q5, h4.hm, h4.ha, h4.hb, h4.hc, h4.hd, h4.la, h4.lb, h4.lc, h4.ld, addI_32, xorI_32]
  obtain ⟨m5, cs5, e5, h5, n5, l5, o5⟩ := h4.seta (v := a1 + (b1 + y)) nab nac nad
  rw [e5]
  clear e5
  generalize g5 : a1 + (b1 + y) = a2 at h5 ⊢
  refine w_keep (fun e => e.n = 88 ∧ e.get 0 = .pointer (some ⟨b, ia, none⟩) ∧ e.get 1 = .pointer (some ⟨b, ib, none⟩) ∧ e.get 2 = .pointer (some ⟨b, ic, none⟩) ∧ e.get 3 = .pointer (some ⟨b, id, none⟩) ∧ e.get 4 = w32 x ∧ e.get 5 = w32 y) ⟨by simp (maxSteps := 2000000) (disch := (first | assumption | omega | (simp only [Option.isSome_some, List.all_cons, List.all_nil, Bool.and_self, List.length_cons, List.length_nil, writable_rw, one_int, one_bool, one_str, one_slice, one_ptr, one_map]) | decide)) only [StepL, Env.eval, ↓wput_some, ↓wput_none, reduceIte, Nat.reduceEqDiff, Nat.reduceLT, Nat.reduceAdd, Nat.reduceSub, Nat.reduceMul, Nat.reduceBEq, reduceCtorEq, he, q0, q1, q2, q3, q4, q5], by simp (maxSteps := 2000000) (disch := (first | assumption | omega | (simp only [Option.isSome_some, List.all_cons, List.all_nil, Bool.and_self, List.length_cons, List.length_nil, writable_rw, one_int, one_bool, one_str, one_slice, one_ptr, one_map]) | decide)) only [StepL, Env.eval, ↓wput_some, ↓wput_none, reduceIte, Nat.reduceEqDiff, Nat.reduceLT, Nat.reduceAdd, Nat.reduceSub, Nat.reduceMul, Nat.reduceBEq, reduceCtorEq, he, q0, q1, q2, q3, q4, q5], by simp (maxSteps := 2000000) (disch := (first | assumption | omega | (simp only [Option.isSome_some, List.all_cons, List.all_nil, Bool.and_self, List.length_cons, List.length_nil, writable_rw, one_int, one_bool, one_str, one_slice, one_ptr, one_map]) | decide)) only [StepL, Env.eval, ↓wput_some, ↓wput_none, reduceIte, Nat.reduceEqDiff, Nat.reduceLT, Nat.reduceAdd, Nat.reduceSub, Nat.reduceMul, Nat.reduceBEq, reduceCtorEq, he, q0, q1, q2, q3, q4, q5], by simp (maxSteps := 2000000) (disch := (first | assumption | omega | (simp only [Option.isSome_some, List.all_cons, List.all_nil, Bool.and_self, List.length_cons, List.length_nil, writable_rw, one_int, one_bool, one_str, one_slice, one_ptr, one_map]) | decide)) only [StepL, Env.eval, ↓wput_some, ↓wput_none, reduceIte, Nat.reduceEqDiff, Nat.reduceLT, Nat.reduceAdd, Nat.reduceSub, Nat.reduceMul, Nat.reduceBEq, reduceCtorEq, he, q0, q1, q2, q3, q4, q5], by simp (maxSteps := 2000000) (disch := (first | assumption | omega | (simp only [Option.isSome_some, List.all_cons, List.all_nil, Bool.and_self, List.length_cons, List.length_nil, writable_rw, one_int, one_bool, one_str, one_slice, one_ptr, one_map]) | decide)) only [StepL, Env.eval, ↓wput_some, ↓wput_none, reduceIte, Nat.reduceEqDiff, Nat.reduceLT, Nat.reduceAdd, Nat.reduceSub, Nat.reduceMul, Nat.reduceBEq, reduceCtorEq, he, q0, q1, q2, q3, q4, q5], by simp (maxSteps := 2000000) (disch := (first | assumption | omega | (simp only [Option.isSome_some, List.all_cons, List.all_nil, Bool.and_self, List.length_cons, List.length_nil, writable_rw, one_int, one_bool, one_str, one_slice, one_ptr, one_map]) | decide)) only [StepL, Env.eval, ↓wput_some, ↓wput_none, reduceIte, Nat.reduceEqDiff, Nat.reduceLT, Nat.reduceAdd, Nat.reduceSub, Nat.reduceMul, Nat.reduceBEq, reduceCtorEq, he, q0, q1, q2, q3, q4, q5], by simp (maxSteps := 2000000) (disch := (first | assumption | omega | (simp only [Option.isSome_some, List.all_cons, List.all_nil, Bool.and_self, List.length_cons, List.length_nil, writable_rw, one_int, one_bool, one_str, one_slice, one_ptr, one_map]) | decide)) only [StepL, Env.eval, ↓wput_some, ↓wput_none, reduceIte, Nat.reduceEqDiff, Nat.reduceLT, Nat.reduceAdd, Nat.reduceSub, Nat.reduceMul, Nat.reduceBEq, reduceCtorEq, he, q0, q1, q2, q3, q4, q5]⟩ ?_
  clear he q0 q1 q2 q3 q4 q5 e
  rintro e ⟨he, q0, q1, q2, q3, q4, q5⟩
  refine w_seq (w_draw [0, 0, 2, 6, 0, 16, 48, 126, 254, 511, 1023] (by kernel_rfl) ?_)
  simp (maxSteps := 2000000) (disch := (first | assumption | omega | (simp only [F83, Option.isSome_some, List.all_cons, List.all_nil, Bool.and_self, List.length_cons, List.length_nil, writable_rw, one_int, one_bool, one_str, one_slice, one_ptr, one_map]) | decide)) only [StepL, Env.eval, ↓wput_some, ↓wput_none, reduceIte, Nat.reduceEqDiff, Nat.reduceLT, Nat.reduceAdd, Nat.reduceSub, Nat.reduceMul, Nat.reduceBEq, reduceCtorEq, F83, andThen, he, q0, q1, q2, q3, q4, q5, h5.hm, h5.ha, h5.hb, h5.hc, h5.hd, h5.la, h5.lb, h5.lc, h5.ld, addI_32, xorI_32]
  refine wcall_pu rot8 ?_
  simp (maxSteps := 2000000) (disch := (first | assumption | omega | (simp only [F83, Option.isSome_some, List.all_cons, List.all_nil, Bool.and_self, List.length_cons, List.length_nil, writable_rw, one_int, one_bool, one_str, one_slice, one_ptr, one_map]) | decide)) only [StepL, Env.eval, ↓wput_some, ↓wput_none, reduceIte, Nat.reduceEqDiff, Nat.reduceLT, Nat.reduceAdd, Nat.reduceSub, Nat.reduceMul, Nat.reduceBEq, reduceCtorEq, F83, andThen, he, q0, q1, q2, q3, q4, q5, h5.hm, h5.ha, h5.hb, h5.hc, h5.hd, h5.la, h5.lb, h5.lc, h5.ld, addI_32, xorI_32]
  obtain ⟨m6, cs6, e6, h6, n6, l6, o6⟩ := h5.setd (v := rotr (d1 ^^^ a2) 8) nad nbd ncd
  rw [e6]
  clear e6
  generalize g6 : rotr (d1 ^^^ a2) 8 = d2 at h6 ⊢
  refine w_keep (fun e => e.n = 88 ∧ e.get 0 = .pointer (some ⟨b, ia, none⟩) ∧ e.get 1 = .pointer (some ⟨b, ib, none⟩) ∧ e.get 2 = .pointer (some ⟨b, ic, none⟩) ∧ e.get 3 = .pointer (some ⟨b, id, none⟩) ∧ e.get 4 = w32 x ∧ e.get 5 = w32 y) ⟨by simp (maxSteps := 2000000) (disch := (first | assumption | omega | (simp only [Option.isSome_some, List.all_cons, List.all_nil, Bool.and_self, List.length_cons, List.length_nil, writable_rw, one_int, one_bool, one_str, one_slice, one_ptr, one_map]) | decide)) only [StepL, Env.eval, ↓wput_some, ↓wput_none, reduceIte, Nat.reduceEqDiff, Nat.reduceLT, Nat.reduceAdd, Nat.reduceSub, Nat.reduceMul, Nat.reduceBEq, reduceCtorEq, he, q0, q1, q2, q3, q4, q5], by simp (maxSteps := 2000000) (disch := (first | assumption | omega | (simp only [Option.isSome_some, List.all_cons, List.all_nil, Bool.and_self, List.length_cons, List.length_nil, writable_rw, one_int, one_bool, one_str, one_slice, one_ptr, one_map]) | decide)) only [StepL, Env.eval, ↓wput_some, ↓wput_none, reduceIte, Nat.reduceEqDiff, Nat.reduceLT, Nat.reduceAdd, Nat.reduceSub, Nat.reduceMul, Nat.reduceBEq, reduceCtorEq, he, q0, q1, q2, q3, q4, q5], by simp (maxSteps := 2000000) (disch := (first | assumption | omega | (simp only [Option.isSome_some, List.all_cons, List.all_nil, Bool.and_self, List.length_cons, List.length_nil, writable_rw, one_int, one_bool, one_str, one_slice, one_ptr, one_map]) | decide)) only [StepL, Env.eval, ↓wput_some, ↓wput_none, reduceIte, Nat.reduceEqDiff, Nat.reduceLT, Nat.reduceAdd, Nat.reduceSub, Nat.reduceMul, Nat.reduceBEq, reduceCtorEq, he, q0, q1, q2, q3, q4, q5], by simp (maxSteps := 2000000) (disch := (first | assumption | omega | (simp only [Option.isSome_some, List.all_cons, List.all_nil, Bool.and_self, List.length_cons, List.length_nil, writable_rw, one_int, one_bool, one_str, one_slice, one_ptr, one_map]) | decide)) only [StepL, Env.eval, ↓wput_some, ↓wput_none, reduceIte, Nat.reduceEqDiff, Nat.reduceLT, Nat.reduceAdd, Nat.reduceSub, Nat.reduceMul, Nat.reduceBEq, reduceCtorEq, he, q0, q1, q2, q3, q4, q5], by simp (maxSteps := 2000000) (disch := (first | assumption | omega | (simp only [Option.isSome_some, List.all_cons, List.all_nil, Bool.and_self, List.length_cons, List.length_nil, writable_rw, one_int, one_bool, one_str, one_slice, one_ptr, one_map]) | decide)) only [StepL, Env.eval, ↓wput_some, ↓wput_none, reduceIte, Nat.reduceEqDiff, Nat.reduceLT, Nat.reduceAdd, Nat.reduceSub, Nat.reduceMul, Nat.reduceBEq, reduceCtorEq, he, q0, q1, q2, q3, q4, q5], by simp (maxSteps := 2000000) (disch := (first | assumption | omega | (simp only [Option.isSome_some, List.all_cons, List.all_nil, Bool.and_self, List.length_cons, List.length_nil, writable_rw, one_int, one_bool, one_str, one_slice, one_ptr, one_map]) | decide)) only [StepL, Env.eval, ↓wput_some, ↓wput_none, reduceIte, Nat.reduceEqDiff, Nat.reduceLT, Nat.reduceAdd, Nat.reduceSub, Nat.reduceMul, Nat.reduceBEq, reduceCtorEq, he, q0, q1, q2, q3, q4, q5], by simp (maxSteps := 2000000) (disch := (first | assumption | omega | (simp only [Option.isSome_some, List.all_cons, List.all_nil, Bool.and_self, List.length_cons, List.length_nil, writable_rw, one_int, one_bool, one_str, one_slice, one_ptr, one_map]) | decide)) only [StepL, Env.eval, ↓wput_some, ↓wput_none, reduceIte, Nat.reduceEqDiff, Nat.reduceLT, Nat.reduceAdd, Nat.reduceSub, Nat.reduceMul, Nat.reduceBEq, reduceCtorEq, he, q0, q1, q2, q3, q4, q5]⟩ ?_
  clear he q0 q1 q2 q3 q4 q5 e
  rintro e ⟨he, q0, q1, q2, q3, q4, q5⟩
  refine w_seq (w_draw [0, 1, 3, 0, 8, 24, 63, 127, 255] (by kernel_rfl) ?_)
  simp (maxSteps := 2000000) (disch := (first | assumption | omega | (simp only [F83, Option.isSome_some, List.all_cons, List.all_nil, Bool.and_self, List.length_cons, List.length_nil, writable_rw, one_int, one_bool, one_str, one_slice, one_ptr, one_map]) | decide)) only [StepL, Env.eval, ↓wput_some, ↓wput_none, reduceIte, Nat.reduceEqDiff, Nat.reduceLT, Nat.reduceAdd, Nat.reduceSub, Nat.reduceMul, Nat.reduceBEq, reduceCtorEq, F83, andThen, he, q0, q1, q2, q3, q4, q5, h6.hm, h6.ha, h6.hb, h6.hc, h6.hd, h6.la, h6.lb, h6.lc, h6.ld, addI_32, xorI_32]
  obtain ⟨m7, cs7, e7, h7, n7, l7, o7⟩ := h6.setc (v := c1 + d2) nac nbc ncd
  rw [e7]
  clear e7
  generalize g7 : c1 + d2 = c2 at h7 ⊢
  refine w_keep (fun e => e.n = 88 ∧ e.get 0 = .pointer (some ⟨b, ia, none⟩) ∧ e.get 1 = .pointer (some ⟨b, ib, none⟩) ∧ e.get 2 = .pointer (some ⟨b, ic, none⟩) ∧ e.get 3 = .pointer (some ⟨b, id, none⟩) ∧ e.get 4 = w32 x ∧ e.get 5 = w32 y) ⟨by simp (maxSteps := 2000000) (disch := (first | assumption | omega | (simp only [Option.isSome_some, List.all_cons, List.all_nil, Bool.and_self, List.length_cons, List.length_nil, writable_rw, one_int, one_bool, one_str, one_slice, one_ptr, one_map]) | decide)) only [StepL, Env.eval, ↓wput_some, ↓wput_none, reduceIte, Nat.reduceEqDiff, Nat.reduceLT, Nat.reduceAdd, Nat.reduceSub, Nat.reduceMul, Nat.reduceBEq, reduceCtorEq, he, q0, q1, q2, q3, q4, q5], by simp (maxSteps := 2000000) (disch := (first | assumption | omega | (simp only [Option.isSome_some, List.all_cons, List.all_nil, Bool.and_self, List.length_cons, List.length_nil, writable_rw, one_int, one_bool, one_str, one_slice, one_ptr, one_map]) | decide)) only [StepL, Env.eval, ↓wput_some, ↓wput_none, reduceIte, Nat.reduceEqDiff, Nat.reduceLT, Nat.reduceAdd, Nat.reduceSub, Nat.reduceMul, Nat.reduceBEq, reduceCtorEq, he, q0, q1, q2, q3, q4, q5], by simp (maxSteps := 2000000) (disch := (first | assumption | omega | (simp only [Option.isSome_some, List.all_cons, List.all_nil, Bool.and_self, List.length_cons, List.length_nil, writable_rw, one_int, one_bool, one_str, one_slice, one_ptr, one_map]) | decide)) only [StepL, Env.eval, ↓wput_some, ↓wput_none, reduceIte, Nat.reduceEqDiff, Nat.reduceLT, Nat.reduceAdd, Nat.reduceSub, Nat.reduceMul, Nat.reduceBEq, reduceCtorEq, he, q0, q1, q2, q3, q4, q5], by simp (maxSteps := 2000000) (disch := (first | assumption | omega | (simp only [Option.isSome_some, List.all_cons, List.all_nil, Bool.and_self, List.length_cons, List.length_nil, writable_rw, one_int, one_bool, one_str, one_slice, one_ptr, one_map]) | decide)) only [StepL, Env.eval, ↓wput_some, ↓wput_none, reduceIte, Nat.reduceEqDiff, Nat.reduceLT, Nat.reduceAdd, Nat.reduceSub, Nat.reduceMul, Nat.reduceBEq, reduceCtorEq, he, q0, q1, q2, q3, q4, q5], by simp (maxSteps := 2000000) (disch := (first | assumption | omega | (simp only [Option.isSome_some, List.all_cons, List.all_nil, Bool.and_self, List.length_cons, List.length_nil, writable_rw, one_int, one_bool, one_str, one_slice, one_ptr, one_map]) | decide)) only [StepL, Env.eval, ↓wput_some, ↓wput_none, reduceIte, Nat.reduceEqDiff, Nat.reduceLT, Nat.reduceAdd, Nat.reduceSub, Nat.reduceMul, Nat.reduceBEq, reduceCtorEq, he, q0, q1, q2, q3, q4, q5], by simp (maxSteps := 2000000) (disch := (first | assumption | omega | (simp only [Option.isSome_some, List.all_cons, List.all_nil, Bool.and_self, List.length_cons, List.length_nil, writable_rw, one_int, one_bool, one_str, one_slice, one_ptr, one_map]) | decide)) only [StepL, Env.eval, ↓wput_some, ↓wput_none, reduceIte, Nat.reduceEqDiff, Nat.reduceLT, Nat.reduceAdd, Nat.reduceSub, Nat.reduceMul, Nat.reduceBEq, reduceCtorEq, he, q0, q1, q2, q3, q4, q5], by simp (maxSteps := 2000000) (disch := (first | assumption | omega | (simp only [Option.isSome_some, List.all_cons, List.all_nil, Bool.and_self, List.length_cons, List.length_nil, writable_rw, one_int, one_bool, one_str, one_slice, one_ptr, one_map]) | decide)) only [StepL, Env.eval, ↓wput_some, ↓wput_none, reduceIte, Nat.reduceEqDiff, Nat.reduceLT, Nat.reduceAdd, Nat.reduceSub, Nat.reduceMul, Nat.reduceBEq, reduceCtorEq, he, q0, q1, q2, q3, q4, q5]⟩ ?_
  clear he q0 q1 q2 q3 q4 q5 e
  rintro e ⟨he, q0, q1, q2, q3, q4, q5⟩
  refine (w_draw [0, 0, 2, 6, 0, 16, 48, 126, 254, 511, 1023] (by kernel_rfl) ?_)
  simp (maxSteps := 2000000) (disch := (first | assumption | omega | (simp only [F83, Option.isSome_some, List.all_cons, List.all_nil, Bool.and_self, List.length_cons, List.length_nil, writable_rw, one_int, one_bool, one_str, one_slice, one_ptr, one_map]) | decide)) only [StepL, Env.eval, ↓wput_some, ↓wput_none, reduceIte, Nat.reduceEqDiff, Nat.reduceLT, Nat.reduceAdd, Nat.reduceSub, Nat.reduceMul, Nat.reduceBEq, reduceCtorEq, F83, andThen, he, q0, q1, q2, q3, q4, q5, h7.hm, h7.ha, h7.hb, h7.hc, h7.hd, h7.la, h7.lb, h7.lc, h7.ld, addI_32, xorI_32]
  refine wcall_pu rot7 ?_
  simp (maxSteps := 2000000) (disch := (first | assumption | omega | (simp only [F83, Option.isSome_some, List.all_cons, List.all_nil, Bool.and_self, List.length_cons, List.length_nil, writable_rw, one_int, one_bool, one_str, one_slice, one_ptr, one_map]) | decide)) only [StepL, Env.eval, ↓wput_some, ↓wput_none, reduceIte, Nat.reduceEqDiff, Nat.reduceLT, Nat.reduceAdd, Nat.reduceSub, Nat.reduceMul, Nat.reduceBEq, reduceCtorEq, F83, andThen, he, q0, q1, q2, q3, q4, q5, h7.hm, h7.ha, h7.hb, h7.hc, h7.hd, h7.la, h7.lb, h7.lc, h7.ld, addI_32, xorI_32]
  obtain ⟨m8, cs8, e8, h8, n8, l8, o8⟩ := h7.setb (v := rotr (b1 ^^^ c2) 7) nab nbc nbd
  rw [e8]
  clear e8
  generalize g8 : rotr (b1 ^^^ c2) 7 = b2 at h8 ⊢
  refine ret_none (.inr rfl) Tryd.results83 ⟨rfl, by omega, cs8, ?_, by omega, fun j ja jb jc jd => ?_⟩
  · simp only [mixW, g1, g2, g3, g4, g5, g6, g7, g8]; exact h8
  · rw [o8 j jb, o7 j jc, o6 j jd, o5 j ja, o4 j jb, o3 j jc, o2 j jd, o1 j ja]

end Go.Big

/- The tables of the hash. -/
set_option linter.unusedSimpArgs false
set_option maxRecDepth 100000
set_option maxHeartbeats 8000000
namespace Go.Big
open Go.Proofs

def ivW : List UInt32 := [0x6a09e667, 0xbb67ae85, 0x3c6ef372, 0xa54ff53a, 0x510e527f, 0x9b05688c, 0x1f83d9ab, 0x5be0cd19]
def w32s (l : List UInt32) : List Value := l.map w32

theorem ct_mono {P : Program} {S : Cfg} {g : FuncId} {args : List Value} {m : Mem} {L : List Nat} {Q Q' : COut → Mem → Prop} (h : Ct P S g args m L Q) (hq : ∀ o m', Q o m' → Q' o m') : Ct P S g args m L Q' := by
  obtain ⟨o, m', w, h1, h2, h3⟩ := h
  exact ⟨o, m', w, h1, h2, hq _ _ h3⟩

theorem start_ct {m : Mem} : Ct Tryd.prog S0 74 [] m [] (fun out _ => out = .ret (.agg (w32s ivW).toArray)) := by
  refine ct_body (spec0 _) (by rfl) Tryd.func74 rfl ?_
  rw [Tryd.ntmps74]
  simp only [ofArgs_nil]
  refine w_seq (w_region ?_)
  simp (maxSteps := 2000000) (disch := (first | assumption | omega | (simp only [F74, Option.isSome_some, List.all_cons, List.all_nil, Bool.and_self, List.length_cons, List.length_nil, writable_rw, one_int, one_bool, one_str, one_slice, one_ptr, one_map]) | decide)) only [StepL, Env.eval, ↓wput_some, ↓wput_none, reduceIte, Nat.reduceEqDiff, Nat.reduceLT, Nat.reduceAdd, Nat.reduceSub, Nat.reduceMul, Nat.reduceBEq, reduceCtorEq, F74, andThen]
  refine w_seq (w_region ?_)
  simp (maxSteps := 2000000) (disch := (first | assumption | omega | (simp only [F74, Option.isSome_some, List.all_cons, List.all_nil, Bool.and_self, List.length_cons, List.length_nil, writable_rw, one_int, one_bool, one_str, one_slice, one_ptr, one_map]) | decide)) only [StepL, Env.eval, ↓wput_some, ↓wput_none, reduceIte, Nat.reduceEqDiff, Nat.reduceLT, Nat.reduceAdd, Nat.reduceSub, Nat.reduceMul, Nat.reduceBEq, reduceCtorEq, F74, andThen, size_agg]
  refine w_ret (ret_cell (.inl rfl) Tryd.results74 (b := m.next) (o := 0) (v := .agg (w32s ivW).toArray) ?_ ?_ rfl)
  · simp (maxSteps := 2000000) (disch := (first | assumption | omega | (simp only [Option.isSome_some, List.all_cons, List.all_nil, Bool.and_self, List.length_cons, List.length_nil, writable_rw, one_int, one_bool, one_str, one_slice, one_ptr, one_map]) | decide)) only [StepL, Env.eval, ↓wput_some, ↓wput_none, reduceIte, Nat.reduceEqDiff, Nat.reduceLT, Nat.reduceAdd, Nat.reduceSub, Nat.reduceMul, Nat.reduceBEq, reduceCtorEq]
  · simp (maxSteps := 2000000) (disch := (first | assumption | omega | (simp only [F74, Option.isSome_some, List.all_cons, List.all_nil, Bool.and_self, List.length_cons, List.length_nil, writable_rw, one_int, one_bool, one_str, one_slice, one_ptr, one_map]) | decide)) only [StepL, Env.eval, ↓wput_some, ↓wput_none, reduceIte, Nat.reduceEqDiff, Nat.reduceLT, Nat.reduceAdd, Nat.reduceSub, Nat.reduceMul, Nat.reduceBEq, reduceCtorEq, F74, loadRow_agg]
    rfl

def sigma : List (List Nat) := [
  [0, 1, 2, 3, 4, 5, 6, 7, 8, 9, 10, 11, 12, 13, 14, 15],
  [14, 10, 4, 8, 9, 15, 13, 6, 1, 12, 0, 2, 11, 7, 5, 3],
  [11, 8, 12, 0, 5, 2, 15, 13, 10, 14, 3, 6, 7, 1, 9, 4],
  [7, 9, 3, 1, 13, 12, 11, 14, 2, 6, 5, 10, 4, 0, 15, 8],
  [9, 0, 5, 7, 2, 4, 10, 15, 14, 1, 11, 12, 6, 8, 3, 13],
  [2, 12, 6, 10, 0, 11, 8, 3, 4, 13, 7, 5, 15, 14, 1, 9],
  [12, 5, 1, 15, 14, 13, 4, 10, 0, 7, 6, 3, 9, 2, 8, 11],
  [13, 11, 7, 14, 12, 1, 3, 9, 5, 0, 15, 4, 8, 6, 2, 10],
  [6, 15, 14, 9, 11, 3, 0, 8, 12, 2, 13, 7, 1, 4, 10, 5],
  [10, 2, 8, 4, 7, 6, 1, 5, 15, 11, 9, 14, 3, 12, 13, 0]]
def sigmaCells : List Value := sigma.flatten.map fun (n : Nat) => .int .u8 (n : Int)

theorem rows_ct {m : Mem} : Ct Tryd.prog S0 82 [] m [] (fun out _ => out = .ret (.agg sigmaCells.toArray)) := by
  refine ct_body (spec0 _) (by rfl) Tryd.func82 rfl ?_
  rw [Tryd.ntmps82]
  simp only [ofArgs_nil]
  refine w_seq (w_region ?_)
  simp (maxSteps := 2000000) (disch := (first | assumption | omega | (simp only [F82, Option.isSome_some, List.all_cons, List.all_nil, Bool.and_self, List.length_cons, List.length_nil, writable_rw, one_int, one_bool, one_str, one_slice, one_ptr, one_map]) | decide)) only [StepL, Env.eval, ↓wput_some, ↓wput_none, reduceIte, Nat.reduceEqDiff, Nat.reduceLT, Nat.reduceAdd, Nat.reduceSub, Nat.reduceMul, Nat.reduceBEq, reduceCtorEq, F82, andThen]
  refine w_seq (w_region ?_)
  simp (maxSteps := 2000000) (disch := (first | assumption | omega | (simp only [F82, Option.isSome_some, List.all_cons, List.all_nil, Bool.and_self, List.length_cons, List.length_nil, writable_rw, one_int, one_bool, one_str, one_slice, one_ptr, one_map]) | decide)) only [StepL, Env.eval, ↓wput_some, ↓wput_none, reduceIte, Nat.reduceEqDiff, Nat.reduceLT, Nat.reduceAdd, Nat.reduceSub, Nat.reduceMul, Nat.reduceBEq, reduceCtorEq, F82, andThen]
  refine w_ret (ret_cell (.inl rfl) Tryd.results82 (b := m.next) (o := 0) (v := .agg sigmaCells.toArray) ?_ ?_ rfl)
  · simp (maxSteps := 2000000) (disch := (first | assumption | omega | (simp only [Option.isSome_some, List.all_cons, List.all_nil, Bool.and_self, List.length_cons, List.length_nil, writable_rw, one_int, one_bool, one_str, one_slice, one_ptr, one_map]) | decide)) only [StepL, Env.eval, ↓wput_some, ↓wput_none, reduceIte, Nat.reduceEqDiff, Nat.reduceLT, Nat.reduceAdd, Nat.reduceSub, Nat.reduceMul, Nat.reduceBEq, reduceCtorEq]
  · simp (maxSteps := 2000000) (disch := (first | assumption | omega | (simp only [F82, Option.isSome_some, List.all_cons, List.all_nil, Bool.and_self, List.length_cons, List.length_nil, writable_rw, one_int, one_bool, one_str, one_slice, one_ptr, one_map]) | decide)) only [StepL, Env.eval, ↓wput_some, ↓wput_none, reduceIte, Nat.reduceEqDiff, Nat.reduceLT, Nat.reduceAdd, Nat.reduceSub, Nat.reduceMul, Nat.reduceBEq, reduceCtorEq, F82, loadRow_agg]
    rfl

end Go.Big

/- The compression function of the hash. -/
set_option linter.unusedSimpArgs false
set_option maxRecDepth 100000
set_option maxHeartbeats 8000000
namespace Go.Big
open Go.Proofs

def blkWord (l : List UInt8) (i : Nat) : UInt32 :=
  (((l.getD (4 * i) 0).toUInt32 ||| (l.getD (4 * i + 1) 0).toUInt32 <<< 8) ||| (l.getD (4 * i + 2) 0).toUInt32 <<< 16) ||| (l.getD (4 * i + 3) 0).toUInt32 <<< 24

/-- One word of the message. -/
theorem u8_at {l : List UInt8} {bs : List Value} {bo i : Nat} (hB : (bs.drop bo).take 64 = u8s l) (hi : i < l.length) : bs[bo + i]? = some (.int .u8 ((l.getD i 0).toNat : Int)) := by
  have h1 : i < (u8s l).length := by rw [u8s_length]; exact hi
  rw [take_drop_get hB h1, u8s_get (b := l.getD i 0)]
  simp [hi]

/-- The words of the message. -/
theorem words_loop {m m0 : Mem} (hw : WF m) {L : List Nat} {hv lastv : Value} {bb bo bc mb : Nat} {bs : List Value} {l : List UInt8} (hbk : m0.get bb = some (.row bs .rw)) (hB : (bs.drop bo).take 64 = u8s l) (lB : l.length = 64) (hc : 64 ≤ bc) {t : Nat}
    (hb0 : bb < m0.next) (hmb : m0.next ≤ mb) (hmn : mb < m.next) (hfr : ∀ b, b < m0.next → m.get b = m0.get b) (hm : m.get mb = some (.row (fillV 16 (fun j => w32 (blkWord l j)) (fun _ => w32 0) 0) .rw)) {e : Env} (he : e.n = 173) (q0 : e.get 0 = hv) (q1 : e.get 1 = .slice (some ⟨bb, bo, none⟩) 64 bc)
    (q2 : e.get 2 = .int .u64 (t : Int)) (q3 : e.get 3 = lastv) (q8 : e.get 8 = .pointer (some ⟨mb, 0, none⟩)) (q18 : e.get 18 = .int .i64 ((0 : Nat) : Int)) {Q : Ex → Env → Mem → Prop}
    (hQ : ∀ e' m', WF m' → m'.next = m.next → (∀ b, b < m0.next → m'.get b = m0.get b) → m'.get mb = some (.row (fillV 16 (fun j => w32 (blkWord l j)) (fun _ => w32 0) 16) .rw) → e'.n = 173 → e'.get 0 = hv → e'.get 2 = .int .u64 (t : Int) → e'.get 3 = lastv →
      e'.get 8 = .pointer (some ⟨mb, 0, none⟩) → Q .normal e' m') : W Tryd.prog S0 m0.next L (sub (bodyOf Tryd.f75) [true, false, true]) e m Q := by
  refine w_block (w_loop (fun k e m1 => ∃ i, i + k = 16 ∧ e.n = 173 ∧ e.get 0 = hv ∧ e.get 1 = .slice (some ⟨bb, bo, none⟩) 64 bc ∧ e.get 2 = .int .u64 (t : Int) ∧ e.get 3 = lastv ∧ e.get 8 = .pointer (some ⟨mb, 0, none⟩) ∧ e.get 18 = .int .i64 ((i : Nat) : Int) ∧
    WF m1 ∧ m1.next = m.next ∧ (∀ b, b < m0.next → m1.get b = m0.get b) ∧ m1.get mb = some (.row (fillV 16 (fun j => w32 (blkWord l j)) (fun _ => w32 0) i) .rw)) 16 ⟨0, by omega, he, q0, q1, q2, q3, q8, q18, hw, rfl, hfr, hm⟩ ?_)
  rintro k e1 m1 ⟨i, hi, he, q0, q1, q2, q3, q8, q18, hw1, hn1, hf1, hm1⟩
  refine w_seq (w_region ?_)
  simp (maxSteps := 2000000) (disch := (first | assumption | omega | (simp only [F75, Option.isSome_some, List.all_cons, List.all_nil, Bool.and_self, List.length_cons, List.length_nil, writable_rw, one_int, one_bool, one_str, one_slice, one_ptr, one_map]) | decide)) only [StepL, Env.eval, ↓wput_some, ↓wput_none, reduceIte, Nat.reduceEqDiff, Nat.reduceLT, Nat.reduceAdd, Nat.reduceSub, Nat.reduceMul, Nat.reduceBEq, reduceCtorEq, F75, andThen, he, q18]
  refine w_seq (w_cond (t := decide ((i : Int) < 16)) (by simp (maxSteps := 2000000) (disch := (first | assumption | omega | (simp only [Option.isSome_some, List.all_cons, List.all_nil, Bool.and_self, List.length_cons, List.length_nil, writable_rw, one_int, one_bool, one_str, one_slice, one_ptr, one_map]) | decide)) only [StepL, Env.eval, ↓wput_some, ↓wput_none, reduceIte, Nat.reduceEqDiff, Nat.reduceLT, Nat.reduceAdd, Nat.reduceSub, Nat.reduceMul, Nat.reduceBEq, reduceCtorEq]) (fun ht => ?_) (fun ht => ?_))
  · have hk : i < 16 := by simp at ht; omega
    refine w_skip (w_seq (w_block (w_seq (w_region ?_))))
    have hbb : m1.get bb = some (.row bs .rw) := by rw [hf1 bb hb0]; exact hbk
    have e1' : IntKind.wrap .i64 (4 * (i : Int)) = ((4 * i : Nat) : Int) := by rw [wrap_i64 (by omega) (by omega)]; omega
    have e2' : IntKind.wrap .i64 (((4 * i : Nat) : Int) + 4) = ((4 * i + 4 : Nat) : Int) := by rw [wrap_i64 (by omega) (by omega)]; omega
    have e3' : IntKind.wrap .i64 ((i : Int) + 1) = ((i + 1 : Nat) : Int) := by rw [wrap_i64 (by omega) (by omega)]; omega
    simp (maxSteps := 2000000) (disch := (first | assumption | omega | (simp only [F75, Option.isSome_some, List.all_cons, List.all_nil, Bool.and_self, List.length_cons, List.length_nil, writable_rw, one_int, one_bool, one_str, one_slice, one_ptr, one_map]) | decide)) only [StepL, Env.eval, ↓wput_some, ↓wput_none, reduceIte, Nat.reduceEqDiff, Nat.reduceLT, Nat.reduceAdd, Nat.reduceSub, Nat.reduceMul, Nat.reduceBEq, reduceCtorEq, F75, andThen, he, q18]
    refine w_seq (w_region ?_)
    simp (maxSteps := 2000000) (disch := (first | assumption | omega | (simp only [F75, Option.isSome_some, List.all_cons, List.all_nil, Bool.and_self, List.length_cons, List.length_nil, writable_rw, one_int, one_bool, one_str, one_slice, one_ptr, one_map]) | decide)) only [StepL, Env.eval, ↓wput_some, ↓wput_none, reduceIte, Nat.reduceEqDiff, Nat.reduceLT, Nat.reduceAdd, Nat.reduceSub, Nat.reduceMul, Nat.reduceBEq, reduceCtorEq, F75, andThen, he, q18, q1, e1', e2']
    rw [aslice_max hbb (by simp only [F75]) (by omega) (by omega) (by omega) (by omega)]
    simp (maxSteps := 2000000) (disch := (first | assumption | omega | (simp only [F75, Option.isSome_some, List.all_cons, List.all_nil, Bool.and_self, List.length_cons, List.length_nil, writable_rw, one_int, one_bool, one_str, one_slice, one_ptr, one_map]) | decide)) only [StepL, Env.eval, ↓wput_some, ↓wput_none, reduceIte, Nat.reduceEqDiff, Nat.reduceLT, Nat.reduceAdd, Nat.reduceSub, Nat.reduceMul, Nat.reduceBEq, reduceCtorEq, F75, andThen, he, q18, q1, e1', e2']
    refine w_draw [0, 0, 2, 6, 14, 0, 32, 96, 224, 480, 1022, 0, 2048, 6144, 14336, 30720, 65534, 0, 131072, 393216, 917504, 1966080, 4194302, 8388607, 16777215] (by kernel_rfl) ?_
    have hx0 : bs[bo + 4 * i]? = some (.int .u8 ((l.getD (4 * i) 0).toNat : Int)) := u8_at hB (by omega)
    have hx1 : bs[bo + 4 * i + 1]? = some (.int .u8 ((l.getD (4 * i + 1) 0).toNat : Int)) := by rw [Nat.add_assoc]; exact u8_at hB (by omega)
    have hx2 : bs[bo + 4 * i + 2]? = some (.int .u8 ((l.getD (4 * i + 2) 0).toNat : Int)) := by rw [Nat.add_assoc]; exact u8_at hB (by omega)
    have hx3 : bs[bo + 4 * i + 3]? = some (.int .u8 ((l.getD (4 * i + 3) 0).toNat : Int)) := by rw [Nat.add_assoc]; exact u8_at hB (by omega)
    simp (maxSteps := 2000000) (disch := (first | assumption | omega | (simp only [F75, Option.isSome_some, List.all_cons, List.all_nil, Bool.and_self, List.length_cons, List.length_nil, writable_rw, one_int, one_bool, one_str, one_slice, one_ptr, one_map]) | decide)) only [StepL, Env.eval, ↓wput_some, ↓wput_none, reduceIte, Nat.reduceEqDiff, Nat.reduceLT, Nat.reduceAdd, Nat.reduceSub, Nat.reduceMul, Nat.reduceBEq, reduceCtorEq, F75, andThen, he, q18, q1, q8, hbb, Nat.add_sub_cancel_left, hx0, hx1, hx2, hx3, u8_u32, shl8, shl16, shl24, orI_32, hm1, fillV_length, hk]
    refine w_region ?_
    simp (maxSteps := 2000000) (disch := (first | assumption | omega | (simp only [F75, Option.isSome_some, List.all_cons, List.all_nil, Bool.and_self, List.length_cons, List.length_nil, writable_rw, one_int, one_bool, one_str, one_slice, one_ptr, one_map]) | decide)) only [StepL, Env.eval, ↓wput_some, ↓wput_none, reduceIte, Nat.reduceEqDiff, Nat.reduceLT, Nat.reduceAdd, Nat.reduceSub, Nat.reduceMul, Nat.reduceBEq, reduceCtorEq, F75, andThen, he, q18, e3']
    refine ⟨k - 1, by omega, i + 1, by omega, by simp (maxSteps := 2000000) (disch := (first | assumption | omega | (simp only [Option.isSome_some, List.all_cons, List.all_nil, Bool.and_self, List.length_cons, List.length_nil, writable_rw, one_int, one_bool, one_str, one_slice, one_ptr, one_map]) | decide)) only [StepL, Env.eval, ↓wput_some, ↓wput_none, reduceIte, Nat.reduceEqDiff, Nat.reduceLT, Nat.reduceAdd, Nat.reduceSub, Nat.reduceMul, Nat.reduceBEq, reduceCtorEq, he], by simp (maxSteps := 2000000) (disch := (first | assumption | omega | (simp only [Option.isSome_some, List.all_cons, List.all_nil, Bool.and_self, List.length_cons, List.length_nil, writable_rw, one_int, one_bool, one_str, one_slice, one_ptr, one_map]) | decide)) only [StepL, Env.eval, ↓wput_some, ↓wput_none, reduceIte, Nat.reduceEqDiff, Nat.reduceLT, Nat.reduceAdd, Nat.reduceSub, Nat.reduceMul, Nat.reduceBEq, reduceCtorEq, q0], by simp (maxSteps := 2000000) (disch := (first | assumption | omega | (simp only [Option.isSome_some, List.all_cons, List.all_nil, Bool.and_self, List.length_cons, List.length_nil, writable_rw, one_int, one_bool, one_str, one_slice, one_ptr, one_map]) | decide)) only [StepL, Env.eval, ↓wput_some, ↓wput_none, reduceIte, Nat.reduceEqDiff, Nat.reduceLT, Nat.reduceAdd, Nat.reduceSub, Nat.reduceMul, Nat.reduceBEq, reduceCtorEq, q1], by simp (maxSteps := 2000000) (disch := (first | assumption | omega | (simp only [Option.isSome_some, List.all_cons, List.all_nil, Bool.and_self, List.length_cons, List.length_nil, writable_rw, one_int, one_bool, one_str, one_slice, one_ptr, one_map]) | decide)) only [StepL, Env.eval, ↓wput_some, ↓wput_none, reduceIte, Nat.reduceEqDiff, Nat.reduceLT, Nat.reduceAdd, Nat.reduceSub, Nat.reduceMul, Nat.reduceBEq, reduceCtorEq, q2], by simp (maxSteps := 2000000) (disch := (first | assumption | omega | (simp only [Option.isSome_some, List.all_cons, List.all_nil, Bool.and_self, List.length_cons, List.length_nil, writable_rw, one_int, one_bool, one_str, one_slice, one_ptr, one_map]) | decide)) only [StepL, Env.eval, ↓wput_some, ↓wput_none, reduceIte, Nat.reduceEqDiff, Nat.reduceLT, Nat.reduceAdd, Nat.reduceSub, Nat.reduceMul, Nat.reduceBEq, reduceCtorEq, q3], by simp (maxSteps := 2000000) (disch := (first | assumption | omega | (simp only [Option.isSome_some, List.all_cons, List.all_nil, Bool.and_self, List.length_cons, List.length_nil, writable_rw, one_int, one_bool, one_str, one_slice, one_ptr, one_map]) | decide)) only [StepL, Env.eval, ↓wput_some, ↓wput_none, reduceIte, Nat.reduceEqDiff, Nat.reduceLT, Nat.reduceAdd, Nat.reduceSub, Nat.reduceMul, Nat.reduceBEq, reduceCtorEq, q8], by simp (maxSteps := 2000000) (disch := (first | assumption | omega | (simp only [Option.isSome_some, List.all_cons, List.all_nil, Bool.and_self, List.length_cons, List.length_nil, writable_rw, one_int, one_bool, one_str, one_slice, one_ptr, one_map]) | decide)) only [StepL, Env.eval, ↓wput_some, ↓wput_none, reduceIte, Nat.reduceEqDiff, Nat.reduceLT, Nat.reduceAdd, Nat.reduceSub, Nat.reduceMul, Nat.reduceBEq, reduceCtorEq], WF.set hw1 (by omega), by simp (maxSteps := 2000000) (disch := (first | assumption | omega | (simp only [Option.isSome_some, List.all_cons, List.all_nil, Bool.and_self, List.length_cons, List.length_nil, writable_rw, one_int, one_bool, one_str, one_slice, one_ptr, one_map]) | decide)) only [StepL, Env.eval, ↓wput_some, ↓wput_none, reduceIte, Nat.reduceEqDiff, Nat.reduceLT, Nat.reduceAdd, Nat.reduceSub, Nat.reduceMul, Nat.reduceBEq, reduceCtorEq, hn1], fun b hb => ?_, ?_⟩
    · rw [Mem.get_set, if_neg (by omega)]; exact hf1 b hb
    · rw [Mem.get_set, if_pos rfl]
      have := fillV_set (n := 16) (f := fun j => w32 (blkWord l j)) (g := fun _ => w32 0) (i := i)
      rw [← this]
      rfl
  · have hk : i = 16 := by simp at ht; omega
    subst hk
    refine w_exit ?_
    simp only [andThen, round, inBlock, if_true]
    exact hQ _ _ hw1 hn1 hf1 hm1 (by simp (maxSteps := 2000000) (disch := (first | assumption | omega | (simp only [Option.isSome_some, List.all_cons, List.all_nil, Bool.and_self, List.length_cons, List.length_nil, writable_rw, one_int, one_bool, one_str, one_slice, one_ptr, one_map]) | decide)) only [StepL, Env.eval, ↓wput_some, ↓wput_none, reduceIte, Nat.reduceEqDiff, Nat.reduceLT, Nat.reduceAdd, Nat.reduceSub, Nat.reduceMul, Nat.reduceBEq, reduceCtorEq, he]) (by simp (maxSteps := 2000000) (disch := (first | assumption | omega | (simp only [Option.isSome_some, List.all_cons, List.all_nil, Bool.and_self, List.length_cons, List.length_nil, writable_rw, one_int, one_bool, one_str, one_slice, one_ptr, one_map]) | decide)) only [StepL, Env.eval, ↓wput_some, ↓wput_none, reduceIte, Nat.reduceEqDiff, Nat.reduceLT, Nat.reduceAdd, Nat.reduceSub, Nat.reduceMul, Nat.reduceBEq, reduceCtorEq, q0]) (by simp (maxSteps := 2000000) (disch := (first | assumption | omega | (simp only [Option.isSome_some, List.all_cons, List.all_nil, Bool.and_self, List.length_cons, List.length_nil, writable_rw, one_int, one_bool, one_str, one_slice, one_ptr, one_map]) | decide)) only [StepL, Env.eval, ↓wput_some, ↓wput_none, reduceIte, Nat.reduceEqDiff, Nat.reduceLT, Nat.reduceAdd, Nat.reduceSub, Nat.reduceMul, Nat.reduceBEq, reduceCtorEq, q2]) (by simp (maxSteps := 2000000) (disch := (first | assumption | omega | (simp only [Option.isSome_some, List.all_cons, List.all_nil, Bool.and_self, List.length_cons, List.length_nil, writable_rw, one_int, one_bool, one_str, one_slice, one_ptr, one_map]) | decide)) only [StepL, Env.eval, ↓wput_some, ↓wput_none, reduceIte, Nat.reduceEqDiff, Nat.reduceLT, Nat.reduceAdd, Nat.reduceSub, Nat.reduceMul, Nat.reduceBEq, reduceCtorEq, q3]) (by simp (maxSteps := 2000000) (disch := (first | assumption | omega | (simp only [Option.isSome_some, List.all_cons, List.all_nil, Bool.and_self, List.length_cons, List.length_nil, writable_rw, one_int, one_bool, one_str, one_slice, one_ptr, one_map]) | decide)) only [StepL, Env.eval, ↓wput_some, ↓wput_none, reduceIte, Nat.reduceEqDiff, Nat.reduceLT, Nat.reduceAdd, Nat.reduceSub, Nat.reduceMul, Nat.reduceBEq, reduceCtorEq, q8])

end Go.Big

/- The compression function of the hash: what it computes. -/
set_option linter.unusedSimpArgs false
set_option maxRecDepth 100000
set_option maxHeartbeats 8000000
namespace Go.Big
open Go.Proofs

def initV (H : List UInt32) (t : Nat) (last : Bool) : List UInt32 :=
  H ++ [0x6a09e667, 0xbb67ae85, 0x3c6ef372, 0xa54ff53a, 0x510e527f ^^^ UInt32.ofNat t, 0x9b05688c ^^^ UInt32.ofNat (t / 4294967296), if last then 0x1f83d9ab ^^^ 0xffffffff else 0x1f83d9ab, 0x5be0cd19]

/-- The four places of a step. -/
def lane (i : Nat) : Nat × Nat × Nat × Nat :=
  if i < 4 then (i, 4 + i, 8 + i, 12 + i) else (i - 4, 4 + (i - 4 + 1) % 4, 8 + (i - 4 + 2) % 4, 12 + (i - 4 + 3) % 4)

def mixAt (v : List UInt32) (p : Nat × Nat × Nat × Nat) (x y : UInt32) : List UInt32 :=
  let r := mixW (v.getD p.1 0) (v.getD p.2.1 0) (v.getD p.2.2.1 0) (v.getD p.2.2.2 0) x y
  (((v.set p.1 r.a).set p.2.1 r.b).set p.2.2.1 r.c).set p.2.2.2 r.d

def blkWords (l : List UInt8) : List UInt32 := (List.range 16).map (blkWord l)

def stepW (M : List UInt32) (s : List Nat) (v : List UInt32) (i : Nat) : List UInt32 :=
  mixAt v (lane i) (M.getD (s.getD (2 * i) 0) 0) (M.getD (s.getD (2 * i + 1) 0) 0)

def roundW (M : List UInt32) (v : List UInt32) (s : List Nat) : List UInt32 := (List.range 8).foldl (stepW M s) v

def finW (H v : List UInt32) : List UInt32 := (List.range 8).map fun i => H.getD i 0 ^^^ (v.getD i 0 ^^^ v.getD (8 + i) 0)

def compressW (H : List UInt32) (l : List UInt8) (t : Nat) (last : Bool) : List UInt32 := finW H (sigma.foldl (roundW (blkWords l)) (initV H t last))

theorem mixAt_length {v : List UInt32} {p : Nat × Nat × Nat × Nat} {x y : UInt32} : (mixAt v p x y).length = v.length := by simp [mixAt]
theorem stepW_length {M : List UInt32} {s : List Nat} {v : List UInt32} {i : Nat} : (stepW M s v i).length = v.length := mixAt_length
theorem foldl_length {α β : Type} {f : List α → β → List α} (h : ∀ v b, (f v b).length = v.length) : ∀ (l : List β) (v : List α), (l.foldl f v).length = v.length
  | [], v => rfl
  | b :: l, v => by rw [List.foldl_cons, foldl_length h l, h]
theorem roundW_length {M : List UInt32} {s : List Nat} {v : List UInt32} : (roundW M v s).length = v.length := foldl_length (fun _ _ => stepW_length) _ _
theorem compressW_length {H : List UInt32} {l : List UInt8} {t : Nat} {last : Bool} : (compressW H l t last).length = 8 := by simp [compressW, finW]

end Go.Big

/- Going through code by its shape: what each kind of code owes, as equations. -/
set_option linter.unusedSimpArgs false
set_option maxRecDepth 100000
namespace Go.Big
open Go.Proofs

/-- A choice by a truth value. -/
def WC (v : Value) [K : Cont (Bool → Prop)] : Prop := match v with | .bool t => K.k t | _ => False

/-- An operation that is carried out if a guard yielded so. -/
def WG (v : Value) (b : Bool) [K : Cont (Bool → Prop)] : Prop := match v with | .bool t => K.k (t == b) | _ => K.k false

/-- What a piece of code owes, by its shape. -/
def WX (P : Program) (S : Cfg) (base : Nat) (L : List Nat) : Code → Env → Mem → (Ex → Env → Mem → Prop) → Prop
  | .seq a b, e, m, Q => WX P S base L a e m fun x e m => match x with | .normal => WX P S base L b e m Q | .exit i => Q (.exit i) e m | .ret => Q .ret e m | .panic v => Q (.panic v) e m
  | .region id ops d, e, m, Q => match d with | true => W P S base L (.region id ops true) e m Q | false => WO P S base L ops Q ops.toList e m
  | .cond c a b, e, m, Q => @WC (e.eval c) ⟨fun t => bif t then WX P S base L a e m Q else WX P S base L b e m Q⟩
  | .block id b, e, m, Q => WX P S base L b e m (inBlock id Q)
  | .exit id, e, m, Q => Q (.exit id) e m
  | .ret, e, m, Q => Q .ret e m
  | .skip, e, m, Q => Q .normal e m
  | .label _, e, m, Q => Q .normal e m
  | c, e, m, Q => W P S base L c e m Q

@[congr] theorem wx_congr {P : Program} {S : Cfg} {base : Nat} {L : List Nat} {c : Code} {Q : Ex → Env → Mem → Prop} {e e' : Env} {m m' : Mem} (h : e = e') (h2 : m = m') : WX P S base L c e m Q = WX P S base L c e' m' Q := by rw [h, h2]
@[congr] theorem wc_congr {v v' : Value} {K : Cont (Bool → Prop)} (h : v = v') : @WC v K = @WC v' K := by rw [h]
@[congr] theorem wg_congr {v v' : Value} {b : Bool} {K : Cont (Bool → Prop)} (h : v = v') : @WG v b K = @WG v' b K := by rw [h]

def andX (P : Program) (S : Cfg) (base : Nat) (L : List Nat) (b : Code) (Q : Ex → Env → Mem → Prop) : Ex → Env → Mem → Prop
  | .normal, e, m => WX P S base L b e m Q
  | .exit i, e, m => Q (.exit i) e m
  | .ret, e, m => Q .ret e m
  | .panic v, e, m => Q (.panic v) e m

section
variable {P : Program} {S : Cfg} {base : Nat} {L : List Nat} {e : Env} {m : Mem} {Q : Ex → Env → Mem → Prop} {a b : Code} {c : Operand} {i bi : Nat} {ops : Array Oper} {v : Value}
theorem wx_seq : WX P S base L (.seq a b) e m Q = WX P S base L a e m (andX P S base L b Q) := by
  rw [WX]
  congr 1
  funext x e m
  cases x <;> rfl
theorem wx_region : WX P S base L (.region bi ops false) e m Q = WO P S base L ops Q ops.toList e m := id rfl
theorem wx_cond : WX P S base L (.cond c a b) e m Q = @WC (e.eval c) ⟨fun t => bif t then WX P S base L a e m Q else WX P S base L b e m Q⟩ := id rfl
theorem wx_block : WX P S base L (.block bi b) e m Q = WX P S base L b e m (inBlock bi Q) := id rfl
theorem wx_exit : WX P S base L (.exit bi) e m Q = Q (.exit bi) e m := id rfl
theorem wx_ret : WX P S base L .ret e m Q = Q .ret e m := id rfl
theorem wx_skip : WX P S base L .skip e m Q = Q .normal e m := id rfl
theorem wx_label : WX P S base L (.label i) e m Q = Q .normal e m := id rfl
theorem andX_normal : andX P S base L b Q .normal e m = WX P S base L b e m Q := id rfl
theorem andX_exit : andX P S base L b Q (.exit i) e m = Q (.exit i) e m := id rfl
theorem andX_ret : andX P S base L b Q .ret e m = Q .ret e m := id rfl
theorem andX_panic : andX P S base L b Q (.panic v) e m = Q (.panic v) e m := id rfl
theorem inBlock_normal : inBlock bi Q .normal e m = Q .normal e m := id rfl
theorem inBlock_ret : inBlock bi Q .ret e m = Q .ret e m := id rfl
theorem inBlock_panic : inBlock bi Q (.panic v) e m = Q (.panic v) e m := id rfl
theorem inBlock_self : inBlock bi Q (.exit bi) e m = Q .normal e m := by simp [inBlock]
theorem inBlock_other (h : i ≠ bi) : inBlock bi Q (.exit i) e m = Q (.exit i) e m := by simp [inBlock, h]
theorem round_normal {I : Nat → Env → Mem → Prop} {k : Nat} : round I k Q .normal e m = ∃ j, j < k ∧ I j e m := id rfl
theorem round_exit {I : Nat → Env → Mem → Prop} {k : Nat} : round I k Q (.exit i) e m = Q (.exit i) e m := id rfl
theorem round_ret {I : Nat → Env → Mem → Prop} {k : Nat} : round I k Q .ret e m = Q .ret e m := id rfl
theorem round_panic {I : Nat → Env → Mem → Prop} {k : Nat} : round I k Q (.panic v) e m = Q (.panic v) e m := id rfl

theorem wc_true {A B : Prop} : @WC (.bool true) ⟨fun t => bif t then A else B⟩ = A := id rfl
theorem wc_false {A B : Prop} : @WC (.bool false) ⟨fun t => bif t then A else B⟩ = B := id rfl
theorem wg_tt {A B : Prop} : @WG (.bool true) true ⟨fun t => bif t then A else B⟩ = A := id rfl
theorem wg_ff {A B : Prop} : @WG (.bool false) false ⟨fun t => bif t then A else B⟩ = A := id rfl
theorem wg_tf {A B : Prop} : @WG (.bool true) false ⟨fun t => bif t then A else B⟩ = B := id rfl
theorem wg_ft {A B : Prop} : @WG (.bool false) true ⟨fun t => bif t then A else B⟩ = B := id rfl

theorem wg_undef {w : Bool} {A B : Prop} : @WG undef w ⟨fun t => bif t then A else B⟩ = B := id rfl
/-- Which truth value it is. -/
theorem x_if {t : Bool} {A B : Prop} (h1 : t = true → A) (h2 : t = false → B) : @WC (.bool t) ⟨fun t => bif t then A else B⟩ := by
  cases t with
  | true => exact h1 rfl
  | false => exact h2 rfl
theorem x_gd {t b : Bool} {A B : Prop} (h1 : t = b → A) (h2 : t = !b → B) : @WG (.bool t) b ⟨fun t => bif t then A else B⟩ := by
  cases t <;> cases b <;> first | exact h1 rfl | exact h2 rfl

theorem wx_sound {c : Code} : ∀ {e : Env} {m : Mem} {Q : Ex → Env → Mem → Prop}, WX P S base L c e m Q → W P S base L c e m Q := by
  induction c with
  | seq a b iha ihb =>
    intro e m Q h
    rw [wx_seq] at h
    refine w_seq (w_mono (iha h) fun x e m hx => ?_)
    cases x with
    | normal => exact ihb hx
    | _ => exact hx
  | region id ops d =>
    intro e m Q h
    cases d with
    | true => exact h
    | false => exact w_region h
  | cond c a b iha ihb =>
    intro e m Q h
    rw [wx_cond] at h
    unfold WC at h
    split at h
    case h_2 => exact h.elim
    rename_i t ht
    refine w_cond ht (fun h1 => ?_) (fun h1 => ?_)
    · subst h1; exact iha h
    · subst h1; exact ihb h
  | block id b ih => intro e m Q h; exact w_block (ih h)
  | exit id => intro e m Q h; exact w_exit h
  | ret => intro e m Q h; exact w_ret h
  | skip => intro e m Q h; exact w_skip h
  | label l => intro e m Q h; exact w_label h
  | _ => intro e m Q h; exact h

theorem wo_mono {Q' : Ex → Env → Mem → Prop} (hq : ∀ x e m, Q x e m → Q' x e m) : ∀ {l : List Oper} {e : Env} {m : Mem}, WO P S base L ops Q l e m → WO P S base L ops Q' l e m
  | [], e, m, h => hq _ _ _ h
  | o :: rest, e, m, h => by
    have put : ∀ {dst : Option Nat} {v : Value} {m' : Mem}, (WPut e dst v fun e' => WO P S base L ops Q rest e' m') → WPut e dst v fun e' => WO P S base L ops Q' rest e' m' := by
      intro dst v m' hp
      cases dst with
      | none => exact wo_mono hq hp
      | some d => exact ⟨hp.1, wo_mono hq hp.2⟩
    unfold WO at h ⊢
    cases hw : Region.wanted o (yieldedA ops e) with
    | false => rw [hw] at h; exact put h
    | true =>
      rw [hw] at h
      simp only [cond_true] at h ⊢
      split at h
      · split at h
        case h_2 => exact h.elim
        obtain ⟨out, m', wr, h1, h2, h3⟩ := h
        refine ⟨out, m', wr, h1, h2, ?_⟩
        cases out with
        | ret v => exact put h3
        | panic v => exact hq _ _ _ h3
      · split at h
        case h_2 => exact h.elim
        exact hq _ _ _ h
      · unfold WV at h ⊢
        split at h
        case h_2 => exact h.elim
        exact ⟨h.1, put h.2⟩

theorem wx_mono {c : Code} : ∀ {e : Env} {m : Mem} {Q Q' : Ex → Env → Mem → Prop}, (∀ x e m, Q x e m → Q' x e m) → WX P S base L c e m Q → WX P S base L c e m Q' := by
  induction c with
  | seq a b iha ihb =>
    intro e m Q Q' hq h
    rw [wx_seq] at h ⊢
    refine iha (fun x e m hx => ?_) h
    cases x with
    | normal => exact ihb hq hx
    | _ => exact hq _ _ _ hx
  | region id ops d =>
    intro e m Q Q' hq h
    cases d with
    | true => exact w_mono h hq
    | false => exact wo_mono hq h
  | cond c a b iha ihb =>
    intro e m Q Q' hq h
    rw [wx_cond] at h ⊢
    unfold WC at h ⊢
    split at h
    case h_2 => exact h.elim
    rename_i t ht
    cases t with
    | true => exact iha hq h
    | false => exact ihb hq h
  | block id b ih =>
    intro e m Q Q' hq h
    refine ih (fun x e m hx => ?_) h
    cases x with
    | exit i =>
      simp only [inBlock] at hx ⊢
      split at hx
      · rename_i hi; rw [if_pos hi]; exact hq _ _ _ hx
      · rename_i hi; rw [if_neg hi]; exact hq _ _ _ hx
    | _ => exact hq _ _ _ hx
  | exit id => intro e m Q Q' hq h; exact hq _ _ _ h
  | ret => intro e m Q Q' hq h; exact hq _ _ _ h
  | skip => intro e m Q Q' hq h; exact hq _ _ _ h
  | label l => intro e m Q Q' hq h; exact hq _ _ _ h
  | loop b => intro e m Q Q' hq h; exact w_mono h hq
  | _ => intro e m Q Q' hq h; exact w_mono h hq

/-- Behind a choice: what both ways come to. -/
theorem x_join {t : Bool} (I : Env → Mem → Prop) (h1 : t = true → WX P S base L a e m fun x e' m' => x = .normal ∧ I e' m') (h2 : t = false → WX P S base L b e m fun x e' m' => x = .normal ∧ I e' m') (h3 : ∀ e' m', I e' m' → Q .normal e' m') :
    @WC (.bool t) ⟨fun t => bif t then WX P S base L a e m Q else WX P S base L b e m Q⟩ := by
  have key : ∀ c, (WX P S base L c e m fun x e' m' => x = .normal ∧ I e' m') → WX P S base L c e m Q := fun c h => wx_mono (fun x e' m' hx => by obtain ⟨rfl, hi⟩ := hx; exact h3 _ _ hi) h
  cases t with
  | true => exact key _ (h1 rfl)
  | false => exact key _ (h2 rfl)

theorem x_draw (plan : List Nat) (hp : planOf ops ops.toList 0 .nil = plan) (h : WD P S base L ops Q ops.toList 0 plan [] e m) : WX P S base L (.region bi ops true) e m Q := w_draw plan hp h

/-- A loop by an invariant with a measure. -/
theorem x_loop (I : Nat → Env → Mem → Prop) (k : Nat) (h0 : I k e m) (hr : ∀ k e m, I k e m → WX P S base L b e m (round I k Q)) : WX P S base L (.loop b) e m Q :=
  w_loop I k h0 fun k e m h => wx_sound (hr k e m h)
theorem x_loop_once (h : WX P S base L b e m (andX P S base L (.loop b) Q)) : WX P S base L (.loop b) e m Q := by
  refine w_loop_once (w_mono (wx_sound h) fun x e m hx => ?_)
  cases x with
  | normal => exact hx
  | _ => exact hx

theorem x_keep (I : Env → Prop) (hI : I e) (h : ∀ e', I e' → WX P S base L b e' m Q) : WX P S base L b e m Q := h e hI
theorem x_keep2 (I : Env → Mem → Prop) (hI : I e m) (h : ∀ e' m', I e' m' → WX P S base L b e' m' Q) : WX P S base L b e m Q := h e m hI

/-! ### Guards -/

def gslot : List Oper → Nat → Option Nat
  | [], _ => none
  | o :: _, 0 => o.dst
  | _ :: l, n + 1 => gslot l n
theorem gslot_zero {o : Oper} {l : List Oper} : gslot (o :: l) 0 = o.dst := id rfl
theorem gslot_succ {o : Oper} {l : List Oper} {n : Nat} : gslot (o :: l) (n + 1) = gslot l n := id rfl
theorem gslot_eq : ∀ {l : List Oper} {j : Nat}, gslot l j = (l[j]?).bind (·.dst)
  | [], j => by simp [gslot]
  | o :: l, 0 => by simp [gslot]
  | o :: l, j + 1 => by simp [gslot, gslot_eq (l := l) (j := j)]

def gval (s : Option Nat) (e : Env) : Value := match s with | some d => e.get d | none => undef
theorem gval_some {d : Nat} {e : Env} : gval (some d) e = e.get d := id rfl

theorem wanted_eq {d : Option Nat} {op : Op} {ty : TypeId} {ps : String} {af : Array Edge} {j : Nat} {w : Bool} {e : Env} :
    Region.wanted ⟨d, op, ty, ps, af, some (j, w)⟩ (yieldedA ops e) = match gval (gslot ops.toList j) e with | .bool t => t == w | _ => false := by
  have h1 : Region.wanted ⟨d, op, ty, ps, af, some (j, w)⟩ (yieldedA ops e) = (yieldedA ops e j == some w) := rfl
  rw [h1, gslot_eq, Array.getElem?_toList]
  unfold yieldedA gval
  cases (ops[j]?).bind (·.dst) with
  | none => cases w <;> rfl
  | some d =>
    simp only
    cases e.get d with
    | bool t => cases t <;> cases w <;> rfl
    | _ => rfl

variable {rest : List Oper} {d : Option Nat} {op : Op} {ty : TypeId} {ps : String} {af : Array Edge} {j : Nat} {w : Bool} {mask : Nat} {plan : List Nat} {fps : List (Nat × Fp)}
theorem wo_gd : WO P S base L ops Q (⟨d, op, ty, ps, af, some (j, w)⟩ :: rest) e m =
    @WG (gval (gslot ops.toList j) e) w ⟨fun t => bif t then WO P S base L ops Q (⟨d, op, ty, ps, af, none⟩ :: rest) e m else WPut e d undef fun e' => WO P S base L ops Q rest e' m⟩ := by
  have h1 : ∀ g, WO P S base L ops Q (⟨d, op, ty, ps, af, g⟩ :: rest) e m = bif Region.wanted ⟨d, op, ty, ps, af, g⟩ (yieldedA ops e) then WO P S base L ops Q (⟨d, op, ty, ps, af, none⟩ :: rest) e m else WPut e d undef fun e' => WO P S base L ops Q rest e' m := by
    intro g
    rw [WO]
    cases hg : Region.wanted ⟨d, op, ty, ps, af, g⟩ (yieldedA ops e) with
    | false => rfl
    | true => rw [WO]; rfl
  rw [h1, wanted_eq]
  unfold WG
  cases gval (gslot ops.toList j) e <;> rfl
theorem wd_gd : WD P S base L ops Q (⟨d, op, ty, ps, af, some (j, w)⟩ :: rest) i (mask :: plan) fps e m =
    @WG (gval (gslot ops.toList j) e) w ⟨fun t => bif t then WD P S base L ops Q (⟨d, op, ty, ps, af, none⟩ :: rest) i (mask :: plan) fps e m else WPut e d undef fun e' => WD P S base L ops Q rest (i + 1) plan fps e' m⟩ := by
  have h1 : ∀ g, WD P S base L ops Q (⟨d, op, ty, ps, af, g⟩ :: rest) i (mask :: plan) fps e m = bif Region.wanted ⟨d, op, ty, ps, af, g⟩ (yieldedA ops e) then WD P S base L ops Q (⟨d, op, ty, ps, af, none⟩ :: rest) i (mask :: plan) fps e m else WPut e d undef fun e' => WD P S base L ops Q rest (i + 1) plan fps e' m := by
    intro g
    rw [WD]
    cases hg : Region.wanted ⟨d, op, ty, ps, af, g⟩ (yieldedA ops e) with
    | false => rfl
    | true => rw [WD]; rfl
  rw [h1, wanted_eq]
  unfold WG
  cases gval (gslot ops.toList j) e <;> rfl

/-! ### The beginning and the end of a body -/

theorem ct_x {f : FuncId} {fn : Func} {c : Code} {args : List Value} {QQ : COut → Mem → Prop} (hs : S.spec f = none) (hok : Nat.testBit S.ok f = true) (hf : P.funcs[f]? = some fn) (hb : fn.body = some c)
    (h : WX P S m.next L c (Env.ofArgs fn.ntmps 0 args) m (bodyQ P fn QQ)) : Ct P S f args m L QQ := ct_body hs hok hf hb (wx_sound h)

/-- What a body hands back. -/
def WR (v : Option Value) (QQ : COut → Mem → Prop) (m : Mem) : Prop := match v with | some v => QQ (.ret v) m | none => False
@[congr] theorem wr_congr {v v' : Option Value} {QQ : COut → Mem → Prop} {m m' : Mem} (h : v = v') (h2 : m = m') : WR v QQ m = WR v' QQ m' := by rw [h, h2]
theorem bodyQ_ret {fn : Func} {QQ : COut → Mem → Prop} : bodyQ P fn QQ .ret e m = WR (aresults P fn e m) QQ m := id rfl
theorem bodyQ_normal {fn : Func} {QQ : COut → Mem → Prop} : bodyQ P fn QQ .normal e m = WR (aresults P fn e m) QQ m := id rfl
theorem bodyQ_panic {fn : Func} {QQ : COut → Mem → Prop} : bodyQ P fn QQ (.panic v) e m = QQ (.panic v) m := id rfl
theorem wr_some {QQ : COut → Mem → Prop} : WR (some v) QQ m = QQ (.ret v) m := id rfl

def resT (r : Value) : Option Value := some r
def resC (P : Program) (t : TypeId) (v : Value) (m : Mem) : Option Value := match v with | .pointer (some a) => aload P t a m | _ => none
theorem resC_ptr {t : TypeId} {b off : Nat} : resC P t (.pointer (some ⟨b, off, none⟩)) m = loadRow (ldk P t) (m.get b) off := aload_row
def res2 (a b : Option Value) : Option Value := match a, b with | some a, some b => some (.tuple #[a, b]) | _, _ => none
theorem res2_some {a b : Value} : res2 (some a) (some b) = some (.tuple #[a, b]) := id rfl
def res3 (a b c : Option Value) : Option Value := match a, b, c with | some a, some b, some c => some (.tuple #[a, b, c]) | _, _, _ => none
theorem res3_some {a b c : Value} : res3 (some a) (some b) (some c) = some (.tuple #[a, b, c]) := id rfl

def resV (P : Program) (e : Env) (m : Mem) : ResultVar → Option Value
  | .tmp t => some (e.get t)
  | .cell a t => resC P t (e.get a) m
theorem resV_eq : resV P e m = aresult P e m := by
  funext r
  cases r with
  | tmp t => rfl
  | cell a t => simp only [resV, aresult, resC]; cases e.get a <;> rfl
theorem ares0 {fn : Func} (h : fn.results = #[]) : aresults P fn e m = some (.tuple #[]) := by simp [aresults, h]
theorem ares1 {fn : Func} {r : ResultVar} (h : fn.results = #[r]) : aresults P fn e m = resV P e m r := by
  rw [resV_eq]
  simp only [aresults, h, List.mapM_cons, List.mapM_nil]
  cases aresult P e m r <;> rfl
theorem ares2 {fn : Func} {r s : ResultVar} (h : fn.results = #[r, s]) : aresults P fn e m = res2 (resV P e m r) (resV P e m s) := by
  rw [resV_eq]
  simp only [aresults, h, List.mapM_cons, List.mapM_nil]
  cases aresult P e m r with
  | none => rfl
  | some _ => cases aresult P e m s <;> rfl
theorem ares3 {fn : Func} {r s t : ResultVar} (h : fn.results = #[r, s, t]) : aresults P fn e m = res3 (resV P e m r) (resV P e m s) (resV P e m t) := by
  rw [resV_eq]
  simp only [aresults, h, List.mapM_cons, List.mapM_nil]
  cases aresult P e m r with
  | none => rfl
  | some _ =>
    cases aresult P e m s with
    | none => rfl
    | some _ => cases aresult P e m t <;> rfl
theorem resV_tmp {t : Nat} : resV P e m (.tmp t) = some (e.get t) := id rfl
theorem resV_cell {a : Nat} {t : TypeId} : resV P e m (.cell a t) = resC P t (e.get a) m := id rfl

/-- Operations that only read do not meet. -/
theorem free_quiet {a b i' : Nat} {r r' : Rd} {mask' : Nat} {fps' : List (Nat × Fp)} : FpsFree mask' ⟨a, a, [], r⟩ ((i', ⟨b, b, [], r'⟩) :: fps') = FpsFree mask' ⟨a, a, [], r⟩ fps' := by
  have h0 : ∀ c n : Nat, (decide (n ≤ c) && decide (c < n)) = false := fun c n => by simp
  have : Fp.free ⟨b, b, [], r'⟩ ⟨a, a, [], r⟩ = true := by
    cases r <;> cases r' <;> simp [Fp.free, ble_dec, blt_dec, h0]
  simp [FpsFree, this]
/-- A block that was made is not what is read. -/
theorem free_alloc_one {a b c i' : Nat} {mask' : Nat} {fps' : List (Nat × Fp)} (h : c ≠ b) : FpsFree mask' ⟨a, a, [], .one c⟩ ((i', ⟨b, b + 1, [], .no⟩) :: fps') = FpsFree mask' ⟨a, a, [], .one c⟩ fps' := by
  have h0 : (decide (b ≤ c) && decide (c < b + 1)) = false := by simp; omega
  have : Fp.free ⟨b, b + 1, [], .no⟩ ⟨a, a, [], .one c⟩ = true := by simp [Fp.free, ble_dec, blt_dec, h0]
  simp [FpsFree, this]
theorem free_no_alloc {a b i' : Nat} {mask' : Nat} {fps' : List (Nat × Fp)} : FpsFree mask' ⟨a, a + 1, [], .no⟩ ((i', ⟨b, b + 1, [], .no⟩) :: fps') = FpsFree mask' ⟨a, a + 1, [], .no⟩ fps' := by
  have : Fp.free ⟨b, b + 1, [], .no⟩ ⟨a, a + 1, [], .no⟩ = true := by simp [Fp.free]
  simp [FpsFree, this]

/-- An operation of a drawn region may change places with a call that only makes new memory. -/
theorem free_call_one {a c d b i' : Nat} {mask' : Nat} {fps' : List (Nat × Fp)} (h : d < a) : FpsFree mask' ⟨a, c, [], .all⟩ ((i', ⟨b, b, [], .one d⟩) :: fps') = FpsFree mask' ⟨a, c, [], .all⟩ fps' := by
  have h0 : (decide (a ≤ d) && decide (d < c)) = false := by simp; omega
  have h1 : (decide (b ≤ d) && decide (d < b)) = false := by simp
  have : Fp.free ⟨b, b, [], .one d⟩ ⟨a, c, [], .all⟩ = true := by simp [Fp.free, ble_dec, blt_dec, h0]
  simp [FpsFree, this]

/-- What is read is older than what a call made. -/
theorem free_one_call {a c d b i' : Nat} {mask' : Nat} {fps' : List (Nat × Fp)} (h : d < a) : FpsFree mask' ⟨b, b, [], .one d⟩ ((i', ⟨a, c, [], .all⟩) :: fps') = FpsFree mask' ⟨b, b, [], .one d⟩ fps' := by
  have h0 : (decide (a ≤ d) && decide (d < c)) = false := by simp; omega
  have : Fp.free ⟨a, c, [], .all⟩ ⟨b, b, [], .one d⟩ = true := by simp [Fp.free, ble_dec, blt_dec, h0]
  simp [FpsFree, this]
theorem abox_row {l : List Value} (h : l.all oneCell = true) : abox (.agg l.toArray) m = some (.pointer (some ⟨m.next, 0, none⟩), m.push (.row l .rw), [], .no) := by
  rw [abox_agg, List.toList_toArray, h]; rfl

/-! ### Memory -/

theorem nx_push {o : AObj} : (m.push o).next = m.next + 1 := id rfl
theorem nx_set {o : AObj} {j : Nat} : (m.set j o).next = m.next := id rfl
theorem get_push_self {o : AObj} : (m.push o).get m.next = some o := by rw [Mem.get_push, if_pos rfl]
theorem get_push_ne {o : AObj} {j : Nat} (h : j ≠ m.next) : (m.push o).get j = m.get j := by rw [Mem.get_push, if_neg h]
theorem get_push_eq {o : AObj} {j : Nat} (h : j = m.next) : (m.push o).get j = some o := by rw [h, get_push_self]
theorem get_set_self {o : AObj} {j : Nat} : (m.set j o).get j = some o := by rw [Mem.get_set, if_pos rfl]
theorem get_set_ne {o : AObj} {j k : Nat} (h : k ≠ j) : (m.set j o).get k = m.get k := by rw [Mem.get_set, if_neg h]

/-- Memory that only grew. -/
def Keep (m m' : Mem) : Prop := ∀ b, m.get b ≠ none → m'.get b = m.get b
theorem Keep.refl (m : Mem) : Keep m m := fun _ _ => rfl
theorem Keep.trans {m1 m2 m3 : Mem} (h : Keep m1 m2) (k : Keep m2 m3) : Keep m1 m3 := fun b hb => by rw [k b (by rw [h b hb]; exact hb), h b hb]
theorem Keep.push (hw : WF m) {o : AObj} : Keep m (m.push o) := push_keep hw

/-- A call of which is known that it leaves all that was there. -/
theorem wcall_x (hL : SpecLoc S.spec) {g : FuncId} {args : List Value} {R : COut → Mem → Prop} {K : COut → Mem → List Nat → Prop} (h : Ct P S g args m [] R) (hw : WF m)
    (hk : ∀ out m', WF m' → m.next ≤ m'.next → (∀ b, b < m.next → m'.get b = m.get b) → R out m' → K out m' []) : @WCall P S base L g args m ⟨K⟩ := by
  refine wcall_of hL h hw (by simp) fun out m' wr h1 h2 h3 h4 _ h5 => ?_
  have : wr = [] := List.eq_nil_iff_forall_not_mem.2 fun b hb => by simpa using h1 b hb
  subst this
  exact hk out m' h2 h3 (fun b hb => h4 b hb (by simp)) h5
theorem keep_of {m' : Mem} (hw : WF m) (h : ∀ b, b < m.next → m'.get b = m.get b) : Keep m m' := fun b hb => h b (hw.lt hb)

theorem ct_nil {g : FuncId} {args : List Value} {L0 : List Nat} {R : COut → Mem → Prop} (h : Ct P S g args m L0 R) (hl : L0 = []) : Ct P S g args m [] R := by subst hl; exact h
/-- Where a function only answers: a value, of which something is known. -/
def Rv (R : Value → Mem → Prop) : COut → Mem → Prop := fun out m' => ∃ v, out = .ret v ∧ R v m'
theorem wcall_v (hL : SpecLoc S.spec) {g : FuncId} {args : List Value} {R : Value → Mem → Prop} {K : COut → Mem → List Nat → Prop} (h : Ct P S g args m [] (Rv R)) (hw : WF m)
    (hk : ∀ v m', WF m' → m.next ≤ m'.next → (∀ b, b < m.next → m'.get b = m.get b) → R v m' → K (.ret v) m' []) : @WCall P S base L g args m ⟨K⟩ := by
  refine wcall_x hL h hw fun out m' h1 h2 h3 h4 => ?_
  obtain ⟨v, rfl, h5⟩ := h4
  exact hk v m' h1 h2 h3 h5
end

end Go.Big

/- The laws of going through code, bundled. -/
set_option linter.unusedSimpArgs false
set_option maxRecDepth 100000
namespace Go.Big
open Go.Proofs

theorem gslot_arr {l : List Oper} {j : Nat} : gslot (l.toArray).toList j = gslot l j := id rfl

theorem eval_tmp {e : Env} {t : Tmp} : e.eval (.tmp t) = e.get t := id rfl
theorem eval_const {e : Env} {v : Value} : e.eval (.const v) = v := id rfl
theorem eval_func {e : Env} {f : FuncId} : e.eval (.func f) = .func (.func f) #[] #[] := id rfl

theorem ite_res {c : Prop} [Decidable c] {a b : Res} (h : c) : (if c then a else b) = a := if_pos h
set_option linter.defProp false
def XWalk := And.intro @abin_rem <| And.intro @abin_quo <| And.intro @ite_res <| And.intro @wo_nil <| And.intro @wd_nil <| And.intro @wo_panic <| And.intro @wo_call <| And.intro @wd_call <| And.intro @wcallv_func <| And.intro @wo_move <| And.intro @wd_move <| And.intro @wo_assign <| And.intro @wd_assign <| And.intro @wo_pick <| And.intro @wd_pick <| And.intro @wo_alloc <| And.intro @wd_alloc <| And.intro @wo_box <| And.intro @wd_box <| And.intro @wo_build <| And.intro @wd_build <| And.intro @wo_buildSlice <| And.intro @wd_buildSlice <| And.intro @wo_load <| And.intro @wd_load <| And.intro @wo_store <| And.intro @wd_store <| And.intro @wo_nilCheck <| And.intro @wd_nilCheck <| And.intro @wo_binOp <| And.intro @wd_binOp <| And.intro @wo_unOp <| And.intro @wd_unOp <| And.intro @wo_convert <| And.intro @wd_convert <| And.intro @wo_makeInterface <| And.intro @wd_makeInterface <| And.intro @wo_makeFunc <| And.intro @wd_makeFunc <| And.intro @wo_makeMap <| And.intro @wd_makeMap <| And.intro @wo_makeSlice <| And.intro @wd_makeSlice <| And.intro @wo_slice <| And.intro @wd_slice <| And.intro @wo_fieldAddr <| And.intro @wd_fieldAddr <| And.intro @wo_field <| And.intro @wd_field <| And.intro @wo_indexAddr <| And.intro @wd_indexAddr <| And.intro @wo_index <| And.intro @wd_index <| And.intro @wo_lookup <| And.intro @wd_lookup <| And.intro @wo_extract <| And.intro @wd_extract <| And.intro @wo_builtin <| And.intro @wd_builtin <| And.intro @wdn_pure <| And.intro @wdn_one <| And.intro @wdn_all <| And.intro @wdn_push <| And.intro @wv_some <| And.intro @set_self <| And.intro @List.getElem?_set_ne.{0} <| And.intro @List.length_set.{0} <| And.intro @free_nil <| And.intro @free_quiet <| And.intro @free_alloc_one <| And.intro @free_no_alloc <| And.intro @free_call_one <| And.intro @free_one_call <| And.intro @abox_row <| And.intro @List.getElem?_cons_zero.{0} <| And.intro @List.getElem?_cons_succ.{0} <| And.intro @free_anc <| And.intro @okw_self <| And.intro @okw_self2 <| And.intro @okw_fresh <| And.intro @size_agg <| And.intro @storeRow_all <| And.intro @List.size_toArray.{0} <| And.intro @List.length_cons.{0} <| And.intro @List.length_nil.{0} <| And.intro @aop_move <| And.intro @aop_assign <| And.intro @aop_pick <| And.intro @apick_bool <| And.intro @bif_bool <| And.intro @aop_alloc <| And.intro @aalloc_some <| And.intro @aop_box <| And.intro @aop_buildSlice <| And.intro @aop_build <| And.intro @abuildR_eq <| And.intro @pv_ok <| And.intro @aop_load <| And.intro @aloadV_ptr <| And.intro @aop_store <| And.intro @astoreV_ptr <| And.intro @aop_nilCheck <| And.intro @aop_slice <| And.intro @aslM_ptr <| And.intro @aslM_sl <| And.intro @anil_ptr <| And.intro @aop_fieldAddr <| And.intro @afld_ptr <| And.intro @aop_indexAddr <| And.intro @aidxA_slice <| And.intro @aidxA_arr <| And.intro @aidxA_slice_lit <| And.intro @aidxA_arr_lit <| And.intro @aop_binOp <| And.intro @abin_add <| And.intro @abin_sub <| And.intro @abin_mul <| And.intro @abin_and <| And.intro @abin_or <| And.intro @abin_xor <| And.intro @abin_eql <| And.intro @abin_neq <| And.intro @abin_lss <| And.intro @abin_leq <| And.intro @abin_gtr <| And.intro @abin_geq <| And.intro @abin_shl <| And.intro @abin_shr <| And.intro @aconv_intN <| And.intro @aconvN_some <| And.intro @bs1 <| And.intro @bs2 <| And.intro @bs3 <| And.intro @bs4 <| And.intro @bs5 <| And.intro @bs8 <| And.intro @size_one <| And.intro @size_int <| And.intro @size_bool <| And.intro @size_str <| And.intro @size_slice <| And.intro @size_ptr <| And.intro @size_map <| And.intro @beq_self <| And.intro @storeRow_one <| And.intro @writable_rw <| And.intro @writable_sl <| And.intro @one_int <| And.intro @one_bool <| And.intro @one_str <| And.intro @one_slice <| And.intro @one_ptr <| And.intro @one_map <| And.intro @loadRow_one <| And.intro @List.head?_drop.{0} <| And.intro @wrap_u8 <| And.intro @wrap_u32 <| And.intro @wrap_i64 <| And.intro @wrap_u64 <| And.intro @aop_unOp <| And.intro @aun_not <| And.intro @aop_convert <| And.intro @aop_extract <| And.intro @aext_two0 <| And.intro @aext_two1 <| And.intro @aop_append <| And.intro @aop_copy <| And.intro @eval_tmp <| And.intro @eval_const <| And.intro @eval_func <| And.intro @Env.get_set <| And.intro @Env.n_set <| And.intro @getNil <| And.intro @Mem.next_set <| And.intro @Mem.next_push <| And.intro @okw_nil <| And.intro @List.toList_toArray.{0} <| And.intro @List.map_cons.{0, 0} <| And.intro @List.map_nil.{0, 0} <| And.intro @List.nil_append.{0} <| And.intro @List.append_nil.{0} <| And.intro @Option.map_some.{0, 0} <| And.intro @Option.map_none.{0, 0} <| And.intro @Option.bind_some.{0, 0} <| And.intro @and_true <| And.intro @true_and <| And.intro @false_and <| And.intro @and_false <| And.intro @if_true.{1} <| And.intro @if_false.{1} <| And.intro @cond_true.{1} <| And.intro @cond_false.{1} <| And.intro @Nat.add_zero <| And.intro @Nat.zero_add <| And.intro @Nat.mul_one <| And.intro @ne_eq.{1} <| And.intro @not_false_eq_true <| And.intro @not_true_eq_false <| And.intro @wx_seq <| And.intro @wx_region <| And.intro @wx_cond <| And.intro @wx_block <| And.intro @wx_exit <| And.intro @wx_ret <| And.intro @wx_skip <| And.intro @wx_label <| And.intro @andX_normal <| And.intro @andX_exit <| And.intro @andX_ret <| And.intro @andX_panic <| And.intro @inBlock_normal <| And.intro @inBlock_ret <| And.intro @inBlock_panic <| And.intro @inBlock_self <| And.intro @inBlock_other <| And.intro @round_normal <| And.intro @round_exit <| And.intro @round_ret <| And.intro @round_panic <| And.intro @wc_true <| And.intro @wc_false <| And.intro @wg_undef <| And.intro @wg_tt <| And.intro @wg_ff <| And.intro @wg_tf <| And.intro @wg_ft <| And.intro @wo_gd <| And.intro @wd_gd <| And.intro @gval_some <| And.intro @bodyQ_ret <| And.intro @bodyQ_normal <| And.intro @bodyQ_panic <| And.intro @wr_some <| And.intro @resV_tmp <| And.intro @resV_cell <| And.intro @resC_ptr <| And.intro @res2_some <| And.intro @res3_some <| And.intro @get_push_self <| And.intro @get_push_ne <| And.intro @get_push_eq <| And.intro @get_set_self <| And.intro @get_set_ne <| And.intro @ofArgs_cons <| And.intro @ofArgs_nil <| And.intro @Option.isSome_some.{0} <| And.intro @decide_true <| And.intro @decide_false <| And.intro @Bool.not_true <| And.intro @Bool.not_false <| And.intro @aext_three0 <| And.intro @aext_three1 <| And.intro @aext_three2 <| And.intro @aop_makeInterface <| And.intro @aop_makeFunc <| And.intro @aop_makeSlice <| @aop_index
def XPre := And.intro @wput_some <| And.intro @wput_none <| And.intro @gslot_arr <| And.intro @gslot_succ <| @gslot_zero
def XSide := And.intro @Option.isSome_some.{0} <| And.intro @List.all_cons.{0} <| And.intro @List.all_nil.{0} <| And.intro @Bool.and_self <| And.intro @List.length_cons.{0} <| And.intro @List.length_nil.{0} <| And.intro @writable_rw <| And.intro @writable_sl <| And.intro @one_int <| And.intro @one_bool <| And.intro @one_str <| And.intro @one_slice <| And.intro @one_ptr <| @one_map

theorem A2 {e : Env} {m : Mem} : aresults Tryd.prog Tryd.f2 e m = some (.tuple #[]) := ares0 Tryd.results2
theorem A3 {e : Env} {m : Mem} : aresults Tryd.prog Tryd.f3 e m = resV Tryd.prog e m (.tmp 4) := ares1 Tryd.results3
theorem A4 {e : Env} {m : Mem} : aresults Tryd.prog Tryd.f4 e m = resV Tryd.prog e m (.tmp 6) := ares1 Tryd.results4
theorem A5 {e : Env} {m : Mem} : aresults Tryd.prog Tryd.f5 e m = resV Tryd.prog e m (.tmp 2) := ares1 Tryd.results5
theorem A6 {e : Env} {m : Mem} : aresults Tryd.prog Tryd.f6 e m = resV Tryd.prog e m (.tmp 0) := ares1 Tryd.results6
theorem A7 {e : Env} {m : Mem} : aresults Tryd.prog Tryd.f7 e m = res2 (resV Tryd.prog e m (.cell 14 24)) (resV Tryd.prog e m (.tmp 15)) := ares2 Tryd.results7
theorem A8 {e : Env} {m : Mem} : aresults Tryd.prog Tryd.f8 e m = res2 (resV Tryd.prog e m (.tmp 6)) (resV Tryd.prog e m (.tmp 7)) := ares2 Tryd.results8
theorem A9 {e : Env} {m : Mem} : aresults Tryd.prog Tryd.f9 e m = resV Tryd.prog e m (.tmp 4) := ares1 Tryd.results9
theorem A10 {e : Env} {m : Mem} : aresults Tryd.prog Tryd.f10 e m = resV Tryd.prog e m (.tmp 4) := ares1 Tryd.results10
theorem A11 {e : Env} {m : Mem} : aresults Tryd.prog Tryd.f11 e m = resV Tryd.prog e m (.tmp 4) := ares1 Tryd.results11
theorem A12 {e : Env} {m : Mem} : aresults Tryd.prog Tryd.f12 e m = resV Tryd.prog e m (.tmp 2) := ares1 Tryd.results12
theorem A13 {e : Env} {m : Mem} : aresults Tryd.prog Tryd.f13 e m = resV Tryd.prog e m (.tmp 2) := ares1 Tryd.results13
theorem A14 {e : Env} {m : Mem} : aresults Tryd.prog Tryd.f14 e m = resV Tryd.prog e m (.tmp 2) := ares1 Tryd.results14
theorem A15 {e : Env} {m : Mem} : aresults Tryd.prog Tryd.f15 e m = resV Tryd.prog e m (.tmp 4) := ares1 Tryd.results15
theorem A16 {e : Env} {m : Mem} : aresults Tryd.prog Tryd.f16 e m = res2 (resV Tryd.prog e m (.tmp 0)) (resV Tryd.prog e m (.cell 1 41)) := ares2 Tryd.results16
theorem A17 {e : Env} {m : Mem} : aresults Tryd.prog Tryd.f17 e m = res2 (resV Tryd.prog e m (.cell 4 46)) (resV Tryd.prog e m (.tmp 5)) := ares2 Tryd.results17
theorem A18 {e : Env} {m : Mem} : aresults Tryd.prog Tryd.f18 e m = resV Tryd.prog e m (.tmp 2) := ares1 Tryd.results18
theorem A19 {e : Env} {m : Mem} : aresults Tryd.prog Tryd.f19 e m = resV Tryd.prog e m (.tmp 4) := ares1 Tryd.results19
theorem A20 {e : Env} {m : Mem} : aresults Tryd.prog Tryd.f20 e m = resV Tryd.prog e m (.tmp 6) := ares1 Tryd.results20
theorem A21 {e : Env} {m : Mem} : aresults Tryd.prog Tryd.f21 e m = res2 (resV Tryd.prog e m (.tmp 4)) (resV Tryd.prog e m (.tmp 5)) := ares2 Tryd.results21
theorem A22 {e : Env} {m : Mem} : aresults Tryd.prog Tryd.f22 e m = res2 (resV Tryd.prog e m (.tmp 6)) (resV Tryd.prog e m (.tmp 7)) := ares2 Tryd.results22
theorem A23 {e : Env} {m : Mem} : aresults Tryd.prog Tryd.f23 e m = res2 (resV Tryd.prog e m (.tmp 6)) (resV Tryd.prog e m (.tmp 7)) := ares2 Tryd.results23
theorem A24 {e : Env} {m : Mem} : aresults Tryd.prog Tryd.f24 e m = resV Tryd.prog e m (.tmp 2) := ares1 Tryd.results24
theorem A25 {e : Env} {m : Mem} : aresults Tryd.prog Tryd.f25 e m = res2 (resV Tryd.prog e m (.tmp 4)) (resV Tryd.prog e m (.tmp 5)) := ares2 Tryd.results25
theorem A26 {e : Env} {m : Mem} : aresults Tryd.prog Tryd.f26 e m = resV Tryd.prog e m (.tmp 8) := ares1 Tryd.results26
theorem A27 {e : Env} {m : Mem} : aresults Tryd.prog Tryd.f27 e m = resV Tryd.prog e m (.tmp 2) := ares1 Tryd.results27
theorem A28 {e : Env} {m : Mem} : aresults Tryd.prog Tryd.f28 e m = resV Tryd.prog e m (.tmp 2) := ares1 Tryd.results28
theorem A29 {e : Env} {m : Mem} : aresults Tryd.prog Tryd.f29 e m = resV Tryd.prog e m (.tmp 0) := ares1 Tryd.results29
theorem A30 {e : Env} {m : Mem} : aresults Tryd.prog Tryd.f30 e m = resV Tryd.prog e m (.tmp 4) := ares1 Tryd.results30
theorem A31 {e : Env} {m : Mem} : aresults Tryd.prog Tryd.f31 e m = resV Tryd.prog e m (.tmp 4) := ares1 Tryd.results31
theorem A32 {e : Env} {m : Mem} : aresults Tryd.prog Tryd.f32 e m = res2 (resV Tryd.prog e m (.cell 4 41)) (resV Tryd.prog e m (.tmp 5)) := ares2 Tryd.results32
theorem A33 {e : Env} {m : Mem} : aresults Tryd.prog Tryd.f33 e m = resV Tryd.prog e m (.cell 2 46) := ares1 Tryd.results33
theorem A34 {e : Env} {m : Mem} : aresults Tryd.prog Tryd.f34 e m = res2 (resV Tryd.prog e m (.cell 4 73)) (resV Tryd.prog e m (.tmp 5)) := ares2 Tryd.results34
theorem A35 {e : Env} {m : Mem} : aresults Tryd.prog Tryd.f35 e m = res2 (resV Tryd.prog e m (.tmp 6)) (resV Tryd.prog e m (.tmp 7)) := ares2 Tryd.results35
theorem A36 {e : Env} {m : Mem} : aresults Tryd.prog Tryd.f36 e m = resV Tryd.prog e m (.tmp 2) := ares1 Tryd.results36
theorem A37 {e : Env} {m : Mem} : aresults Tryd.prog Tryd.f37 e m = res2 (resV Tryd.prog e m (.tmp 4)) (resV Tryd.prog e m (.tmp 5)) := ares2 Tryd.results37
theorem A38 {e : Env} {m : Mem} : aresults Tryd.prog Tryd.f38 e m = some (.tuple #[]) := ares0 Tryd.results38
theorem A39 {e : Env} {m : Mem} : aresults Tryd.prog Tryd.f39 e m = res2 (resV Tryd.prog e m (.tmp 2)) (resV Tryd.prog e m (.tmp 3)) := ares2 Tryd.results39
theorem A40 {e : Env} {m : Mem} : aresults Tryd.prog Tryd.f40 e m = resV Tryd.prog e m (.tmp 2) := ares1 Tryd.results40
theorem A41 {e : Env} {m : Mem} : aresults Tryd.prog Tryd.f41 e m = resV Tryd.prog e m (.tmp 2) := ares1 Tryd.results41
theorem A42 {e : Env} {m : Mem} : aresults Tryd.prog Tryd.f42 e m = res2 (resV Tryd.prog e m (.cell 2 86)) (resV Tryd.prog e m (.tmp 3)) := ares2 Tryd.results42
theorem A43 {e : Env} {m : Mem} : aresults Tryd.prog Tryd.f43 e m = res2 (resV Tryd.prog e m (.tmp 4)) (resV Tryd.prog e m (.tmp 5)) := ares2 Tryd.results43
theorem A44 {e : Env} {m : Mem} : aresults Tryd.prog Tryd.f44 e m = resV Tryd.prog e m (.tmp 6) := ares1 Tryd.results44
theorem A45 {e : Env} {m : Mem} : aresults Tryd.prog Tryd.f45 e m = resV Tryd.prog e m (.tmp 2) := ares1 Tryd.results45
theorem A46 {e : Env} {m : Mem} : aresults Tryd.prog Tryd.f46 e m = res2 (resV Tryd.prog e m (.cell 4 73)) (resV Tryd.prog e m (.tmp 5)) := ares2 Tryd.results46
theorem A47 {e : Env} {m : Mem} : aresults Tryd.prog Tryd.f47 e m = res2 (resV Tryd.prog e m (.tmp 6)) (resV Tryd.prog e m (.tmp 7)) := ares2 Tryd.results47
theorem A48 {e : Env} {m : Mem} : aresults Tryd.prog Tryd.f48 e m = some (.tuple #[]) := ares0 Tryd.results48
theorem A49 {e : Env} {m : Mem} : aresults Tryd.prog Tryd.f49 e m = some (.tuple #[]) := ares0 Tryd.results49
theorem A50 {e : Env} {m : Mem} : aresults Tryd.prog Tryd.f50 e m = some (.tuple #[]) := ares0 Tryd.results50
theorem A51 {e : Env} {m : Mem} : aresults Tryd.prog Tryd.f51 e m = resV Tryd.prog e m (.tmp 2) := ares1 Tryd.results51
theorem A52 {e : Env} {m : Mem} : aresults Tryd.prog Tryd.f52 e m = resV Tryd.prog e m (.tmp 4) := ares1 Tryd.results52
theorem A53 {e : Env} {m : Mem} : aresults Tryd.prog Tryd.f53 e m = resV Tryd.prog e m (.tmp 4) := ares1 Tryd.results53
theorem A54 {e : Env} {m : Mem} : aresults Tryd.prog Tryd.f54 e m = resV Tryd.prog e m (.tmp 2) := ares1 Tryd.results54
theorem A56 {e : Env} {m : Mem} : aresults Tryd.prog Tryd.f56 e m = some (.tuple #[]) := ares0 Tryd.results56
theorem A57 {e : Env} {m : Mem} : aresults Tryd.prog Tryd.f57 e m = res2 (resV Tryd.prog e m (.tmp 2)) (resV Tryd.prog e m (.tmp 3)) := ares2 Tryd.results57
theorem A58 {e : Env} {m : Mem} : aresults Tryd.prog Tryd.f58 e m = some (.tuple #[]) := ares0 Tryd.results58
theorem A59 {e : Env} {m : Mem} : aresults Tryd.prog Tryd.f59 e m = res2 (resV Tryd.prog e m (.cell 2 73)) (resV Tryd.prog e m (.tmp 3)) := ares2 Tryd.results59
theorem A60 {e : Env} {m : Mem} : aresults Tryd.prog Tryd.f60 e m = resV Tryd.prog e m (.tmp 4) := ares1 Tryd.results60
theorem A61 {e : Env} {m : Mem} : aresults Tryd.prog Tryd.f61 e m = resV Tryd.prog e m (.tmp 2) := ares1 Tryd.results61
theorem A62 {e : Env} {m : Mem} : aresults Tryd.prog Tryd.f62 e m = some (.tuple #[]) := ares0 Tryd.results62
theorem A63 {e : Env} {m : Mem} : aresults Tryd.prog Tryd.f63 e m = some (.tuple #[]) := ares0 Tryd.results63
theorem A64 {e : Env} {m : Mem} : aresults Tryd.prog Tryd.f64 e m = resV Tryd.prog e m (.tmp 4) := ares1 Tryd.results64
theorem A65 {e : Env} {m : Mem} : aresults Tryd.prog Tryd.f65 e m = resV Tryd.prog e m (.tmp 4) := ares1 Tryd.results65
theorem A66 {e : Env} {m : Mem} : aresults Tryd.prog Tryd.f66 e m = resV Tryd.prog e m (.tmp 4) := ares1 Tryd.results66
theorem A67 {e : Env} {m : Mem} : aresults Tryd.prog Tryd.f67 e m = res2 (resV Tryd.prog e m (.cell 2 116)) (resV Tryd.prog e m (.tmp 3)) := ares2 Tryd.results67
theorem A68 {e : Env} {m : Mem} : aresults Tryd.prog Tryd.f68 e m = resV Tryd.prog e m (.tmp 4) := ares1 Tryd.results68
theorem A69 {e : Env} {m : Mem} : aresults Tryd.prog Tryd.f69 e m = resV Tryd.prog e m (.tmp 4) := ares1 Tryd.results69
theorem A70 {e : Env} {m : Mem} : aresults Tryd.prog Tryd.f70 e m = resV Tryd.prog e m (.tmp 4) := ares1 Tryd.results70
theorem A71 {e : Env} {m : Mem} : aresults Tryd.prog Tryd.f71 e m = resV Tryd.prog e m (.tmp 4) := ares1 Tryd.results71
theorem A72 {e : Env} {m : Mem} : aresults Tryd.prog Tryd.f72 e m = resV Tryd.prog e m (.tmp 2) := ares1 Tryd.results72
theorem A73 {e : Env} {m : Mem} : aresults Tryd.prog Tryd.f73 e m = some (.tuple #[]) := ares0 Tryd.results73
theorem A74 {e : Env} {m : Mem} : aresults Tryd.prog Tryd.f74 e m = resV Tryd.prog e m (.cell 0 123) := ares1 Tryd.results74
theorem A75 {e : Env} {m : Mem} : aresults Tryd.prog Tryd.f75 e m = some (.tuple #[]) := ares0 Tryd.results75
theorem A76 {e : Env} {m : Mem} : aresults Tryd.prog Tryd.f76 e m = resV Tryd.prog e m (.tmp 2) := ares1 Tryd.results76
theorem A77 {e : Env} {m : Mem} : aresults Tryd.prog Tryd.f77 e m = resV Tryd.prog e m (.tmp 4) := ares1 Tryd.results77
theorem A78 {e : Env} {m : Mem} : aresults Tryd.prog Tryd.f78 e m = res2 (resV Tryd.prog e m (.tmp 2)) (resV Tryd.prog e m (.tmp 3)) := ares2 Tryd.results78
theorem A79 {e : Env} {m : Mem} : aresults Tryd.prog Tryd.f79 e m = resV Tryd.prog e m (.tmp 4) := ares1 Tryd.results79
theorem A80 {e : Env} {m : Mem} : aresults Tryd.prog Tryd.f80 e m = res2 (resV Tryd.prog e m (.tmp 2)) (resV Tryd.prog e m (.tmp 3)) := ares2 Tryd.results80
theorem A81 {e : Env} {m : Mem} : aresults Tryd.prog Tryd.f81 e m = some (.tuple #[]) := ares0 Tryd.results81
theorem A82 {e : Env} {m : Mem} : aresults Tryd.prog Tryd.f82 e m = resV Tryd.prog e m (.cell 0 138) := ares1 Tryd.results82
theorem A83 {e : Env} {m : Mem} : aresults Tryd.prog Tryd.f83 e m = some (.tuple #[]) := ares0 Tryd.results83
theorem A84 {e : Env} {m : Mem} : aresults Tryd.prog Tryd.f84 e m = res2 (resV Tryd.prog e m (.tmp 2)) (resV Tryd.prog e m (.tmp 3)) := ares2 Tryd.results84
theorem A85 {e : Env} {m : Mem} : aresults Tryd.prog Tryd.f85 e m = resV Tryd.prog e m (.tmp 4) := ares1 Tryd.results85
theorem A86 {e : Env} {m : Mem} : aresults Tryd.prog Tryd.f86 e m = resV Tryd.prog e m (.tmp 2) := ares1 Tryd.results86
theorem A87 {e : Env} {m : Mem} : aresults Tryd.prog Tryd.f87 e m = resV Tryd.prog e m (.tmp 4) := ares1 Tryd.results87
theorem A88 {e : Env} {m : Mem} : aresults Tryd.prog Tryd.f88 e m = resV Tryd.prog e m (.tmp 4) := ares1 Tryd.results88
theorem A89 {e : Env} {m : Mem} : aresults Tryd.prog Tryd.f89 e m = resV Tryd.prog e m (.tmp 2) := ares1 Tryd.results89
theorem A90 {e : Env} {m : Mem} : aresults Tryd.prog Tryd.f90 e m = resV Tryd.prog e m (.tmp 2) := ares1 Tryd.results90
theorem A92 {e : Env} {m : Mem} : aresults Tryd.prog Tryd.f92 e m = resV Tryd.prog e m (.tmp 4) := ares1 Tryd.results92
theorem A117 {e : Env} {m : Mem} : aresults Tryd.prog Tryd.f117 e m = some (.tuple #[]) := ares0 Tryd.results117


end Go.Big
