/- The reference's names and validity; sealing without a book. -/
import Derived.Test.YtobhnnbdobphfaaDoorJoined10
import Derived.ProofKit
import Derived.LaidMore
import Derived.OpenShut
import Derived.Stop.Joined
import Derived.Lib.SmallJoins
import Derived.Carry
import Derived.Test.YtobhnnbdobphfaaDoorTie
import Derived.Test.YtobhnnbdobphfaaDoorCards
import Derived.Lay
import Derived.SevenTiedAt
set_option linter.unusedSimpArgs false
set_option linter.unusedVariables false
set_option maxRecDepth 100000
set_option maxHeartbeats 4000000
namespace Go.Big
open Go.Proofs

def nameC (c : UInt8) : Bool := ((decide ((c.toNat : Int) ≥ 97) && decide ((c.toNat : Int) ≤ 122)) || (decide ((c.toNat : Int) ≥ 48) && decide ((c.toNat : Int) ≤ 57))) || ((c.toNat : Int) == 45)
theorem nameC_eq (c : UInt8) : nameC c = nameSet.contains c := by
  have key : ∀ x : Fin 256, nameC (UInt8.ofNat x.val) = nameSet.contains (UInt8.ofNat x.val) := by decide +kernel
  have := key ⟨c.toNat, c.toNat_lt⟩
  simpa using this

theorem refname_ct {m : Mem} {l : List UInt8} (hl : l.length ≤ 1073741824) : Ct Tryd.prog S0 27 [str l] m [] (fun out m' => out = .ret (.bool (nameB l)) ∧ m' = m) := by
  refine ct_x (spec0 _) (by rfl) Tryd.func27 rfl ?_
  simp (maxSteps := 2000000) (disch := first | assumption | omega | (simp only [nx_push, nx_set, ne_eq] <;> omega) | (simp only [XSide, F27]; done) | decide) only [XWalk, XSl, ↓XPre, reduceIte, Nat.reduceEqDiff, Nat.reduceLT, Nat.reduceAdd, Nat.reduceSub, Nat.reduceMul, Nat.reduceBEq, reduceCtorEq, Int.reduceAdd, Int.reduceSub, Int.reduceMul, Int.reduceLT, Int.reduceLE, Int.reduceGT, Int.reduceGE, Int.reduceEq, Int.reduceNe, Int.reduceBEq, Int.reduceBNe, Int.reduceTMod, Int.reduceTDiv, ↓if_true, ↓if_false, F27, A27, Tryd.ntmps27]
  refine x_loop (fun k e m1 => ∃ i, i + k = l.length ∧ e.n = 47 ∧ e.get 0 = str l ∧ e.get 3 = .int .i64 ((i : Nat) : Int) ∧ m1 = m ∧ (l.take i).all nameSet.contains = true) l.length ⟨0, by omega, by simp (maxSteps := 2000000) (disch := first | assumption | omega | (simp only [nx_push, nx_set, ne_eq] <;> omega) | (simp only [XSide]; done) | decide) only [XWalk, XSl, ↓XPre, reduceIte, Nat.reduceEqDiff, Nat.reduceLT, Nat.reduceAdd, Nat.reduceSub, Nat.reduceMul, Nat.reduceBEq, reduceCtorEq, Int.reduceAdd, Int.reduceSub, Int.reduceMul, Int.reduceLT, Int.reduceLE, Int.reduceGT, Int.reduceGE, Int.reduceEq, Int.reduceNe, Int.reduceBEq, Int.reduceBNe, Int.reduceTMod, Int.reduceTDiv, ↓if_true, ↓if_false], by simp (maxSteps := 2000000) (disch := first | assumption | omega | (simp only [nx_push, nx_set, ne_eq] <;> omega) | (simp only [XSide]; done) | decide) only [XWalk, XSl, ↓XPre, reduceIte, Nat.reduceEqDiff, Nat.reduceLT, Nat.reduceAdd, Nat.reduceSub, Nat.reduceMul, Nat.reduceBEq, reduceCtorEq, Int.reduceAdd, Int.reduceSub, Int.reduceMul, Int.reduceLT, Int.reduceLE, Int.reduceGT, Int.reduceGE, Int.reduceEq, Int.reduceNe, Int.reduceBEq, Int.reduceBNe, Int.reduceTMod, Int.reduceTDiv, ↓if_true, ↓if_false], by simp (maxSteps := 2000000) (disch := first | assumption | omega | (simp only [nx_push, nx_set, ne_eq] <;> omega) | (simp only [XSide]; done) | decide) only [XWalk, XSl, ↓XPre, reduceIte, Nat.reduceEqDiff, Nat.reduceLT, Nat.reduceAdd, Nat.reduceSub, Nat.reduceMul, Nat.reduceBEq, reduceCtorEq, Int.reduceAdd, Int.reduceSub, Int.reduceMul, Int.reduceLT, Int.reduceLE, Int.reduceGT, Int.reduceGE, Int.reduceEq, Int.reduceNe, Int.reduceBEq, Int.reduceBNe, Int.reduceTMod, Int.reduceTDiv, ↓if_true, ↓if_false]; rfl, rfl, by simp⟩ ?_
  rintro k e m1 ⟨i, hi, he, q0, q3, rfl, hall⟩
  simp (maxSteps := 2000000) (disch := first | assumption | omega | (simp only [nx_push, nx_set, ne_eq] <;> omega) | (simp only [XSide, F27]; done) | decide) only [XWalk, XSl, ↓XPre, reduceIte, Nat.reduceEqDiff, Nat.reduceLT, Nat.reduceAdd, Nat.reduceSub, Nat.reduceMul, Nat.reduceBEq, reduceCtorEq, Int.reduceAdd, Int.reduceSub, Int.reduceMul, Int.reduceLT, Int.reduceLE, Int.reduceGT, Int.reduceGE, Int.reduceEq, Int.reduceNe, Int.reduceBEq, Int.reduceBNe, Int.reduceTMod, Int.reduceTDiv, ↓if_true, ↓if_false, F27, A27, he, q0, q3]
  refine x_if (fun ht => ?_) (fun ht => ?_)
  · have hk : i < l.length := by have := of_decide_eq_true ht; omega
    have hli : l[i]? = some l[i] := List.getElem?_eq_getElem hk
    have hidx : ∀ m', aidx Tryd.prog 9 (str l) (.int .i64 (i : Int)) m' = some (.int .u8 (l[i].toNat : Int), m', [], .no) := fun m' => aidx_str' (show tyTag Tryd.prog 9 = 6 by simp only [F27]) hli
    have hC := nameC_eq l[i]
    unfold nameC at hC
    have e2 : IntKind.wrap .i64 ((i : Int) + 1) = ((i + 1 : Nat) : Int) := by rw [wrap_i64 (by omega) (by omega)]; omega
    have bad : nameSet.contains l[i] = false → nameB l = false := fun h => by
      have : l.all nameSet.contains = false := by
        rw [List.all_eq_false]
        exact ⟨l[i], List.getElem_mem hk, by rw [h]; simp⟩
      rw [nameB, this]; simp
    have good : nameSet.contains l[i] = true → (l.take (i + 1)).all nameSet.contains = true := fun h => by
      rw [List.take_succ_eq_append_getElem hk, List.all_append, hall, List.all_cons, h]; rfl
    have fin : ∀ b : Bool, b = nameSet.contains l[i] → (b = true → ∃ j, j < k ∧ ∃ i_1, i_1 + j = l.length ∧ Value.int IntKind.i64 ((i + 1 : Nat) : Int) = Value.int IntKind.i64 (i_1 : Int) ∧ (l.take i_1).all nameSet.contains = true) := fun b hb h => ⟨k - 1, by omega, i + 1, by omega, rfl, good (by rw [← hb]; exact h)⟩
    simp (maxSteps := 2000000) (disch := first | assumption | omega | (simp only [nx_push, nx_set, ne_eq] <;> omega) | (simp only [XSide, F27]; done) | decide) only [XWalk, XSl, ↓XPre, reduceIte, Nat.reduceEqDiff, Nat.reduceLT, Nat.reduceAdd, Nat.reduceSub, Nat.reduceMul, Nat.reduceBEq, reduceCtorEq, Int.reduceAdd, Int.reduceSub, Int.reduceMul, Int.reduceLT, Int.reduceLE, Int.reduceGT, Int.reduceGE, Int.reduceEq, Int.reduceNe, Int.reduceBEq, Int.reduceBNe, Int.reduceTMod, Int.reduceTDiv, ↓if_true, ↓if_false, F27, A27, he, q0, q3, hidx, e2]
    cases h1 : decide ((l[i].toNat : Int) ≥ 97) with
    | false =>
      simp (maxSteps := 2000000) (disch := first | assumption | omega | (simp only [nx_push, nx_set, ne_eq] <;> omega) | (simp only [XSide, F27]; done) | decide) only [XWalk, XSl, ↓XPre, reduceIte, Nat.reduceEqDiff, Nat.reduceLT, Nat.reduceAdd, Nat.reduceSub, Nat.reduceMul, Nat.reduceBEq, reduceCtorEq, Int.reduceAdd, Int.reduceSub, Int.reduceMul, Int.reduceLT, Int.reduceLE, Int.reduceGT, Int.reduceGE, Int.reduceEq, Int.reduceNe, Int.reduceBEq, Int.reduceBNe, Int.reduceTMod, Int.reduceTDiv, ↓if_true, ↓if_false, F27, A27, h1, he, q0, q3, hidx, e2]
      cases h3 : decide ((l[i].toNat : Int) ≥ 48) with
      | false =>
        simp (maxSteps := 2000000) (disch := first | assumption | omega | (simp only [nx_push, nx_set, ne_eq] <;> omega) | (simp only [XSide, F27]; done) | decide) only [XWalk, XSl, ↓XPre, reduceIte, Nat.reduceEqDiff, Nat.reduceLT, Nat.reduceAdd, Nat.reduceSub, Nat.reduceMul, Nat.reduceBEq, reduceCtorEq, Int.reduceAdd, Int.reduceSub, Int.reduceMul, Int.reduceLT, Int.reduceLE, Int.reduceGT, Int.reduceGE, Int.reduceEq, Int.reduceNe, Int.reduceBEq, Int.reduceBNe, Int.reduceTMod, Int.reduceTDiv, ↓if_true, ↓if_false, F27, A27, h1, h3, he, q0, q3, hidx, e2]
        refine x_if (fun h5 => ?_) (fun h5 => ?_)
        · have h5' : ((l[i].toNat : Int) == 45) = false := by simpa using h5
          rw [h1, h3, h5'] at hC
          simp (maxSteps := 2000000) (disch := first | assumption | omega | (simp only [nx_push, nx_set, ne_eq] <;> omega) | (simp only [XSide, F27]; done) | decide) only [XWalk, XSl, ↓XPre, reduceIte, Nat.reduceEqDiff, Nat.reduceLT, Nat.reduceAdd, Nat.reduceSub, Nat.reduceMul, Nat.reduceBEq, reduceCtorEq, Int.reduceAdd, Int.reduceSub, Int.reduceMul, Int.reduceLT, Int.reduceLE, Int.reduceGT, Int.reduceGE, Int.reduceEq, Int.reduceNe, Int.reduceBEq, Int.reduceBNe, Int.reduceTMod, Int.reduceTDiv, ↓if_true, ↓if_false, F27, A27, h1, h3, he, q0, q3, hidx, e2]
          rw [bad hC.symm]
        · have h5' : ((l[i].toNat : Int) == 45) = true := by simpa using h5
          rw [h1, h3, h5'] at hC
          simp (maxSteps := 2000000) (disch := first | assumption | omega | (simp only [nx_push, nx_set, ne_eq] <;> omega) | (simp only [XSide, F27]; done) | decide) only [XWalk, XSl, ↓XPre, reduceIte, Nat.reduceEqDiff, Nat.reduceLT, Nat.reduceAdd, Nat.reduceSub, Nat.reduceMul, Nat.reduceBEq, reduceCtorEq, Int.reduceAdd, Int.reduceSub, Int.reduceMul, Int.reduceLT, Int.reduceLE, Int.reduceGT, Int.reduceGE, Int.reduceEq, Int.reduceNe, Int.reduceBEq, Int.reduceBNe, Int.reduceTMod, Int.reduceTDiv, ↓if_true, ↓if_false, F27, A27, h1, h3, he, q0, q3, hidx, e2]
          exact fin true (by rw [← hC]; rfl) rfl
      | true =>
        simp (maxSteps := 2000000) (disch := first | assumption | omega | (simp only [nx_push, nx_set, ne_eq] <;> omega) | (simp only [XSide, F27]; done) | decide) only [XWalk, XSl, ↓XPre, reduceIte, Nat.reduceEqDiff, Nat.reduceLT, Nat.reduceAdd, Nat.reduceSub, Nat.reduceMul, Nat.reduceBEq, reduceCtorEq, Int.reduceAdd, Int.reduceSub, Int.reduceMul, Int.reduceLT, Int.reduceLE, Int.reduceGT, Int.reduceGE, Int.reduceEq, Int.reduceNe, Int.reduceBEq, Int.reduceBNe, Int.reduceTMod, Int.reduceTDiv, ↓if_true, ↓if_false, F27, A27, h1, h3, he, q0, q3, hidx, e2]
        cases h4 : decide ((l[i].toNat : Int) ≤ 57) with
        | false =>
          simp (maxSteps := 2000000) (disch := first | assumption | omega | (simp only [nx_push, nx_set, ne_eq] <;> omega) | (simp only [XSide, F27]; done) | decide) only [XWalk, XSl, ↓XPre, reduceIte, Nat.reduceEqDiff, Nat.reduceLT, Nat.reduceAdd, Nat.reduceSub, Nat.reduceMul, Nat.reduceBEq, reduceCtorEq, Int.reduceAdd, Int.reduceSub, Int.reduceMul, Int.reduceLT, Int.reduceLE, Int.reduceGT, Int.reduceGE, Int.reduceEq, Int.reduceNe, Int.reduceBEq, Int.reduceBNe, Int.reduceTMod, Int.reduceTDiv, ↓if_true, ↓if_false, F27, A27, h1, h3, h4, he, q0, q3, hidx, e2]
          refine x_if (fun h5 => ?_) (fun h5 => ?_)
          · have h5' : ((l[i].toNat : Int) == 45) = false := by simpa using h5
            rw [h1, h3, h4, h5'] at hC
            simp (maxSteps := 2000000) (disch := first | assumption | omega | (simp only [nx_push, nx_set, ne_eq] <;> omega) | (simp only [XSide, F27]; done) | decide) only [XWalk, XSl, ↓XPre, reduceIte, Nat.reduceEqDiff, Nat.reduceLT, Nat.reduceAdd, Nat.reduceSub, Nat.reduceMul, Nat.reduceBEq, reduceCtorEq, Int.reduceAdd, Int.reduceSub, Int.reduceMul, Int.reduceLT, Int.reduceLE, Int.reduceGT, Int.reduceGE, Int.reduceEq, Int.reduceNe, Int.reduceBEq, Int.reduceBNe, Int.reduceTMod, Int.reduceTDiv, ↓if_true, ↓if_false, F27, A27, h1, h3, h4, he, q0, q3, hidx, e2]
            rw [bad hC.symm]
          · have h5' : ((l[i].toNat : Int) == 45) = true := by simpa using h5
            rw [h1, h3, h4, h5'] at hC
            simp (maxSteps := 2000000) (disch := first | assumption | omega | (simp only [nx_push, nx_set, ne_eq] <;> omega) | (simp only [XSide, F27]; done) | decide) only [XWalk, XSl, ↓XPre, reduceIte, Nat.reduceEqDiff, Nat.reduceLT, Nat.reduceAdd, Nat.reduceSub, Nat.reduceMul, Nat.reduceBEq, reduceCtorEq, Int.reduceAdd, Int.reduceSub, Int.reduceMul, Int.reduceLT, Int.reduceLE, Int.reduceGT, Int.reduceGE, Int.reduceEq, Int.reduceNe, Int.reduceBEq, Int.reduceBNe, Int.reduceTMod, Int.reduceTDiv, ↓if_true, ↓if_false, F27, A27, h1, h3, h4, he, q0, q3, hidx, e2]
            exact fin true (by rw [← hC]; rfl) rfl
        | true =>
          simp (maxSteps := 2000000) (disch := first | assumption | omega | (simp only [nx_push, nx_set, ne_eq] <;> omega) | (simp only [XSide, F27]; done) | decide) only [XWalk, XSl, ↓XPre, reduceIte, Nat.reduceEqDiff, Nat.reduceLT, Nat.reduceAdd, Nat.reduceSub, Nat.reduceMul, Nat.reduceBEq, reduceCtorEq, Int.reduceAdd, Int.reduceSub, Int.reduceMul, Int.reduceLT, Int.reduceLE, Int.reduceGT, Int.reduceGE, Int.reduceEq, Int.reduceNe, Int.reduceBEq, Int.reduceBNe, Int.reduceTMod, Int.reduceTDiv, ↓if_true, ↓if_false, F27, A27, h1, h3, h4, he, q0, q3, hidx, e2]
          rw [h1, h3, h4] at hC
          exact fin true (by rw [← hC]; simp) rfl
    | true =>
      simp (maxSteps := 2000000) (disch := first | assumption | omega | (simp only [nx_push, nx_set, ne_eq] <;> omega) | (simp only [XSide, F27]; done) | decide) only [XWalk, XSl, ↓XPre, reduceIte, Nat.reduceEqDiff, Nat.reduceLT, Nat.reduceAdd, Nat.reduceSub, Nat.reduceMul, Nat.reduceBEq, reduceCtorEq, Int.reduceAdd, Int.reduceSub, Int.reduceMul, Int.reduceLT, Int.reduceLE, Int.reduceGT, Int.reduceGE, Int.reduceEq, Int.reduceNe, Int.reduceBEq, Int.reduceBNe, Int.reduceTMod, Int.reduceTDiv, ↓if_true, ↓if_false, F27, A27, h1, he, q0, q3, hidx, e2]
      cases h2 : decide ((l[i].toNat : Int) ≤ 122) with
      | false =>
        simp (maxSteps := 2000000) (disch := first | assumption | omega | (simp only [nx_push, nx_set, ne_eq] <;> omega) | (simp only [XSide, F27]; done) | decide) only [XWalk, XSl, ↓XPre, reduceIte, Nat.reduceEqDiff, Nat.reduceLT, Nat.reduceAdd, Nat.reduceSub, Nat.reduceMul, Nat.reduceBEq, reduceCtorEq, Int.reduceAdd, Int.reduceSub, Int.reduceMul, Int.reduceLT, Int.reduceLE, Int.reduceGT, Int.reduceGE, Int.reduceEq, Int.reduceNe, Int.reduceBEq, Int.reduceBNe, Int.reduceTMod, Int.reduceTDiv, ↓if_true, ↓if_false, F27, A27, h1, h2, he, q0, q3, hidx, e2]
        cases h3 : decide ((l[i].toNat : Int) ≥ 48) with
        | false =>
          simp (maxSteps := 2000000) (disch := first | assumption | omega | (simp only [nx_push, nx_set, ne_eq] <;> omega) | (simp only [XSide, F27]; done) | decide) only [XWalk, XSl, ↓XPre, reduceIte, Nat.reduceEqDiff, Nat.reduceLT, Nat.reduceAdd, Nat.reduceSub, Nat.reduceMul, Nat.reduceBEq, reduceCtorEq, Int.reduceAdd, Int.reduceSub, Int.reduceMul, Int.reduceLT, Int.reduceLE, Int.reduceGT, Int.reduceGE, Int.reduceEq, Int.reduceNe, Int.reduceBEq, Int.reduceBNe, Int.reduceTMod, Int.reduceTDiv, ↓if_true, ↓if_false, F27, A27, h1, h2, h3, he, q0, q3, hidx, e2]
          refine x_if (fun h5 => ?_) (fun h5 => ?_)
          · have h5' : ((l[i].toNat : Int) == 45) = false := by simpa using h5
            rw [h1, h2, h3, h5'] at hC
            simp (maxSteps := 2000000) (disch := first | assumption | omega | (simp only [nx_push, nx_set, ne_eq] <;> omega) | (simp only [XSide, F27]; done) | decide) only [XWalk, XSl, ↓XPre, reduceIte, Nat.reduceEqDiff, Nat.reduceLT, Nat.reduceAdd, Nat.reduceSub, Nat.reduceMul, Nat.reduceBEq, reduceCtorEq, Int.reduceAdd, Int.reduceSub, Int.reduceMul, Int.reduceLT, Int.reduceLE, Int.reduceGT, Int.reduceGE, Int.reduceEq, Int.reduceNe, Int.reduceBEq, Int.reduceBNe, Int.reduceTMod, Int.reduceTDiv, ↓if_true, ↓if_false, F27, A27, h1, h2, h3, he, q0, q3, hidx, e2]
            rw [bad hC.symm]
          · have h5' : ((l[i].toNat : Int) == 45) = true := by simpa using h5
            rw [h1, h2, h3, h5'] at hC
            simp (maxSteps := 2000000) (disch := first | assumption | omega | (simp only [nx_push, nx_set, ne_eq] <;> omega) | (simp only [XSide, F27]; done) | decide) only [XWalk, XSl, ↓XPre, reduceIte, Nat.reduceEqDiff, Nat.reduceLT, Nat.reduceAdd, Nat.reduceSub, Nat.reduceMul, Nat.reduceBEq, reduceCtorEq, Int.reduceAdd, Int.reduceSub, Int.reduceMul, Int.reduceLT, Int.reduceLE, Int.reduceGT, Int.reduceGE, Int.reduceEq, Int.reduceNe, Int.reduceBEq, Int.reduceBNe, Int.reduceTMod, Int.reduceTDiv, ↓if_true, ↓if_false, F27, A27, h1, h2, h3, he, q0, q3, hidx, e2]
            exact fin true (by rw [← hC]; rfl) rfl
        | true =>
          simp (maxSteps := 2000000) (disch := first | assumption | omega | (simp only [nx_push, nx_set, ne_eq] <;> omega) | (simp only [XSide, F27]; done) | decide) only [XWalk, XSl, ↓XPre, reduceIte, Nat.reduceEqDiff, Nat.reduceLT, Nat.reduceAdd, Nat.reduceSub, Nat.reduceMul, Nat.reduceBEq, reduceCtorEq, Int.reduceAdd, Int.reduceSub, Int.reduceMul, Int.reduceLT, Int.reduceLE, Int.reduceGT, Int.reduceGE, Int.reduceEq, Int.reduceNe, Int.reduceBEq, Int.reduceBNe, Int.reduceTMod, Int.reduceTDiv, ↓if_true, ↓if_false, F27, A27, h1, h2, h3, he, q0, q3, hidx, e2]
          cases h4 : decide ((l[i].toNat : Int) ≤ 57) with
          | false =>
            simp (maxSteps := 2000000) (disch := first | assumption | omega | (simp only [nx_push, nx_set, ne_eq] <;> omega) | (simp only [XSide, F27]; done) | decide) only [XWalk, XSl, ↓XPre, reduceIte, Nat.reduceEqDiff, Nat.reduceLT, Nat.reduceAdd, Nat.reduceSub, Nat.reduceMul, Nat.reduceBEq, reduceCtorEq, Int.reduceAdd, Int.reduceSub, Int.reduceMul, Int.reduceLT, Int.reduceLE, Int.reduceGT, Int.reduceGE, Int.reduceEq, Int.reduceNe, Int.reduceBEq, Int.reduceBNe, Int.reduceTMod, Int.reduceTDiv, ↓if_true, ↓if_false, F27, A27, h1, h2, h3, h4, he, q0, q3, hidx, e2]
            refine x_if (fun h5 => ?_) (fun h5 => ?_)
            · have h5' : ((l[i].toNat : Int) == 45) = false := by simpa using h5
              rw [h1, h2, h3, h4, h5'] at hC
              simp (maxSteps := 2000000) (disch := first | assumption | omega | (simp only [nx_push, nx_set, ne_eq] <;> omega) | (simp only [XSide, F27]; done) | decide) only [XWalk, XSl, ↓XPre, reduceIte, Nat.reduceEqDiff, Nat.reduceLT, Nat.reduceAdd, Nat.reduceSub, Nat.reduceMul, Nat.reduceBEq, reduceCtorEq, Int.reduceAdd, Int.reduceSub, Int.reduceMul, Int.reduceLT, Int.reduceLE, Int.reduceGT, Int.reduceGE, Int.reduceEq, Int.reduceNe, Int.reduceBEq, Int.reduceBNe, Int.reduceTMod, Int.reduceTDiv, ↓if_true, ↓if_false, F27, A27, h1, h2, h3, h4, he, q0, q3, hidx, e2]
              rw [bad hC.symm]
            · have h5' : ((l[i].toNat : Int) == 45) = true := by simpa using h5
              rw [h1, h2, h3, h4, h5'] at hC
              simp (maxSteps := 2000000) (disch := first | assumption | omega | (simp only [nx_push, nx_set, ne_eq] <;> omega) | (simp only [XSide, F27]; done) | decide) only [XWalk, XSl, ↓XPre, reduceIte, Nat.reduceEqDiff, Nat.reduceLT, Nat.reduceAdd, Nat.reduceSub, Nat.reduceMul, Nat.reduceBEq, reduceCtorEq, Int.reduceAdd, Int.reduceSub, Int.reduceMul, Int.reduceLT, Int.reduceLE, Int.reduceGT, Int.reduceGE, Int.reduceEq, Int.reduceNe, Int.reduceBEq, Int.reduceBNe, Int.reduceTMod, Int.reduceTDiv, ↓if_true, ↓if_false, F27, A27, h1, h2, h3, h4, he, q0, q3, hidx, e2]
              exact fin true (by rw [← hC]; rfl) rfl
          | true =>
            simp (maxSteps := 2000000) (disch := first | assumption | omega | (simp only [nx_push, nx_set, ne_eq] <;> omega) | (simp only [XSide, F27]; done) | decide) only [XWalk, XSl, ↓XPre, reduceIte, Nat.reduceEqDiff, Nat.reduceLT, Nat.reduceAdd, Nat.reduceSub, Nat.reduceMul, Nat.reduceBEq, reduceCtorEq, Int.reduceAdd, Int.reduceSub, Int.reduceMul, Int.reduceLT, Int.reduceLE, Int.reduceGT, Int.reduceGE, Int.reduceEq, Int.reduceNe, Int.reduceBEq, Int.reduceBNe, Int.reduceTMod, Int.reduceTDiv, ↓if_true, ↓if_false, F27, A27, h1, h2, h3, h4, he, q0, q3, hidx, e2]
            rw [h1, h2, h3, h4] at hC
            exact fin true (by rw [← hC]; simp) rfl
      | true =>
        simp (maxSteps := 2000000) (disch := first | assumption | omega | (simp only [nx_push, nx_set, ne_eq] <;> omega) | (simp only [XSide, F27]; done) | decide) only [XWalk, XSl, ↓XPre, reduceIte, Nat.reduceEqDiff, Nat.reduceLT, Nat.reduceAdd, Nat.reduceSub, Nat.reduceMul, Nat.reduceBEq, reduceCtorEq, Int.reduceAdd, Int.reduceSub, Int.reduceMul, Int.reduceLT, Int.reduceLE, Int.reduceGT, Int.reduceGE, Int.reduceEq, Int.reduceNe, Int.reduceBEq, Int.reduceBNe, Int.reduceTMod, Int.reduceTDiv, ↓if_true, ↓if_false, F27, A27, h1, h2, he, q0, q3, hidx, e2]
        rw [h1, h2] at hC
        exact fin true (by rw [← hC]; simp) rfl
  · have hk : i = l.length := by have := of_decide_eq_false ht; omega
    subst hk
    rw [List.take_length] at hall
    simp (maxSteps := 2000000) (disch := first | assumption | omega | (simp only [nx_push, nx_set, ne_eq] <;> omega) | (simp only [XSide, F27]; done) | decide) only [XWalk, XSl, ↓XPre, reduceIte, Nat.reduceEqDiff, Nat.reduceLT, Nat.reduceAdd, Nat.reduceSub, Nat.reduceMul, Nat.reduceBEq, reduceCtorEq, Int.reduceAdd, Int.reduceSub, Int.reduceMul, Int.reduceLT, Int.reduceLE, Int.reduceGT, Int.reduceGE, Int.reduceEq, Int.reduceNe, Int.reduceBEq, Int.reduceBNe, Int.reduceTMod, Int.reduceTDiv, ↓if_true, ↓if_false, F27, A27, he, q0, q3]
    cases h1 : decide ((l.length : Int) ≥ 1) with
    | false =>
      simp (maxSteps := 2000000) (disch := first | assumption | omega | (simp only [nx_push, nx_set, ne_eq] <;> omega) | (simp only [XSide, F27]; done) | decide) only [XWalk, XSl, ↓XPre, reduceIte, Nat.reduceEqDiff, Nat.reduceLT, Nat.reduceAdd, Nat.reduceSub, Nat.reduceMul, Nat.reduceBEq, reduceCtorEq, Int.reduceAdd, Int.reduceSub, Int.reduceMul, Int.reduceLT, Int.reduceLE, Int.reduceGT, Int.reduceGE, Int.reduceEq, Int.reduceNe, Int.reduceBEq, Int.reduceBNe, Int.reduceTMod, Int.reduceTDiv, ↓if_true, ↓if_false, F27, A27, h1, he, q0]
      rw [nameB, hall, show decide (1 ≤ l.length) = false by have := of_decide_eq_false h1; exact decide_eq_false (by omega)]; rfl
    | true =>
      simp (maxSteps := 2000000) (disch := first | assumption | omega | (simp only [nx_push, nx_set, ne_eq] <;> omega) | (simp only [XSide, F27]; done) | decide) only [XWalk, XSl, ↓XPre, reduceIte, Nat.reduceEqDiff, Nat.reduceLT, Nat.reduceAdd, Nat.reduceSub, Nat.reduceMul, Nat.reduceBEq, reduceCtorEq, Int.reduceAdd, Int.reduceSub, Int.reduceMul, Int.reduceLT, Int.reduceLE, Int.reduceGT, Int.reduceGE, Int.reduceEq, Int.reduceNe, Int.reduceBEq, Int.reduceBNe, Int.reduceTMod, Int.reduceTDiv, ↓if_true, ↓if_false, F27, A27, h1, he, q0]
      rw [nameB, hall, show decide (1 ≤ l.length) = true by have := of_decide_eq_true h1; exact decide_eq_true (by omega), show decide (l.length ≤ 32) = decide ((l.length : Int) ≤ 32) by rw [Bool.eq_iff_iff, decide_eq_true_iff, decide_eq_true_iff]; omega]
      simp

theorem refvalid_ct {m : Mem} (hw : WF m) {n S T : List UInt8} {r s : Int} {sv tv : Value} (hs : Bs m sv S) (ht : Bs m tv T) (hn : n.length ≤ 1073741824) : Ct Tryd.prog S0 12 [envV n r s sv tv] m [] (fun out m' => out = .ret (.bool (validB n r s S.length T.length))) := by
  have hone : [str n, .int .i64 r, .int .i64 s, sv, tv].all oneCell = true := by
    simp only [List.all_cons, List.all_nil, one_sl hs, one_sl ht, one_str, one_int, Bool.and_self]
  have hs1 : Bs (m.push (.row [str n, .int .i64 r, .int .i64 s, sv, tv] .rw)) sv S := hs.keep (Keep.push hw)
  have ht1 : Bs (m.push (.row [str n, .int .i64 r, .int .i64 s, sv, tv] .rw)) tv T := ht.keep (Keep.push hw)
  have row1 : (m.push (.row [str n, .int .i64 r, .int .i64 s, sv, tv] .rw)).get m.next = some (.row [str n, .int .i64 r, .int .i64 s, sv, tv] .rw) := get_push_self
  refine ct_x (spec0 _) (by rfl) Tryd.func12 rfl ?_
  unfold validB
  simp (maxSteps := 2000000) (disch := first | assumption | omega | (simp only [nx_push, nx_set, ne_eq] <;> omega) | (simp only [XSide, F12]; done) | decide) only [XWalk, XSl, ↓XPre, reduceIte, Nat.reduceEqDiff, Nat.reduceLT, Nat.reduceAdd, Nat.reduceSub, Nat.reduceMul, Nat.reduceBEq, reduceCtorEq, Int.reduceAdd, Int.reduceSub, Int.reduceMul, Int.reduceLT, Int.reduceLE, Int.reduceGT, Int.reduceGE, Int.reduceEq, Int.reduceNe, Int.reduceBEq, Int.reduceBNe, Int.reduceTMod, Int.reduceTDiv, ↓if_true, ↓if_false, F12, A12, Tryd.ntmps12, XAcc]
  refine wcall_pu (pu_of (refname_ct hn)) ?_
  cases hb : nameB n with
  | false => simp (maxSteps := 2000000) (disch := first | assumption | omega | (simp only [nx_push, nx_set, ne_eq] <;> omega) | (simp only [XSide, F12]; done) | decide) only [XWalk, XSl, ↓XPre, reduceIte, Nat.reduceEqDiff, Nat.reduceLT, Nat.reduceAdd, Nat.reduceSub, Nat.reduceMul, Nat.reduceBEq, reduceCtorEq, Int.reduceAdd, Int.reduceSub, Int.reduceMul, Int.reduceLT, Int.reduceLE, Int.reduceGT, Int.reduceGE, Int.reduceEq, Int.reduceNe, Int.reduceBEq, Int.reduceBNe, Int.reduceTMod, Int.reduceTDiv, ↓if_true, ↓if_false, F12, A12] <;> rfl
  | true =>
    rw [Bool.true_and]
    simp (maxSteps := 2000000) (disch := first | assumption | omega | (simp only [nx_push, nx_set, ne_eq] <;> omega) | (simp only [XSide, F12]; done) | decide) only [XWalk, XSl, ↓XPre, reduceIte, Nat.reduceEqDiff, Nat.reduceLT, Nat.reduceAdd, Nat.reduceSub, Nat.reduceMul, Nat.reduceBEq, reduceCtorEq, Int.reduceAdd, Int.reduceSub, Int.reduceMul, Int.reduceLT, Int.reduceLE, Int.reduceGT, Int.reduceGE, Int.reduceEq, Int.reduceNe, Int.reduceBEq, Int.reduceBNe, Int.reduceTMod, Int.reduceTDiv, ↓if_true, ↓if_false, F12, A12, row1, XAcc, alen_bs hs1, alen_bs ht1]
    cases v1 : decide (r ≥ 0) with
    | false =>
      simp (maxSteps := 2000000) (disch := first | assumption | omega | (simp only [nx_push, nx_set, ne_eq] <;> omega) | (simp only [XSide, F12]; done) | decide) only [XWalk, XSl, ↓XPre, reduceIte, Nat.reduceEqDiff, Nat.reduceLT, Nat.reduceAdd, Nat.reduceSub, Nat.reduceMul, Nat.reduceBEq, reduceCtorEq, Int.reduceAdd, Int.reduceSub, Int.reduceMul, Int.reduceLT, Int.reduceLE, Int.reduceGT, Int.reduceGE, Int.reduceEq, Int.reduceNe, Int.reduceBEq, Int.reduceBNe, Int.reduceTMod, Int.reduceTDiv, ↓if_true, ↓if_false, F12, A12, row1, XAcc, alen_bs hs1, alen_bs ht1, v1] <;> rfl
    | true =>
      simp (maxSteps := 2000000) (disch := first | assumption | omega | (simp only [nx_push, nx_set, ne_eq] <;> omega) | (simp only [XSide, F12]; done) | decide) only [XWalk, XSl, ↓XPre, reduceIte, Nat.reduceEqDiff, Nat.reduceLT, Nat.reduceAdd, Nat.reduceSub, Nat.reduceMul, Nat.reduceBEq, reduceCtorEq, Int.reduceAdd, Int.reduceSub, Int.reduceMul, Int.reduceLT, Int.reduceLE, Int.reduceGT, Int.reduceGE, Int.reduceEq, Int.reduceNe, Int.reduceBEq, Int.reduceBNe, Int.reduceTMod, Int.reduceTDiv, ↓if_true, ↓if_false, F12, A12, row1, XAcc, alen_bs hs1, alen_bs ht1, v1]
      cases v2 : decide (r ≤ 1048576) with
      | false =>
        simp (maxSteps := 2000000) (disch := first | assumption | omega | (simp only [nx_push, nx_set, ne_eq] <;> omega) | (simp only [XSide, F12]; done) | decide) only [XWalk, XSl, ↓XPre, reduceIte, Nat.reduceEqDiff, Nat.reduceLT, Nat.reduceAdd, Nat.reduceSub, Nat.reduceMul, Nat.reduceBEq, reduceCtorEq, Int.reduceAdd, Int.reduceSub, Int.reduceMul, Int.reduceLT, Int.reduceLE, Int.reduceGT, Int.reduceGE, Int.reduceEq, Int.reduceNe, Int.reduceBEq, Int.reduceBNe, Int.reduceTMod, Int.reduceTDiv, ↓if_true, ↓if_false, F12, A12, row1, XAcc, alen_bs hs1, alen_bs ht1, v1, v2] <;> rfl
      | true =>
        simp (maxSteps := 2000000) (disch := first | assumption | omega | (simp only [nx_push, nx_set, ne_eq] <;> omega) | (simp only [XSide, F12]; done) | decide) only [XWalk, XSl, ↓XPre, reduceIte, Nat.reduceEqDiff, Nat.reduceLT, Nat.reduceAdd, Nat.reduceSub, Nat.reduceMul, Nat.reduceBEq, reduceCtorEq, Int.reduceAdd, Int.reduceSub, Int.reduceMul, Int.reduceLT, Int.reduceLE, Int.reduceGT, Int.reduceGE, Int.reduceEq, Int.reduceNe, Int.reduceBEq, Int.reduceBNe, Int.reduceTMod, Int.reduceTDiv, ↓if_true, ↓if_false, F12, A12, row1, XAcc, alen_bs hs1, alen_bs ht1, v1, v2]
        cases v3 : decide (s ≥ 0) with
        | false =>
          simp (maxSteps := 2000000) (disch := first | assumption | omega | (simp only [nx_push, nx_set, ne_eq] <;> omega) | (simp only [XSide, F12]; done) | decide) only [XWalk, XSl, ↓XPre, reduceIte, Nat.reduceEqDiff, Nat.reduceLT, Nat.reduceAdd, Nat.reduceSub, Nat.reduceMul, Nat.reduceBEq, reduceCtorEq, Int.reduceAdd, Int.reduceSub, Int.reduceMul, Int.reduceLT, Int.reduceLE, Int.reduceGT, Int.reduceGE, Int.reduceEq, Int.reduceNe, Int.reduceBEq, Int.reduceBNe, Int.reduceTMod, Int.reduceTDiv, ↓if_true, ↓if_false, F12, A12, row1, XAcc, alen_bs hs1, alen_bs ht1, v1, v2, v3] <;> rfl
        | true =>
          simp (maxSteps := 2000000) (disch := first | assumption | omega | (simp only [nx_push, nx_set, ne_eq] <;> omega) | (simp only [XSide, F12]; done) | decide) only [XWalk, XSl, ↓XPre, reduceIte, Nat.reduceEqDiff, Nat.reduceLT, Nat.reduceAdd, Nat.reduceSub, Nat.reduceMul, Nat.reduceBEq, reduceCtorEq, Int.reduceAdd, Int.reduceSub, Int.reduceMul, Int.reduceLT, Int.reduceLE, Int.reduceGT, Int.reduceGE, Int.reduceEq, Int.reduceNe, Int.reduceBEq, Int.reduceBNe, Int.reduceTMod, Int.reduceTDiv, ↓if_true, ↓if_false, F12, A12, row1, XAcc, alen_bs hs1, alen_bs ht1, v1, v2, v3]
          cases v4 : decide (s ≤ 1073741824) with
          | false =>
            simp (maxSteps := 2000000) (disch := first | assumption | omega | (simp only [nx_push, nx_set, ne_eq] <;> omega) | (simp only [XSide, F12]; done) | decide) only [XWalk, XSl, ↓XPre, reduceIte, Nat.reduceEqDiff, Nat.reduceLT, Nat.reduceAdd, Nat.reduceSub, Nat.reduceMul, Nat.reduceBEq, reduceCtorEq, Int.reduceAdd, Int.reduceSub, Int.reduceMul, Int.reduceLT, Int.reduceLE, Int.reduceGT, Int.reduceGE, Int.reduceEq, Int.reduceNe, Int.reduceBEq, Int.reduceBNe, Int.reduceTMod, Int.reduceTDiv, ↓if_true, ↓if_false, F12, A12, row1, XAcc, alen_bs hs1, alen_bs ht1, v1, v2, v3, v4] <;> rfl
          | true =>
            simp (maxSteps := 2000000) (disch := first | assumption | omega | (simp only [nx_push, nx_set, ne_eq] <;> omega) | (simp only [XSide, F12]; done) | decide) only [XWalk, XSl, ↓XPre, reduceIte, Nat.reduceEqDiff, Nat.reduceLT, Nat.reduceAdd, Nat.reduceSub, Nat.reduceMul, Nat.reduceBEq, reduceCtorEq, Int.reduceAdd, Int.reduceSub, Int.reduceMul, Int.reduceLT, Int.reduceLE, Int.reduceGT, Int.reduceGE, Int.reduceEq, Int.reduceNe, Int.reduceBEq, Int.reduceBNe, Int.reduceTMod, Int.reduceTDiv, ↓if_true, ↓if_false, F12, A12, row1, XAcc, alen_bs hs1, alen_bs ht1, v1, v2, v3, v4]
            cases v5 : decide ((S.length : Int) ≥ 32) with
            | false =>
              simp (maxSteps := 2000000) (disch := first | assumption | omega | (simp only [nx_push, nx_set, ne_eq] <;> omega) | (simp only [XSide, F12]; done) | decide) only [XWalk, XSl, ↓XPre, reduceIte, Nat.reduceEqDiff, Nat.reduceLT, Nat.reduceAdd, Nat.reduceSub, Nat.reduceMul, Nat.reduceBEq, reduceCtorEq, Int.reduceAdd, Int.reduceSub, Int.reduceMul, Int.reduceLT, Int.reduceLE, Int.reduceGT, Int.reduceGE, Int.reduceEq, Int.reduceNe, Int.reduceBEq, Int.reduceBNe, Int.reduceTMod, Int.reduceTDiv, ↓if_true, ↓if_false, F12, A12, row1, XAcc, alen_bs hs1, alen_bs ht1, v1, v2, v3, v4, v5] <;> rfl
            | true =>
              simp (maxSteps := 2000000) (disch := first | assumption | omega | (simp only [nx_push, nx_set, ne_eq] <;> omega) | (simp only [XSide, F12]; done) | decide) only [XWalk, XSl, ↓XPre, reduceIte, Nat.reduceEqDiff, Nat.reduceLT, Nat.reduceAdd, Nat.reduceSub, Nat.reduceMul, Nat.reduceBEq, reduceCtorEq, Int.reduceAdd, Int.reduceSub, Int.reduceMul, Int.reduceLT, Int.reduceLE, Int.reduceGT, Int.reduceGE, Int.reduceEq, Int.reduceNe, Int.reduceBEq, Int.reduceBNe, Int.reduceTMod, Int.reduceTDiv, ↓if_true, ↓if_false, F12, A12, row1, XAcc, alen_bs hs1, alen_bs ht1, v1, v2, v3, v4, v5]
              cases v6 : decide ((S.length : Int) ≤ 4128) with
              | false =>
                simp (maxSteps := 2000000) (disch := first | assumption | omega | (simp only [nx_push, nx_set, ne_eq] <;> omega) | (simp only [XSide, F12]; done) | decide) only [XWalk, XSl, ↓XPre, reduceIte, Nat.reduceEqDiff, Nat.reduceLT, Nat.reduceAdd, Nat.reduceSub, Nat.reduceMul, Nat.reduceBEq, reduceCtorEq, Int.reduceAdd, Int.reduceSub, Int.reduceMul, Int.reduceLT, Int.reduceLE, Int.reduceGT, Int.reduceGE, Int.reduceEq, Int.reduceNe, Int.reduceBEq, Int.reduceBNe, Int.reduceTMod, Int.reduceTDiv, ↓if_true, ↓if_false, F12, A12, row1, XAcc, alen_bs hs1, alen_bs ht1, v1, v2, v3, v4, v5, v6] <;> rfl
              | true =>
                simp (maxSteps := 2000000) (disch := first | assumption | omega | (simp only [nx_push, nx_set, ne_eq] <;> omega) | (simp only [XSide, F12]; done) | decide) only [XWalk, XSl, ↓XPre, reduceIte, Nat.reduceEqDiff, Nat.reduceLT, Nat.reduceAdd, Nat.reduceSub, Nat.reduceMul, Nat.reduceBEq, reduceCtorEq, Int.reduceAdd, Int.reduceSub, Int.reduceMul, Int.reduceLT, Int.reduceLE, Int.reduceGT, Int.reduceGE, Int.reduceEq, Int.reduceNe, Int.reduceBEq, Int.reduceBNe, Int.reduceTMod, Int.reduceTDiv, ↓if_true, ↓if_false, F12, A12, row1, XAcc, alen_bs hs1, alen_bs ht1, v1, v2, v3, v4, v5, v6] <;> rfl

theorem eseal_nil_ct {m : Mem} (hw : WF m) {n : List UInt8} {r s : Int} (hn : n.length ≤ 1073741824) : Ct Tryd.prog S0 7 [.pointer none, str n, .int .i64 r, .int .i64 s, .slice none 0 0, .slice none 0 0, .slice none 0 0] m [] (fun out m' => out = .ret (.tuple #[env0, .int .i64 1])) := by
  refine ct_x (spec0 _) (by rfl) Tryd.func7 rfl ?_
  simp (maxSteps := 2000000) (disch := first | assumption | omega | (simp only [nx_push, nx_set, ne_eq] <;> omega) | (simp only [XSide, F7]; done) | decide) only [XWalk, XSl, ↓XPre, reduceIte, Nat.reduceEqDiff, Nat.reduceLT, Nat.reduceAdd, Nat.reduceSub, Nat.reduceMul, Nat.reduceBEq, reduceCtorEq, Int.reduceAdd, Int.reduceSub, Int.reduceMul, Int.reduceLT, Int.reduceLE, Int.reduceGT, Int.reduceGE, Int.reduceEq, Int.reduceNe, Int.reduceBEq, Int.reduceBNe, Int.reduceTMod, Int.reduceTDiv, ↓if_true, ↓if_false, F7, A7, Tryd.ntmps7, XAcc]
  refine wcall_x specLoc (get_nil_ct hw.push) hw.push ?_
  rintro out m1 hw1 hn1 f1 rfl
  have row1 : m1.get m.next = some (.row [str [], .int .i64 0, .int .i64 0, .slice none 0 0, .slice none 0 0] .rw) := by rw [f1 _ (by simp), get_push_self]
  simp only [Mem.next_push] at hn1
  clear f1
  have nl : ∀ m' : Mem, Bs m' (.slice none 0 0) [] := fun m' => .nil
  simp (maxSteps := 2000000) (disch := first | assumption | omega | (simp only [nx_push, nx_set, ne_eq] <;> omega) | (simp only [XSide, F7]; done) | decide) only [XWalk, XSl, ↓XPre, reduceIte, Nat.reduceEqDiff, Nat.reduceLT, Nat.reduceAdd, Nat.reduceSub, Nat.reduceMul, Nat.reduceBEq, reduceCtorEq, Int.reduceAdd, Int.reduceSub, Int.reduceMul, Int.reduceLT, Int.reduceLE, Int.reduceGT, Int.reduceGE, Int.reduceEq, Int.reduceNe, Int.reduceBEq, Int.reduceBNe, Int.reduceTMod, Int.reduceTDiv, ↓if_true, ↓if_false, F7, A7, XAcc]
  refine wcall_pu (pu_of unless_ct) ?_
  simp (maxSteps := 2000000) (disch := first | assumption | omega | (simp only [nx_push, nx_set, ne_eq] <;> omega) | (simp only [XSide, F7]; done) | decide) only [XWalk, XSl, ↓XPre, reduceIte, Nat.reduceEqDiff, Nat.reduceLT, Nat.reduceAdd, Nat.reduceSub, Nat.reduceMul, Nat.reduceBEq, reduceCtorEq, Int.reduceAdd, Int.reduceSub, Int.reduceMul, Int.reduceLT, Int.reduceLE, Int.reduceGT, Int.reduceGE, Int.reduceEq, Int.reduceNe, Int.reduceBEq, Int.reduceBNe, Int.reduceTMod, Int.reduceTDiv, ↓if_true, ↓if_false, F7, A7]
  refine wcall_pu (pu_of within_ct) ?_
  cases h1 : (decide (r ≥ 0) && decide (r ≤ 1048576)) with
  | false =>
    simp (maxSteps := 2000000) (disch := first | assumption | omega | (simp only [nx_push, nx_set, ne_eq] <;> omega) | (simp only [XSide, F7]; done) | decide) only [XWalk, XSl, ↓XPre, reduceIte, Nat.reduceEqDiff, Nat.reduceLT, Nat.reduceAdd, Nat.reduceSub, Nat.reduceMul, Nat.reduceBEq, reduceCtorEq, Int.reduceAdd, Int.reduceSub, Int.reduceMul, Int.reduceLT, Int.reduceLE, Int.reduceGT, Int.reduceGE, Int.reduceEq, Int.reduceNe, Int.reduceBEq, Int.reduceBNe, Int.reduceTMod, Int.reduceTDiv, ↓if_true, ↓if_false, F7, A7, h1]
    refine wcall_pu (pu_of unless_ct) ?_
    simp (maxSteps := 2000000) (disch := first | assumption | omega | (simp only [nx_push, nx_set, ne_eq] <;> omega) | (simp only [XSide, F7]; done) | decide) only [XWalk, XSl, ↓XPre, reduceIte, Nat.reduceEqDiff, Nat.reduceLT, Nat.reduceAdd, Nat.reduceSub, Nat.reduceMul, Nat.reduceBEq, reduceCtorEq, Int.reduceAdd, Int.reduceSub, Int.reduceMul, Int.reduceLT, Int.reduceLE, Int.reduceGT, Int.reduceGE, Int.reduceEq, Int.reduceNe, Int.reduceBEq, Int.reduceBNe, Int.reduceTMod, Int.reduceTDiv, ↓if_true, ↓if_false, F7, A7, alen_bs (nl _), List.length_nil, cast_lit]
    refine wcall_pu (pu_of unless_ct) ?_
    simp (maxSteps := 2000000) (disch := first | assumption | omega | (simp only [nx_push, nx_set, ne_eq] <;> omega) | (simp only [XSide, F7]; done) | decide) only [XWalk, XSl, ↓XPre, reduceIte, Nat.reduceEqDiff, Nat.reduceLT, Nat.reduceAdd, Nat.reduceSub, Nat.reduceMul, Nat.reduceBEq, reduceCtorEq, Int.reduceAdd, Int.reduceSub, Int.reduceMul, Int.reduceLT, Int.reduceLE, Int.reduceGT, Int.reduceGE, Int.reduceEq, Int.reduceNe, Int.reduceBEq, Int.reduceBNe, Int.reduceTMod, Int.reduceTDiv, ↓if_true, ↓if_false, F7, A7, alen_bs (nl _), List.length_nil, cast_lit]
    refine wcall_pu (pu_of unless_ct) ?_
    simp (maxSteps := 2000000) (disch := first | assumption | omega | (simp only [nx_push, nx_set, ne_eq] <;> omega) | (simp only [XSide, F7]; done) | decide) only [XWalk, XSl, ↓XPre, reduceIte, Nat.reduceEqDiff, Nat.reduceLT, Nat.reduceAdd, Nat.reduceSub, Nat.reduceMul, Nat.reduceBEq, reduceCtorEq, Int.reduceAdd, Int.reduceSub, Int.reduceMul, Int.reduceLT, Int.reduceLE, Int.reduceGT, Int.reduceGE, Int.reduceEq, Int.reduceNe, Int.reduceBEq, Int.reduceBNe, Int.reduceTMod, Int.reduceTDiv, ↓if_true, ↓if_false, F7, A7, alen_bs (nl _), List.length_nil, cast_lit]
    refine wcall_pu (pu_of (first_ct (by (repeat (first | exact hw1 | apply WF.push | (refine WF.set ?_ (by first | omega | (simp only [Mem.next_set, Mem.next_push]; omega)))))) (l := [1, 2, 2, 0, 1]) (kd := .rw) (by rw [get_push_eq (by simp)]; rfl) (by simp))) ?_
    simp (maxSteps := 2000000) (disch := first | assumption | omega | (simp only [nx_push, nx_set, ne_eq] <;> omega) | (simp only [XSide, F7]; done) | decide) only [XWalk, XSl, ↓XPre, reduceIte, Nat.reduceEqDiff, Nat.reduceLT, Nat.reduceAdd, Nat.reduceSub, Nat.reduceMul, Nat.reduceBEq, reduceCtorEq, Int.reduceAdd, Int.reduceSub, Int.reduceMul, Int.reduceLT, Int.reduceLE, Int.reduceGT, Int.reduceGE, Int.reduceEq, Int.reduceNe, Int.reduceBEq, Int.reduceBNe, Int.reduceTMod, Int.reduceTDiv, ↓if_true, ↓if_false, F7, A7, firstE, show ((1 : Int) != 0) = true from rfl, abuild24, row1, XAcc]
  | true =>
    simp (maxSteps := 2000000) (disch := first | assumption | omega | (simp only [nx_push, nx_set, ne_eq] <;> omega) | (simp only [XSide, F7]; done) | decide) only [XWalk, XSl, ↓XPre, reduceIte, Nat.reduceEqDiff, Nat.reduceLT, Nat.reduceAdd, Nat.reduceSub, Nat.reduceMul, Nat.reduceBEq, reduceCtorEq, Int.reduceAdd, Int.reduceSub, Int.reduceMul, Int.reduceLT, Int.reduceLE, Int.reduceGT, Int.reduceGE, Int.reduceEq, Int.reduceNe, Int.reduceBEq, Int.reduceBNe, Int.reduceTMod, Int.reduceTDiv, ↓if_true, ↓if_false, F7, A7, h1]
    refine wcall_pu (pu_of within_ct) ?_
    simp (maxSteps := 2000000) (disch := first | assumption | omega | (simp only [nx_push, nx_set, ne_eq] <;> omega) | (simp only [XSide, F7]; done) | decide) only [XWalk, XSl, ↓XPre, reduceIte, Nat.reduceEqDiff, Nat.reduceLT, Nat.reduceAdd, Nat.reduceSub, Nat.reduceMul, Nat.reduceBEq, reduceCtorEq, Int.reduceAdd, Int.reduceSub, Int.reduceMul, Int.reduceLT, Int.reduceLE, Int.reduceGT, Int.reduceGE, Int.reduceEq, Int.reduceNe, Int.reduceBEq, Int.reduceBNe, Int.reduceTMod, Int.reduceTDiv, ↓if_true, ↓if_false, F7, A7, h1]
    refine wcall_pu (pu_of unless_ct) ?_
    simp (maxSteps := 2000000) (disch := first | assumption | omega | (simp only [nx_push, nx_set, ne_eq] <;> omega) | (simp only [XSide, F7]; done) | decide) only [XWalk, XSl, ↓XPre, reduceIte, Nat.reduceEqDiff, Nat.reduceLT, Nat.reduceAdd, Nat.reduceSub, Nat.reduceMul, Nat.reduceBEq, reduceCtorEq, Int.reduceAdd, Int.reduceSub, Int.reduceMul, Int.reduceLT, Int.reduceLE, Int.reduceGT, Int.reduceGE, Int.reduceEq, Int.reduceNe, Int.reduceBEq, Int.reduceBNe, Int.reduceTMod, Int.reduceTDiv, ↓if_true, ↓if_false, F7, A7, alen_bs (nl _), List.length_nil, cast_lit]
    refine wcall_pu (pu_of unless_ct) ?_
    simp (maxSteps := 2000000) (disch := first | assumption | omega | (simp only [nx_push, nx_set, ne_eq] <;> omega) | (simp only [XSide, F7]; done) | decide) only [XWalk, XSl, ↓XPre, reduceIte, Nat.reduceEqDiff, Nat.reduceLT, Nat.reduceAdd, Nat.reduceSub, Nat.reduceMul, Nat.reduceBEq, reduceCtorEq, Int.reduceAdd, Int.reduceSub, Int.reduceMul, Int.reduceLT, Int.reduceLE, Int.reduceGT, Int.reduceGE, Int.reduceEq, Int.reduceNe, Int.reduceBEq, Int.reduceBNe, Int.reduceTMod, Int.reduceTDiv, ↓if_true, ↓if_false, F7, A7, alen_bs (nl _), List.length_nil, cast_lit]
    refine wcall_pu (pu_of unless_ct) ?_
    simp (maxSteps := 2000000) (disch := first | assumption | omega | (simp only [nx_push, nx_set, ne_eq] <;> omega) | (simp only [XSide, F7]; done) | decide) only [XWalk, XSl, ↓XPre, reduceIte, Nat.reduceEqDiff, Nat.reduceLT, Nat.reduceAdd, Nat.reduceSub, Nat.reduceMul, Nat.reduceBEq, reduceCtorEq, Int.reduceAdd, Int.reduceSub, Int.reduceMul, Int.reduceLT, Int.reduceLE, Int.reduceGT, Int.reduceGE, Int.reduceEq, Int.reduceNe, Int.reduceBEq, Int.reduceBNe, Int.reduceTMod, Int.reduceTDiv, ↓if_true, ↓if_false, F7, A7, alen_bs (nl _), List.length_nil, cast_lit]
    refine wcall_pu (pu_of (first_ct (by (repeat (first | exact hw1 | apply WF.push | (refine WF.set ?_ (by first | omega | (simp only [Mem.next_set, Mem.next_push]; omega)))))) (l := [1, if (decide (s ≥ 0) && decide (s ≤ 1073741824)) = true then 0 else 2, 2, 0, 1]) (kd := .rw) (by rw [get_push_eq (by simp)]; rfl) (by simp))) ?_
    simp (maxSteps := 2000000) (disch := first | assumption | omega | (simp only [nx_push, nx_set, ne_eq] <;> omega) | (simp only [XSide, F7]; done) | decide) only [XWalk, XSl, ↓XPre, reduceIte, Nat.reduceEqDiff, Nat.reduceLT, Nat.reduceAdd, Nat.reduceSub, Nat.reduceMul, Nat.reduceBEq, reduceCtorEq, Int.reduceAdd, Int.reduceSub, Int.reduceMul, Int.reduceLT, Int.reduceLE, Int.reduceGT, Int.reduceGE, Int.reduceEq, Int.reduceNe, Int.reduceBEq, Int.reduceBNe, Int.reduceTMod, Int.reduceTDiv, ↓if_true, ↓if_false, F7, A7, firstE, show ((1 : Int) != 0) = true from rfl, abuild24, row1, XAcc]

end Go.Big

/- The books of the laws. -/
set_option linter.unusedSimpArgs false
set_option linter.unusedVariables false
set_option maxRecDepth 100000
set_option maxHeartbeats 4000000
namespace Go.Big
open Go.Proofs

theorem given_ok : okRes givenR = true := by kernel_rfl
theorem given_run : givenR.map (fun r => ((match r.1 with | .ret v => some v | .panic _ => none), r.2.1.next, [r.2.1.get 1, r.2.1.get 15, r.2.1.get 22, r.2.1.get 43, r.2.1.get 52, r.2.1.get 3, r.2.1.get 4])) =
    some (some (.tuple #[.pointer (some ⟨1, 0, none⟩), .agg #[.slice (some ⟨52, 0, none⟩) 2 2]]), 53, [some (.row [.slice (some ⟨39, 0, none⟩) 2 2, .map (some 15), .map (some 16)] .rw), some (.map [⟨.string ⟨#[97, 99, 109, 101]⟩, .agg #[.string ⟨#[97, 99, 109, 101]⟩, .int .i64 2, .slice (some ⟨22, 0, none⟩) 32 32, .int .i64 0, .int .i64 0], 0⟩, ⟨.string ⟨#[98, 101, 108, 108]⟩, .agg #[.string ⟨#[98, 101, 108, 108]⟩, .int .i64 2, .slice (some ⟨43, 0, none⟩) 32 32, .int .i64 0, .int .i64 1], 1⟩] 2), some (.row [.int .u8 8, .int .u8 8, .int .u8 8, .int .u8 8, .int .u8 8, .int .u8 8, .int .u8 8, .int .u8 8, .int .u8 8, .int .u8 8, .int .u8 8, .int .u8 8, .int .u8 8, .int .u8 8, .int .u8 8, .int .u8 8, .int .u8 8, .int .u8 8, .int .u8 8, .int .u8 8, .int .u8 8, .int .u8 8, .int .u8 8, .int .u8 8, .int .u8 8, .int .u8 8, .int .u8 8, .int .u8 8, .int .u8 8, .int .u8 8, .int .u8 8, .int .u8 8] (.slack 1)), some (.row [.int .u8 9, .int .u8 9, .int .u8 9, .int .u8 9, .int .u8 9, .int .u8 9, .int .u8 9, .int .u8 9, .int .u8 9, .int .u8 9, .int .u8 9, .int .u8 9, .int .u8 9, .int .u8 9, .int .u8 9, .int .u8 9, .int .u8 9, .int .u8 9, .int .u8 9, .int .u8 9, .int .u8 9, .int .u8 9, .int .u8 9, .int .u8 9, .int .u8 9, .int .u8 9, .int .u8 9, .int .u8 9, .int .u8 9, .int .u8 9, .int .u8 9, .int .u8 9] (.slack 1)), some (.row [.string ⟨#[97, 99, 109, 101]⟩, .int .i64 2, .slice (some ⟨3, 0, none⟩) 32 32, .int .i64 0, .int .i64 0, .string ⟨#[98, 101, 108, 108]⟩, .int .i64 2, .slice (some ⟨4, 0, none⟩) 32 32, .int .i64 0, .int .i64 1] (.slack 5)), some (.row [.int .u8 8, .int .u8 8, .int .u8 8, .int .u8 8, .int .u8 8, .int .u8 8, .int .u8 8, .int .u8 8, .int .u8 8, .int .u8 8, .int .u8 8, .int .u8 8, .int .u8 8, .int .u8 8, .int .u8 8, .int .u8 8, .int .u8 8, .int .u8 8, .int .u8 8, .int .u8 8, .int .u8 8, .int .u8 8, .int .u8 8, .int .u8 8, .int .u8 8, .int .u8 8, .int .u8 8, .int .u8 8, .int .u8 8, .int .u8 8, .int .u8 8, .int .u8 8] .rw), some (.row [.int .u8 9, .int .u8 9, .int .u8 9, .int .u8 9, .int .u8 9, .int .u8 9, .int .u8 9, .int .u8 9, .int .u8 9, .int .u8 9, .int .u8 9, .int .u8 9, .int .u8 9, .int .u8 9, .int .u8 9, .int .u8 9, .int .u8 9, .int .u8 9, .int .u8 9, .int .u8 9, .int .u8 9, .int .u8 9, .int .u8 9, .int .u8 9, .int .u8 9, .int .u8 9, .int .u8 9, .int .u8 9, .int .u8 9, .int .u8 9, .int .u8 9, .int .u8 9] .rw)]) := by kernel_rfl

theorem specSim (H : Nat) : SpecSim Tryd.prog H S0.spec := oneSpec_sim mixed (fun _ => rfl) funcsOkIn Tryd.func16 (by rfl) (by kernel_rfl) given_ok

/-- The book of the reference. -/
def RefBook (m : Mem) (w : Value) : Prop := ∃ rb k1 k2, w = .agg #[.slice (some ⟨rb, 0, none⟩) 2 2] ∧ m.get rb = some (.row [str acmeN, .int .i64 2, k1, .int .i64 0, .int .i64 0, str bellN, .int .i64 2, k2, .int .i64 0, .int .i64 1] (.slack 5)) ∧
  Bs m k1 (List.replicate 32 8) ∧ Bs m k2 (List.replicate 32 9)
theorem RefBook.keep {m m' : Mem} {w : Value} (h : RefBook m w) (k : Keep m m') : RefBook m' w := by
  obtain ⟨rb, k1, k2, h1, h2, h3, h4⟩ := h
  exact ⟨rb, k1, k2, h1, by rw [k rb (by rw [h2]; simp)]; exact h2, h3.keep k, h4.keep k⟩

theorem given_ct {m : Mem} (hw : WF m) : Ct Tryd.prog S0 16 [] m [] (Rv fun v m' => ∃ x w, v = .tuple #[x, w] ∧ BookAt m' x ∧ RefBook m' w) := by
  have hrun := given_run
  cases hg : givenR with
  | none => rw [hg] at hrun; cases hrun
  | some r =>
    rw [hg] at hrun
    obtain ⟨out, m1, w1⟩ := r
    simp only [Option.map_some, Option.some.injEq, Prod.mk.injEq, List.cons.injEq, and_true] at hrun
    obtain ⟨h0, hn, g1, g15, g22, g43, g52, g3, g4⟩ := hrun
    cases out with
    | panic v => cases h0
    | ret v =>
      simp only [Option.some.injEq] at h0
      subst h0
      have hlen : ((objsOf m1).map (shO m.next)).length = 53 := by rw [List.length_map, objsOf_len, hn]
      have hget : ∀ i o, i < 53 → m1.get i = some o → (pushAll m ((objsOf m1).map (shO m.next))).get (i + m.next) = some (shO m.next o) := fun i o hi ho => by
        rw [pushAll_get, hlen, if_pos (by omega), Nat.add_sub_cancel, List.getElem?_map]
        have : (objsOf m1)[i]? = some o := by
          unfold objsOf
          rw [List.getElem?_map, List.getElem?_range (by omega)]
          simp [ho]
        rw [this]; rfl
      have hcall : acall Tryd.prog S0 16 [] m = some (.ret (sh3 m.next (.tuple #[.pointer (some ⟨1, 0, none⟩), .agg #[.slice (some ⟨52, 0, none⟩) 2 2]])), pushAll m ((objsOf m1).map (shO m.next)), []) := by
        rw [acall_eq]
        unfold callStep
        rw [show S0.spec 16 = some (closedG givenR) from by
          show (if 16 = 16 then some (closedG givenR) else none) = _
          rw [if_pos rfl]]
        simp only [hg, closedG]
      have hv : sh3 m.next (.tuple #[.pointer (some ⟨1, 0, none⟩), .agg #[.slice (some ⟨52, 0, none⟩) 2 2]]) = .tuple #[.pointer (some ⟨1 + m.next, 0, none⟩), .agg #[.slice (some ⟨52 + m.next, 0, none⟩) 2 2]] := by simp only [sh3, sh2, sh1, List.map_cons, List.map_nil, List.map_toArray]
      rw [hv] at hcall
      refine ⟨_, _, [], hcall, by simp, ?_⟩
      · refine ⟨_, rfl, _, _, rfl, ⟨1 + m.next, .slice (some ⟨39 + m.next, 0, none⟩) 2 2, 15 + m.next, .map (some (16 + m.next)), .slice (some ⟨22 + m.next, 0, none⟩) 32 32, .slice (some ⟨43 + m.next, 0, none⟩) 32 32, rfl, hget 1 _ (by omega) g1, (hget 15 _ (by omega) g15).trans (by simp only [shO, List.map_cons, List.map_nil, sh2, sh1, List.map_toArray]; rfl), ?_, ?_⟩,
          ⟨52 + m.next, .slice (some ⟨3 + m.next, 0, none⟩) 32 32, .slice (some ⟨4 + m.next, 0, none⟩) 32 32, rfl, hget 52 _ (by omega) g52, ?_, ?_⟩⟩
        · exact .row (hget 22 _ (by omega) g22) rfl rfl (Nat.le_refl _) (fun s hs => by cases hs; exact ⟨rfl, Nat.le_refl _⟩)
        · exact .row (hget 43 _ (by omega) g43) rfl rfl (Nat.le_refl _) (fun s hs => by cases hs; exact ⟨rfl, Nat.le_refl _⟩)
        · exact .row (hget 3 _ (by omega) g3) rfl rfl (Nat.le_refl _) (fun s hs => by cases hs)
        · exact .row (hget 4 _ (by omega) g4) rfl rfl (Nat.le_refl _) (fun s hs => by cases hs)

end Go.Big

/- The hash, as the kernel reckons it; what was sealed is opened; the examples of the chapter. -/
set_option linter.unusedSimpArgs false
set_option linter.unusedVariables false
set_option maxRecDepth 100000
namespace Go.Big
open Go.Proofs

def hashF : Nat → List UInt32 → Nat → List UInt8 → List UInt32
  | 0, H, t, d => compressW H (pad64 d) (t + d.length) true
  | n + 1, H, t, d => if d.length ≤ 64 then compressW H (pad64 d) (t + d.length) true else hashF n (compressW H (d.take 64) (t + 64) false) (t + 64) (d.drop 64)
theorem hashF_eq : ∀ (n : Nat) (H : List UInt32) (t : Nat) (d : List UInt8), d.length ≤ 64 * n + 64 → hashFin H t d = hashF n H t d
  | 0, H, t, d, h => by rw [hashFin, if_pos (by omega)]; rfl
  | n + 1, H, t, d, h => by
    rw [hashFin, hashF]
    split
    · rfl
    · exact hashF_eq n _ _ _ (by simp; omega)
def blakeF (key d : List UInt8) : List UInt8 :=
  let m := (if key = [] then [] else pad64 key) ++ d
  wordsB (hashF (m.length / 64) (key0 key.length) 0 m)
theorem blakeF_eq : blakeB = blakeF := by
  funext key d
  unfold blakeB blakeF
  rw [hashF_eq _ _ _ _ (show ((if key = [] then [] else pad64 key) ++ d).length ≤ 64 * (((if key = [] then [] else pad64 key) ++ d).length / 64) + 64 by omega)]

theorem xor_xor {a b : UInt8} : a ^^^ (a ^^^ b) = b := by
  rw [← UInt8.xor_assoc, UInt8.xor_self, UInt8.zero_xor]
theorem xorB_xorB : ∀ {s b : List UInt8}, s.length = b.length → xorB s (xorB s b) = b
  | [], [], _ => rfl
  | x :: s, y :: b, h => by
    simp only [xorB, List.zipWith_cons_cons] at *
    rw [xor_xor]
    congr 1
    exact xorB_xorB (by simpa using h)
  | [], y :: b, h => by simp at h
  | x :: s, [], h => by simp at h

theorem open_seal {key nonce bid : List UInt8} (h : nonce.length = 16) : openB key (sealB key nonce bid) = some bid := by
  have lx : (xorB (streamB (blakeB key streamL) nonce bid.length) bid).length = bid.length := xorB_length streamB_length
  have lc : (cipherB key nonce bid).length = bid.length + 16 := by rw [cipherB, List.length_append, lx, h]; omega
  have lt : ((blakeB (blakeB key tagL) (cipherB key nonce bid)).take 16).length = 16 := by rw [List.length_take, blakeB_length]; rfl
  have ls : (sealB key nonce bid).length = bid.length + 32 := by rw [sealB, List.length_append, lc, lt]
  have e1 : (sealB key nonce bid).take ((sealB key nonce bid).length - 16) = cipherB key nonce bid := by
    rw [ls, show bid.length + 32 - 16 = (cipherB key nonce bid).length from by omega, sealB, List.take_left]
  have e2 : (sealB key nonce bid).drop ((sealB key nonce bid).length - 16) = (blakeB (blakeB key tagL) (cipherB key nonce bid)).take 16 := by
    rw [ls, show bid.length + 32 - 16 = (cipherB key nonce bid).length from by omega, sealB, List.drop_left]
  have e3 : (sealB key nonce bid).take 16 = nonce := by
    rw [sealB, cipherB, List.append_assoc, ← h, List.take_left]
  have e4 : ((sealB key nonce bid).drop 16).take ((sealB key nonce bid).length - 32) = xorB (streamB (blakeB key streamL) nonce bid.length) bid := by
    rw [ls, show bid.length + 32 - 32 = bid.length from by omega, sealB, cipherB, List.append_assoc, ← h, List.drop_left]
    rw [List.take_append_of_le_length (by omega), List.take_of_length_le (by omega)]
  unfold openB
  rw [e1, e2, e3, e4, beq_self_eq_true, if_pos rfl, ls, show bid.length + 32 - 32 = bid.length from by omega, xorB_xorB streamB_length]

/-! ### The examples -/

def kKey : List UInt8 := List.replicate 32 1
def kNonce : List UInt8 := List.replicate 16 2
def kHello : List UInt8 := [104, 101, 108, 108, 111]
def kSealed : List UInt8 := sealedOf acmeN kKey kNonce kHello
def kTag : List UInt8 := tagOf acmeN 3 1 kSealed

theorem kSealed_len : kSealed.length = 37 := by rw [kSealed, sealed_len rfl]; rfl
theorem kTag_len : kTag.length = 32 := by
  show (blakeB (List.replicate 32 8) _).length = 32
  exact blakeB_length

theorem k_wrong : openB (blakeB (List.replicate 32 9) (bidL ++ acmeN)) kSealed = none := by
  have h : (openB (blakeB (List.replicate 32 9) (bidL ++ acmeN)) kSealed).isNone = true := by
    unfold kSealed sealedOf openB sealB cipherB streamB streamN
    rw [blakeF_eq]
    kernel_rfl
  exact Option.isNone_iff_eq_none.1 h

theorem groupB1 {n : Nat} (h : n < 128) : groupB n = [UInt8.ofNat n] := by rw [groupB, if_pos h]

theorem k_other : (blakeB (List.replicate 32 8) (signedB acmeN 3 2 kSealed) == kTag) = false := by
  have h1 : kTag = blakeB (List.replicate 32 8) (signedB acmeN 3 1 kSealed) := rfl
  rw [h1]
  unfold signedB strB
  rw [groupB1 (show acmeN.length < 128 by decide), groupB1 (show 3 < 128 by decide), groupB1 (show 2 < 128 by decide), groupB1 (show 1 < 128 by decide), groupB1 (show kSealed.length < 128 by rw [kSealed_len]; decide), kSealed_len]
  unfold kSealed sealedOf sealB cipherB streamB streamN
  rw [blakeF_eq]
  show (_ : Bool) = _
  kernel_rfl

theorem k_name : nameB acmeN = true := by decide
theorem k_valid : validB acmeN 3 1 kSealed.length kTag.length = true := by
  rw [kSealed_len, kTag_len, validB, k_name]; decide
theorem k_valid2 : validB acmeN 3 2 kSealed.length kTag.length = true := by
  rw [kSealed_len, kTag_len, validB, k_name]; decide
theorem k_check : checkI acmeN 3 1 kSealed kTag = 0 := by
  rw [checkI, if_pos k_valid]
  have h1 : kTag = blakeB (List.replicate 32 8) (signedB acmeN 3 1 kSealed) := rfl
  unfold verifyI
  rw [show acctOf acmeN = some (List.replicate 32 8, 0) from rfl]
  simp only
  rw [if_neg, if_pos]
  · rw [h1]; exact beq_self_eq_true _
  · have := signed_len (n := acmeN) (S := kSealed) (r := 3) (s := 1) (by decide) (by omega) (by omega) (by rw [kSealed_len]; omega)
    show ¬ 65536 < (signedB acmeN 3 1 kSealed).length
    omega
theorem k_check2 : checkI acmeN 3 2 kSealed kTag = 10 := by
  rw [checkI, if_pos k_valid2]
  unfold verifyI
  rw [show acctOf acmeN = some (List.replicate 32 8, 0) from rfl]
  simp only
  rw [if_neg, if_neg]
  · rw [show ((3 : Int).toNat) = 3 from rfl, show ((2 : Int).toNat) = 2 from rfl, k_other]; simp
  · have := signed_len (n := acmeN) (S := kSealed) (r := 3) (s := 2) (by decide) (by omega) (by omega) (by rw [kSealed_len]; omega)
    show ¬ 65536 < (signedB acmeN 3 2 kSealed).length
    omega
theorem k_open : openE acmeN 3 1 kSealed kTag kKey = (some kHello, 0) := by
  unfold openE
  rw [k_check]
  have h : openB (blakeB kKey (bidL ++ acmeN)) kSealed = some kHello := open_seal rfl
  rw [h]
  rfl
theorem k_open2 : openE acmeN 3 1 kSealed kTag (List.replicate 32 9) = (none, 10) := by
  unfold openE
  rw [k_check, k_wrong]
  rfl
theorem k_open3 : openE acmeN 3 1 kSealed kTag [] = (none, 2) := by
  unfold openE
  rw [k_check]
  rfl

end Go.Big

/- The examples of the chapter, as the laws try them. -/
set_option linter.unusedSimpArgs false
set_option linter.unusedVariables false
set_option maxRecDepth 100000
set_option maxHeartbeats 8000000
namespace Go.Big
open Go.Proofs

theorem aconv_sl {P : Program} {m : Mem} {t : TypeId} {b o n c : Nat} {rs : List Value} {k : Kind} (hu : isBytesT P t = true) (hm : m.get b = some (.row rs k)) (hk : writable k = true) :
    aconv P t t (.slice (some ⟨b, o, none⟩) n c) m = some (.slice (some ⟨b, o, none⟩) n c, m, [], .one b) := by
  obtain ⟨e, h1, h2⟩ := isBytesT_spec hu
  simp [aconv, aconvert, h1, h2, hm, hk]

theorem k_sealErr : sealErr 0 (gotErr acmeN) 3 1 32 16 5 = 0 := by decide
theorem k_sealErr2 : sealErr 0 (gotErr [110, 111, 110, 101]) 3 1 32 16 0 = 9 := by decide
theorem k_sealErr3 : sealErr 0 (gotErr acmeN) 3 1 32 16 4097 = 5 := by decide
theorem k_sealErr4 : sealErr 0 (gotErr [110, 111, 110, 101]) 3 1 32 16 4097 = 5 := by decide

theorem Sl.not_blk2 {m : Mem} {v : Value} {l : List UInt8} {rs : List Value} {b : Nat} {k : Kind} (h : Bs m v l) (hm : m.get b = some (.row rs k)) (hl : l ≠ []) (hrs : ∀ x ∈ rs, ∀ n, x ≠ .int .u8 n) : slBlk v ≠ some b := by
  intro e
  obtain ⟨b', off, c, rs', k', hv, hm', hr, _, _⟩ := h.inv (by intro e2; have := congrArg List.length e2; rw [u8s_length] at this; simp at this; exact hl this)
  subst hv
  cases e
  rw [hm] at hm'
  cases hm'
  obtain ⟨y, r, rfl⟩ : ∃ y r, l = y :: r := by
    cases l with
    | nil => exact absurd rfl hl
    | cons y r => exact ⟨y, r, rfl⟩
  have h0 := take_drop_get (i := 0) hr (by rw [u8s_length]; simp)
  have h1 : rs[off + 0]? = some (.int .u8 (y.toNat : Int)) := by rw [h0]; rfl
  exact hrs _ (List.mem_of_getElem? h1) _ rfl

theorem known_ct {m : Mem} (hw : WF m) : Ct Tryd.prog S0 6 [] m [] (fun out m' => out = .ret (.bool true)) := by
  refine ct_x (spec0 _) (by rfl) Tryd.func6 rfl ?_
  simp (maxSteps := 2000000) (disch := first | assumption | omega | (simp only [nx_push, nx_set, ne_eq] <;> omega) | (simp only [XSide, F6]; done) | decide) only [XWalk, XSl, ↓XPre, reduceIte, Nat.reduceEqDiff, Nat.reduceLT, Nat.reduceAdd, Nat.reduceSub, Nat.reduceMul, Nat.reduceBEq, reduceCtorEq, Int.reduceAdd, Int.reduceSub, Int.reduceMul, Int.reduceLT, Int.reduceLE, Int.reduceGT, Int.reduceGE, Int.reduceEq, Int.reduceNe, Int.reduceBEq, Int.reduceBNe, Int.reduceTMod, Int.reduceTDiv, ↓if_true, ↓if_false, F6, A6, Tryd.ntmps6]
  refine wcall_v specLoc (given_ct hw) hw ?_
  rintro v m1 hw1 hn1 f1 ⟨x, w, rfl, hx1, rb, j1, j2, rfl, -, -, -⟩
  simp (maxSteps := 2000000) (disch := first | assumption | omega | (simp only [nx_push, nx_set, ne_eq] <;> omega) | (simp only [XSide, F6]; done) | decide) only [XWalk, XSl, ↓XPre, reduceIte, Nat.reduceEqDiff, Nat.reduceLT, Nat.reduceAdd, Nat.reduceSub, Nat.reduceMul, Nat.reduceBEq, reduceCtorEq, Int.reduceAdd, Int.reduceSub, Int.reduceMul, Int.reduceLT, Int.reduceLE, Int.reduceGT, Int.reduceGE, Int.reduceEq, Int.reduceNe, Int.reduceBEq, Int.reduceBNe, Int.reduceTMod, Int.reduceTDiv, ↓if_true, ↓if_false, F6, A6]
  have hw2 : ∀ o o', WF ((m1.push o).set m1.next o') := fun o o' => by (repeat (first | exact hw1 | apply WF.push | (refine WF.set ?_ (by first | omega | (simp only [Mem.next_set, Mem.next_push]; omega)))))
  have hx2 : ∀ o o', BookAt ((m1.push o).set m1.next o') x := fun o o' => hx1.keep fun c hc => by
    have := hw1.lt hc
    rw [get_set_ne (by omega), get_push_ne (by omega)]
  refine wcall_v specLoc (row_ct (b := 1) (n := 32) (hw2 _ _) (by omega)) (hw2 _ _) ?_
  rintro kv m3 hw3 hn3 f3 ⟨hk3, _⟩
  have hx3 := (hx2 _ _).keep (keep_of (hw2 _ _) f3)
  simp only [Mem.next_set, Mem.next_push] at hn3
  clear f3 hx2 hw2
  simp (maxSteps := 2000000) (disch := first | assumption | omega | (simp only [nx_push, nx_set, ne_eq] <;> omega) | (simp only [XSide, F6]; done) | decide) only [XWalk, XSl, ↓XPre, reduceIte, Nat.reduceEqDiff, Nat.reduceLT, Nat.reduceAdd, Nat.reduceSub, Nat.reduceMul, Nat.reduceBEq, reduceCtorEq, Int.reduceAdd, Int.reduceSub, Int.reduceMul, Int.reduceLT, Int.reduceLE, Int.reduceGT, Int.reduceGE, Int.reduceEq, Int.reduceNe, Int.reduceBEq, Int.reduceBNe, Int.reduceTMod, Int.reduceTDiv, ↓if_true, ↓if_false, F6, A6]
  refine wcall_v specLoc (row_ct (b := 2) (n := 16) hw3 (by omega)) hw3 ?_
  rintro nv m4 hw4 hn4 f4 ⟨hno4, _⟩
  have hx4 := hx3.keep (keep_of hw3 f4)
  have hk4 := hk3.keep (keep_of hw3 f4)
  clear f4
  have hcv : ∀ o : List Value, aconv Tryd.prog 22 22 (.slice (some ⟨m4.next, 0, none⟩) 5 5) (m4.push (.row o .rw)) = _ := fun o => aconv_sl (by simp only [F6]) get_push_self rfl
  simp (maxSteps := 2000000) (disch := first | assumption | omega | (simp only [nx_push, nx_set, ne_eq] <;> omega) | (simp only [XSide, F6]; done) | decide) only [XWalk, XSl, ↓XPre, reduceIte, Nat.reduceEqDiff, Nat.reduceLT, Nat.reduceAdd, Nat.reduceSub, Nat.reduceMul, Nat.reduceBEq, reduceCtorEq, Int.reduceAdd, Int.reduceSub, Int.reduceMul, Int.reduceLT, Int.reduceLE, Int.reduceGT, Int.reduceGE, Int.reduceEq, Int.reduceNe, Int.reduceBEq, Int.reduceBNe, Int.reduceTMod, Int.reduceTDiv, ↓if_true, ↓if_false, F6, A6, hcv]
  have hb5 : Bs (m4.push (.row (u8s kHello) .rw)) (.slice (some ⟨m4.next, 0, none⟩) 5 5) kHello := Sl.of_row get_push_self rfl rfl (Nat.le_refl _)
  refine wcall_v specLoc (eseal_ct (n := acmeN) (key := kKey) (nonce := kNonce) (bid := kHello) (r := 3) (s := 1) hw4.push (hx4.keep (Keep.push hw4)) (hk4.keep (Keep.push hw4)) (hno4.keep (Keep.push hw4)) hb5 (by decide) (by decide) (by decide) (by decide)) hw4.push ?_
  intro v m5 hw5 hn5 f5 hse
  have hx5 := (hx4.keep (Keep.push hw4 (o := .row (u8s kHello) .rw))).keep (keep_of hw4.push f5)
  have hk5 := (hk4.keep (Keep.push hw4 (o := .row (u8s kHello) .rw))).keep (keep_of hw4.push f5)
  have hno5 := (hno4.keep (Keep.push hw4 (o := .row (u8s kHello) .rw))).keep (keep_of hw4.push f5)
  simp only [Mem.next_push] at hn5
  clear f5
  rw [show sealErr 0 (gotErr acmeN) 3 1 kKey.length kNonce.length kHello.length = 0 from k_sealErr] at hse
  unfold SealR at hse
  rw [if_neg (by decide)] at hse
  obtain ⟨sv, tv, rfl, hs5, ht5⟩ := hse
  change Bs m5 sv kSealed at hs5
  change Bs m5 tv kTag at ht5
  obtain ⟨a, l, c, rfl⟩ := sl_shape hs5
  obtain ⟨a', l', c', rfl⟩ := sl_shape ht5
  simp (maxSteps := 2000000) (disch := first | assumption | omega | (simp only [nx_push, nx_set, ne_eq] <;> omega) | (simp only [XSide, F6]; done) | decide) only [XWalk, XSl, ↓XPre, reduceIte, Nat.reduceEqDiff, Nat.reduceLT, Nat.reduceAdd, Nat.reduceSub, Nat.reduceMul, Nat.reduceBEq, reduceCtorEq, Int.reduceAdd, Int.reduceSub, Int.reduceMul, Int.reduceLT, Int.reduceLE, Int.reduceGT, Int.reduceGE, Int.reduceEq, Int.reduceNe, Int.reduceBEq, Int.reduceBNe, Int.reduceTMod, Int.reduceTDiv, ↓if_true, ↓if_false, F6, A6, XAcc]
  have blS : ∀ b, slBlk (.slice a l c) = some b → b < m5.next := fun b hb => hs5.blk_lt hw5 hb
  have blT : ∀ b, slBlk (.slice a' l' c') = some b → b < m5.next := fun b hb => ht5.blk_lt hw5 hb
  have toS : ∀ m' : Mem, (∀ b, b < m5.next → m'.get b = m5.get b) → Bs m' (.slice a l c) kSealed := fun m' F => hs5.frame_at fun b hb => F b (blS b hb)
  have toT : ∀ m' : Mem, (∀ b, b < m5.next → m'.get b = m5.get b) → Bs m' (.slice a' l' c') kTag := fun m' F => ht5.frame_at fun b hb => F b (blT b hb)
  have toK : ∀ m' : Mem, (∀ b, b < m5.next → m'.get b = m5.get b) → Bs m' kv kKey := fun m' F => hk5.frame_at fun b hb => F b (hk5.blk_lt hw5 hb)
  have toN : ∀ m' : Mem, (∀ b, b < m5.next → m'.get b = m5.get b) → Bs m' nv kNonce := fun m' F => hno5.frame_at fun b hb => F b (hno5.blk_lt hw5 hb)
  have toX : ∀ m' : Mem, (∀ b, b < m5.next → m'.get b = m5.get b) → BookAt m' x := fun m' F => hx5.keep fun b hb => F b (hw5.lt hb)
  obtain ⟨m6, hm6⟩ : ∃ m6, m6 = (m5.push (.row [.string ⟨#[]⟩, .int .i64 0, .int .i64 0, .slice none 0 0, .slice none 0 0] .rw)).set m5.next (.row [str acmeN, .int .i64 3, .int .i64 1, .slice a l c, .slice a' l' c'] .rw) := ⟨_, rfl⟩
  have hw6 : WF m6 := by rw [hm6]; (repeat (first | exact hw5 | apply WF.push | (refine WF.set ?_ (by first | omega | (simp only [Mem.next_set, Mem.next_push]; omega)))))
  have Fm6 : ∀ b, b < m5.next → m6.get b = m5.get b := fun b hb => by rw [hm6, get_set_ne (by omega), get_push_ne (by omega)]
  have hr6 : m6.get m5.next = some (.row [str acmeN, .int .i64 3, .int .i64 1, .slice a l c, .slice a' l' c'] .rw) := by rw [hm6, get_set_self]
  have hn6 : m6.next = m5.next + 1 := by rw [hm6]; rfl
  simp (maxSteps := 2000000) (disch := first | assumption | omega | (simp only [nx_push, nx_set, ne_eq] <;> omega) | (simp only [XSide, F6]; done) | decide) only [XWalk, XSl, ↓XPre, reduceIte, Nat.reduceEqDiff, Nat.reduceLT, Nat.reduceAdd, Nat.reduceSub, Nat.reduceMul, Nat.reduceBEq, reduceCtorEq, Int.reduceAdd, Int.reduceSub, Int.reduceMul, Int.reduceLT, Int.reduceLE, Int.reduceGT, Int.reduceGE, Int.reduceEq, Int.reduceNe, Int.reduceBEq, Int.reduceBNe, Int.reduceTMod, Int.reduceTDiv, ↓if_true, ↓if_false, F6, A6, XAcc, show (!(acmeN == [97, 99, 109, 101])) = false from rfl]
  rw [← hm6]
  clear hm6
  refine wcall_x specLoc (size_ct (n := acmeN) (r := 3) (s := 1) hw6 (toS _ Fm6) (toT _ Fm6) (by decide)) hw6 ?_
  rintro out m7 hw7 hn7 f7 rfl
  rw [if_pos k_valid, kSealed_len]
  have Fm7 : ∀ b, b < m5.next → m7.get b = m5.get b := fun b hb => by rw [f7 b (by omega)]; exact Fm6 b hb
  have hr7 : m7.get m5.next = some (.row [str acmeN, .int .i64 3, .int .i64 1, .slice a l c, .slice a' l' c'] .rw) := by rw [f7 _ (by omega)]; exact hr6
  simp (maxSteps := 2000000) (disch := first | assumption | omega | (simp only [nx_push, nx_set, ne_eq] <;> omega) | (simp only [XSide, F6]; done) | decide) only [XWalk, XSl, ↓XPre, reduceIte, Nat.reduceEqDiff, Nat.reduceLT, Nat.reduceAdd, Nat.reduceSub, Nat.reduceMul, Nat.reduceBEq, reduceCtorEq, Int.reduceAdd, Int.reduceSub, Int.reduceMul, Int.reduceLT, Int.reduceLE, Int.reduceGT, Int.reduceGE, Int.reduceEq, Int.reduceNe, Int.reduceBEq, Int.reduceBNe, Int.reduceTMod, Int.reduceTDiv, ↓if_true, ↓if_false, F6, A6, XAcc, hr7, show ((((37 : Nat) : Int) - 32) != 5) = false from rfl]
  refine wcall_x specLoc (check_ct (n := acmeN) (r := 3) (s := 1) hw7 (toX _ Fm7) (toS _ Fm7) (toT _ Fm7) (by decide)) hw7 ?_
  rintro out m8 hw8 hn8 f8 rfl
  rw [k_check]
  have Fm8 : ∀ b, b < m5.next → m8.get b = m5.get b := fun b hb => by rw [f8 b (by omega)]; exact Fm7 b hb
  have hr8 : m8.get m5.next = some (.row [str acmeN, .int .i64 3, .int .i64 1, .slice a l c, .slice a' l' c'] .rw) := by rw [f8 _ (by omega)]; exact hr7
  simp (maxSteps := 2000000) (disch := first | assumption | omega | (simp only [nx_push, nx_set, ne_eq] <;> omega) | (simp only [XSide, F6]; done) | decide) only [XWalk, XSl, ↓XPre, reduceIte, Nat.reduceEqDiff, Nat.reduceLT, Nat.reduceAdd, Nat.reduceSub, Nat.reduceMul, Nat.reduceBEq, reduceCtorEq, Int.reduceAdd, Int.reduceSub, Int.reduceMul, Int.reduceLT, Int.reduceLE, Int.reduceGT, Int.reduceGE, Int.reduceEq, Int.reduceNe, Int.reduceBEq, Int.reduceBNe, Int.reduceTMod, Int.reduceTDiv, ↓if_true, ↓if_false, F6, A6, XAcc, hr8]
  refine wcall_v specLoc (eopen_ct (n := acmeN) (r := 3) (s := 1) (key := kKey) hw8 (toX _ Fm8) (toS _ Fm8) (toT _ Fm8) (toK _ Fm8) (by decide) (by decide)) hw8 ?_
  intro v m9 hw9 hn9 f9 ho9
  rw [k_open] at ho9
  obtain ⟨bv, rfl, hbv9⟩ := ho9
  have Fm9 : ∀ b, b < m5.next → m9.get b = m5.get b := fun b hb => by rw [f9 b (by omega)]; exact Fm8 b hb
  have hr9 : m9.get m5.next = some (.row [str acmeN, .int .i64 3, .int .i64 1, .slice a l c, .slice a' l' c'] .rw) := by rw [f9 _ (by omega)]; exact hr8
  simp (maxSteps := 2000000) (disch := first | assumption | omega | (simp only [nx_push, nx_set, ne_eq] <;> omega) | (simp only [XSide, F6]; done) | decide) only [XWalk, XSl, ↓XPre, reduceIte, Nat.reduceEqDiff, Nat.reduceLT, Nat.reduceAdd, Nat.reduceSub, Nat.reduceMul, Nat.reduceBEq, reduceCtorEq, Int.reduceAdd, Int.reduceSub, Int.reduceMul, Int.reduceLT, Int.reduceLE, Int.reduceGT, Int.reduceGE, Int.reduceEq, Int.reduceNe, Int.reduceBEq, Int.reduceBNe, Int.reduceTMod, Int.reduceTDiv, ↓if_true, ↓if_false, F6, A6, XAcc, hr9]
  refine x_draw [0, 0, 0, 7, 15, 31, 31, 63, 255] (by kernel_rfl) ?_
  simp (maxSteps := 2000000) (disch := first | assumption | omega | (simp only [nx_push, nx_set, ne_eq] <;> omega) | (simp only [XSide, F6]; done) | decide) only [XWalk, XSl, ↓XPre, reduceIte, Nat.reduceEqDiff, Nat.reduceLT, Nat.reduceAdd, Nat.reduceSub, Nat.reduceMul, Nat.reduceBEq, reduceCtorEq, Int.reduceAdd, Int.reduceSub, Int.reduceMul, Int.reduceLT, Int.reduceLE, Int.reduceGT, Int.reduceGE, Int.reduceEq, Int.reduceNe, Int.reduceBEq, Int.reduceBNe, Int.reduceTMod, Int.reduceTDiv, ↓if_true, ↓if_false, F6, A6, XAcc, hr9]
  refine wcall_v specLoc (row_ct (b := 9) (n := 32) hw9 (by omega)) hw9 ?_
  rintro k9 m10 hw10 hn10 f10 ⟨hk10, _⟩
  have hbv10 := hbv9.keep (keep_of hw9 f10)
  have Fm10 : ∀ b, b < m5.next → m10.get b = m5.get b := fun b hb => by rw [f10 b (by omega)]; exact Fm9 b hb
  have hr10 : m10.get m5.next = some (.row [str acmeN, .int .i64 3, .int .i64 1, .slice a l c, .slice a' l' c'] .rw) := by rw [f10 _ (by omega)]; exact hr9
  simp (maxSteps := 2000000) (disch := first | assumption | omega | (simp only [nx_push, nx_set, ne_eq] <;> omega) | (simp only [XSide, F6]; done) | decide) only [XWalk, XSl, ↓XPre, reduceIte, Nat.reduceEqDiff, Nat.reduceLT, Nat.reduceAdd, Nat.reduceSub, Nat.reduceMul, Nat.reduceBEq, reduceCtorEq, Int.reduceAdd, Int.reduceSub, Int.reduceMul, Int.reduceLT, Int.reduceLE, Int.reduceGT, Int.reduceGE, Int.reduceEq, Int.reduceNe, Int.reduceBEq, Int.reduceBNe, Int.reduceTMod, Int.reduceTDiv, ↓if_true, ↓if_false, F6, A6, XAcc, hr10]
  refine wcall_v specLoc (eopen_ct (n := acmeN) (r := 3) (s := 1) (key := List.replicate 32 9) hw10 (toX _ Fm10) (toS _ Fm10) (toT _ Fm10) hk10 (by decide) (by decide)) hw10 ?_
  intro v m11 hw11 hn11 f11 ho11
  rw [k_open2] at ho11
  change v = _ at ho11
  subst ho11
  have hbv11 := hbv10.keep (keep_of hw10 f11)
  have Fm11 : ∀ b, b < m5.next → m11.get b = m5.get b := fun b hb => by rw [f11 b (by omega)]; exact Fm10 b hb
  have hr11 : m11.get m5.next = some (.row [str acmeN, .int .i64 3, .int .i64 1, .slice a l c, .slice a' l' c'] .rw) := by rw [f11 _ (by omega)]; exact hr10
  simp (maxSteps := 2000000) (disch := first | assumption | omega | (simp only [nx_push, nx_set, ne_eq] <;> omega) | (simp only [XSide, F6]; done) | decide) only [XWalk, XSl, ↓XPre, reduceIte, Nat.reduceEqDiff, Nat.reduceLT, Nat.reduceAdd, Nat.reduceSub, Nat.reduceMul, Nat.reduceBEq, reduceCtorEq, Int.reduceAdd, Int.reduceSub, Int.reduceMul, Int.reduceLT, Int.reduceLE, Int.reduceGT, Int.reduceGE, Int.reduceEq, Int.reduceNe, Int.reduceBEq, Int.reduceBNe, Int.reduceTMod, Int.reduceTDiv, ↓if_true, ↓if_false, F6, A6, XAcc, hr11]
  refine wcall_v specLoc (eopen_ct (n := acmeN) (r := 3) (s := 1) (key := []) hw11 (toX _ Fm11) (toS _ Fm11) (toT _ Fm11) .nil (by decide) (by decide)) hw11 ?_
  intro v m12 hw12 hn12 f12 ho12
  rw [k_open3] at ho12
  change v = _ at ho12
  subst ho12
  have hbv12 := hbv11.keep (keep_of hw11 f12)
  have Fm12 : ∀ b, b < m5.next → m12.get b = m5.get b := fun b hb => by rw [f12 b (by omega)]; exact Fm11 b hb
  have hr12 : m12.get m5.next = some (.row [str acmeN, .int .i64 3, .int .i64 1, .slice a l c, .slice a' l' c'] .rw) := by rw [f12 _ (by omega)]; exact hr11
  simp (maxSteps := 2000000) (disch := first | assumption | omega | (simp only [nx_push, nx_set, ne_eq] <;> omega) | (simp only [XSide, F6]; done) | decide) only [XWalk, XSl, ↓XPre, reduceIte, Nat.reduceEqDiff, Nat.reduceLT, Nat.reduceAdd, Nat.reduceSub, Nat.reduceMul, Nat.reduceBEq, reduceCtorEq, Int.reduceAdd, Int.reduceSub, Int.reduceMul, Int.reduceLT, Int.reduceLE, Int.reduceGT, Int.reduceGE, Int.reduceEq, Int.reduceNe, Int.reduceBEq, Int.reduceBNe, Int.reduceTMod, Int.reduceTDiv, ↓if_true, ↓if_false, F6, A6, XAcc, hr12]
  refine wcall_v specLoc (eseal_ct (n := [110, 111, 110, 101]) (key := kKey) (nonce := kNonce) (bid := []) (r := 3) (s := 1) hw12 (toX _ Fm12) (toK _ Fm12) (toN _ Fm12) .nil (by decide) (by decide) (by decide) (by decide)) hw12 ?_
  intro v m13 hw13 hn13 f13 ho13
  rw [show sealErr 0 (gotErr [110, 111, 110, 101]) 3 1 kKey.length kNonce.length ([] : List UInt8).length = 9 from k_sealErr2] at ho13
  unfold SealR at ho13
  rw [if_pos (by decide)] at ho13
  subst ho13
  have hbv13 := hbv12.keep (keep_of hw12 f13)
  have Fm13 : ∀ b, b < m5.next → m13.get b = m5.get b := fun b hb => by rw [f13 b (by omega)]; exact Fm12 b hb
  have hr13 : m13.get m5.next = some (.row [str acmeN, .int .i64 3, .int .i64 1, .slice a l c, .slice a' l' c'] .rw) := by rw [f13 _ (by omega)]; exact hr12
  simp (maxSteps := 2000000) (disch := first | assumption | omega | (simp only [nx_push, nx_set, ne_eq] <;> omega) | (simp only [XSide, F6]; done) | decide) only [XWalk, XSl, ↓XPre, reduceIte, Nat.reduceEqDiff, Nat.reduceLT, Nat.reduceAdd, Nat.reduceSub, Nat.reduceMul, Nat.reduceBEq, reduceCtorEq, Int.reduceAdd, Int.reduceSub, Int.reduceMul, Int.reduceLT, Int.reduceLE, Int.reduceGT, Int.reduceGE, Int.reduceEq, Int.reduceNe, Int.reduceBEq, Int.reduceBNe, Int.reduceTMod, Int.reduceTDiv, ↓if_true, ↓if_false, F6, A6, XAcc, hr13]
  refine wcall_v specLoc (row_ct (b := 0) (n := 4097) (by (repeat (first | exact hw13 | apply WF.push | (refine WF.set ?_ (by first | omega | (simp only [Mem.next_set, Mem.next_push]; omega)))))) (by omega)) (by (repeat (first | exact hw13 | apply WF.push | (refine WF.set ?_ (by first | omega | (simp only [Mem.next_set, Mem.next_push]; omega)))))) ?_
  rintro k14 m14 hw14 hn14 f14 ⟨hk14, _⟩
  simp only [Mem.next_set, Mem.next_push] at hn14 f14
  have Fm14 : ∀ b, b < m5.next → m14.get b = m5.get b := fun b hb => by rw [f14 b (by omega), get_set_ne (by omega), get_push_ne (by omega)]; exact Fm13 b hb
  have hr14 : m14.get m5.next = some (.row [str acmeN, .int .i64 3, .int .i64 1, .slice a l c, .slice a' l' c'] .rw) := by rw [f14 _ (by omega), get_set_ne (by omega), get_push_ne (by omega)]; exact hr13
  have hbv14 : Bs m14 bv kHello := hbv13.frame_at fun b hb => by
    have := hbv13.blk_lt hw13 hb
    rw [f14 b (by omega), get_set_ne (by omega), get_push_ne (by omega)]
  simp (maxSteps := 2000000) (disch := first | assumption | omega | (simp only [nx_push, nx_set, ne_eq] <;> omega) | (simp only [XSide, F6]; done) | decide) only [XWalk, XSl, ↓XPre, reduceIte, Nat.reduceEqDiff, Nat.reduceLT, Nat.reduceAdd, Nat.reduceSub, Nat.reduceMul, Nat.reduceBEq, reduceCtorEq, Int.reduceAdd, Int.reduceSub, Int.reduceMul, Int.reduceLT, Int.reduceLE, Int.reduceGT, Int.reduceGE, Int.reduceEq, Int.reduceNe, Int.reduceBEq, Int.reduceBNe, Int.reduceTMod, Int.reduceTDiv, ↓if_true, ↓if_false, F6, A6, XAcc, hr14]
  refine wcall_v specLoc (eseal_ct (n := acmeN) (key := kKey) (nonce := kNonce) (bid := List.replicate 4097 0) (r := 3) (s := 1) hw14 (toX _ Fm14) (toK _ Fm14) (toN _ Fm14) hk14 (by decide) (by rw [List.length_replicate]; omega) (by decide) (by decide)) hw14 ?_
  intro v m15 hw15 hn15 f15 ho15
  rw [List.length_replicate, show sealErr 0 (gotErr acmeN) 3 1 kKey.length kNonce.length 4097 = 5 from k_sealErr3] at ho15
  unfold SealR at ho15
  rw [if_pos (by decide)] at ho15
  subst ho15
  have hbv15 := hbv14.keep (keep_of hw14 f15)
  have Fm15 : ∀ b, b < m5.next → m15.get b = m5.get b := fun b hb => by rw [f15 b (by omega)]; exact Fm14 b hb
  have hr15 : m15.get m5.next = some (.row [str acmeN, .int .i64 3, .int .i64 1, .slice a l c, .slice a' l' c'] .rw) := by rw [f15 _ (by omega)]; exact hr14
  simp (maxSteps := 2000000) (disch := first | assumption | omega | (simp only [nx_push, nx_set, ne_eq] <;> omega) | (simp only [XSide, F6]; done) | decide) only [XWalk, XSl, ↓XPre, reduceIte, Nat.reduceEqDiff, Nat.reduceLT, Nat.reduceAdd, Nat.reduceSub, Nat.reduceMul, Nat.reduceBEq, reduceCtorEq, Int.reduceAdd, Int.reduceSub, Int.reduceMul, Int.reduceLT, Int.reduceLE, Int.reduceGT, Int.reduceGE, Int.reduceEq, Int.reduceNe, Int.reduceBEq, Int.reduceBNe, Int.reduceTMod, Int.reduceTDiv, ↓if_true, ↓if_false, F6, A6, XAcc, hr15]
  refine wcall_v specLoc (row_ct (b := 0) (n := 4097) (by (repeat (first | exact hw15 | apply WF.push | (refine WF.set ?_ (by first | omega | (simp only [Mem.next_set, Mem.next_push]; omega)))))) (by omega)) (by (repeat (first | exact hw15 | apply WF.push | (refine WF.set ?_ (by first | omega | (simp only [Mem.next_set, Mem.next_push]; omega)))))) ?_
  rintro k16 m16 hw16 hn16 f16 ⟨hk16, _⟩
  simp only [Mem.next_set, Mem.next_push] at hn16 f16
  have Fm16 : ∀ b, b < m5.next → m16.get b = m5.get b := fun b hb => by rw [f16 b (by omega), get_set_ne (by omega), get_push_ne (by omega)]; exact Fm15 b hb
  have hr16 : m16.get m5.next = some (.row [str acmeN, .int .i64 3, .int .i64 1, .slice a l c, .slice a' l' c'] .rw) := by rw [f16 _ (by omega), get_set_ne (by omega), get_push_ne (by omega)]; exact hr15
  have hbv16 : Bs m16 bv kHello := hbv15.frame_at fun b hb => by
    have := hbv15.blk_lt hw15 hb
    rw [f16 b (by omega), get_set_ne (by omega), get_push_ne (by omega)]
  simp (maxSteps := 2000000) (disch := first | assumption | omega | (simp only [nx_push, nx_set, ne_eq] <;> omega) | (simp only [XSide, F6]; done) | decide) only [XWalk, XSl, ↓XPre, reduceIte, Nat.reduceEqDiff, Nat.reduceLT, Nat.reduceAdd, Nat.reduceSub, Nat.reduceMul, Nat.reduceBEq, reduceCtorEq, Int.reduceAdd, Int.reduceSub, Int.reduceMul, Int.reduceLT, Int.reduceLE, Int.reduceGT, Int.reduceGE, Int.reduceEq, Int.reduceNe, Int.reduceBEq, Int.reduceBNe, Int.reduceTMod, Int.reduceTDiv, ↓if_true, ↓if_false, F6, A6, XAcc, hr16]
  refine wcall_v specLoc (eseal_ct (n := [110, 111, 110, 101]) (key := kKey) (nonce := kNonce) (bid := List.replicate 4097 0) (r := 3) (s := 1) hw16 (toX _ Fm16) (toK _ Fm16) (toN _ Fm16) hk16 (by decide) (by rw [List.length_replicate]; omega) (by decide) (by decide)) hw16 ?_
  intro v m17 hw17 hn17 f17 ho17
  rw [List.length_replicate, show sealErr 0 (gotErr [110, 111, 110, 101]) 3 1 kKey.length kNonce.length 4097 = 5 from k_sealErr4] at ho17
  unfold SealR at ho17
  rw [if_pos (by decide)] at ho17
  subst ho17
  have hbv17 := hbv16.keep (keep_of hw16 f17)
  have Fm17 : ∀ b, b < m5.next → m17.get b = m5.get b := fun b hb => by rw [f17 b (by omega)]; exact Fm16 b hb
  have hr17 : m17.get m5.next = some (.row [str acmeN, .int .i64 3, .int .i64 1, .slice a l c, .slice a' l' c'] .rw) := by rw [f17 _ (by omega)]; exact hr16
  have hw18 : ∀ o o' o'', WF (((m17.push o).set m17.next o').set m5.next o'') := fun o o' o'' => by (repeat (first | exact hw17 | apply WF.push | (refine WF.set ?_ (by first | omega | (simp only [Mem.next_set, Mem.next_push]; omega)))))
  have hbn : slBlk bv ≠ some m5.next := Sl.not_blk2 hbv17 hr17 (by decide) (by
    intro y hy n e
    subst e
    simp at hy)
  have hbv18 : ∀ o o' o'', Bs (((m17.push o).set m17.next o').set m5.next o'') bv kHello := fun o o' o'' => hbv17.frame_at fun b hb => by
    have := hbv17.blk_lt hw17 hb
    rw [get_set_ne (fun e => hbn (by rw [← e]; exact hb)), get_set_ne (by omega), get_push_ne (by omega)]
  have Fm18 : ∀ o o' o'' b, b < m5.next → (((m17.push o).set m17.next o').set m5.next o'').get b = m5.get b := fun o o' o'' b hb => by
    rw [get_set_ne (by omega), get_set_ne (by omega), get_push_ne (by omega)]; exact Fm17 b hb
  simp (maxSteps := 2000000) (disch := first | assumption | omega | (simp only [nx_push, nx_set, ne_eq] <;> omega) | (simp only [XSide, F6]; done) | decide) only [XWalk, XSl, ↓XPre, reduceIte, Nat.reduceEqDiff, Nat.reduceLT, Nat.reduceAdd, Nat.reduceSub, Nat.reduceMul, Nat.reduceBEq, reduceCtorEq, Int.reduceAdd, Int.reduceSub, Int.reduceMul, Int.reduceLT, Int.reduceLE, Int.reduceGT, Int.reduceGE, Int.reduceEq, Int.reduceNe, Int.reduceBEq, Int.reduceBNe, Int.reduceTMod, Int.reduceTDiv, ↓if_true, ↓if_false, F6, A6, XAcc, hr17]
  refine (hbv18 _ _ _).wconv (by simp only [F6]) (by simp only [F6]) fun q hq => ?_
  simp (maxSteps := 2000000) (disch := first | assumption | omega | (simp only [nx_push, nx_set, ne_eq] <;> omega) | (simp only [XSide, F6]; done) | decide) only [XWalk, XSl, ↓XPre, reduceIte, Nat.reduceEqDiff, Nat.reduceLT, Nat.reduceAdd, Nat.reduceSub, Nat.reduceMul, Nat.reduceBEq, reduceCtorEq, Int.reduceAdd, Int.reduceSub, Int.reduceMul, Int.reduceLT, Int.reduceLE, Int.reduceGT, Int.reduceGE, Int.reduceEq, Int.reduceNe, Int.reduceBEq, Int.reduceBNe, Int.reduceTMod, Int.reduceTDiv, ↓if_true, ↓if_false, F6, A6, XAcc, show (kHello == [104, 101, 108, 108, 111]) = true from rfl]
  refine wcall_x specLoc (check_ct (n := acmeN) (r := 3) (s := 2) (hw18 _ _ _) (toX _ (Fm18 _ _ _)) (toS _ (Fm18 _ _ _)) (toT _ (Fm18 _ _ _)) (by decide)) (hw18 _ _ _) ?_
  rintro out m19 hw19 hn19 f19 rfl
  rw [k_check2]
  simp (maxSteps := 2000000) (disch := first | assumption | omega | (simp only [nx_push, nx_set, ne_eq] <;> omega) | (simp only [XSide, F6]; done) | decide) only [XWalk, XSl, ↓XPre, reduceIte, Nat.reduceEqDiff, Nat.reduceLT, Nat.reduceAdd, Nat.reduceSub, Nat.reduceMul, Nat.reduceBEq, reduceCtorEq, Int.reduceAdd, Int.reduceSub, Int.reduceMul, Int.reduceLT, Int.reduceLE, Int.reduceGT, Int.reduceGE, Int.reduceEq, Int.reduceNe, Int.reduceBEq, Int.reduceBNe, Int.reduceTMod, Int.reduceTDiv, ↓if_true, ↓if_false, F6, A6, XAcc]

end Go.Big

/- The laws without a book: EnvelopeNone. -/
set_option linter.unusedSimpArgs false
set_option linter.unusedVariables false
set_option maxRecDepth 100000
set_option maxHeartbeats 4000000
namespace Go.Big
open Go.Proofs

theorem none_ct {m : Mem} (hw : WF m) {n S T : List UInt8} {r s q : Int} {sv tv : Value} (hs : Bs m sv S) (ht : Bs m tv T) :
    Ct Tryd.prog S0 3 [envV n r s sv tv, .int .i64 q] m [] (fun out m' => out = .ret (.bool true)) := by
  have hone : [str n, .int .i64 r, .int .i64 s, sv, tv].all oneCell = true := by
    simp only [List.all_cons, List.all_nil, one_sl hs, one_sl ht, one_str, one_int, Bool.and_self]
  have hs1 : Bs (m.push (.row [str n, .int .i64 r, .int .i64 s, sv, tv] .rw)) sv S := hs.keep (Keep.push hw)
  have ht1 : Bs (m.push (.row [str n, .int .i64 r, .int .i64 s, sv, tv] .rw)) tv T := ht.keep (Keep.push hw)
  refine ct_x (spec0 _) (by rfl) Tryd.func3 rfl ?_
  simp (maxSteps := 2000000) (disch := first | assumption | omega | (simp only [nx_push, nx_set, ne_eq] <;> omega) | (simp only [XSide, F3]; done) | decide) only [XWalk, XSl, ↓XPre, reduceIte, Nat.reduceEqDiff, Nat.reduceLT, Nat.reduceAdd, Nat.reduceSub, Nat.reduceMul, Nat.reduceBEq, reduceCtorEq, Int.reduceAdd, Int.reduceSub, Int.reduceMul, Int.reduceLT, Int.reduceLE, Int.reduceGT, Int.reduceGE, Int.reduceEq, Int.reduceNe, Int.reduceBEq, Int.reduceBNe, Int.reduceTMod, Int.reduceTDiv, ↓if_true, ↓if_false, F3, A3, Tryd.ntmps3, XAcc]
  refine wcall_x specLoc (short_ct hw.push hs1 ht1) hw.push ?_
  rintro out m1 hw1 hn1 f1 rfl
  simp (maxSteps := 2000000) (disch := first | assumption | omega | (simp only [nx_push, nx_set, ne_eq] <;> omega) | (simp only [XSide, F3]; done) | decide) only [XWalk, XSl, ↓XPre, reduceIte, Nat.reduceEqDiff, Nat.reduceLT, Nat.reduceAdd, Nat.reduceSub, Nat.reduceMul, Nat.reduceBEq, reduceCtorEq, Int.reduceAdd, Int.reduceSub, Int.reduceMul, Int.reduceLT, Int.reduceLE, Int.reduceGT, Int.reduceGE, Int.reduceEq, Int.reduceNe, Int.reduceBEq, Int.reduceBNe, Int.reduceTMod, Int.reduceTDiv, ↓if_true, ↓if_false, F3, A3, XAcc]
  cases hsh : shortB n S.length T.length with
  | false =>
    simp (maxSteps := 2000000) (disch := first | assumption | omega | (simp only [nx_push, nx_set, ne_eq] <;> omega) | (simp only [XSide, F3]; done) | decide) only [XWalk, XSl, ↓XPre, reduceIte, Nat.reduceEqDiff, Nat.reduceLT, Nat.reduceAdd, Nat.reduceSub, Nat.reduceMul, Nat.reduceBEq, reduceCtorEq, Int.reduceAdd, Int.reduceSub, Int.reduceMul, Int.reduceLT, Int.reduceLE, Int.reduceGT, Int.reduceGE, Int.reduceEq, Int.reduceNe, Int.reduceBEq, Int.reduceBNe, Int.reduceTMod, Int.reduceTDiv, ↓if_true, ↓if_false, F3, A3, hsh]
    refine wcall_x specLoc (known_ct hw1) hw1 ?_
    rintro out m2 hw2 hn2 f2 rfl
    simp (maxSteps := 2000000) (disch := first | assumption | omega | (simp only [nx_push, nx_set, ne_eq] <;> omega) | (simp only [XSide, F3]; done) | decide) only [XWalk, XSl, ↓XPre, reduceIte, Nat.reduceEqDiff, Nat.reduceLT, Nat.reduceAdd, Nat.reduceSub, Nat.reduceMul, Nat.reduceBEq, reduceCtorEq, Int.reduceAdd, Int.reduceSub, Int.reduceMul, Int.reduceLT, Int.reduceLE, Int.reduceGT, Int.reduceGE, Int.reduceEq, Int.reduceNe, Int.reduceBEq, Int.reduceBNe, Int.reduceTMod, Int.reduceTDiv, ↓if_true, ↓if_false, F3, A3]
  | true =>
    have hn : n.length ≤ 1073741824 := by
      unfold shortB at hsh
      simp only [Bool.and_eq_true, decide_eq_true_eq] at hsh
      omega
    have hs2 := hs1.keep (keep_of hw.push f1)
    have ht2 := ht1.keep (keep_of hw.push f1)
    have row1 : m1.get m.next = some (.row [str n, .int .i64 r, .int .i64 s, sv, tv] .rw) := by rw [f1 _ (by simp), get_push_self]
    simp only [Mem.next_push] at hn1
    simp (maxSteps := 2000000) (disch := first | assumption | omega | (simp only [nx_push, nx_set, ne_eq] <;> omega) | (simp only [XSide, F3]; done) | decide) only [XWalk, XSl, ↓XPre, reduceIte, Nat.reduceEqDiff, Nat.reduceLT, Nat.reduceAdd, Nat.reduceSub, Nat.reduceMul, Nat.reduceBEq, reduceCtorEq, Int.reduceAdd, Int.reduceSub, Int.reduceMul, Int.reduceLT, Int.reduceLE, Int.reduceGT, Int.reduceGE, Int.reduceEq, Int.reduceNe, Int.reduceBEq, Int.reduceBNe, Int.reduceTMod, Int.reduceTDiv, ↓if_true, ↓if_false, F3, A3, hsh, row1, XAcc]
    refine wcall_x specLoc (eseal_nil_ct hw1 hn) hw1 ?_
    rintro out m2 hw2 hn2 f2 rfl
    have hs3 := hs2.keep (keep_of hw1 f2)
    have ht3 := ht2.keep (keep_of hw1 f2)
    have row2 : m2.get m.next = some (.row [str n, .int .i64 r, .int .i64 s, sv, tv] .rw) := by rw [f2 _ (by omega)]; exact row1
    simp (maxSteps := 2000000) (disch := first | assumption | omega | (simp only [nx_push, nx_set, ne_eq] <;> omega) | (simp only [XSide, F3]; done) | decide) only [XWalk, XSl, ↓XPre, reduceIte, Nat.reduceEqDiff, Nat.reduceLT, Nat.reduceAdd, Nat.reduceSub, Nat.reduceMul, Nat.reduceBEq, reduceCtorEq, Int.reduceAdd, Int.reduceSub, Int.reduceMul, Int.reduceLT, Int.reduceLE, Int.reduceGT, Int.reduceGE, Int.reduceEq, Int.reduceNe, Int.reduceBEq, Int.reduceBNe, Int.reduceTMod, Int.reduceTDiv, ↓if_true, ↓if_false, F3, A3, row2, XAcc, env0]
    obtain ⟨m3, hm3⟩ : ∃ m3, m3 = (m2.push (.row [.string ⟨#[]⟩, .int .i64 0, .int .i64 0, .slice none 0 0, .slice none 0 0] .rw)).set m2.next (.row [str [], .int .i64 0, .int .i64 0, .slice none 0 0, .slice none 0 0] .rw) := ⟨_, rfl⟩
    have hw3 : WF m3 := by rw [hm3]; (repeat (first | exact hw2 | apply WF.push | (refine WF.set ?_ (by first | omega | (simp only [Mem.next_set, Mem.next_push]; omega)))))
    have Fm3 : ∀ b, b < m2.next → m3.get b = m2.get b := fun b hb => by rw [hm3, get_set_ne (by omega), get_push_ne (by omega)]
    have hn3 : m3.next = m2.next + 1 := by rw [hm3]; rfl
    have hz3 : m3.get m2.next = some (.row [str [], .int .i64 0, .int .i64 0, .slice none 0 0, .slice none 0 0] .rw) := by rw [hm3, get_set_self]
    rw [← hm3]
    clear hm3
    have toS : ∀ m' : Mem, (∀ b, b < m2.next → m'.get b = m2.get b) → Bs m' sv S := fun m' F => hs3.frame_at fun b hb => F b (hs3.blk_lt hw2 hb)
    have toT : ∀ m' : Mem, (∀ b, b < m2.next → m'.get b = m2.get b) → Bs m' tv T := fun m' F => ht3.frame_at fun b hb => F b (ht3.blk_lt hw2 hb)
    refine wcall_x specLoc (eopen_nil_ct (key := []) hw3 (toS _ Fm3) (toT _ Fm3) .nil hn) hw3 ?_
    rintro out m4 hw4 hn4 f4 rfl
    have Fm4 : ∀ b, b < m2.next → m4.get b = m2.get b := fun b hb => by rw [f4 b (by omega)]; exact Fm3 b hb
    have row4 : m4.get m.next = some (.row [str n, .int .i64 r, .int .i64 s, sv, tv] .rw) := by rw [Fm4 _ (by omega)]; exact row2
    have hz4 : m4.get m2.next = some (.row [str [], .int .i64 0, .int .i64 0, .slice none 0 0, .slice none 0 0] .rw) := by rw [f4 _ (by omega)]; exact hz3
    simp (maxSteps := 2000000) (disch := first | assumption | omega | (simp only [nx_push, nx_set, ne_eq] <;> omega) | (simp only [XSide, F3]; done) | decide) only [XWalk, XSl, ↓XPre, reduceIte, Nat.reduceEqDiff, Nat.reduceLT, Nat.reduceAdd, Nat.reduceSub, Nat.reduceMul, Nat.reduceBEq, reduceCtorEq, Int.reduceAdd, Int.reduceSub, Int.reduceMul, Int.reduceLT, Int.reduceLE, Int.reduceGT, Int.reduceGE, Int.reduceEq, Int.reduceNe, Int.reduceBEq, Int.reduceBNe, Int.reduceTMod, Int.reduceTDiv, ↓if_true, ↓if_false, F3, A3, row4, hz4, XAcc, abuild24, env0]
    refine wcall_x specLoc (same_ct (n := []) (n' := []) (S := []) (S' := []) (T := []) (T' := []) hw4 .nil .nil .nil .nil) hw4 ?_
    rintro out m5 hw5 hn5 f5 rfl
    have Fm5 : ∀ b, b < m2.next → m5.get b = m2.get b := fun b hb => by rw [f5 b (by omega)]; exact Fm4 b hb
    have row5 : m5.get m.next = some (.row [str n, .int .i64 r, .int .i64 s, sv, tv] .rw) := by rw [Fm5 _ (by omega)]; exact row2
    have nl : ∀ m' : Mem, Bs m' (.slice none 0 0) [] := fun m' => .nil
    simp (maxSteps := 2000000) (disch := first | assumption | omega | (simp only [nx_push, nx_set, ne_eq] <;> omega) | (simp only [XSide, F3]; done) | decide) only [XWalk, XSl, ↓XPre, reduceIte, Nat.reduceEqDiff, Nat.reduceLT, Nat.reduceAdd, Nat.reduceSub, Nat.reduceMul, Nat.reduceBEq, reduceCtorEq, Int.reduceAdd, Int.reduceSub, Int.reduceMul, Int.reduceLT, Int.reduceLE, Int.reduceGT, Int.reduceGE, Int.reduceEq, Int.reduceNe, Int.reduceBEq, Int.reduceBNe, Int.reduceTMod, Int.reduceTDiv, ↓if_true, ↓if_false, F3, A3, row5, XAcc, show sameB [] [] 0 0 0 0 [] [] [] [] = true from rfl, alen_bs (nl _), List.length_nil, cast_lit]
    refine wcall_x specLoc (check_nil_ct hw5 (toS _ Fm5) (toT _ Fm5) hn) hw5 ?_
    rintro out m6 hw6 hn6 f6 rfl
    simp (maxSteps := 2000000) (disch := first | assumption | omega | (simp only [nx_push, nx_set, ne_eq] <;> omega) | (simp only [XSide, F3]; done) | decide) only [XWalk, XSl, ↓XPre, reduceIte, Nat.reduceEqDiff, Nat.reduceLT, Nat.reduceAdd, Nat.reduceSub, Nat.reduceMul, Nat.reduceBEq, reduceCtorEq, Int.reduceAdd, Int.reduceSub, Int.reduceMul, Int.reduceLT, Int.reduceLE, Int.reduceGT, Int.reduceGE, Int.reduceEq, Int.reduceNe, Int.reduceBEq, Int.reduceBNe, Int.reduceTMod, Int.reduceTDiv, ↓if_true, ↓if_false, F3, A3]
    refine wcall_x specLoc (known_ct hw6) hw6 ?_
    rintro out m7 hw7 hn7 f7 rfl
    simp (maxSteps := 2000000) (disch := first | assumption | omega | (simp only [nx_push, nx_set, ne_eq] <;> omega) | (simp only [XSide, F3]; done) | decide) only [XWalk, XSl, ↓XPre, reduceIte, Nat.reduceEqDiff, Nat.reduceLT, Nat.reduceAdd, Nat.reduceSub, Nat.reduceMul, Nat.reduceBEq, reduceCtorEq, Int.reduceAdd, Int.reduceSub, Int.reduceMul, Int.reduceLT, Int.reduceLE, Int.reduceGT, Int.reduceGE, Int.reduceEq, Int.reduceNe, Int.reduceBEq, Int.reduceBNe, Int.reduceTMod, Int.reduceTDiv, ↓if_true, ↓if_false, F3, A3]
end Go.Big

/- From a statement's arguments to the abstract memory. -/
set_option linter.unusedSimpArgs false
set_option linter.unusedVariables false
namespace Go.Big
open Go.Proofs Go.ChangeShapes Go.WideShapes Go.ChangeAt Go.RowKit Go.Deep

/-- A row that was there before the call. -/
theorem Sim.push_ro {H : Nat} {φ : Place} {m : Mem} {w : World} (h : Sim H φ m w) (hn : m.get m.next = none) {cs : List Value} {a : Nat} {o : Nat} (ha : a < H)
    (hcs : ∀ i v, cs[i]? = some v → w.cell? ⟨a, o + i, none⟩ = some v) (hp : cs.all scalar = true) :
    Sim H (φ.add m.next ⟨a, o, cs.length, cs.length, none⟩) (m.push (.row cs .ro)) w := by
  refine h.add hn (fun cs2 k2 he => ?_) (fun _ _ he => by cases he) ?_
  · cases he
    exact { len := rfl, lim := Nat.le_refl _, kind := ⟨rfl, rfl⟩, cells := fun i v hv => ⟨v, hcs i v hv, .base (List.all_eq_true.1 hp v (List.mem_of_getElem? hv))⟩, own := (fun hx => nomatch hx), old := (fun _ => ha) }
  · intro b q hb hq
    exact .inl (by have := (h.blk_lt hb hq).2; simp; omega)

theorem u8_of_wf {n : Int} (h : (Lit.int .u8 n).wf = true) : n = ((UInt8.ofNat n.toNat).toNat : Int) := by
  simp only [Lit.wf, Bool.and_eq_true, decide_eq_true_eq] at h
  have h1 : (0 : Int) ≤ n := h.1
  have h2 : n ≤ 255 := h.2
  rw [UInt8.toNat_ofNat']
  omega

/-- A slice of bytes that a statement's argument reads: as the abstract memory has it. -/
theorem ext_bytes {H : Type} {enc : TypeId × Value → H} {P : Program} {W : World} {φ : Place} {m : Mem} {t e : TypeId} {fuel : Nat} {v : Value} {x : DataW H × List MemPlace} (hs : Sim W.heap.size φ m W) (hw : WF m)
    (ht : P.underlying t = some (.slice e)) (he : P.underlying e = some (.int .u8)) (hc : P.cellsOf e = 1) (h : DataW.trod enc P W 0 (fun _ => true) true fuel t [v] = some x) :
    ∃ (m' : Mem) (φ' : Place) (v' : Value) (l : List UInt8), Sim W.heap.size φ' m' W ∧ WF m' ∧ φ.le φ' ∧ Keep m m' ∧ VRel φ' v' v ∧ Bs m' v' l := by
  rcases open_ints ht he hc h with ⟨hv, hx⟩ | ⟨a, len, cap, zs, hv, hb, hl, hm, hlen, hx, hcell, hwf⟩
  · cases hv
    exact ⟨m, φ, .slice none 0 0, [], hs, hw, Place.le_refl _, fun _ _ => rfl, .base rfl, .nil⟩
  · cases hv
    simp only [if_true] at hlen
    rcases Nat.eq_zero_or_pos len with h0 | h0
    · subst h0
      exact ⟨m, φ, .slice (some ⟨0, 0, some 0⟩) 0 0, [], hs, hw, Place.le_refl _, fun _ _ => rfl, .dead, .spot rfl⟩
    · have hc0 := hcell 0 (by omega)
      rw [show a.add 0 = a from rfl] at hc0
      obtain ⟨ab, ao, asp⟩ := a
      have hspot : asp = none := by
        cases asp with
        | none => rfl
        | some s =>
          simp only [World.cell?] at hc0
          split at hc0 <;> simp at hc0
      subst hspot
      have hblk : ab < W.heap.size := by
        rcases Nat.lt_or_ge ab W.heap.size with h1 | h1
        · exact h1
        · simp only [World.cell?] at hc0
          rw [Array.getElem?_eq_none h1] at hc0
          cases hc0
      let l : List UInt8 := zs.map fun z => UInt8.ofNat z.toNat
      have hll : (u8s l).length = cap := by rw [u8s_length, List.length_map, hlen]
      have hcs : ∀ i v, (u8s l)[i]? = some v → W.cell? ⟨ab, ao + i, none⟩ = some v := fun i v hv => by
        have hi : i < zs.length := by
          rcases Nat.lt_or_ge i zs.length with h1 | h1
          · exact h1
          · rw [List.getElem?_eq_none (by omega)] at hv; cases hv
        have h1 := hcell i hi
        have h2 : (Addr.add ⟨ab, ao, none⟩ i) = ⟨ab, ao + i, none⟩ := by
          unfold Addr.add
          split
          · next h3 => subst h3; rfl
          · rfl
        rw [h2] at h1
        rw [h1, ← hv, List.getD_eq_getElem?_getD, List.getElem?_eq_getElem hi, Option.getD_some]
        simp only [l, u8s, List.map_map, List.getElem?_map, List.getElem?_eq_getElem hi, Option.map_some, Function.comp]
        rw [← u8_of_wf (hwf _ (List.getElem_mem hi))]
      have hsc : (u8s l).all scalar = true := by
        rw [List.all_eq_true]
        intro y hy
        simp only [u8s, List.mem_map] at hy
        obtain ⟨b, _, rfl⟩ := hy
        rfl
      have hn := hw m.next (Nat.le_refl _)
      refine ⟨m.push (.row (u8s l) .ro), _, .slice (some ⟨m.next, 0, none⟩) len cap, l.take len, hs.push_ro hn hblk hcs hsc, hw.push, Place.le_add (hs.none_ _ hn), Keep.push hw, ?_, ?_⟩
      · exact .slice (p := ⟨ab, ao, (u8s l).length, (u8s l).length, none⟩) (by simp [Place.add]) (by simp [capRel])
      · exact .row get_push_self (by rw [List.drop_zero, ← u8s_take]) (by rw [u8s_length, List.length_take, List.length_map]; omega) hl (fun s hs => by cases hs)

/-! ### The shapes of the arguments -/

def isStr (P : Program) (t : TypeId) : Bool := match P.underlying t with | some .string => true | _ => false
def isI64 (P : Program) (t : TypeId) : Bool := match P.underlying t with | some (.int .i64) => true | _ => false
def isU8 (P : Program) (t : TypeId) : Bool := match P.underlying t with | some (.int .u8) => true | _ => false
def isBytes (P : Program) (t : TypeId) : Bool := match P.underlying t with | some (.slice e) => isU8 P e && Nat.beq (P.cellsOf e) 1 | _ => false
def isEnv (P : Program) (t : TypeId) : Bool :=
  match P.underlying t with
  | some (.struct fs) => (match fs.toList with
    | [f0, f1, f2, f3, f4] => isStr P f0.type && (isI64 P f1.type && (isI64 P f2.type && (isBytes P f3.type && (isBytes P f4.type && (oneCellFields P fs && Nat.beq (P.cellsOf t) 5)))))
    | _ => false)
  | _ => false

theorem isStr_of {P : Program} {t : TypeId} (h : isStr P t = true) : P.underlying t = some .string := by
  unfold isStr at h; split at h
  · assumption
  · cases h
theorem isI64_of {P : Program} {t : TypeId} (h : isI64 P t = true) : P.underlying t = some (.int .i64) := by
  unfold isI64 at h; split at h
  · assumption
  · cases h
theorem isU8_of {P : Program} {t : TypeId} (h : isU8 P t = true) : P.underlying t = some (.int .u8) := by
  unfold isU8 at h; split at h
  · assumption
  · cases h
theorem isBytes_of {P : Program} {t : TypeId} (h : isBytes P t = true) : ∃ e, P.underlying t = some (.slice e) ∧ P.underlying e = some (.int .u8) ∧ P.cellsOf e = 1 := by
  unfold isBytes at h; split at h
  · next e he =>
    rw [Bool.and_eq_true] at h
    exact ⟨e, he, isU8_of h.1, Nat.eq_of_beq_eq_true h.2⟩
  · cases h

theorem array5 {α : Type} {cs : Array α} (h : cs.size = 5) : ∃ c0 c1 c2 c3 c4, cs = #[c0, c1, c2, c3, c4] := by
  obtain ⟨l⟩ := cs
  match l, h with
  | [c0, c1, c2, c3, c4], _ => exact ⟨c0, c1, c2, c3, c4, rfl⟩

section
variable {H : Type} {enc : TypeId × Value → H} {P : Program} {W : World} {φ : Place} {m : Mem} {t : TypeId} {b0 : Nat} {v : Value} {d : DataW H} {p : List MemPlace}

/-- An argument of the statements' envelope type. -/
theorem ext_env (hs : Sim W.heap.size φ m W) (hw : WF m) (ht : isEnv P t = true) (hv : Value.okWide P W .any b0 t v) (h : DataW.Trod enc P W 0 (fun _ => true) true t v d p) :
    ∃ (m' : Mem) (φ' : Place) (n S T : List UInt8) (r s : Int) (sv tv : Value), Sim W.heap.size φ' m' W ∧ WF m' ∧ φ.le φ' ∧ Keep m m' ∧
      VRel φ' (.agg #[str n, .int .i64 r, .int .i64 s, sv, tv]) v ∧ Bs m' sv S ∧ Bs m' tv T ∧ (Lit.int .i64 r).wf = true ∧ (Lit.int .i64 s).wf = true ∧ n.length ≤ maxLen := by
  unfold isEnv at ht
  split at ht
  · next fs hfs =>
    obtain ⟨fl⟩ := fs
    match fl, ht, hfs with
    | [f0, f1, f2, f3, f4], ht, hfs =>
      simp only [Bool.and_eq_true] at ht
      obtain ⟨t0, t1, t2, t3, t4, hone, hC⟩ := ht
      have hC' := Nat.eq_of_beq_eq_true hC
      obtain ⟨cs, rfl, hsz⟩ := okWide_struct hfs hv
      obtain ⟨c0, c1, c2, c3, c4, rfl⟩ := array5 (hsz.trans hC')
      obtain ⟨fuel, hf⟩ := h
      obtain ⟨xs, k, _, hx, _, hl, hel⟩ := DataW.trod_struct hfs hf
      have hl5 : xs.length = 5 := hl
      obtain ⟨o0, k0⟩ := hone_of hone 0 f0 rfl
      obtain ⟨o1, k1⟩ := hone_of hone 1 f1 rfl
      obtain ⟨o2, k2⟩ := hone_of hone 2 f2 rfl
      obtain ⟨o3, k3⟩ := hone_of hone 3 f3 rfl
      obtain ⟨o4, k4⟩ := hone_of hone 4 f4 rfl
      have e0 := hel 0 f0 rfl
      have e1 := hel 1 f1 rfl
      have e2 := hel 2 f2 rfl
      have e3 := hel 3 f3 rfl
      have e4 := hel 4 f4 rfl
      rw [o0, k0, List.getElem?_eq_getElem (by omega)] at e0
      rw [o1, k1, List.getElem?_eq_getElem (by omega)] at e1
      rw [o2, k2, List.getElem?_eq_getElem (by omega)] at e2
      rw [o3, k3, List.getElem?_eq_getElem (by omega)] at e3
      rw [o4, k4, List.getElem?_eq_getElem (by omega)] at e4
      obtain ⟨bs, h0, _, hbs⟩ := DataW.trod_string (isStr_of t0) e0
      obtain ⟨r, h1, _, hr⟩ := DataW.trod_int (isI64_of t1) e1
      obtain ⟨s, h2, _, hss⟩ := DataW.trod_int (isI64_of t2) e2
      obtain ⟨el, u1, u2, u3⟩ := isBytes_of t3
      obtain ⟨el', u1', u2', u3'⟩ := isBytes_of t4
      obtain ⟨m1, φ1, sv, S, hs1, hw1, hle1, hk1, hr1, hb1⟩ := ext_bytes (v := c3) hs hw u1 u2 u3 e3
      obtain ⟨m2, φ2, tv, T, hs2, hw2, hle2, hk2, hr2, hb2⟩ := ext_bytes (v := c4) hs1 hw1 u1' u2' u3' e4
      cases h0; cases h1; cases h2
      refine ⟨m2, φ2, bs.data.toList, S, T, r, s, sv, tv, hs2, hw2, Place.le_trans hle1 hle2, fun b hb => (hk2 b (by rw [hk1 b hb]; exact hb)).trans (hk1 b hb), ?_, hb1.keep hk2, hb2, hr, hss, ?_⟩
      · refine (LRel.arr (.cons (v' := .string bs) ?_ (.cons (.base rfl) (.cons (.base rfl) (.cons (hr1.mono hle2) (.cons hr2 .nil)))))).agg
        exact .base rfl
      · simpa using hbs
  · cases ht

theorem trodAll_below (hl : laidOutB P = true) {W' : World} (hb : Below W.heap.size W W') : ∀ {ts : List TypeId} {vs : List Value} {ds : List (DataW H)} {ps : List MemPlace}, DataW.TrodAll enc P W 0 (fun _ => true) true ts vs ds ps →
    (∀ t ∈ ts, P.readableRec t = true ∧ t < P.types.size) → (∀ x ∈ ps, x.block < W.heap.size) → DataW.TrodAll enc P W' 0 (fun b => decide (b < W.heap.size)) true ts vs ds ps
  | [], _, _, _, h, _, _ => by
    obtain ⟨rfl, rfl, rfl⟩ := trodAll_nil h
    rfl
  | t :: ts, _, _, _, h, ht, hp => by
    obtain ⟨v, vs, d, ds, p, q, rfl, rfl, rfl, h1, h2⟩ := trodAll_cons h
    refine ⟨p, q, Below.trod hl (ht t (List.mem_cons_self ..)).1 (ht t (List.mem_cons_self ..)).2 h1 hb (fun x hx => hp x (List.mem_append_left _ hx)), trodAll_below hl hb h2 (fun u hu => ht u (List.mem_cons_of_mem _ hu)) (fun x hx => hp x (List.mem_append_right _ hx)), rfl⟩

/-- What a row of the template asks, of a call that left all that was there as it was. -/
theorem post_true {f : Func} {s : ChangeSpec} {W' : World} {args : Array Value} {ds gs : List (DataW H)} {before : List MemPlace} {tb : TypeId} (hl : laidOutB P = true)
    (hW : DataW.Whole enc P f.params.toList s.vars false W args.toList ds gs before) (hv : s.vars = []) (hp : ∀ t ∈ f.params.toList, P.readableRec t = true ∧ t < P.types.size) (hb : Below W.heap.size W W')
    (hf : s.fn H ds = { results := [.lit (.bool true)], args := ds }) (hr : f.resultTypes = #[tb]) (ht : P.underlying tb = some .bool) : s.post enc P f false true false false W args (.bool true) W' := by
  have hlt := hW.lt
  have hW0 := hW
  obtain ⟨p, q, hA, hV, rfl, hfz, hnd⟩ := hW
  rw [hv] at hV
  obtain ⟨rfl, rfl⟩ := trodVars_none hV
  rw [List.append_nil] at hlt hW0
  refine ⟨ds, [], p, [], p, [], hW0, ?_, ?_, ?_, hb.frame _, fun h => by cases h⟩
  · rw [List.append_nil, hf, hr]
    exact trodAll_mk1 (shut_bool ht true)
  · rw [List.append_nil, hf]
    exact trodAll_below hl hb hA hp hlt
  · rw [List.append_nil, hf, hv]
    rfl

theorem calls_true {S : Cfg} {f : FuncId} {args : List Value} {args' : Array Value} (hS : SpecSim P W.heap.size S.spec) (hL : SpecLoc S.spec) (hF : FuncsOk P S) (hmix : P.follows .mixedOrders = true)
    (hct : Ct P S f args m [] (fun out _ => out = .ret (.bool true))) (hw : WF m) (hs : Sim W.heap.size φ m W) (ha : LRel φ args args'.toList) :
    Calls P f args' W fun e W' => e = .returned (.bool true) ∧ Below W.heap.size W W' := by
  obtain ⟨out, m', wr, hc, _, rfl⟩ := hct
  obtain ⟨n, hn⟩ := acall_iff.1 hc
  refine (ev_calls hS hL hF hmix hn hw hs ha).mono fun e W' ⟨ψ, _, _, hb, v', he, hv⟩ => ⟨?_, hb⟩
  rw [he, hv.scalar_eq rfl]
end

end Go.Big

/- The rows of the seat D, proved. -/
set_option linter.unusedSimpArgs false
set_option linter.unusedVariables false
namespace Go.Proofs.YtobhnnbdobphfaaDoor
open Go.ChangeShapes Go.WideShapes Go.ChangeAt Go.RowKit Go.Big

theorem own : ownKnob Tryd.prog.godebug = none := by kernel_rfl
theorem laidOut : laidOutB Tryd.prog = true := by kernel_rfl
theorem env24 : isEnv Tryd.prog 24 = true := by kernel_rfl
theorem int3 : Tryd.prog.underlying 3 = some (.int .i64) := by kernel_rfl
theorem bool4 : Tryd.prog.underlying 4 = some .bool := by kernel_rfl
theorem readable24 : Tryd.prog.readableRec 24 = true ∧ 24 < Tryd.prog.types.size := ⟨by kernel_rfl, of_decide_eq_true (by kernel_rfl)⟩
theorem readable3 : Tryd.prog.readableRec 3 = true ∧ 3 < Tryd.prog.types.size := ⟨by kernel_rfl, of_decide_eq_true (by kernel_rfl)⟩

def laid : List (String × DataW Unit) := [("unicode/utf8.acceptRanges", Rows.laid_unicode_utf8_acceptRanges), ("unicode/utf8.first", Rows.laid_unicode_utf8_first)]
def envZero : Value := .agg #[.string ⟨#[]⟩, .int .i64 0, .int .i64 0, .slice none 0 0, .slice none 0 0]

theorem sim0 (W : World) : Sim W.heap.size (fun _ => none) Mem.empty W := ⟨Nat.le_refl _, fun _ _ => rfl, fun b cs k hb => (by cases hb), fun b es c hb => (by cases hb), fun b c p q _ _ _ hp => (by cases hp)⟩
theorem wf0 : WF Mem.empty := fun b _ => rfl

set_option maxRecDepth 100000 in
theorem none_lifted (os : Os) (started : os.Started) (H : Type) (enc : TypeId × Value → H) :
    ReturnsInHanded {} Tryd.checked os 3 .any (fun w args => (Rows.envelopeNoneSpec.pre enc Tryd.prog Tryd.f3 Rows.envelopeNoneRow.domain false w args ∧ laidMetH Tryd.prog laid w) ∧ sizedMet enc Tryd.prog Tryd.f3 (OpenSpec.ofChange Rows.envelopeNoneSpec) false w args)
      (Rows.envelopeNoneSpec.post enc Tryd.prog Tryd.f3 false true false false) := by
  refine returnsInHanded_of_change_and (C := Tryd.checked) (X := fun w _ => laidMetH Tryd.prog laid w) (fun _ _ _ hh h => h.of_heap hh) own started (by kernel_rfl) Tryd.func3
    (ChangeSpec.witness_shaped (enc := enc) (C := Tryd.checked) (os := os) (X := fun w _ => laidMetH Tryd.prog laid w) false (World.laidAll Tryd.prog os laid) #[envZero, .int .i64 0] 8 (World.laidAll_os _ _ _)
      (World.shaped_of_ZipB (by kernel_rfl) (by kernel_rfl)) (by kernel_rfl) (by kernel_rfl) (by kernel_rfl)
      (by rw [MakeChecks.laidMetH_plain _ _ _ (by kernel_rfl)]; exact laidMet_laidAll _ (by kernel_rfl) (by kernel_rfl))) ?_
  intro W base args ds gs before hval0 hW _ _ _ _
  have hval : ∀ (j : Nat) t v, Tryd.f3.params[j]? = some t → args[j]? = some v → Value.okWide Tryd.prog W .any base t v := hval0
  have hpar : Tryd.f3.params = #[24, 3] := by kernel_rfl
  have hW' := hW
  obtain ⟨p, q, hA0, hV, rfl, _, _⟩ := hW
  have hA : DataW.TrodAll enc Tryd.prog W 0 (fun _ => true) true Tryd.f3.params.toList args.toList ds p := hA0
  rw [hpar] at hA hval
  obtain ⟨v0, v1, d0, d1, p0, p1, rfl, rfl, rfl, h0, h1⟩ := trodAll_two hA
  obtain ⟨m, φ, n, S, T, r, s, sv, tv, hs, hw, _, _, hr, hbS, hbT, _, _, _⟩ := ext_env (sim0 W) wf0 env24 (hval 0 24 v0 rfl rfl) h0
  obtain ⟨k, rfl, rfl, rfl, wk⟩ := open_int int3 (hval 1 3 v1 rfl rfl) h1
  refine (calls_true (specSim _) specLoc funcsOk mixed (none_ct (q := k) hw hbS hbT) hw hs (LRel.cons hr (.cons (.base rfl) .nil))).mono fun e W' ⟨he, hb⟩ => ?_
  subst he
  obtain ⟨rfl, rfl⟩ := trodVars_none hV
  exact ⟨_, rfl, post_true laidOut hW' rfl (fun t ht => by
    rw [hpar] at ht
    simp only [List.mem_cons, List.not_mem_nil, or_false] at ht
    rcases ht with rfl | rfl
    · exact readable24
    · exact readable3) hb rfl (by kernel_rfl) bool4⟩

theorem none_holds : Rows.EnvelopeNoneSaid :=
  OpenClaim.holds_of_wide 3 Tryd.f3 rfl rfl rfl rfl rfl rfl rfl ⟨rfl, rfl, rfl, rfl, rfl⟩ rfl rfl rfl rfl rfl (by kernel_rfl) Tryd.func3 (by kernel_rfl)
    (of_decide_eq_true (by kernel_rfl)) (by unfold Func.isWrapper; first | (rw [if_pos (by decide +kernel)]; kernel_rfl) | (rw [if_neg (by decide +kernel)]; exact ⟨rfl, rfl⟩))
    (fun os started H enc _ => none_lifted os started H enc)
theorem none_card_holds : Rows.EnvelopeNoneCardSaid :=
  Claim7.holds_tied_plain_at .later [] [.data, .pinned] true (true, "e5903af1cd62969ff4b0040717dee158c3274cb06ad2409b2c84d22848c0bef0") false none_holds (fun _ h => by cases h) (by kernel_rfl) (fun _ h => by cases h) envelopeNone_row_tie rfl ⟨rfl, rfl⟩ (by kernel_rfl) rfl
    (fun f fn hf hfn => by
      obtain rfl : f = 3 := Option.some.inj ((show Tryd.prog.funcNamed "bandplan/bandplanlaw42.EnvelopeNone" = some 3 by kernel_rfl).symm.trans hf) |>.symm
      obtain rfl : fn = Tryd.f3 := (Option.some.inj (Tryd.func3.symm.trans hfn)).symm
      exact ⟨by kernel_rfl, fun j t ht => by
        rw [show Tryd.f3.params = #[24, 3] by kernel_rfl] at ht
        have hm : t ∈ [24, 3] := by simpa using Array.mem_of_getElem? ht
        have hall : ([24, 3].all fun u => !Tryd.prog.wantsStandIn u) = true := by kernel_rfl
        exact (show Tryd.prog.wantsStandIn t = false by simpa using List.all_eq_true.1 hall t hm)⟩)
    (by kernel_rfl)
#print axioms none_card_holds
end Go.Proofs.YtobhnnbdobphfaaDoor
