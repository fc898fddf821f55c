/- The compression function of the hash, the program's: the whole. -/
import Derived.Test.YtobhnnbdobphfaaGreatDoorJoined7
set_option linter.unusedSimpArgs false
set_option linter.unusedVariables false
set_option linter.unusedSimpArgs false
set_option linter.unusedVariables false
set_option maxRecDepth 100000
set_option maxHeartbeats 2000000
namespace Go.Big
open Go.Proofs

theorem words_x {m : Mem} (hw : WF m) {base hb : Nat} {hv lastv : Value} {bb bo bc mb : Nat} {bs : List Value} {l : List UInt8} (hbk : m.get bb = some (.row bs .rw)) (hB : (bs.drop bo).take 64 = u8s l) (lB : l.length = 64) (hc : 64 ≤ bc) {t : Nat} (hne : bb ≠ mb)
    (hmb : base ≤ mb) (hm : m.get mb = some (.row (fillV 16 (fun j => w32 (blkWord l j)) (fun _ => w32 0) 0) .rw)) {e : Env} (he : e.n = 173) (q0 : e.get 0 = hv) (q1 : e.get 1 = .slice (some ⟨bb, bo, none⟩) 64 bc)
    (q2 : e.get 2 = .int .u64 (t : Int)) (q3 : e.get 3 = lastv) (q8 : e.get 8 = .pointer (some ⟨mb, 0, none⟩)) (q18 : e.get 18 = .int .i64 ((0 : Nat) : Int)) {Q : Ex → Env → Mem → Prop}
    (hQ : ∀ e' m', WF m' → m'.next = m.next → (∀ b, b ≠ mb → m'.get b = m.get b) → m'.get mb = some (.row (w32s (blkWords l)) .rw) → e'.n = 173 → e'.get 0 = hv → e'.get 2 = .int .u64 (t : Int) → e'.get 3 = lastv →
      e'.get 8 = .pointer (some ⟨mb, 0, none⟩) → Q (.exit 0) e' m') : WX Tryz.prog S0 base [hb] (sub (bodyOf Tryz.f124) [true, false, true, true]) e m Q := by
  have hmn : mb < m.next := hw.lt (by rw [hm]; simp)
  refine x_loop (fun k e m1 => ∃ i, i + k = 16 ∧ e.n = 173 ∧ e.get 0 = hv ∧ e.get 1 = .slice (some ⟨bb, bo, none⟩) 64 bc ∧ e.get 2 = .int .u64 (t : Int) ∧ e.get 3 = lastv ∧ e.get 8 = .pointer (some ⟨mb, 0, none⟩) ∧ e.get 18 = .int .i64 ((i : Nat) : Int) ∧
    WF m1 ∧ m1.next = m.next ∧ (∀ b, b ≠ mb → m1.get b = m.get b) ∧ m1.get mb = some (.row (fillV 16 (fun j => w32 (blkWord l j)) (fun _ => w32 0) i) .rw)) 16 ⟨0, by omega, he, q0, q1, q2, q3, q8, q18, hw, rfl, fun _ _ => rfl, hm⟩ ?_
  rintro k e1 m1 ⟨i, hi, he, q0, q1, q2, q3, q8, q18, hw1, hn1, hf1, hm1⟩
  simp (maxSteps := 2000000) (disch := first | assumption | omega | (simp only [nx_push, nx_set, ne_eq] <;> omega) | (simp only [XSide, F124]; done) | decide) only [XWalk, XSl, ↓XPre, reduceIte, Nat.reduceEqDiff, Nat.reduceLT, Nat.reduceAdd, Nat.reduceSub, Nat.reduceMul, Nat.reduceBEq, reduceCtorEq, Int.reduceAdd, Int.reduceSub, Int.reduceMul, Int.reduceLT, Int.reduceLE, Int.reduceGT, Int.reduceGE, Int.reduceEq, Int.reduceNe, Int.reduceBEq, Int.reduceBNe, Int.reduceTMod, Int.reduceTDiv, ↓if_true, ↓if_false, F124, A124, he, q18]
  refine x_if (fun ht => ?_) (fun ht => ?_)
  · have hk : i < 16 := by simp at ht; omega
    have hbb : m1.get bb = some (.row bs .rw) := by rw [hf1 bb hne]; exact hbk
    have e1' : IntKind.wrap .i64 (4 * (i : Int)) = ((4 * i : Nat) : Int) := by rw [wrap_i64 (by omega) (by omega)]; omega
    have e2' : IntKind.wrap .i64 (((4 * i : Nat) : Int) + 4) = ((4 * i + 4 : Nat) : Int) := by rw [wrap_i64 (by omega) (by omega)]; omega
    have e3' : IntKind.wrap .i64 ((i : Int) + 1) = ((i + 1 : Nat) : Int) := by rw [wrap_i64 (by omega) (by omega)]; omega
    simp (maxSteps := 2000000) (disch := first | assumption | omega | (simp only [nx_push, nx_set, ne_eq] <;> omega) | (simp only [XSide, F124]; done) | decide) only [XWalk, XSl, ↓XPre, reduceIte, Nat.reduceEqDiff, Nat.reduceLT, Nat.reduceAdd, Nat.reduceSub, Nat.reduceMul, Nat.reduceBEq, reduceCtorEq, Int.reduceAdd, Int.reduceSub, Int.reduceMul, Int.reduceLT, Int.reduceLE, Int.reduceGT, Int.reduceGE, Int.reduceEq, Int.reduceNe, Int.reduceBEq, Int.reduceBNe, Int.reduceTMod, Int.reduceTDiv, ↓if_true, ↓if_false, F124, A124, he, q18, q1, e1', e2', aslice_max hbb (show idxSl Tryz.prog 22 = some 1 by simp only [F124]) (show 4 * i ≤ 4 * i + 4 by omega) (Nat.le_refl (4 * i + 4)) (show 4 * i + 4 ≤ bc by omega) (by omega)]
    refine x_draw [0, 0, 2, 6, 14, 0, 32, 96, 224, 480, 1022, 0, 2048, 6144, 14336, 30720, 65534, 0, 131072, 393216, 917504, 1966080, 4194302, 8388607, 16777215] (by kernel_rfl) ?_
    have hx0 : bs[bo + 4 * i]? = some (.int .u8 ((l.getD (4 * i) 0).toNat : Int)) := u8_at hB (by omega)
    have hx1 : bs[bo + 4 * i + 1]? = some (.int .u8 ((l.getD (4 * i + 1) 0).toNat : Int)) := by rw [Nat.add_assoc]; exact u8_at hB (by omega)
    have hx2 : bs[bo + 4 * i + 2]? = some (.int .u8 ((l.getD (4 * i + 2) 0).toNat : Int)) := by rw [Nat.add_assoc]; exact u8_at hB (by omega)
    have hx3 : bs[bo + 4 * i + 3]? = some (.int .u8 ((l.getD (4 * i + 3) 0).toNat : Int)) := by rw [Nat.add_assoc]; exact u8_at hB (by omega)
    simp (maxSteps := 2000000) (disch := first | assumption | omega | (simp only [nx_push, nx_set, ne_eq] <;> omega) | (simp only [XSide, F124]; done) | decide) only [XWalk, XSl, ↓XPre, reduceIte, Nat.reduceEqDiff, Nat.reduceLT, Nat.reduceAdd, Nat.reduceSub, Nat.reduceMul, Nat.reduceBEq, reduceCtorEq, Int.reduceAdd, Int.reduceSub, Int.reduceMul, Int.reduceLT, Int.reduceLE, Int.reduceGT, Int.reduceGE, Int.reduceEq, Int.reduceNe, Int.reduceBEq, Int.reduceBNe, Int.reduceTMod, Int.reduceTDiv, ↓if_true, ↓if_false, F124, A124, he, q18, q1, q8, hbb, Nat.add_sub_cancel_left, hx0, hx1, hx2, hx3, u8_u32, shl8, shl16, shl24, orI_32, hm1, fillV_length, hk, e3', q0, q2, q3]
    refine ⟨k - 1, by omega, i + 1, by omega, rfl, WF.set hw1 (by omega), hn1, fun b hb => ?_, ?_⟩
    · rw [Mem.get_set, if_neg hb]; exact hf1 b hb
    · have := fillV_set (n := 16) (f := fun j => w32 (blkWord l j)) (g := fun _ => w32 0) (i := i)
      rw [← this]
      rfl
  · have hk : i = 16 := by simp at ht; omega
    subst hk
    simp (maxSteps := 2000000) (disch := first | assumption | omega | (simp only [nx_push, nx_set, ne_eq] <;> omega) | (simp only [XSide]; done) | decide) only [XWalk, XSl, ↓XPre, reduceIte, Nat.reduceEqDiff, Nat.reduceLT, Nat.reduceAdd, Nat.reduceSub, Nat.reduceMul, Nat.reduceBEq, reduceCtorEq, Int.reduceAdd, Int.reduceSub, Int.reduceMul, Int.reduceLT, Int.reduceLE, Int.reduceGT, Int.reduceGE, Int.reduceEq, Int.reduceNe, Int.reduceBEq, Int.reduceBNe, Int.reduceTMod, Int.reduceTDiv, ↓if_true, ↓if_false]
    refine hQ _ _ hw1 hn1 hf1 (by rw [hm1]; rfl) ?_ ?_ ?_ ?_ ?_ <;> simp (maxSteps := 2000000) (disch := first | assumption | omega | (simp only [nx_push, nx_set, ne_eq] <;> omega) | (simp only [XSide]; done) | decide) only [XWalk, XSl, ↓XPre, reduceIte, Nat.reduceEqDiff, Nat.reduceLT, Nat.reduceAdd, Nat.reduceSub, Nat.reduceMul, Nat.reduceBEq, reduceCtorEq, Int.reduceAdd, Int.reduceSub, Int.reduceMul, Int.reduceLT, Int.reduceLE, Int.reduceGT, Int.reduceGE, Int.reduceEq, Int.reduceNe, Int.reduceBEq, Int.reduceBNe, Int.reduceTMod, Int.reduceTDiv, ↓if_true, ↓if_false, he, q0, q1, q2, q3, q8]

theorem mod32_of {t : Nat} : ((t : Int) % 4294967296) = ((UInt32.ofNat t).toNat : Int) := by
  rw [UInt32.toNat_ofNat']; omega
theorem not_32 {P : Program} {m : Mem} (x : UInt32) : aun (P := P) .xor (w32 x) m = some (w32 (x ^^^ 0xffffffff), m, [], .no) := by
  rw [aun_xor]
  have h : IntKind.wrap .u32 (BitVec.ofInt IntKind.u32.bits (if IntKind.u32.signed then -1 else IntKind.u32.max) ^^^ BitVec.ofInt IntKind.u32.bits (x.toNat : Int)).toNat = ((x ^^^ 0xffffffff).toNat : Int) := by
    have := xorI_32 0xffffffff x
    rw [UInt32.xor_comm] at this
    exact this
  rw [h]
theorem shr32_of {t : Nat} : shrK .u64 (t : Int) 32 = ((t / 4294967296 : Nat) : Int) := shrK_nat (k := .u64) (a := t) (n := 32) (by decide)

theorem compress_ct {m : Mem} (hw : WF m) {hb ho bb bo bc : Nat} {hs bs : List Value} {H : List UInt32} {l : List UInt8} (hh : m.get hb = some (.row hs .rw)) (hH : (hs.drop ho).take 8 = w32s H) (lH : H.length = 8) (lo : ho + 8 ≤ hs.length)
    (hbk : m.get bb = some (.row bs .rw)) (hB : (bs.drop bo).take 64 = u8s l) (lB : l.length = 64) (hc : 64 ≤ bc) {t : Nat} (ht : t < 18446744073709551616) {last : Bool} :
    Ct Tryz.prog S0 124 [.pointer (some ⟨hb, ho, none⟩), .slice (some ⟨bb, bo, none⟩) 64 bc, .int .u64 (t : Int), .bool last] m [hb]
      (fun out m' => out = .ret (.tuple #[]) ∧ m'.get hb = some (.row (win hs ho (w32s (compressW H l t last))) .rw)) := by
  have hblt : hb < m.next := hw.lt (by rw [hh]; simp)
  have bblt : bb < m.next := hw.lt (by rw [hbk]; simp)
  refine ct_x (spec0 _) (by rfl) Tryz.func124 rfl ?_
  simp (maxSteps := 2000000) (disch := first | assumption | omega | (simp only [nx_push, nx_set, ne_eq] <;> omega) | (simp only [XSide, F124]; done) | decide) only [XWalk, XSl, ↓XPre, reduceIte, Nat.reduceEqDiff, Nat.reduceLT, Nat.reduceAdd, Nat.reduceSub, Nat.reduceMul, Nat.reduceBEq, reduceCtorEq, Int.reduceAdd, Int.reduceSub, Int.reduceMul, Int.reduceLT, Int.reduceLE, Int.reduceGT, Int.reduceGE, Int.reduceEq, Int.reduceNe, Int.reduceBEq, Int.reduceBNe, Int.reduceTMod, Int.reduceTDiv, ↓if_true, ↓if_false, F124, A124, Tryz.ntmps124]
  refine words_x (hb := hb) (hv := .pointer (some ⟨hb, ho, none⟩)) (lastv := .bool last) (bb := bb) (bo := bo) (bc := bc) (mb := m.next) (l := l) (t := t) hw.push (by simp (maxSteps := 2000000) (disch := first | assumption | omega | (simp only [nx_push, nx_set, ne_eq] <;> omega) | (simp only [XSide]; done) | decide) only [XWalk, XSl, ↓XPre, reduceIte, Nat.reduceEqDiff, Nat.reduceLT, Nat.reduceAdd, Nat.reduceSub, Nat.reduceMul, Nat.reduceBEq, reduceCtorEq, Int.reduceAdd, Int.reduceSub, Int.reduceMul, Int.reduceLT, Int.reduceLE, Int.reduceGT, Int.reduceGE, Int.reduceEq, Int.reduceNe, Int.reduceBEq, Int.reduceBNe, Int.reduceTMod, Int.reduceTDiv, ↓if_true, ↓if_false, hbk]) hB lB hc (by omega) (Nat.le_refl _) (by simp (maxSteps := 2000000) (disch := first | assumption | omega | (simp only [nx_push, nx_set, ne_eq] <;> omega) | (simp only [XSide]; done) | decide) only [XWalk, XSl, ↓XPre, reduceIte, Nat.reduceEqDiff, Nat.reduceLT, Nat.reduceAdd, Nat.reduceSub, Nat.reduceMul, Nat.reduceBEq, reduceCtorEq, Int.reduceAdd, Int.reduceSub, Int.reduceMul, Int.reduceLT, Int.reduceLE, Int.reduceGT, Int.reduceGE, Int.reduceEq, Int.reduceNe, Int.reduceBEq, Int.reduceBNe, Int.reduceTMod, Int.reduceTDiv, ↓if_true, ↓if_false]; rfl) (by simp (maxSteps := 2000000) (disch := first | assumption | omega | (simp only [nx_push, nx_set, ne_eq] <;> omega) | (simp only [XSide]; done) | decide) only [XWalk, XSl, ↓XPre, reduceIte, Nat.reduceEqDiff, Nat.reduceLT, Nat.reduceAdd, Nat.reduceSub, Nat.reduceMul, Nat.reduceBEq, reduceCtorEq, Int.reduceAdd, Int.reduceSub, Int.reduceMul, Int.reduceLT, Int.reduceLE, Int.reduceGT, Int.reduceGE, Int.reduceEq, Int.reduceNe, Int.reduceBEq, Int.reduceBNe, Int.reduceTMod, Int.reduceTDiv, ↓if_true, ↓if_false]) (by simp (maxSteps := 2000000) (disch := first | assumption | omega | (simp only [nx_push, nx_set, ne_eq] <;> omega) | (simp only [XSide]; done) | decide) only [XWalk, XSl, ↓XPre, reduceIte, Nat.reduceEqDiff, Nat.reduceLT, Nat.reduceAdd, Nat.reduceSub, Nat.reduceMul, Nat.reduceBEq, reduceCtorEq, Int.reduceAdd, Int.reduceSub, Int.reduceMul, Int.reduceLT, Int.reduceLE, Int.reduceGT, Int.reduceGE, Int.reduceEq, Int.reduceNe, Int.reduceBEq, Int.reduceBNe, Int.reduceTMod, Int.reduceTDiv, ↓if_true, ↓if_false]) (by simp (maxSteps := 2000000) (disch := first | assumption | omega | (simp only [nx_push, nx_set, ne_eq] <;> omega) | (simp only [XSide]; done) | decide) only [XWalk, XSl, ↓XPre, reduceIte, Nat.reduceEqDiff, Nat.reduceLT, Nat.reduceAdd, Nat.reduceSub, Nat.reduceMul, Nat.reduceBEq, reduceCtorEq, Int.reduceAdd, Int.reduceSub, Int.reduceMul, Int.reduceLT, Int.reduceLE, Int.reduceGT, Int.reduceGE, Int.reduceEq, Int.reduceNe, Int.reduceBEq, Int.reduceBNe, Int.reduceTMod, Int.reduceTDiv, ↓if_true, ↓if_false]) (by simp (maxSteps := 2000000) (disch := first | assumption | omega | (simp only [nx_push, nx_set, ne_eq] <;> omega) | (simp only [XSide]; done) | decide) only [XWalk, XSl, ↓XPre, reduceIte, Nat.reduceEqDiff, Nat.reduceLT, Nat.reduceAdd, Nat.reduceSub, Nat.reduceMul, Nat.reduceBEq, reduceCtorEq, Int.reduceAdd, Int.reduceSub, Int.reduceMul, Int.reduceLT, Int.reduceLE, Int.reduceGT, Int.reduceGE, Int.reduceEq, Int.reduceNe, Int.reduceBEq, Int.reduceBNe, Int.reduceTMod, Int.reduceTDiv, ↓if_true, ↓if_false]) (by simp (maxSteps := 2000000) (disch := first | assumption | omega | (simp only [nx_push, nx_set, ne_eq] <;> omega) | (simp only [XSide]; done) | decide) only [XWalk, XSl, ↓XPre, reduceIte, Nat.reduceEqDiff, Nat.reduceLT, Nat.reduceAdd, Nat.reduceSub, Nat.reduceMul, Nat.reduceBEq, reduceCtorEq, Int.reduceAdd, Int.reduceSub, Int.reduceMul, Int.reduceLT, Int.reduceLE, Int.reduceGT, Int.reduceGE, Int.reduceEq, Int.reduceNe, Int.reduceBEq, Int.reduceBNe, Int.reduceTMod, Int.reduceTDiv, ↓if_true, ↓if_false]) (by simp (maxSteps := 2000000) (disch := first | assumption | omega | (simp only [nx_push, nx_set, ne_eq] <;> omega) | (simp only [XSide]; done) | decide) only [XWalk, XSl, ↓XPre, reduceIte, Nat.reduceEqDiff, Nat.reduceLT, Nat.reduceAdd, Nat.reduceSub, Nat.reduceMul, Nat.reduceBEq, reduceCtorEq, Int.reduceAdd, Int.reduceSub, Int.reduceMul, Int.reduceLT, Int.reduceLE, Int.reduceGT, Int.reduceGE, Int.reduceEq, Int.reduceNe, Int.reduceBEq, Int.reduceBNe, Int.reduceTMod, Int.reduceTDiv, ↓if_true, ↓if_false]) (by simp (maxSteps := 2000000) (disch := first | assumption | omega | (simp only [nx_push, nx_set, ne_eq] <;> omega) | (simp only [XSide]; done) | decide) only [XWalk, XSl, ↓XPre, reduceIte, Nat.reduceEqDiff, Nat.reduceLT, Nat.reduceAdd, Nat.reduceSub, Nat.reduceMul, Nat.reduceBEq, reduceCtorEq, Int.reduceAdd, Int.reduceSub, Int.reduceMul, Int.reduceLT, Int.reduceLE, Int.reduceGT, Int.reduceGE, Int.reduceEq, Int.reduceNe, Int.reduceBEq, Int.reduceBNe, Int.reduceTMod, Int.reduceTDiv, ↓if_true, ↓if_false]; rfl) ?_
  intro e1 m1 hw1 hn1 hf1 hm1 he q0 q2 q3 q8
  simp only [Mem.next_push] at hn1
  simp (maxSteps := 2000000) (disch := first | assumption | omega | (simp only [nx_push, nx_set, ne_eq] <;> omega) | (simp only [XSide, F124]; done) | decide) only [XWalk, XSl, ↓XPre, reduceIte, Nat.reduceEqDiff, Nat.reduceLT, Nat.reduceAdd, Nat.reduceSub, Nat.reduceMul, Nat.reduceBEq, reduceCtorEq, Int.reduceAdd, Int.reduceSub, Int.reduceMul, Int.reduceLT, Int.reduceLE, Int.reduceGT, Int.reduceGE, Int.reduceEq, Int.reduceNe, Int.reduceBEq, Int.reduceBNe, Int.reduceTMod, Int.reduceTDiv, ↓if_true, ↓if_false, F124, A124, he]
  refine wcall_x specLoc start_ct hw1.push ?_
  rintro out m2 hw2 hn2 f2 rfl
  simp only [Mem.next_push] at hn2 f2
  have hv2 : m2.get m1.next = some (.row (w32s (List.replicate 16 0)) .rw) := by rw [f2 _ (by omega), get_push_self]; rfl
  have hm2 : m2.get m.next = some (.row (w32s (blkWords l)) .rw) := by rw [f2 _ (by omega), get_push_ne (by omega)]; exact hm1
  have g2 : ∀ b, b < m.next → m2.get b = m.get b := fun b hb => by rw [f2 b (by omega), get_push_ne (by omega), hf1 b (by omega), get_push_ne (by omega)]
  have e8 : Nat.beq (w32s ivW).length 8 = true := rfl
  simp (maxSteps := 2000000) (disch := first | assumption | omega | (simp only [nx_push, nx_set, ne_eq] <;> omega) | (simp only [XSide, F124]; done) | decide) only [XWalk, XSl, ↓XPre, reduceIte, Nat.reduceEqDiff, Nat.reduceLT, Nat.reduceAdd, Nat.reduceSub, Nat.reduceMul, Nat.reduceBEq, reduceCtorEq, Int.reduceAdd, Int.reduceSub, Int.reduceMul, Int.reduceLT, Int.reduceLE, Int.reduceGT, Int.reduceGE, Int.reduceEq, Int.reduceNe, Int.reduceBEq, Int.reduceBNe, Int.reduceTMod, Int.reduceTDiv, ↓if_true, ↓if_false, F124, A124, he, e8]
  refine x_keep2 (fun e m3 => e.n = 173 ∧ e.get 0 = .pointer (some ⟨hb, ho, none⟩) ∧ e.get 2 = .int .u64 (t : Int) ∧ e.get 3 = .bool last ∧ e.get 8 = .pointer (some ⟨m.next, 0, none⟩) ∧ e.get 11 = .pointer (some ⟨m1.next, 0, none⟩) ∧ e.get 12 = .pointer (some ⟨m2.next, 0, none⟩) ∧
    WF m3 ∧ m3.next = m2.next + 1 ∧ (∀ b, b < m.next → m3.get b = m.get b) ∧ m3.get m1.next = some (.row (w32s (List.replicate 16 0)) .rw) ∧ m3.get m2.next = some (.row (w32s ivW) .rw) ∧ m3.get m.next = some (.row (w32s (blkWords l)) .rw))
    ⟨by simp (maxSteps := 2000000) (disch := first | assumption | omega | (simp only [nx_push, nx_set, ne_eq] <;> omega) | (simp only [XSide]; done) | decide) only [XWalk, XSl, ↓XPre, reduceIte, Nat.reduceEqDiff, Nat.reduceLT, Nat.reduceAdd, Nat.reduceSub, Nat.reduceMul, Nat.reduceBEq, reduceCtorEq, Int.reduceAdd, Int.reduceSub, Int.reduceMul, Int.reduceLT, Int.reduceLE, Int.reduceGT, Int.reduceGE, Int.reduceEq, Int.reduceNe, Int.reduceBEq, Int.reduceBNe, Int.reduceTMod, Int.reduceTDiv, ↓if_true, ↓if_false, he], by simp (maxSteps := 2000000) (disch := first | assumption | omega | (simp only [nx_push, nx_set, ne_eq] <;> omega) | (simp only [XSide]; done) | decide) only [XWalk, XSl, ↓XPre, reduceIte, Nat.reduceEqDiff, Nat.reduceLT, Nat.reduceAdd, Nat.reduceSub, Nat.reduceMul, Nat.reduceBEq, reduceCtorEq, Int.reduceAdd, Int.reduceSub, Int.reduceMul, Int.reduceLT, Int.reduceLE, Int.reduceGT, Int.reduceGE, Int.reduceEq, Int.reduceNe, Int.reduceBEq, Int.reduceBNe, Int.reduceTMod, Int.reduceTDiv, ↓if_true, ↓if_false, q0], by simp (maxSteps := 2000000) (disch := first | assumption | omega | (simp only [nx_push, nx_set, ne_eq] <;> omega) | (simp only [XSide]; done) | decide) only [XWalk, XSl, ↓XPre, reduceIte, Nat.reduceEqDiff, Nat.reduceLT, Nat.reduceAdd, Nat.reduceSub, Nat.reduceMul, Nat.reduceBEq, reduceCtorEq, Int.reduceAdd, Int.reduceSub, Int.reduceMul, Int.reduceLT, Int.reduceLE, Int.reduceGT, Int.reduceGE, Int.reduceEq, Int.reduceNe, Int.reduceBEq, Int.reduceBNe, Int.reduceTMod, Int.reduceTDiv, ↓if_true, ↓if_false, q2], by simp (maxSteps := 2000000) (disch := first | assumption | omega | (simp only [nx_push, nx_set, ne_eq] <;> omega) | (simp only [XSide]; done) | decide) only [XWalk, XSl, ↓XPre, reduceIte, Nat.reduceEqDiff, Nat.reduceLT, Nat.reduceAdd, Nat.reduceSub, Nat.reduceMul, Nat.reduceBEq, reduceCtorEq, Int.reduceAdd, Int.reduceSub, Int.reduceMul, Int.reduceLT, Int.reduceLE, Int.reduceGT, Int.reduceGE, Int.reduceEq, Int.reduceNe, Int.reduceBEq, Int.reduceBNe, Int.reduceTMod, Int.reduceTDiv, ↓if_true, ↓if_false, q3], by simp (maxSteps := 2000000) (disch := first | assumption | omega | (simp only [nx_push, nx_set, ne_eq] <;> omega) | (simp only [XSide]; done) | decide) only [XWalk, XSl, ↓XPre, reduceIte, Nat.reduceEqDiff, Nat.reduceLT, Nat.reduceAdd, Nat.reduceSub, Nat.reduceMul, Nat.reduceBEq, reduceCtorEq, Int.reduceAdd, Int.reduceSub, Int.reduceMul, Int.reduceLT, Int.reduceLE, Int.reduceGT, Int.reduceGE, Int.reduceEq, Int.reduceNe, Int.reduceBEq, Int.reduceBNe, Int.reduceTMod, Int.reduceTDiv, ↓if_true, ↓if_false, q8], by simp (maxSteps := 2000000) (disch := first | assumption | omega | (simp only [nx_push, nx_set, ne_eq] <;> omega) | (simp only [XSide]; done) | decide) only [XWalk, XSl, ↓XPre, reduceIte, Nat.reduceEqDiff, Nat.reduceLT, Nat.reduceAdd, Nat.reduceSub, Nat.reduceMul, Nat.reduceBEq, reduceCtorEq, Int.reduceAdd, Int.reduceSub, Int.reduceMul, Int.reduceLT, Int.reduceLE, Int.reduceGT, Int.reduceGE, Int.reduceEq, Int.reduceNe, Int.reduceBEq, Int.reduceBNe, Int.reduceTMod, Int.reduceTDiv, ↓if_true, ↓if_false], by simp (maxSteps := 2000000) (disch := first | assumption | omega | (simp only [nx_push, nx_set, ne_eq] <;> omega) | (simp only [XSide]; done) | decide) only [XWalk, XSl, ↓XPre, reduceIte, Nat.reduceEqDiff, Nat.reduceLT, Nat.reduceAdd, Nat.reduceSub, Nat.reduceMul, Nat.reduceBEq, reduceCtorEq, Int.reduceAdd, Int.reduceSub, Int.reduceMul, Int.reduceLT, Int.reduceLE, Int.reduceGT, Int.reduceGE, Int.reduceEq, Int.reduceNe, Int.reduceBEq, Int.reduceBNe, Int.reduceTMod, Int.reduceTDiv, ↓if_true, ↓if_false], hw2.push.set (by simp), rfl, fun b hb => by rw [get_set_ne (by omega), get_push_ne (by omega)]; exact g2 b hb, by simp (maxSteps := 2000000) (disch := first | assumption | omega | (simp only [nx_push, nx_set, ne_eq] <;> omega) | (simp only [XSide]; done) | decide) only [XWalk, XSl, ↓XPre, reduceIte, Nat.reduceEqDiff, Nat.reduceLT, Nat.reduceAdd, Nat.reduceSub, Nat.reduceMul, Nat.reduceBEq, reduceCtorEq, Int.reduceAdd, Int.reduceSub, Int.reduceMul, Int.reduceLT, Int.reduceLE, Int.reduceGT, Int.reduceGE, Int.reduceEq, Int.reduceNe, Int.reduceBEq, Int.reduceBNe, Int.reduceTMod, Int.reduceTDiv, ↓if_true, ↓if_false, hv2], by simp (maxSteps := 2000000) (disch := first | assumption | omega | (simp only [nx_push, nx_set, ne_eq] <;> omega) | (simp only [XSide]; done) | decide) only [XWalk, XSl, ↓XPre, reduceIte, Nat.reduceEqDiff, Nat.reduceLT, Nat.reduceAdd, Nat.reduceSub, Nat.reduceMul, Nat.reduceBEq, reduceCtorEq, Int.reduceAdd, Int.reduceSub, Int.reduceMul, Int.reduceLT, Int.reduceLE, Int.reduceGT, Int.reduceGE, Int.reduceEq, Int.reduceNe, Int.reduceBEq, Int.reduceBNe, Int.reduceTMod, Int.reduceTDiv, ↓if_true, ↓if_false], by simp (maxSteps := 2000000) (disch := first | assumption | omega | (simp only [nx_push, nx_set, ne_eq] <;> omega) | (simp only [XSide]; done) | decide) only [XWalk, XSl, ↓XPre, reduceIte, Nat.reduceEqDiff, Nat.reduceLT, Nat.reduceAdd, Nat.reduceSub, Nat.reduceMul, Nat.reduceBEq, reduceCtorEq, Int.reduceAdd, Int.reduceSub, Int.reduceMul, Int.reduceLT, Int.reduceLE, Int.reduceGT, Int.reduceGE, Int.reduceEq, Int.reduceNe, Int.reduceBEq, Int.reduceBNe, Int.reduceTMod, Int.reduceTDiv, ↓if_true, ↓if_false, hm2]⟩ ?_
  clear q0 q2 q3 q8 he e1
  rintro e m3 ⟨he, q0, q2, q3, q8, q11, q12, hw3, hn3, hf3, hv3, hi3, hm3⟩
  have hhb : m3.get hb = some (.row hs .rw) := by rw [hf3 hb hblt]; exact hh
  refine x_draw [0, 0, 2, 6, 15] (by kernel_rfl) ?_
  simp (maxSteps := 2000000) (disch := first | assumption | omega | (simp only [nx_push, nx_set, ne_eq] <;> omega) | (simp only [XSide, F124]; done) | decide) only [XWalk, XSl, ↓XPre, reduceIte, Nat.reduceEqDiff, Nat.reduceLT, Nat.reduceAdd, Nat.reduceSub, Nat.reduceMul, Nat.reduceBEq, reduceCtorEq, Int.reduceAdd, Int.reduceSub, Int.reduceMul, Int.reduceLT, Int.reduceLE, Int.reduceGT, Int.reduceGE, Int.reduceEq, Int.reduceNe, Int.reduceBEq, Int.reduceBNe, Int.reduceTMod, Int.reduceTDiv, ↓if_true, ↓if_false, F124, A124, he, q0, q11, hv3, hhb]
  rw [acopy_row (new := w32s H) (rs := w32s (List.replicate 16 0)) (k := .rw) (by simp only [F124]) (Sl.of_row (n := 8) hhb hH (by rw [w32s_len]; exact lH) (Nat.le_refl _)).elems hv3 rfl w32s_one' rfl (by rw [w32s_len, lH]; decide) (by rw [w32s_len, lH]; decide)]
  have lw : (w32s H).length = 8 := by rw [w32s_len]; exact lH
  have mm : Nat.min 8 8 = 8 := rfl
  have hc1 : (w32s (List.replicate 16 0)).take 0 ++ (w32s H).take 8 ++ (w32s (List.replicate 16 0)).drop (0 + 8) = w32s (H ++ List.replicate 8 0) := by
    rw [List.take_of_length_le (l := w32s H) (by rw [w32s_len]; omega)]
    simp [w32s]
  rw [lw, mm, hc1]
  simp (maxSteps := 2000000) (disch := first | assumption | omega | (simp only [nx_push, nx_set, ne_eq] <;> omega) | (simp only [XSide, F124]; done) | decide) only [XWalk, XSl, ↓XPre, reduceIte, Nat.reduceEqDiff, Nat.reduceLT, Nat.reduceAdd, Nat.reduceSub, Nat.reduceMul, Nat.reduceBEq, reduceCtorEq, Int.reduceAdd, Int.reduceSub, Int.reduceMul, Int.reduceLT, Int.reduceLE, Int.reduceGT, Int.reduceGE, Int.reduceEq, Int.reduceNe, Int.reduceBEq, Int.reduceBNe, Int.reduceTMod, Int.reduceTDiv, ↓if_true, ↓if_false, F124, A124, he, q0, q11, hv3, hhb]
  refine x_draw [0, 0, 3] (by kernel_rfl) ?_
  simp (maxSteps := 2000000) (disch := first | assumption | omega | (simp only [nx_push, nx_set, ne_eq] <;> omega) | (simp only [XSide, F124]; done) | decide) only [XWalk, XSl, ↓XPre, reduceIte, Nat.reduceEqDiff, Nat.reduceLT, Nat.reduceAdd, Nat.reduceSub, Nat.reduceMul, Nat.reduceBEq, reduceCtorEq, Int.reduceAdd, Int.reduceSub, Int.reduceMul, Int.reduceLT, Int.reduceLE, Int.reduceGT, Int.reduceGE, Int.reduceEq, Int.reduceNe, Int.reduceBEq, Int.reduceBNe, Int.reduceTMod, Int.reduceTDiv, ↓if_true, ↓if_false, F124, A124, he, q0, q11, q12, hi3]
  have hc2 : (w32s (H ++ List.replicate 8 0)).take (0 + 8) ++ (w32s ivW).take 8 ++ (w32s (H ++ List.replicate 8 0)).drop (0 + 8 + 8) = w32s (H ++ ivW) := by
    have e1 : w32s (H ++ List.replicate 8 0) = w32s H ++ w32s (List.replicate 8 0) := by simp [w32s]
    rw [e1, show 0 + 8 = (w32s H).length from by omega, List.take_left, List.drop_eq_nil_of_le (by simp [w32s, lH])]
    simp [w32s, ivW]
  rw [acopy_row (new := w32s ivW) (rs := w32s (H ++ List.replicate 8 0)) (n := 8) (k := .rw) (by simp only [F124]) (Sl.of_row (n := 8) (rs := w32s ivW) (by simp (maxSteps := 2000000) (disch := first | assumption | omega | (simp only [nx_push, nx_set, ne_eq] <;> omega) | (simp only [XSide]; done) | decide) only [XWalk, XSl, ↓XPre, reduceIte, Nat.reduceEqDiff, Nat.reduceLT, Nat.reduceAdd, Nat.reduceSub, Nat.reduceMul, Nat.reduceBEq, reduceCtorEq, Int.reduceAdd, Int.reduceSub, Int.reduceMul, Int.reduceLT, Int.reduceLE, Int.reduceGT, Int.reduceGE, Int.reduceEq, Int.reduceNe, Int.reduceBEq, Int.reduceBNe, Int.reduceTMod, Int.reduceTDiv, ↓if_true, ↓if_false, hi3]) rfl rfl (Nat.le_refl _)).elems (by simp (maxSteps := 2000000) (disch := first | assumption | omega | (simp only [nx_push, nx_set, ne_eq] <;> omega) | (simp only [XSide]; done) | decide) only [XWalk, XSl, ↓XPre, reduceIte, Nat.reduceEqDiff, Nat.reduceLT, Nat.reduceAdd, Nat.reduceSub, Nat.reduceMul, Nat.reduceBEq, reduceCtorEq, Int.reduceAdd, Int.reduceSub, Int.reduceMul, Int.reduceLT, Int.reduceLE, Int.reduceGT, Int.reduceGE, Int.reduceEq, Int.reduceNe, Int.reduceBEq, Int.reduceBNe, Int.reduceTMod, Int.reduceTDiv, ↓if_true, ↓if_false]) rfl w32s_one' rfl (by decide) (by rw [w32s_len]; simp [lH])]
  rw [mm, hc2]
  have lv : (H ++ ivW).length = 16 := by simp [lH, ivW]
  have v12 : (w32s (H ++ ivW))[12]? = some (w32 0x510e527f) := by simp only [w32s, List.map_append]; rw [List.getElem?_append_right (by simp [lH])]; simp [lH, ivW]
  have v13 : (w32s (H ++ ivW))[13]? = some (w32 0x9b05688c) := by simp only [w32s, List.map_append]; rw [List.getElem?_append_right (by simp [lH])]; simp [lH, ivW]
  have v14 : (w32s (H ++ ivW))[14]? = some (w32 0x1f83d9ab) := by simp only [w32s, List.map_append]; rw [List.getElem?_append_right (by simp [lH])]; simp [lH, ivW]
  have lw16 : (w32s (H ++ ivW)).length = 16 := by rw [w32s_len]; exact lv
  simp (maxSteps := 2000000) (disch := first | assumption | omega | (simp only [nx_push, nx_set, ne_eq] <;> omega) | (simp only [XSide, F124]; done) | decide) only [XWalk, XSl, ↓XPre, reduceIte, Nat.reduceEqDiff, Nat.reduceLT, Nat.reduceAdd, Nat.reduceSub, Nat.reduceMul, Nat.reduceBEq, reduceCtorEq, Int.reduceAdd, Int.reduceSub, Int.reduceMul, Int.reduceLT, Int.reduceLE, Int.reduceGT, Int.reduceGE, Int.reduceEq, Int.reduceNe, Int.reduceBEq, Int.reduceBNe, Int.reduceTMod, Int.reduceTDiv, ↓if_true, ↓if_false, F124, A124, he, q0, q2, q3, q11, q12, v12, v13, lw16, mod32_of, shr32_of, xorI_32]
  have hT : w32s (initV H t true) = w32s ((((H ++ ivW).set 12 (0x510e527f ^^^ UInt32.ofNat t)).set 13 (0x9b05688c ^^^ UInt32.ofNat (t / 4294967296))).set 14 (0x1f83d9ab ^^^ 0xffffffff)) := by
    match H, lH with
    | [h0, h1, h2, h3, h4, h5, h6, h7], _ => rfl
  have hF : w32s (initV H t false) = w32s (((H ++ ivW).set 12 (0x510e527f ^^^ UInt32.ofNat t)).set 13 (0x9b05688c ^^^ UInt32.ofNat (t / 4294967296))) := by
    match H, lH with
    | [h0, h1, h2, h3, h4, h5, h6, h7], _ => rfl
  refine x_join (fun e m4 => e.n = 173 ∧ e.get 0 = .pointer (some ⟨hb, ho, none⟩) ∧ e.get 8 = .pointer (some ⟨m.next, 0, none⟩) ∧ e.get 11 = .pointer (some ⟨m1.next, 0, none⟩) ∧
    WF m4 ∧ m4.next = m3.next ∧ (∀ b, b < m.next → m4.get b = m.get b) ∧ m4.get m1.next = some (.row (w32s (initV H t last)) .rw) ∧ m4.get m.next = some (.row (w32s (blkWords l)) .rw)) (fun hl => ?_) (fun hl => ?_) ?_
  · subst hl
    simp (maxSteps := 2000000) (disch := first | assumption | omega | (simp only [nx_push, nx_set, ne_eq] <;> omega) | (simp only [XSide, F124]; done) | decide) only [XWalk, XSl, ↓XPre, reduceIte, Nat.reduceEqDiff, Nat.reduceLT, Nat.reduceAdd, Nat.reduceSub, Nat.reduceMul, Nat.reduceBEq, reduceCtorEq, Int.reduceAdd, Int.reduceSub, Int.reduceMul, Int.reduceLT, Int.reduceLE, Int.reduceGT, Int.reduceGE, Int.reduceEq, Int.reduceNe, Int.reduceBEq, Int.reduceBNe, Int.reduceTMod, Int.reduceTDiv, ↓if_true, ↓if_false, F124, A124, he, q0, q8, q11, v14, lw16, not_32, hm3]
    refine ⟨?_, fun b hb => ?_, ?_⟩
    · (repeat (first | exact hw3 | apply WF.push | (refine WF.set ?_ (by first | omega | (simp only [Mem.next_set, Mem.next_push]; omega)))))
    · simp (maxSteps := 2000000) (disch := first | assumption | omega | (simp only [nx_push, nx_set, ne_eq] <;> omega) | (simp only [XSide]; done) | decide) only [XWalk, XSl, ↓XPre, reduceIte, Nat.reduceEqDiff, Nat.reduceLT, Nat.reduceAdd, Nat.reduceSub, Nat.reduceMul, Nat.reduceBEq, reduceCtorEq, Int.reduceAdd, Int.reduceSub, Int.reduceMul, Int.reduceLT, Int.reduceLE, Int.reduceGT, Int.reduceGE, Int.reduceEq, Int.reduceNe, Int.reduceBEq, Int.reduceBNe, Int.reduceTMod, Int.reduceTDiv, ↓if_true, ↓if_false, hf3 b hb]
    · rw [hT]
      simp only [w32s_set]
  · subst hl
    simp (maxSteps := 2000000) (disch := first | assumption | omega | (simp only [nx_push, nx_set, ne_eq] <;> omega) | (simp only [XSide, F124]; done) | decide) only [XWalk, XSl, ↓XPre, reduceIte, Nat.reduceEqDiff, Nat.reduceLT, Nat.reduceAdd, Nat.reduceSub, Nat.reduceMul, Nat.reduceBEq, reduceCtorEq, Int.reduceAdd, Int.reduceSub, Int.reduceMul, Int.reduceLT, Int.reduceLE, Int.reduceGT, Int.reduceGE, Int.reduceEq, Int.reduceNe, Int.reduceBEq, Int.reduceBNe, Int.reduceTMod, Int.reduceTDiv, ↓if_true, ↓if_false, F124, A124, he, q0, q8, q11, v14, lw16, not_32, hm3]
    refine ⟨?_, fun b hb => ?_, ?_⟩
    · (repeat (first | exact hw3 | apply WF.push | (refine WF.set ?_ (by first | omega | (simp only [Mem.next_set, Mem.next_push]; omega)))))
    · simp (maxSteps := 2000000) (disch := first | assumption | omega | (simp only [nx_push, nx_set, ne_eq] <;> omega) | (simp only [XSide]; done) | decide) only [XWalk, XSl, ↓XPre, reduceIte, Nat.reduceEqDiff, Nat.reduceLT, Nat.reduceAdd, Nat.reduceSub, Nat.reduceMul, Nat.reduceBEq, reduceCtorEq, Int.reduceAdd, Int.reduceSub, Int.reduceMul, Int.reduceLT, Int.reduceLE, Int.reduceGT, Int.reduceGE, Int.reduceEq, Int.reduceNe, Int.reduceBEq, Int.reduceBNe, Int.reduceTMod, Int.reduceTDiv, ↓if_true, ↓if_false, hf3 b hb]
    · rw [hF]
      simp only [w32s_set]
  rintro e m4 ⟨he, q0, q8, q11, hw4, hn4, hf4, hv4, hm4⟩
  simp (maxSteps := 2000000) (disch := first | assumption | omega | (simp only [nx_push, nx_set, ne_eq] <;> omega) | (simp only [XSide, F124]; done) | decide) only [XWalk, XSl, ↓XPre, reduceIte, Nat.reduceEqDiff, Nat.reduceLT, Nat.reduceAdd, Nat.reduceSub, Nat.reduceMul, Nat.reduceBEq, reduceCtorEq, Int.reduceAdd, Int.reduceSub, Int.reduceMul, Int.reduceLT, Int.reduceLE, Int.reduceGT, Int.reduceGE, Int.reduceEq, Int.reduceNe, Int.reduceBEq, Int.reduceBNe, Int.reduceTMod, Int.reduceTDiv, ↓if_true, ↓if_false, F124, A124, he]
  refine wcall_x specLoc rows_ct hw4 ?_
  rintro out m5 hw5 hn5 f5 rfl
  simp (maxSteps := 2000000) (disch := first | assumption | omega | (simp only [nx_push, nx_set, ne_eq] <;> omega) | (simp only [XSide, F124]; done) | decide) only [XWalk, XSl, ↓XPre, reduceIte, Nat.reduceEqDiff, Nat.reduceLT, Nat.reduceAdd, Nat.reduceSub, Nat.reduceMul, Nat.reduceBEq, reduceCtorEq, Int.reduceAdd, Int.reduceSub, Int.reduceMul, Int.reduceLT, Int.reduceLE, Int.reduceGT, Int.reduceGE, Int.reduceEq, Int.reduceNe, Int.reduceBEq, Int.reduceBNe, Int.reduceTMod, Int.reduceTDiv, ↓if_true, ↓if_false, F124, A124, he]
  refine rounds_x (hb := hb) (mb := m.next) (vb := m1.next) (hv := .pointer (some ⟨hb, ho, none⟩)) (V := initV H t last) (M := blkWords l) hw5 (by rw [f5 _ (by omega)]; exact hm4) (by simp [blkWords]) (by rw [f5 _ (by omega)]; exact hv4) (by simp [initV, lH]) (by omega) (by omega) (by omega) (by simp (maxSteps := 2000000) (disch := first | assumption | omega | (simp only [nx_push, nx_set, ne_eq] <;> omega) | (simp only [XSide]; done) | decide) only [XWalk, XSl, ↓XPre, reduceIte, Nat.reduceEqDiff, Nat.reduceLT, Nat.reduceAdd, Nat.reduceSub, Nat.reduceMul, Nat.reduceBEq, reduceCtorEq, Int.reduceAdd, Int.reduceSub, Int.reduceMul, Int.reduceLT, Int.reduceLE, Int.reduceGT, Int.reduceGE, Int.reduceEq, Int.reduceNe, Int.reduceBEq, Int.reduceBNe, Int.reduceTMod, Int.reduceTDiv, ↓if_true, ↓if_false, he]) (by simp (maxSteps := 2000000) (disch := first | assumption | omega | (simp only [nx_push, nx_set, ne_eq] <;> omega) | (simp only [XSide]; done) | decide) only [XWalk, XSl, ↓XPre, reduceIte, Nat.reduceEqDiff, Nat.reduceLT, Nat.reduceAdd, Nat.reduceSub, Nat.reduceMul, Nat.reduceBEq, reduceCtorEq, Int.reduceAdd, Int.reduceSub, Int.reduceMul, Int.reduceLT, Int.reduceLE, Int.reduceGT, Int.reduceGE, Int.reduceEq, Int.reduceNe, Int.reduceBEq, Int.reduceBNe, Int.reduceTMod, Int.reduceTDiv, ↓if_true, ↓if_false, q0]) (by simp (maxSteps := 2000000) (disch := first | assumption | omega | (simp only [nx_push, nx_set, ne_eq] <;> omega) | (simp only [XSide]; done) | decide) only [XWalk, XSl, ↓XPre, reduceIte, Nat.reduceEqDiff, Nat.reduceLT, Nat.reduceAdd, Nat.reduceSub, Nat.reduceMul, Nat.reduceBEq, reduceCtorEq, Int.reduceAdd, Int.reduceSub, Int.reduceMul, Int.reduceLT, Int.reduceLE, Int.reduceGT, Int.reduceGE, Int.reduceEq, Int.reduceNe, Int.reduceBEq, Int.reduceBNe, Int.reduceTMod, Int.reduceTDiv, ↓if_true, ↓if_false, q8]) (by simp (maxSteps := 2000000) (disch := first | assumption | omega | (simp only [nx_push, nx_set, ne_eq] <;> omega) | (simp only [XSide]; done) | decide) only [XWalk, XSl, ↓XPre, reduceIte, Nat.reduceEqDiff, Nat.reduceLT, Nat.reduceAdd, Nat.reduceSub, Nat.reduceMul, Nat.reduceBEq, reduceCtorEq, Int.reduceAdd, Int.reduceSub, Int.reduceMul, Int.reduceLT, Int.reduceLE, Int.reduceGT, Int.reduceGE, Int.reduceEq, Int.reduceNe, Int.reduceBEq, Int.reduceBNe, Int.reduceTMod, Int.reduceTDiv, ↓if_true, ↓if_false, q11]) (by simp (maxSteps := 2000000) (disch := first | assumption | omega | (simp only [nx_push, nx_set, ne_eq] <;> omega) | (simp only [XSide]; done) | decide) only [XWalk, XSl, ↓XPre, reduceIte, Nat.reduceEqDiff, Nat.reduceLT, Nat.reduceAdd, Nat.reduceSub, Nat.reduceMul, Nat.reduceBEq, reduceCtorEq, Int.reduceAdd, Int.reduceSub, Int.reduceMul, Int.reduceLT, Int.reduceLE, Int.reduceGT, Int.reduceGE, Int.reduceEq, Int.reduceNe, Int.reduceBEq, Int.reduceBNe, Int.reduceTMod, Int.reduceTDiv, ↓if_true, ↓if_false]) (by simp (maxSteps := 2000000) (disch := first | assumption | omega | (simp only [nx_push, nx_set, ne_eq] <;> omega) | (simp only [XSide]; done) | decide) only [XWalk, XSl, ↓XPre, reduceIte, Nat.reduceEqDiff, Nat.reduceLT, Nat.reduceAdd, Nat.reduceSub, Nat.reduceMul, Nat.reduceBEq, reduceCtorEq, Int.reduceAdd, Int.reduceSub, Int.reduceMul, Int.reduceLT, Int.reduceLE, Int.reduceGT, Int.reduceGE, Int.reduceEq, Int.reduceNe, Int.reduceBEq, Int.reduceBNe, Int.reduceTMod, Int.reduceTDiv, ↓if_true, ↓if_false]; rfl) ?_
  intro e6 m6 hw6 hn6 hf6 hv6 he q0 q11
  simp (maxSteps := 2000000) (disch := first | assumption | omega | (simp only [nx_push, nx_set, ne_eq] <;> omega) | (simp only [XSide, F124]; done) | decide) only [XWalk, XSl, ↓XPre, reduceIte, Nat.reduceEqDiff, Nat.reduceLT, Nat.reduceAdd, Nat.reduceSub, Nat.reduceMul, Nat.reduceBEq, reduceCtorEq, Int.reduceAdd, Int.reduceSub, Int.reduceMul, Int.reduceLT, Int.reduceLE, Int.reduceGT, Int.reduceGE, Int.reduceEq, Int.reduceNe, Int.reduceBEq, Int.reduceBNe, Int.reduceTMod, Int.reduceTDiv, ↓if_true, ↓if_false, F124, A124, he]
  have hh6 : m6.get hb = some (.row hs .rw) := by rw [hf6 hb (by omega) (by omega), f5 hb (by omega), hf4 hb hblt]; exact hh
  refine fin_x (hb := hb) (ho := ho) (vb := m1.next) (H := H) hw6 hh6 hH lH lo hv6 (by rw [foldl_length (fun _ _ => roundW_length)]; simp [initV, lH]) (by omega) hblt (by simp (maxSteps := 2000000) (disch := first | assumption | omega | (simp only [nx_push, nx_set, ne_eq] <;> omega) | (simp only [XSide]; done) | decide) only [XWalk, XSl, ↓XPre, reduceIte, Nat.reduceEqDiff, Nat.reduceLT, Nat.reduceAdd, Nat.reduceSub, Nat.reduceMul, Nat.reduceBEq, reduceCtorEq, Int.reduceAdd, Int.reduceSub, Int.reduceMul, Int.reduceLT, Int.reduceLE, Int.reduceGT, Int.reduceGE, Int.reduceEq, Int.reduceNe, Int.reduceBEq, Int.reduceBNe, Int.reduceTMod, Int.reduceTDiv, ↓if_true, ↓if_false, he]) (by simp (maxSteps := 2000000) (disch := first | assumption | omega | (simp only [nx_push, nx_set, ne_eq] <;> omega) | (simp only [XSide]; done) | decide) only [XWalk, XSl, ↓XPre, reduceIte, Nat.reduceEqDiff, Nat.reduceLT, Nat.reduceAdd, Nat.reduceSub, Nat.reduceMul, Nat.reduceBEq, reduceCtorEq, Int.reduceAdd, Int.reduceSub, Int.reduceMul, Int.reduceLT, Int.reduceLE, Int.reduceGT, Int.reduceGE, Int.reduceEq, Int.reduceNe, Int.reduceBEq, Int.reduceBNe, Int.reduceTMod, Int.reduceTDiv, ↓if_true, ↓if_false, q0]) (by simp (maxSteps := 2000000) (disch := first | assumption | omega | (simp only [nx_push, nx_set, ne_eq] <;> omega) | (simp only [XSide]; done) | decide) only [XWalk, XSl, ↓XPre, reduceIte, Nat.reduceEqDiff, Nat.reduceLT, Nat.reduceAdd, Nat.reduceSub, Nat.reduceMul, Nat.reduceBEq, reduceCtorEq, Int.reduceAdd, Int.reduceSub, Int.reduceMul, Int.reduceLT, Int.reduceLE, Int.reduceGT, Int.reduceGE, Int.reduceEq, Int.reduceNe, Int.reduceBEq, Int.reduceBNe, Int.reduceTMod, Int.reduceTDiv, ↓if_true, ↓if_false, q11]) (by simp (maxSteps := 2000000) (disch := first | assumption | omega | (simp only [nx_push, nx_set, ne_eq] <;> omega) | (simp only [XSide]; done) | decide) only [XWalk, XSl, ↓XPre, reduceIte, Nat.reduceEqDiff, Nat.reduceLT, Nat.reduceAdd, Nat.reduceSub, Nat.reduceMul, Nat.reduceBEq, reduceCtorEq, Int.reduceAdd, Int.reduceSub, Int.reduceMul, Int.reduceLT, Int.reduceLE, Int.reduceGT, Int.reduceGE, Int.reduceEq, Int.reduceNe, Int.reduceBEq, Int.reduceBNe, Int.reduceTMod, Int.reduceTDiv, ↓if_true, ↓if_false]; rfl) ?_
  intro e7 m7 hw7 hn7 hf7 hh7
  simp (maxSteps := 2000000) (disch := first | assumption | omega | (simp only [nx_push, nx_set, ne_eq] <;> omega) | (simp only [XSide, F124]; done) | decide) only [XWalk, XSl, ↓XPre, reduceIte, Nat.reduceEqDiff, Nat.reduceLT, Nat.reduceAdd, Nat.reduceSub, Nat.reduceMul, Nat.reduceBEq, reduceCtorEq, Int.reduceAdd, Int.reduceSub, Int.reduceMul, Int.reduceLT, Int.reduceLE, Int.reduceGT, Int.reduceGE, Int.reduceEq, Int.reduceNe, Int.reduceBEq, Int.reduceBNe, Int.reduceTMod, Int.reduceTDiv, ↓if_true, ↓if_false, F124, A124]
  exact hh7

end Go.Big

/- A running computation of a hash: what it holds. -/
set_option linter.unusedSimpArgs false
set_option linter.unusedVariables false
set_option maxRecDepth 100000
set_option maxHeartbeats 2000000
namespace Go.Big
open Go.Proofs

def pad64 (d : List UInt8) : List UInt8 := d ++ List.replicate (64 - d.length) 0

/-- The words of the hash of what is left, where so many bytes went before. -/
def hashFin (H : List UInt32) (t : Nat) (d : List UInt8) : List UInt32 :=
  if d.length ≤ 64 then compressW H (pad64 d) (t + d.length) true else hashFin (compressW H (d.take 64) (t + 64) false) (t + 64) (d.drop 64)
termination_by d.length
decreasing_by simp; omega

def key0 (n : Nat) : List UInt32 := ((0x6a09e667 : UInt32) ^^^ ((0x01010020 : UInt32) + ((UInt32.ofNat n) <<< (8 : UInt32)))) :: ivW.drop 1

def wordB (w : UInt32) : List UInt8 := [w.toUInt8, (w >>> 8).toUInt8, (w >>> 16).toUInt8, (w >>> 24).toUInt8]
def wordsB (l : List UInt32) : List UInt8 := l.flatMap wordB

/-- The hash of bytes with a key (of at most 32 bytes). -/
def blakeB (key d : List UInt8) : List UInt8 := wordsB (hashFin (key0 key.length) 0 ((if key = [] then [] else pad64 key) ++ d))

theorem hashFin_length : ∀ (n : Nat) (H : List UInt32) (t : Nat) (d : List UInt8), d.length ≤ n → (hashFin H t d).length = 8 := by
  intro n
  induction n with
  | zero => intro H t d h; rw [hashFin, if_pos (by omega)]; exact compressW_length
  | succ n ih =>
    intro H t d h
    rw [hashFin]
    split
    · exact compressW_length
    · exact ih _ _ _ (by simp; omega)
theorem wordsB_length {l : List UInt32} : (wordsB l).length = 4 * l.length := by
  induction l with
  | nil => rfl
  | cons w l ih => simp only [wordsB, List.flatMap_cons, List.length_append, List.length_cons] at ih ⊢; rw [ih]; simp [wordB]; omega
theorem blakeB_length {key d : List UInt8} : (blakeB key d).length = 32 := by
  rw [blakeB, wordsB_length, hashFin_length _ _ _ _ (Nat.le_refl _)]

def hashRow (H : List UInt32) (R : List UInt8) (used done : Nat) (cnt : Int) : List Value := w32s H ++ u8s R ++ [.int .i64 (used : Int), .int .u64 (done : Int), .int .i64 cnt, .bool true]

section
variable {H H' : List UInt32} {R : List UInt8} {used done : Nat} {cnt : Int}
theorem hr_len (lH : H.length = 8) (lR : R.length = 64) : (hashRow H R used done cnt).length = 76 := by simp [hashRow, w32s, u8s, lH, lR]
theorem hr_pre (lH : H.length = 8) (lR : R.length = 64) : (w32s H ++ u8s R).length = 72 := by simp [w32s, u8s, lH, lR]
theorem hr_get (lH : H.length = 8) (lR : R.length = 64) (i : Nat) : (hashRow H R used done cnt)[72 + i]? = [Value.int .i64 (used : Int), .int .u64 (done : Int), .int .i64 cnt, .bool true][i]? := by
  unfold hashRow
  rw [List.getElem?_append_right (by rw [hr_pre lH lR]; omega), hr_pre lH lR, Nat.add_sub_cancel_left]
theorem hr72 (lH : H.length = 8) (lR : R.length = 64) : (hashRow H R used done cnt)[72]? = some (.int .i64 (used : Int)) := hr_get lH lR 0
theorem hr73 (lH : H.length = 8) (lR : R.length = 64) : (hashRow H R used done cnt)[73]? = some (.int .u64 (done : Int)) := hr_get lH lR 1
theorem hr74 (lH : H.length = 8) (lR : R.length = 64) : (hashRow H R used done cnt)[74]? = some (.int .i64 cnt) := hr_get lH lR 2
theorem hr75 (lH : H.length = 8) (lR : R.length = 64) : (hashRow H R used done cnt)[75]? = some (.bool true) := hr_get lH lR 3
theorem hr_set (lH : H.length = 8) (lR : R.length = 64) (i : Nat) (x : Value) : (hashRow H R used done cnt).set (72 + i) x = w32s H ++ u8s R ++ [Value.int .i64 (used : Int), .int .u64 (done : Int), .int .i64 cnt, .bool true].set i x := by
  unfold hashRow
  rw [List.set_append_right _ _ (by rw [hr_pre lH lR]; omega), hr_pre lH lR, Nat.add_sub_cancel_left]
theorem hr_set72 (lH : H.length = 8) (lR : R.length = 64) {n : Nat} : (hashRow H R used done cnt).set 72 (.int .i64 (n : Int)) = hashRow H R n done cnt := hr_set lH lR 0 _
theorem hr_set73 (lH : H.length = 8) (lR : R.length = 64) {n : Nat} : (hashRow H R used done cnt).set 73 (.int .u64 (n : Int)) = hashRow H R used n cnt := hr_set lH lR 1 _
theorem hr_set74 (lH : H.length = 8) (lR : R.length = 64) {n : Int} : (hashRow H R used done cnt).set 74 (.int .i64 n) = hashRow H R used done n := hr_set lH lR 2 _
theorem hr_words (lH : H.length = 8) : ((hashRow H R used done cnt).drop 0).take 8 = w32s H := by
  unfold hashRow
  rw [List.drop_zero, List.append_assoc, List.take_append_of_le_length (by rw [w32s_len]; omega), List.take_of_length_le (by rw [w32s_len]; omega)]
theorem hr_rest (lH : H.length = 8) (lR : R.length = 64) : ((hashRow H R used done cnt).drop 8).take 64 = u8s R := by
  unfold hashRow
  have h1 : (w32s H).length = 8 := by rw [w32s_len]; exact lH
  rw [List.append_assoc, ← h1, List.drop_left, List.take_append_of_le_length (by rw [u8s_length]; omega), List.take_of_length_le (by rw [u8s_length]; omega)]
theorem hr_win (lH : H.length = 8) (lH' : H'.length = 8) : win (hashRow H R used done cnt) 0 (w32s H') = hashRow H' R used done cnt := by
  unfold win hashRow
  have h1 : 0 + (w32s H').length = (w32s H).length := by rw [w32s_len, w32s_len]; omega
  rw [h1, List.append_assoc (w32s H), List.drop_left]
  simp
theorem hr_copy (lH : H.length = 8) (lR : R.length = 64) {x : List UInt8} {u : Nat} (h : u + x.length ≤ 64) : (hashRow H R used done cnt).take (8 + u) ++ u8s x ++ (hashRow H R used done cnt).drop (8 + u + x.length) = hashRow H (R.take u ++ x ++ R.drop (u + x.length)) used done cnt := by
  unfold hashRow
  have h1 : (w32s H).length = 8 := by rw [w32s_len]; exact lH
  have e1 : (w32s H ++ u8s R ++ [Value.int .i64 (used : Int), .int .u64 (done : Int), .int .i64 cnt, .bool true]).take (8 + u) = w32s H ++ u8s (R.take u) := by
    rw [List.append_assoc, List.take_append, h1, Nat.add_sub_cancel_left, List.take_of_length_le (by omega), List.take_append_of_le_length (by rw [u8s_length]; omega), u8s_take]
  have e2 : (w32s H ++ u8s R ++ [Value.int .i64 (used : Int), .int .u64 (done : Int), .int .i64 cnt, .bool true]).drop (8 + u + x.length) = u8s (R.drop (u + x.length)) ++ [Value.int .i64 (used : Int), .int .u64 (done : Int), .int .i64 cnt, .bool true] := by
    rw [List.append_assoc, List.drop_append, h1, List.drop_eq_nil_of_le (by omega), List.nil_append, List.drop_append_of_le_length (by rw [u8s_length]; omega), u8s_drop]
    congr 2
    congr 1
    omega
  rw [e1, e2]
  simp only [u8s_append, List.append_assoc]
end

/-- The computation at a block has taken in these bytes. -/
structure HashSt (k : List UInt32) (p : List UInt8) (H : List UInt32) (R : List UInt8) (used done : Nat) : Prop where
  lH : H.length = 8
  lR : R.length = 64
  le : used ≤ 64
  sum : done + used = p.length
  fin : ∀ more, hashFin k 0 (p ++ more) = hashFin H done (R.take used ++ more)

def HashAt (m : Mem) (hb : Nat) (k : List UInt32) (p : List UInt8) : Prop := ∃ H R used done cnt, m.get hb = some (.row (hashRow H R used done cnt) .rw) ∧ HashSt k p H R used done

section
variable {k H : List UInt32} {p R : List UInt8} {used done : Nat}
/-- A full block is compressed as soon as more follows. -/
theorem HashSt.flush (h : HashSt k p H R 64 done) {q : UInt8} {qs : List UInt8} : ∀ more, hashFin k 0 (p ++ (q :: qs ++ more)) = hashFin (compressW H R (done + 64) false) (done + 64) (q :: qs ++ more) := by
  intro more
  rw [h.fin, List.take_of_length_le (by rw [h.lR]; omega), hashFin, if_neg (by simp [h.lR]), List.take_append_of_le_length (by rw [h.lR]; omega), List.take_of_length_le (by rw [h.lR]; omega)]
  congr 1
  rw [← h.lR, List.drop_left]
end

end Go.Big

/- The hash: absorbing. -/
set_option linter.unusedSimpArgs false
set_option linter.unusedVariables false
set_option maxRecDepth 100000
set_option maxHeartbeats 2000000
namespace Go.Big
open Go.Proofs

theorem hnone_ct {m : Mem} {hb : Nat} {k : List UInt32} {p : List UInt8} (h : HashAt m hb k p) : Ct Tryz.prog S0 125 [.pointer (some ⟨hb, 0, none⟩)] m [] (fun out m' => out = .ret (.bool false) ∧ m' = m) := by
  obtain ⟨H, R, used, done, cnt, hm, hs⟩ := h
  refine ct_x (spec0 _) (by rfl) Tryz.func125 rfl ?_
  simp (maxSteps := 2000000) (disch := first | assumption | omega | (simp only [nx_push, nx_set, ne_eq] <;> omega) | (simp only [XSide, F125]; done) | decide) only [XWalk, XSl, ↓XPre, reduceIte, Nat.reduceEqDiff, Nat.reduceLT, Nat.reduceAdd, Nat.reduceSub, Nat.reduceMul, Nat.reduceBEq, reduceCtorEq, Int.reduceAdd, Int.reduceSub, Int.reduceMul, Int.reduceLT, Int.reduceLE, Int.reduceGT, Int.reduceGE, Int.reduceEq, Int.reduceNe, Int.reduceBEq, Int.reduceBNe, Int.reduceTMod, Int.reduceTDiv, ↓if_true, ↓if_false, F125, A125, Tryz.ntmps125, hm, hr75 hs.lH hs.lR]

theorem acopy_sl {P : Program} {m : Mem} {t0 t1 : TypeId} (ht : idxSl P t0 = some 1) {x : Value} {new : List Value} (hx : Sl m x new) {b off dLen c : Nat} {rs : List Value} (hm : m.get b = some (.row rs .rw))
    (hone : new.all oneCell = true) (h0 : min new.length dLen ≠ 0) (hl : off + min new.length dLen ≤ rs.length) :
    acopy P #[t0, t1] (.slice (some ⟨b, off, none⟩) dLen c) x m = some (.int .i64 ((min new.length dLen : Nat) : Int), m.set b (.row (rs.take off ++ new.take (min new.length dLen) ++ rs.drop (off + min new.length dLen)) .rw), [b], .all) :=
  acopy_row ht hx.elems hm rfl hone rfl h0 hl

/-- One round of the taking in: what is left of the bytes. -/
theorem absorb_ct {m : Mem} (hw : WF m) {hb pb pc : Nat} {v : Value} {kd : Kind} {k : List UInt32} {p l : List UInt8} (hh : HashAt m hb k p) (hp : m.get pb = some (.row [v] kd)) (hv : Bs m v l) (hne : slBlk v ≠ some hb) (hpb : pb ≠ hb) (hlen : p.length + l.length ≤ 1099511627776) :
    Ct Tryz.prog S0 106 [.pointer (some ⟨hb, 0, none⟩), .slice (some ⟨pb, 0, none⟩) 1 pc] m [hb] (fun out m' => out = .ret (.tuple #[]) ∧ HashAt m' hb k (p ++ l)) := by
  have hblt : hb < m.next := by obtain ⟨H, R, used, done, cnt, hm, hs⟩ := hh; exact hw.lt (by rw [hm]; simp)
  refine ct_x (spec0 _) (by rfl) Tryz.func106 rfl ?_
  simp (maxSteps := 2000000) (disch := first | assumption | omega | (simp only [nx_push, nx_set, ne_eq] <;> omega) | (simp only [XSide, F106]; done) | decide) only [XWalk, XSl, ↓XPre, reduceIte, Nat.reduceEqDiff, Nat.reduceLT, Nat.reduceAdd, Nat.reduceSub, Nat.reduceMul, Nat.reduceBEq, reduceCtorEq, Int.reduceAdd, Int.reduceSub, Int.reduceMul, Int.reduceLT, Int.reduceLE, Int.reduceGT, Int.reduceGE, Int.reduceEq, Int.reduceNe, Int.reduceBEq, Int.reduceBNe, Int.reduceTMod, Int.reduceTDiv, ↓if_true, ↓if_false, F106, A106, Tryz.ntmps106]
  refine x_loop_once ?_
  simp (maxSteps := 2000000) (disch := first | assumption | omega | (simp only [nx_push, nx_set, ne_eq] <;> omega) | (simp only [XSide, F106]; done) | decide) only [XWalk, XSl, ↓XPre, reduceIte, Nat.reduceEqDiff, Nat.reduceLT, Nat.reduceAdd, Nat.reduceSub, Nat.reduceMul, Nat.reduceBEq, reduceCtorEq, Int.reduceAdd, Int.reduceSub, Int.reduceMul, Int.reduceLT, Int.reduceLE, Int.reduceGT, Int.reduceGE, Int.reduceEq, Int.reduceNe, Int.reduceBEq, Int.reduceBNe, Int.reduceTMod, Int.reduceTDiv, ↓if_true, ↓if_false, F106, A106, hp, List.getElem?_cons_zero, cast_lit]
  refine x_loop (fun q e m1 => ∃ v5 l5 p5, l5.length = q ∧ p5 ++ l5 = p ++ l ∧ e.n = 65 ∧ e.get 0 = .pointer (some ⟨hb, 0, none⟩) ∧ e.get 5 = v5 ∧ e.get 8 = .int .i64 1 ∧ e.get 9 = .int .i64 0 ∧ WF m1 ∧ m.next ≤ m1.next ∧ (∀ b, b < m.next → b ≠ hb → m1.get b = m.get b) ∧ HashAt m1 hb k p5 ∧
    Bs m1 v5 l5 ∧ (∀ b, slBlk v5 = some b → slBlk v = some b)) l.length ⟨v, l, p, rfl, rfl, by simp (maxSteps := 2000000) (disch := first | assumption | omega | (simp only [nx_push, nx_set, ne_eq] <;> omega) | (simp only [XSide]; done) | decide) only [XWalk, XSl, ↓XPre, reduceIte, Nat.reduceEqDiff, Nat.reduceLT, Nat.reduceAdd, Nat.reduceSub, Nat.reduceMul, Nat.reduceBEq, reduceCtorEq, Int.reduceAdd, Int.reduceSub, Int.reduceMul, Int.reduceLT, Int.reduceLE, Int.reduceGT, Int.reduceGE, Int.reduceEq, Int.reduceNe, Int.reduceBEq, Int.reduceBNe, Int.reduceTMod, Int.reduceTDiv, ↓if_true, ↓if_false], by simp (maxSteps := 2000000) (disch := first | assumption | omega | (simp only [nx_push, nx_set, ne_eq] <;> omega) | (simp only [XSide]; done) | decide) only [XWalk, XSl, ↓XPre, reduceIte, Nat.reduceEqDiff, Nat.reduceLT, Nat.reduceAdd, Nat.reduceSub, Nat.reduceMul, Nat.reduceBEq, reduceCtorEq, Int.reduceAdd, Int.reduceSub, Int.reduceMul, Int.reduceLT, Int.reduceLE, Int.reduceGT, Int.reduceGE, Int.reduceEq, Int.reduceNe, Int.reduceBEq, Int.reduceBNe, Int.reduceTMod, Int.reduceTDiv, ↓if_true, ↓if_false], by simp (maxSteps := 2000000) (disch := first | assumption | omega | (simp only [nx_push, nx_set, ne_eq] <;> omega) | (simp only [XSide]; done) | decide) only [XWalk, XSl, ↓XPre, reduceIte, Nat.reduceEqDiff, Nat.reduceLT, Nat.reduceAdd, Nat.reduceSub, Nat.reduceMul, Nat.reduceBEq, reduceCtorEq, Int.reduceAdd, Int.reduceSub, Int.reduceMul, Int.reduceLT, Int.reduceLE, Int.reduceGT, Int.reduceGE, Int.reduceEq, Int.reduceNe, Int.reduceBEq, Int.reduceBNe, Int.reduceTMod, Int.reduceTDiv, ↓if_true, ↓if_false], by simp (maxSteps := 2000000) (disch := first | assumption | omega | (simp only [nx_push, nx_set, ne_eq] <;> omega) | (simp only [XSide]; done) | decide) only [XWalk, XSl, ↓XPre, reduceIte, Nat.reduceEqDiff, Nat.reduceLT, Nat.reduceAdd, Nat.reduceSub, Nat.reduceMul, Nat.reduceBEq, reduceCtorEq, Int.reduceAdd, Int.reduceSub, Int.reduceMul, Int.reduceLT, Int.reduceLE, Int.reduceGT, Int.reduceGE, Int.reduceEq, Int.reduceNe, Int.reduceBEq, Int.reduceBNe, Int.reduceTMod, Int.reduceTDiv, ↓if_true, ↓if_false], by simp (maxSteps := 2000000) (disch := first | assumption | omega | (simp only [nx_push, nx_set, ne_eq] <;> omega) | (simp only [XSide]; done) | decide) only [XWalk, XSl, ↓XPre, reduceIte, Nat.reduceEqDiff, Nat.reduceLT, Nat.reduceAdd, Nat.reduceSub, Nat.reduceMul, Nat.reduceBEq, reduceCtorEq, Int.reduceAdd, Int.reduceSub, Int.reduceMul, Int.reduceLT, Int.reduceLE, Int.reduceGT, Int.reduceGE, Int.reduceEq, Int.reduceNe, Int.reduceBEq, Int.reduceBNe, Int.reduceTMod, Int.reduceTDiv, ↓if_true, ↓if_false], hw, Nat.le_refl _, fun _ _ _ => rfl, hh, hv, fun _ h => h⟩ ?_
  rintro q e m1 ⟨v5, l5, p5, rfl, hpl, he, q0, q5, q8, q9, hw1, hn1, hf1, hh1, hv5, hb5⟩
  have hlp : p5.length + l5.length ≤ 1099511627776 := by
    have := congrArg List.length hpl
    simp at this; omega
  have hv5ne : ∀ b, slBlk v5 = some b → b < m.next ∧ b ≠ hb := fun b hb' => ⟨hv.blk_lt hw (hb5 b hb'), fun e => hne (by rw [← e]; exact hb5 b hb')⟩
  simp (maxSteps := 2000000) (disch := first | assumption | omega | (simp only [nx_push, nx_set, ne_eq] <;> omega) | (simp only [XSide, F106]; done) | decide) only [XWalk, XSl, ↓XPre, reduceIte, Nat.reduceEqDiff, Nat.reduceLT, Nat.reduceAdd, Nat.reduceSub, Nat.reduceMul, Nat.reduceBEq, reduceCtorEq, Int.reduceAdd, Int.reduceSub, Int.reduceMul, Int.reduceLT, Int.reduceLE, Int.reduceGT, Int.reduceGE, Int.reduceEq, Int.reduceNe, Int.reduceBEq, Int.reduceBNe, Int.reduceTMod, Int.reduceTDiv, ↓if_true, ↓if_false, F106, A106, he, q5, alen_bs hv5]
  refine x_if (fun ht => ?_) (fun ht => ?_)
  · have hl0 : 0 < l5.length := by simp at ht; omega
    obtain ⟨H, R, used, done, cnt, hm1, hs⟩ := hh1
    simp (maxSteps := 2000000) (disch := first | assumption | omega | (simp only [nx_push, nx_set, ne_eq] <;> omega) | (simp only [XSide, F106]; done) | decide) only [XWalk, XSl, ↓XPre, reduceIte, Nat.reduceEqDiff, Nat.reduceLT, Nat.reduceAdd, Nat.reduceSub, Nat.reduceMul, Nat.reduceBEq, reduceCtorEq, Int.reduceAdd, Int.reduceSub, Int.reduceMul, Int.reduceLT, Int.reduceLE, Int.reduceGT, Int.reduceGE, Int.reduceEq, Int.reduceNe, Int.reduceBEq, Int.reduceBNe, Int.reduceTMod, Int.reduceTDiv, ↓if_true, ↓if_false, F106, A106, he, q0, hm1, hr72 hs.lH hs.lR]
    have hm1lt : hb < m1.next := by omega
    refine x_join (fun e m2 => ∃ H1 done1 used1, e.n = 65 ∧ e.get 0 = .pointer (some ⟨hb, 0, none⟩) ∧ e.get 5 = v5 ∧ e.get 8 = .int .i64 1 ∧ e.get 9 = .int .i64 0 ∧ WF m2 ∧ m1.next ≤ m2.next ∧ (∀ b, b < m1.next → b ≠ hb → m2.get b = m1.get b) ∧
      m2.get hb = some (.row (hashRow H1 R used1 done1 cnt) .rw) ∧ H1.length = 8 ∧ used1 < 64 ∧ done1 + used1 = p5.length ∧ ∀ more, hashFin k 0 (p5 ++ (l5.take 1 ++ more)) = hashFin H1 done1 (R.take used1 ++ (l5.take 1 ++ more))) (fun hu => ?_) (fun hu => ?_) ?_
    · have hu64 : used = 64 := by simp at hu; omega
      subst hu64
      have e1 : IntKind.wrap .u64 ((done : Int) + 64) = ((done + 64 : Nat) : Int) := by rw [wrap_u64 (by omega) (by have := hs.sum; omega)]; omega
      simp (maxSteps := 2000000) (disch := first | assumption | omega | (simp only [nx_push, nx_set, ne_eq] <;> omega) | (simp only [XSide, F106]; done) | decide) only [XWalk, XSl, ↓XPre, reduceIte, Nat.reduceEqDiff, Nat.reduceLT, Nat.reduceAdd, Nat.reduceSub, Nat.reduceMul, Nat.reduceBEq, reduceCtorEq, Int.reduceAdd, Int.reduceSub, Int.reduceMul, Int.reduceLT, Int.reduceLE, Int.reduceGT, Int.reduceGE, Int.reduceEq, Int.reduceNe, Int.reduceBEq, Int.reduceBNe, Int.reduceTMod, Int.reduceTDiv, ↓if_true, ↓if_false, F106, A106, he, q0, hm1, hr73 hs.lH hs.lR, e1, hr_len hs.lH hs.lR, hr_set73 hs.lH hs.lR]
      refine x_draw [0, 1, 3, 0, 8, 24, 56, 0, 128, 384, 896, 2047] (by kernel_rfl) ?_
      simp (maxSteps := 2000000) (disch := first | assumption | omega | (simp only [nx_push, nx_set, ne_eq] <;> omega) | (simp only [XSide, F106]; done) | decide) only [XWalk, XSl, ↓XPre, reduceIte, Nat.reduceEqDiff, Nat.reduceLT, Nat.reduceAdd, Nat.reduceSub, Nat.reduceMul, Nat.reduceBEq, reduceCtorEq, Int.reduceAdd, Int.reduceSub, Int.reduceMul, Int.reduceLT, Int.reduceLE, Int.reduceGT, Int.reduceGE, Int.reduceEq, Int.reduceNe, Int.reduceBEq, Int.reduceBNe, Int.reduceTMod, Int.reduceTDiv, ↓if_true, ↓if_false, F106, A106, he, q0, hr73 hs.lH hs.lR]
      refine wcall_of specLoc (compress_ct (ho := 0) (bo := 8) (hs := hashRow H R 64 (done + 64) cnt) (bs := hashRow H R 64 (done + 64) cnt) (H := H) (l := R) (hw1.set hm1lt) (by simp (maxSteps := 2000000) (disch := first | assumption | omega | (simp only [nx_push, nx_set, ne_eq] <;> omega) | (simp only [XSide]; done) | decide) only [XWalk, XSl, ↓XPre, reduceIte, Nat.reduceEqDiff, Nat.reduceLT, Nat.reduceAdd, Nat.reduceSub, Nat.reduceMul, Nat.reduceBEq, reduceCtorEq, Int.reduceAdd, Int.reduceSub, Int.reduceMul, Int.reduceLT, Int.reduceLE, Int.reduceGT, Int.reduceGE, Int.reduceEq, Int.reduceNe, Int.reduceBEq, Int.reduceBNe, Int.reduceTMod, Int.reduceTDiv, ↓if_true, ↓if_false]) (hr_words hs.lH) hs.lH (by rw [hr_len hs.lH hs.lR]; omega) (by simp (maxSteps := 2000000) (disch := first | assumption | omega | (simp only [nx_push, nx_set, ne_eq] <;> omega) | (simp only [XSide]; done) | decide) only [XWalk, XSl, ↓XPre, reduceIte, Nat.reduceEqDiff, Nat.reduceLT, Nat.reduceAdd, Nat.reduceSub, Nat.reduceMul, Nat.reduceBEq, reduceCtorEq, Int.reduceAdd, Int.reduceSub, Int.reduceMul, Int.reduceLT, Int.reduceLE, Int.reduceGT, Int.reduceGE, Int.reduceEq, Int.reduceNe, Int.reduceBEq, Int.reduceBNe, Int.reduceTMod, Int.reduceTDiv, ↓if_true, ↓if_false]) (hr_rest hs.lH hs.lR) hs.lR (Nat.le_refl _) (by have := hs.sum; omega)) (hw1.set hm1lt) (fun b hb' hlt => hb') ?_
      rintro out m3 wr hwr hw3 hn3 hf3 _ ⟨rfl, hh3⟩
      rw [hr_win hs.lH compressW_length] at hh3
      simp only [Mem.next_set] at hn3 hf3
      simp (maxSteps := 2000000) (disch := first | assumption | omega | (simp only [nx_push, nx_set, ne_eq] <;> omega) | (simp only [XSide, F106]; done) | decide) only [XWalk, XSl, ↓XPre, reduceIte, Nat.reduceEqDiff, Nat.reduceLT, Nat.reduceAdd, Nat.reduceSub, Nat.reduceMul, Nat.reduceBEq, reduceCtorEq, Int.reduceAdd, Int.reduceSub, Int.reduceMul, Int.reduceLT, Int.reduceLE, Int.reduceGT, Int.reduceGE, Int.reduceEq, Int.reduceNe, Int.reduceBEq, Int.reduceBNe, Int.reduceTMod, Int.reduceTDiv, ↓if_true, ↓if_false, F106, A106, he, q0, hh3, hr_len compressW_length hs.lR]
      obtain ⟨x5, y5, rfl⟩ : ∃ x5 y5, l5 = x5 :: y5 := by
        cases l5 with
        | nil => simp at hl0
        | cons x y => exact ⟨x, y, rfl⟩
      refine ⟨compressW H R (done + 64) false, done + 64, 0, q5, q8, q9, by (repeat (first | exact hw3 | apply WF.push | (refine WF.set ?_ (by first | omega | (simp only [Mem.next_set, Mem.next_push]; omega))))), hn3, fun b hb1 hb2 => ?_, ?_, compressW_length, by omega, by have := hs.sum; omega, fun more => ?_⟩
      · rw [get_set_ne hb2, hf3 b (by omega) (by simpa using hb2), get_set_ne hb2]
      · congr 2
        exact hr_set72 (n := 0) compressW_length hs.lR
      · exact hs.flush (q := x5) (qs := []) more
    · have hu64 : used ≠ 64 := by
        rintro rfl
        simp at hu
      simp (maxSteps := 2000000) (disch := first | assumption | omega | (simp only [nx_push, nx_set, ne_eq] <;> omega) | (simp only [XSide, F106]; done) | decide) only [XWalk, XSl, ↓XPre, reduceIte, Nat.reduceEqDiff, Nat.reduceLT, Nat.reduceAdd, Nat.reduceSub, Nat.reduceMul, Nat.reduceBEq, reduceCtorEq, Int.reduceAdd, Int.reduceSub, Int.reduceMul, Int.reduceLT, Int.reduceLE, Int.reduceGT, Int.reduceGE, Int.reduceEq, Int.reduceNe, Int.reduceBEq, Int.reduceBNe, Int.reduceTMod, Int.reduceTDiv, ↓if_true, ↓if_false, F106, A106]
      exact ⟨H, done, used, he, q0, q5, q8, q9, hw1, Nat.le_refl _, by simp, hm1, hs.lH, by have := hs.le; omega, hs.sum, fun more => hs.fin _⟩
    · rintro e m2 ⟨H1, done1, used1, he, q0, q5, q8, q9, hw2, hn2, hf2, hm2, lH1, lu1, hsum1, hfin1⟩
      have hv5' : Bs m2 v5 l5 := hv5.frame_at fun b hb' => hf2 b (by have := hv5ne b hb'; omega) (hv5ne b hb').2
      simp (maxSteps := 2000000) (disch := first | assumption | omega | (simp only [nx_push, nx_set, ne_eq] <;> omega) | (simp only [XSide, F106]; done) | decide) only [XWalk, XSl, ↓XPre, reduceIte, Nat.reduceEqDiff, Nat.reduceLT, Nat.reduceAdd, Nat.reduceSub, Nat.reduceMul, Nat.reduceBEq, reduceCtorEq, Int.reduceAdd, Int.reduceSub, Int.reduceMul, Int.reduceLT, Int.reduceLE, Int.reduceGT, Int.reduceGE, Int.reduceEq, Int.reduceNe, Int.reduceBEq, Int.reduceBNe, Int.reduceTMod, Int.reduceTDiv, ↓if_true, ↓if_false, F106, A106]
      refine x_draw [0, 1, 3, 0, 8, 24, 56, 127, 0, 511, 1023] (by kernel_rfl) ?_
      simp (maxSteps := 2000000) (disch := first | assumption | omega | (simp only [nx_push, nx_set, ne_eq] <;> omega) | (simp only [XSide, F106]; done) | decide) only [XWalk, XSl, ↓XPre, reduceIte, Nat.reduceEqDiff, Nat.reduceLT, Nat.reduceAdd, Nat.reduceSub, Nat.reduceMul, Nat.reduceBEq, reduceCtorEq, Int.reduceAdd, Int.reduceSub, Int.reduceMul, Int.reduceLT, Int.reduceLE, Int.reduceGT, Int.reduceGE, Int.reduceEq, Int.reduceNe, Int.reduceBEq, Int.reduceBNe, Int.reduceTMod, Int.reduceTDiv, ↓if_true, ↓if_false, F106, A106, he, q0, q5, q8, q9, hm2, hr72 lH1 hs.lR]
      rw [acopy_sl (by simp only [F106]) hv5' hm2 u8s_one (by rw [u8s_length]; omega) (by rw [u8s_length, hr_len lH1 hs.lR]; omega)]
      have hcp : (u8s l5).take (min (u8s l5).length (64 - used1)) = u8s (l5.take (64 - used1)) := by rw [u8s_length, u8s_take]; congr 1; rw [List.take_eq_take_iff]; omega
      have hcl : (l5.take (64 - used1)).length = min (u8s l5).length (64 - used1) := by rw [u8s_length, List.length_take]; omega
      rw [hcp, ← hcl, hr_copy lH1 hs.lR (by rw [List.length_take]; omega)]
      generalize hn : (l5.take (64 - used1)).length = n at *
      have lR' : (R.take used1 ++ l5.take (64 - used1) ++ R.drop (used1 + n)).length = 64 := by rw [List.length_append, List.length_append, hn, List.length_take, List.length_drop, hs.lR]; omega
      generalize hR' : R.take used1 ++ l5.take (64 - used1) ++ R.drop (used1 + n) = R' at *
      simp (maxSteps := 2000000) (disch := first | assumption | omega | (simp only [nx_push, nx_set, ne_eq] <;> omega) | (simp only [XSide, F106]; done) | decide) only [XWalk, XSl, ↓XPre, reduceIte, Nat.reduceEqDiff, Nat.reduceLT, Nat.reduceAdd, Nat.reduceSub, Nat.reduceMul, Nat.reduceBEq, reduceCtorEq, Int.reduceAdd, Int.reduceSub, Int.reduceMul, Int.reduceLT, Int.reduceLE, Int.reduceGT, Int.reduceGE, Int.reduceEq, Int.reduceNe, Int.reduceBEq, Int.reduceBNe, Int.reduceTMod, Int.reduceTDiv, ↓if_true, ↓if_false, F106, A106, he, q0, q5, q8, q9, hr72 lH1 lR', hr_len lH1 lR']
      have en : ((used1 : Int) + (n : Int)) = ((used1 + n : Nat) : Int) := by omega
      rw [en, hr_set72 lH1 lR']
      have hnl : n ≤ l5.length := by rw [← hn, List.length_take]; omega
      have hv5'' : Bs ((m2.set hb (.row (hashRow H1 R' used1 done1 cnt) .rw)).set hb (.row (hashRow H1 R' (used1 + n) done1 cnt) .rw)) v5 l5 := hv5'.frame_at fun b hb' => by rw [get_set_ne (hv5ne b hb').2, get_set_ne (hv5ne b hb').2]
      refine hv5''.wslice (a := n) (b := l5.length) (by simp only [F106]) (hv5.not_nil hl0) rfl rfl hnl (Nat.le_refl _) fun v6 hv6 hb6 => ?_
      simp (maxSteps := 2000000) (disch := first | assumption | omega | (simp only [nx_push, nx_set, ne_eq] <;> omega) | (simp only [XSide, F106]; done) | decide) only [XWalk, XSl, ↓XPre, reduceIte, Nat.reduceEqDiff, Nat.reduceLT, Nat.reduceAdd, Nat.reduceSub, Nat.reduceMul, Nat.reduceBEq, reduceCtorEq, Int.reduceAdd, Int.reduceSub, Int.reduceMul, Int.reduceLT, Int.reduceLE, Int.reduceGT, Int.reduceGE, Int.reduceEq, Int.reduceNe, Int.reduceBEq, Int.reduceBNe, Int.reduceTMod, Int.reduceTDiv, ↓if_true, ↓if_false, F106, A106, he, q0, q5, q8, q9]
      have hn0 : 0 < n := by rw [← hn, List.length_take]; omega
      have htk : l5.take n = l5.take 1 ++ (l5.take n).drop 1 := by
        have := (List.take_append_drop 1 (l5.take n)).symm
        rw [List.take_take, Nat.min_eq_left hn0] at this
        exact this
      have hta : l5.take (64 - used1) = l5.take n := by
        rw [List.take_eq_take_iff, ← hn, List.length_take]; omega
      refine ⟨l5.length - n, by omega, v6, l5.drop n, p5 ++ l5.take n, by simp, by rw [List.append_assoc, List.take_append_drop]; exact hpl, rfl, by (repeat (first | exact hw2 | apply WF.push | (refine WF.set ?_ (by first | omega | (simp only [Mem.next_set, Mem.next_push]; omega))))), by omega, fun b hb1 hb2 => ?_, ⟨H1, R', used1 + n, done1, cnt, by simp (maxSteps := 2000000) (disch := first | assumption | omega | (simp only [nx_push, nx_set, ne_eq] <;> omega) | (simp only [XSide]; done) | decide) only [XWalk, XSl, ↓XPre, reduceIte, Nat.reduceEqDiff, Nat.reduceLT, Nat.reduceAdd, Nat.reduceSub, Nat.reduceMul, Nat.reduceBEq, reduceCtorEq, Int.reduceAdd, Int.reduceSub, Int.reduceMul, Int.reduceLT, Int.reduceLE, Int.reduceGT, Int.reduceGE, Int.reduceEq, Int.reduceNe, Int.reduceBEq, Int.reduceBNe, Int.reduceTMod, Int.reduceTDiv, ↓if_true, ↓if_false], lH1, lR', ?_, ?_, fun more => ?_⟩, ?_, fun b hb' => hb5 b (hb6 b hb')⟩
      · rw [get_set_ne hb2, get_set_ne hb2, hf2 b (by omega) hb2]; exact hf1 b hb1 hb2
      · rw [← hn, List.length_take]; omega
      · rw [List.length_append, List.length_take]; omega
      · have e5 : R'.take (used1 + n) = R.take used1 ++ l5.take n := by
          rw [← hR', hta]
          have hl : (R.take used1 ++ l5.take n).length = used1 + n := by rw [List.length_append, List.length_take, List.length_take, hs.lR]; omega
          rw [← hl, List.take_left]
        rw [e5, List.append_assoc, List.append_assoc, htk, List.append_assoc]
        exact hfin1 _
      · rw [List.take_of_length_le (by simp)] at hv6; exact hv6
  · have hl0 : l5 = [] := by
      have := of_decide_eq_false ht
      exact List.eq_nil_of_length_eq_zero (by omega)
    subst hl0
    simp (maxSteps := 2000000) (disch := first | assumption | omega | (simp only [nx_push, nx_set, ne_eq] <;> omega) | (simp only [XSide, F106]; done) | decide) only [XWalk, XSl, ↓XPre, reduceIte, Nat.reduceEqDiff, Nat.reduceLT, Nat.reduceAdd, Nat.reduceSub, Nat.reduceMul, Nat.reduceBEq, reduceCtorEq, Int.reduceAdd, Int.reduceSub, Int.reduceMul, Int.reduceLT, Int.reduceLE, Int.reduceGT, Int.reduceGE, Int.reduceEq, Int.reduceNe, Int.reduceBEq, Int.reduceBNe, Int.reduceTMod, Int.reduceTDiv, ↓if_true, ↓if_false, F106, A106, he, q9]
    refine x_loop_once ?_
    simp (maxSteps := 2000000) (disch := first | assumption | omega | (simp only [nx_push, nx_set, ne_eq] <;> omega) | (simp only [XSide, F106]; done) | decide) only [XWalk, XSl, ↓XPre, reduceIte, Nat.reduceEqDiff, Nat.reduceLT, Nat.reduceAdd, Nat.reduceSub, Nat.reduceMul, Nat.reduceBEq, reduceCtorEq, Int.reduceAdd, Int.reduceSub, Int.reduceMul, Int.reduceLT, Int.reduceLE, Int.reduceGT, Int.reduceGE, Int.reduceEq, Int.reduceNe, Int.reduceBEq, Int.reduceBNe, Int.reduceTMod, Int.reduceTDiv, ↓if_true, ↓if_false, F106, A106, he, q8, q9, cast_lit]
    rw [List.append_nil] at hpl
    rw [← hpl]; exact hh1

end Go.Big

/- The hash: the sum. -/
set_option linter.unusedSimpArgs false
set_option linter.unusedVariables false
set_option maxRecDepth 100000
set_option maxHeartbeats 2000000
namespace Go.Big
open Go.Proofs

theorem HashAt.frame {m m' : Mem} {hb : Nat} {k : List UInt32} {p : List UInt8} (h : HashAt m hb k p) (hf : m'.get hb = m.get hb) : HashAt m' hb k p := by
  obtain ⟨H, R, used, done, cnt, hm, hs⟩ := h
  exact ⟨H, R, used, done, cnt, by rw [hf]; exact hm, hs⟩
theorem HashAt.lt {m : Mem} (hw : WF m) {hb : Nat} {k : List UInt32} {p : List UInt8} (h : HashAt m hb k p) : hb < m.next := by
  obtain ⟨H, R, used, done, cnt, hm, hs⟩ := h
  exact hw.lt (by rw [hm]; simp)

theorem u32_u8 (x : UInt32) : ((x.toNat : Int) % 256) = (x.toUInt8.toNat : Int) := by
  rw [UInt32.toNat_toUInt8]; omega
theorem shr8' (x : UInt32) : shrK .u32 (x.toNat : Int) 8 = ((x >>> 8).toNat : Int) := shrK_32 x 8 (by omega)
theorem shr16' (x : UInt32) : shrK .u32 (x.toNat : Int) 16 = ((x >>> 16).toNat : Int) := shrK_32 x 16 (by omega)
theorem shr24' (x : UInt32) : shrK .u32 (x.toNat : Int) 24 = ((x >>> 24).toNat : Int) := shrK_32 x 24 (by omega)

theorem aclear_row {P : Program} {m : Mem} {t : TypeId} {e : TypeId} (ht : P.underlying t = some (.slice e)) {z : Value} (hz : (P.info? e).bind (·.zero) = some z) (hs : z.cells.toList.all scalar = true) (hz1 : z.cells.toList = [z]) {b off n c : Nat} {rs : List Value} (hm : m.get b = some (.row rs .rw)) (hn : n ≠ 0)
    (hl : off + n ≤ rs.length) (hone : oneCell z = true) :
    aclear P #[t] (.slice (some ⟨b, off, none⟩) n c) m = some (.tuple #[], m.set b (.row (rs.take off ++ List.replicate n z ++ rs.drop (off + n)) .rw), [b], .all) := by
  have h1 : ∀ k, zeroCellsN [z] k = List.replicate k z := by
    intro k
    induction k with
    | zero => rfl
    | succ k ih => rw [zeroCellsN, ih, List.replicate_succ]; rfl
  have h2 : (List.replicate n z).all oneCell = true := by
    rw [List.all_eq_true]; intro x hx; rw [List.eq_of_mem_replicate hx]; exact hone
  have h3 : storeN rs off (List.replicate n z) = some (rs.take off ++ List.replicate n z ++ rs.drop (off + n)) := by
    unfold storeN
    rw [List.length_replicate, ble_dec, decide_eq_true hl, cond_true]
  have hn' : Nat.beq n 0 = false := by rw [beq_dec]; simpa using hn
  have e1 : ((#[t] : Array TypeId)[0]?).bind P.underlying = some (.slice e) := ht
  unfold aclear
  rw [e1]
  simp only [hz, hn', cond_false, hs, cond_true, putCells, hm, writable_rw, hz1, h1, h2, Bool.and_self, h3, Option.map_some]
  rw [hz1] at hs
  rw [hs]; rfl
theorem aop_clear {P : Program} {m : Mem} {ρ : Operand → Value} {d : Option Nat} {ty : TypeId} {ps : String} {af : Array Edge} {g : Option (Nat × Bool)} {x : Operand} {aT : Array TypeId} :
    aop P ρ ⟨d, .call { callee := .builtin .clear, args := #[x], argTypes := aT }, ty, ps, af, g⟩ m = aclear P aT (ρ x) m := id rfl
theorem aclear_nil {P : Program} {m : Mem} {t : TypeId} {e : TypeId} (ht : P.underlying t = some (.slice e)) {a : Addr} {c : Nat} : aclear P #[t] (.slice (some a) 0 c) m = some (.tuple #[], m, [], .all) := by
  have e1 : ((#[t] : Array TypeId)[0]?).bind P.underlying = some (.slice e) := ht
  unfold aclear
  rw [e1]
  rfl

theorem hsum_ct {m : Mem} (hw : WF m) {hb : Nat} {k : List UInt32} {p : List UInt8} (hh : HashAt m hb k p) (hp : p.length ≤ 1099511627776) : Ct Tryz.prog S0 107 [.pointer (some ⟨hb, 0, none⟩)] m []
    (fun out m' => out = .ret (.tuple #[.agg (u8s (wordsB (hashFin k 0 p))).toArray, .int .i64 0])) := by
  have hblt := hh.lt hw
  refine ct_x (spec0 _) (by rfl) Tryz.func107 rfl ?_
  simp (maxSteps := 2000000) (disch := first | assumption | omega | (simp only [nx_push, nx_set, ne_eq] <;> omega) | (simp only [XSide, F107]; done) | decide) only [XWalk, XSl, ↓XPre, reduceIte, Nat.reduceEqDiff, Nat.reduceLT, Nat.reduceAdd, Nat.reduceSub, Nat.reduceMul, Nat.reduceBEq, reduceCtorEq, Int.reduceAdd, Int.reduceSub, Int.reduceMul, Int.reduceLT, Int.reduceLE, Int.reduceGT, Int.reduceGE, Int.reduceEq, Int.reduceNe, Int.reduceBEq, Int.reduceBNe, Int.reduceTMod, Int.reduceTDiv, ↓if_true, ↓if_false, F107, A107, Tryz.ntmps107]
  have hh1 : HashAt (m.push (.row (u8s (List.replicate 32 0)) .rw)) hb k p := hh.frame (by rw [get_push_ne (by omega)])
  refine wcall_pu (pu_of (hnone_ct hh1)) ?_
  obtain ⟨H, R, used, done, cnt, hm, hs⟩ := hh
  have b8 : Nat.beq (w32s H).length 8 = true := by rw [w32s_len, hs.lH]; rfl
  have b64 : Nat.beq (u8s R).length 64 = true := by rw [u8s_length, hs.lR]; rfl
  have l0 : loadN (hashRow H R used done cnt) 0 8 = some (w32s H) := loadN_of (hr_words hs.lH) (by rw [w32s_len, hs.lH])
  have l8 : loadN (hashRow H R used done cnt) 8 64 = some (u8s R) := loadN_of (hr_rest hs.lH hs.lR) (by rw [u8s_length, hs.lR])
  have o8 : (w32s H).all oneCell = true := w32s_one'
  have o64 : (u8s R).all oneCell = true := u8s_one
  have s8 : (w32s H).length = 8 := by rw [w32s_len]; exact hs.lH
  have s64 : (u8s R).length = 64 := by rw [u8s_length]; exact hs.lR
  simp (maxSteps := 2000000) (disch := first | assumption | omega | (simp only [nx_push, nx_set, ne_eq] <;> omega) | (simp only [XSide, F107]; done) | decide) only [XWalk, XSl, ↓XPre, reduceIte, Nat.reduceEqDiff, Nat.reduceLT, Nat.reduceAdd, Nat.reduceSub, Nat.reduceMul, Nat.reduceBEq, reduceCtorEq, Int.reduceAdd, Int.reduceSub, Int.reduceMul, Int.reduceLT, Int.reduceLE, Int.reduceGT, Int.reduceGE, Int.reduceEq, Int.reduceNe, Int.reduceBEq, Int.reduceBNe, Int.reduceTMod, Int.reduceTDiv, ↓if_true, ↓if_false, F107, A107, hm, loadRow_agg, l0, l8, b8, b64]
  have tail : ∀ e m3, e.n = 60 ∧ e.get 0 = .pointer (some ⟨hb, 0, none⟩) ∧ e.get 2 = .pointer (some ⟨m.next, 0, none⟩) ∧ e.get 4 = .pointer (some ⟨m.next + 1, 0, none⟩) ∧ e.get 5 = .pointer (some ⟨m.next + 2, 0, none⟩) ∧ WF m3 ∧ m3.next = m.next + 3 ∧ m3.get hb = some (.row (hashRow H R used done cnt) .rw) ∧
      m3.get m.next = some (.row (u8s (List.replicate 32 0)) .rw) ∧ m3.get (m.next + 1) = some (.row (w32s H) .rw) ∧ m3.get (m.next + 2) = some (.row (u8s (pad64 (R.take used))) .rw) →
      WX Tryz.prog S0 m.next [] (sub (bodyOf Tryz.f107) [true, true, true, true, true, false]) e m3 (andX Tryz.prog S0 m.next [] (sub (bodyOf Tryz.f107) [true, true, true, true, true, true]) (bodyQ Tryz.prog Tryz.f107 fun out m' => out = .ret (.tuple #[.agg (u8s (wordsB (hashFin k 0 p))).toArray, .int .i64 0]))) := by
    rintro e m3 ⟨he, q0, q2, q4, q5, hw3, hn3, hh3, hr3, hH3, hR3⟩
    refine x_draw [0, 0, 2, 6, 14, 0, 32, 96, 224, 480, 1022, 2047] (by kernel_rfl) ?_
    have sm := hs.sum
    have hle := hs.le
    have e1 : IntKind.wrap .u64 (used : Int) = (used : Int) := wrap_u64 (by omega) (by omega)
    have e2 : IntKind.wrap .u64 ((done : Int) + (used : Int)) = ((done + used : Nat) : Int) := by rw [wrap_u64 (by omega) (by omega)]; omega
    simp (maxSteps := 2000000) (disch := first | assumption | omega | (simp only [nx_push, nx_set, ne_eq] <;> omega) | (simp only [XSide, F107]; done) | decide) only [XWalk, XSl, ↓XPre, reduceIte, Nat.reduceEqDiff, Nat.reduceLT, Nat.reduceAdd, Nat.reduceSub, Nat.reduceMul, Nat.reduceBEq, reduceCtorEq, Int.reduceAdd, Int.reduceSub, Int.reduceMul, Int.reduceLT, Int.reduceLE, Int.reduceGT, Int.reduceGE, Int.reduceEq, Int.reduceNe, Int.reduceBEq, Int.reduceBNe, Int.reduceTMod, Int.reduceTDiv, ↓if_true, ↓if_false, F107, A107, he, q0, q2, q4, q5, hh3, hr72 hs.lH hs.lR, hr73 hs.lH hs.lR, hR3, e1, e2]
    have lp : (pad64 (R.take used)).length = 64 := by rw [pad64, List.length_append, List.length_replicate, List.length_take, hs.lR]; omega
    refine wcall_of specLoc (compress_ct (ho := 0) (bo := 0) (hs := w32s H) (bs := u8s (pad64 (R.take used))) (H := H) (l := pad64 (R.take used)) hw3 hH3 (by rw [List.drop_zero, List.take_of_length_le (by rw [s8]; omega)]) hs.lH (by rw [s8]; omega) hR3 (by rw [List.drop_zero, List.take_of_length_le (by rw [u8s_length]; omega)]) lp (Nat.le_refl _) (by omega)) hw3 (fun b hb' hlt => ?_) ?_
    · simp at hb'; omega
    rintro out m4 wr hwr hw4 hn4 hf4 _ ⟨rfl, hh4⟩
    have hwin : win (w32s H) 0 (w32s (compressW H (pad64 (R.take used)) (done + used) true)) = w32s (hashFin k 0 p) := by
      have e5 : hashFin k 0 p = compressW H (pad64 (R.take used)) (done + used) true := by
        have := hs.fin []
        rw [List.append_nil, List.append_nil] at this
        rw [this, hashFin, if_pos (by rw [List.length_take]; omega), List.length_take, hs.lR, Nat.min_eq_left hle]
      rw [e5, win, List.take_zero, List.nil_append, List.drop_eq_nil_of_le (by rw [s8, w32s_len, compressW_length]; omega), List.append_nil]
    rw [hwin] at hh4
    have lW : (hashFin k 0 p).length = 8 := hashFin_length _ _ _ _ (Nat.le_refl _)
    generalize hashFin k 0 p = W at hh4 lW ⊢
    have okw : ∀ b ∈ wr, b = m.next + 1 := fun b hb' => by simpa using hwr b hb'
    have ow : OkW m.next [] wr := fun b hb' hlt => by have := okw b hb'; omega
    have l4 : loadN (w32s W) 0 8 = some (w32s W) := loadN_all (by rw [w32s_len]; exact lW)
    have hr4 : m4.get m.next = some (.row (u8s (List.replicate 32 0)) .rw) := by rw [hf4 _ (by omega) (by simp)]; exact hr3
    simp (maxSteps := 2000000) (disch := first | assumption | omega | (simp only [nx_push, nx_set, ne_eq] <;> omega) | (simp only [XSide, F107]; done) | decide) only [XWalk, XSl, ↓XPre, reduceIte, Nat.reduceEqDiff, Nat.reduceLT, Nat.reduceAdd, Nat.reduceSub, Nat.reduceMul, Nat.reduceBEq, reduceCtorEq, Int.reduceAdd, Int.reduceSub, Int.reduceMul, Int.reduceLT, Int.reduceLE, Int.reduceGT, Int.reduceGE, Int.reduceEq, Int.reduceNe, Int.reduceBEq, Int.reduceBNe, Int.reduceTMod, Int.reduceTDiv, ↓if_true, ↓if_false, F107, A107, he, q0, q2, q4, q5, hh4, loadRow_agg, l4, ow]
    refine x_keep (fun e => e.n = 60 ∧ e.get 2 = .pointer (some ⟨m.next, 0, none⟩) ∧ e.get 4 = .pointer (some ⟨m.next + 1, 0, none⟩)) ⟨by simp (maxSteps := 2000000) (disch := first | assumption | omega | (simp only [nx_push, nx_set, ne_eq] <;> omega) | (simp only [XSide]; done) | decide) only [XWalk, XSl, ↓XPre, reduceIte, Nat.reduceEqDiff, Nat.reduceLT, Nat.reduceAdd, Nat.reduceSub, Nat.reduceMul, Nat.reduceBEq, reduceCtorEq, Int.reduceAdd, Int.reduceSub, Int.reduceMul, Int.reduceLT, Int.reduceLE, Int.reduceGT, Int.reduceGE, Int.reduceEq, Int.reduceNe, Int.reduceBEq, Int.reduceBNe, Int.reduceTMod, Int.reduceTDiv, ↓if_true, ↓if_false, he], by simp (maxSteps := 2000000) (disch := first | assumption | omega | (simp only [nx_push, nx_set, ne_eq] <;> omega) | (simp only [XSide]; done) | decide) only [XWalk, XSl, ↓XPre, reduceIte, Nat.reduceEqDiff, Nat.reduceLT, Nat.reduceAdd, Nat.reduceSub, Nat.reduceMul, Nat.reduceBEq, reduceCtorEq, Int.reduceAdd, Int.reduceSub, Int.reduceMul, Int.reduceLT, Int.reduceLE, Int.reduceGT, Int.reduceGE, Int.reduceEq, Int.reduceNe, Int.reduceBEq, Int.reduceBNe, Int.reduceTMod, Int.reduceTDiv, ↓if_true, ↓if_false, q2], by simp (maxSteps := 2000000) (disch := first | assumption | omega | (simp only [nx_push, nx_set, ne_eq] <;> omega) | (simp only [XSide]; done) | decide) only [XWalk, XSl, ↓XPre, reduceIte, Nat.reduceEqDiff, Nat.reduceLT, Nat.reduceAdd, Nat.reduceSub, Nat.reduceMul, Nat.reduceBEq, reduceCtorEq, Int.reduceAdd, Int.reduceSub, Int.reduceMul, Int.reduceLT, Int.reduceLE, Int.reduceGT, Int.reduceGE, Int.reduceEq, Int.reduceNe, Int.reduceBEq, Int.reduceBNe, Int.reduceTMod, Int.reduceTDiv, ↓if_true, ↓if_false, q4]⟩ ?_
    clear q0 q2 q4 q5 he e
    rintro e ⟨he, q2, q4⟩
    simp only [sub, bodyOf, Tryz.f107, Option.getD_some]
    simp (maxSteps := 2000000) (disch := first | assumption | omega | (simp only [nx_push, nx_set, ne_eq] <;> omega) | (simp only [XSide, F107]; done) | decide) only [XWalk, XSl, ↓XPre, reduceIte, Nat.reduceEqDiff, Nat.reduceLT, Nat.reduceAdd, Nat.reduceSub, Nat.reduceMul, Nat.reduceBEq, reduceCtorEq, Int.reduceAdd, Int.reduceSub, Int.reduceMul, Int.reduceLT, Int.reduceLE, Int.reduceGT, Int.reduceGE, Int.reduceEq, Int.reduceNe, Int.reduceBEq, Int.reduceBNe, Int.reduceTMod, Int.reduceTDiv, ↓if_true, ↓if_false, F107, A107, he, q2, q4, hh4, loadRow_agg, l4]
    refine x_loop (fun q e m5 => ∃ i, i + q = 8 ∧ e.n = 60 ∧ e.get 2 = .pointer (some ⟨m.next, 0, none⟩) ∧ e.get 6 = .pointer (some ⟨m4.next, 0, none⟩) ∧ e.get 37 = .agg (w32s W).toArray ∧ e.get 38 = .int .i64 ((i : Nat) : Int) ∧ WF m5 ∧ m4.next < m5.next ∧ m5.get m.next = some (.row (u8s (List.replicate 32 0)) .rw) ∧
      m5.get m4.next = some (.row (u8s (wordsB (W.take i) ++ List.replicate (32 - 4 * i) 0)) .rw)) 8 ⟨0, by omega, by simp (maxSteps := 2000000) (disch := first | assumption | omega | (simp only [nx_push, nx_set, ne_eq] <;> omega) | (simp only [XSide]; done) | decide) only [XWalk, XSl, ↓XPre, reduceIte, Nat.reduceEqDiff, Nat.reduceLT, Nat.reduceAdd, Nat.reduceSub, Nat.reduceMul, Nat.reduceBEq, reduceCtorEq, Int.reduceAdd, Int.reduceSub, Int.reduceMul, Int.reduceLT, Int.reduceLE, Int.reduceGT, Int.reduceGE, Int.reduceEq, Int.reduceNe, Int.reduceBEq, Int.reduceBNe, Int.reduceTMod, Int.reduceTDiv, ↓if_true, ↓if_false, he], by simp (maxSteps := 2000000) (disch := first | assumption | omega | (simp only [nx_push, nx_set, ne_eq] <;> omega) | (simp only [XSide]; done) | decide) only [XWalk, XSl, ↓XPre, reduceIte, Nat.reduceEqDiff, Nat.reduceLT, Nat.reduceAdd, Nat.reduceSub, Nat.reduceMul, Nat.reduceBEq, reduceCtorEq, Int.reduceAdd, Int.reduceSub, Int.reduceMul, Int.reduceLT, Int.reduceLE, Int.reduceGT, Int.reduceGE, Int.reduceEq, Int.reduceNe, Int.reduceBEq, Int.reduceBNe, Int.reduceTMod, Int.reduceTDiv, ↓if_true, ↓if_false, q2], by simp (maxSteps := 2000000) (disch := first | assumption | omega | (simp only [nx_push, nx_set, ne_eq] <;> omega) | (simp only [XSide]; done) | decide) only [XWalk, XSl, ↓XPre, reduceIte, Nat.reduceEqDiff, Nat.reduceLT, Nat.reduceAdd, Nat.reduceSub, Nat.reduceMul, Nat.reduceBEq, reduceCtorEq, Int.reduceAdd, Int.reduceSub, Int.reduceMul, Int.reduceLT, Int.reduceLE, Int.reduceGT, Int.reduceGE, Int.reduceEq, Int.reduceNe, Int.reduceBEq, Int.reduceBNe, Int.reduceTMod, Int.reduceTDiv, ↓if_true, ↓if_false], by simp (maxSteps := 2000000) (disch := first | assumption | omega | (simp only [nx_push, nx_set, ne_eq] <;> omega) | (simp only [XSide]; done) | decide) only [XWalk, XSl, ↓XPre, reduceIte, Nat.reduceEqDiff, Nat.reduceLT, Nat.reduceAdd, Nat.reduceSub, Nat.reduceMul, Nat.reduceBEq, reduceCtorEq, Int.reduceAdd, Int.reduceSub, Int.reduceMul, Int.reduceLT, Int.reduceLE, Int.reduceGT, Int.reduceGE, Int.reduceEq, Int.reduceNe, Int.reduceBEq, Int.reduceBNe, Int.reduceTMod, Int.reduceTDiv, ↓if_true, ↓if_false], by simp (maxSteps := 2000000) (disch := first | assumption | omega | (simp only [nx_push, nx_set, ne_eq] <;> omega) | (simp only [XSide]; done) | decide) only [XWalk, XSl, ↓XPre, reduceIte, Nat.reduceEqDiff, Nat.reduceLT, Nat.reduceAdd, Nat.reduceSub, Nat.reduceMul, Nat.reduceBEq, reduceCtorEq, Int.reduceAdd, Int.reduceSub, Int.reduceMul, Int.reduceLT, Int.reduceLE, Int.reduceGT, Int.reduceGE, Int.reduceEq, Int.reduceNe, Int.reduceBEq, Int.reduceBNe, Int.reduceTMod, Int.reduceTDiv, ↓if_true, ↓if_false]; rfl, hw4.push, by simp (maxSteps := 2000000) (disch := first | assumption | omega | (simp only [nx_push, nx_set, ne_eq] <;> omega) | (simp only [XSide]; done) | decide) only [XWalk, XSl, ↓XPre, reduceIte, Nat.reduceEqDiff, Nat.reduceLT, Nat.reduceAdd, Nat.reduceSub, Nat.reduceMul, Nat.reduceBEq, reduceCtorEq, Int.reduceAdd, Int.reduceSub, Int.reduceMul, Int.reduceLT, Int.reduceLE, Int.reduceGT, Int.reduceGE, Int.reduceEq, Int.reduceNe, Int.reduceBEq, Int.reduceBNe, Int.reduceTMod, Int.reduceTDiv, ↓if_true, ↓if_false]; omega, by simp (maxSteps := 2000000) (disch := first | assumption | omega | (simp only [nx_push, nx_set, ne_eq] <;> omega) | (simp only [XSide]; done) | decide) only [XWalk, XSl, ↓XPre, reduceIte, Nat.reduceEqDiff, Nat.reduceLT, Nat.reduceAdd, Nat.reduceSub, Nat.reduceMul, Nat.reduceBEq, reduceCtorEq, Int.reduceAdd, Int.reduceSub, Int.reduceMul, Int.reduceLT, Int.reduceLE, Int.reduceGT, Int.reduceGE, Int.reduceEq, Int.reduceNe, Int.reduceBEq, Int.reduceBNe, Int.reduceTMod, Int.reduceTDiv, ↓if_true, ↓if_false, hr4], by simp (maxSteps := 2000000) (disch := first | assumption | omega | (simp only [nx_push, nx_set, ne_eq] <;> omega) | (simp only [XSide]; done) | decide) only [XWalk, XSl, ↓XPre, reduceIte, Nat.reduceEqDiff, Nat.reduceLT, Nat.reduceAdd, Nat.reduceSub, Nat.reduceMul, Nat.reduceBEq, reduceCtorEq, Int.reduceAdd, Int.reduceSub, Int.reduceMul, Int.reduceLT, Int.reduceLE, Int.reduceGT, Int.reduceGE, Int.reduceEq, Int.reduceNe, Int.reduceBEq, Int.reduceBNe, Int.reduceTMod, Int.reduceTDiv, ↓if_true, ↓if_false]; rfl⟩ ?_
    rintro q e m5 ⟨i, hi, he, q2, q6, q37, q38, hw5, hn5, hr5, ho5⟩
    simp (maxSteps := 2000000) (disch := first | assumption | omega | (simp only [nx_push, nx_set, ne_eq] <;> omega) | (simp only [XSide, F107]; done) | decide) only [XWalk, XSl, ↓XPre, reduceIte, Nat.reduceEqDiff, Nat.reduceLT, Nat.reduceAdd, Nat.reduceSub, Nat.reduceMul, Nat.reduceBEq, reduceCtorEq, Int.reduceAdd, Int.reduceSub, Int.reduceMul, Int.reduceLT, Int.reduceLE, Int.reduceGT, Int.reduceGE, Int.reduceEq, Int.reduceNe, Int.reduceBEq, Int.reduceBNe, Int.reduceTMod, Int.reduceTDiv, ↓if_true, ↓if_false, F107, A107, he, q38]
    refine x_if (fun ht => ?_) (fun ht => ?_)
    · have hk : i < 8 := by simp at ht; omega
      have hWi : (w32s W).toArray[i]? = some (w32 (W.getD i 0)) := by
        rw [List.getElem?_toArray]; exact w32s_get (by omega)
      have e1 : IntKind.wrap .i64 (4 * (i : Int)) = ((4 * i : Nat) : Int) := by rw [wrap_i64 (by omega) (by omega)]; omega
      have e2 : IntKind.wrap .i64 ((i : Int) + 1) = ((i + 1 : Nat) : Int) := by rw [wrap_i64 (by omega) (by omega)]; omega
      simp (maxSteps := 2000000) (disch := first | assumption | omega | (simp only [nx_push, nx_set, ne_eq] <;> omega) | (simp only [XSide, F107]; done) | decide) only [XWalk, XSl, ↓XPre, reduceIte, Nat.reduceEqDiff, Nat.reduceLT, Nat.reduceAdd, Nat.reduceSub, Nat.reduceMul, Nat.reduceBEq, reduceCtorEq, Int.reduceAdd, Int.reduceSub, Int.reduceMul, Int.reduceLT, Int.reduceLE, Int.reduceGT, Int.reduceGE, Int.reduceEq, Int.reduceNe, Int.reduceBEq, Int.reduceBNe, Int.reduceTMod, Int.reduceTDiv, ↓if_true, ↓if_false, F107, A107, he, q38, q37, aidx_arr (show Tryz.prog.underlying 175 = some (.array 8 155) by kernel_rfl) hk (by kernel_rfl) (by kernel_rfl) hWi, e1, e2, q6, ho5, u32_u8, shr8', shr16', shr24']
      generalize hwd : W.getD i 0 = w
      have lpre : (wordsB (W.take i)).length = 4 * i := by rw [wordsB_length, List.length_take]; omega
      rw [show [Value.int .u8 (w.toUInt8.toNat : Int), .int .u8 ((w >>> 8).toUInt8.toNat : Int), .int .u8 ((w >>> 16).toUInt8.toNat : Int), .int .u8 ((w >>> 24).toUInt8.toNat : Int)] = u8s (wordB w) from rfl]
      rw [acopy_sl (new := u8s (wordB w)) (rs := u8s (wordsB (W.take i) ++ List.replicate (32 - 4 * i) 0)) (by simp only [F107]) (Sl.of_row (m := m5.push (.row (u8s (wordB w)) .rw)) (b := m5.next) (off := 0) (n := 4) (c := 4) (rs := u8s (wordB w)) (by rw [get_push_self]) rfl rfl (Nat.le_refl _)) (by rw [get_push_ne (by omega)]; exact ho5) u8s_one (by rw [u8s_length]; simp [wordB]; omega) (by rw [u8s_length, u8s_length, List.length_append, lpre, List.length_replicate]; simp [wordB]; omega)]
      have hmin : min (u8s (wordB w)).length (32 - 4 * i) = 4 := by rw [u8s_length]; simp [wordB]; omega
      have hrow : (u8s (wordsB (W.take i) ++ List.replicate (32 - 4 * i) 0)).take (4 * i) ++ (u8s (wordB w)).take 4 ++ (u8s (wordsB (W.take i) ++ List.replicate (32 - 4 * i) 0)).drop (4 * i + 4) = u8s (wordsB (W.take (i + 1)) ++ List.replicate (32 - 4 * (i + 1)) 0) := by
        have hlt : i < W.length := by omega
        have e3 : wordsB (W.take (i + 1)) = wordsB (W.take i) ++ wordB w := by
          rw [List.take_succ_eq_append_getElem hlt, wordsB, List.flatMap_append]
          have : W[i] = w := by rw [← hwd, List.getD_eq_getElem?_getD, List.getElem?_eq_getElem hlt]; rfl
          rw [this]
          simp [wordsB]
        rw [e3, u8s_take, u8s_take, u8s_drop, List.take_append_of_le_length (by omega), List.take_of_length_le (l := wordsB (W.take i)) (by omega), List.take_of_length_le (l := wordB w) (by simp [wordB]), List.drop_append, List.drop_eq_nil_of_le (by omega), lpre, List.nil_append, ← u8s_append, ← u8s_append]
        congr 2
        rw [List.drop_replicate]
        congr 1
        omega
      rw [hmin, hrow]
      simp (maxSteps := 2000000) (disch := first | assumption | omega | (simp only [nx_push, nx_set, ne_eq] <;> omega) | (simp only [XSide, F107]; done) | decide) only [XWalk, XSl, ↓XPre, reduceIte, Nat.reduceEqDiff, Nat.reduceLT, Nat.reduceAdd, Nat.reduceSub, Nat.reduceMul, Nat.reduceBEq, reduceCtorEq, Int.reduceAdd, Int.reduceSub, Int.reduceMul, Int.reduceLT, Int.reduceLE, Int.reduceGT, Int.reduceGE, Int.reduceEq, Int.reduceNe, Int.reduceBEq, Int.reduceBNe, Int.reduceTMod, Int.reduceTDiv, ↓if_true, ↓if_false, F107, A107, he, q38, e2, q2, q6, q37]
      refine ⟨q - 1, by omega, i + 1, by omega, rfl, by (repeat (first | exact hw5 | apply WF.push | (refine WF.set ?_ (by first | omega | (simp only [Mem.next_set, Mem.next_push]; omega))))), by omega, hr5, rfl⟩
    · have hk : i = 8 := by simp at ht; omega
      subst hk
      have l32 : loadN (u8s (wordsB (W.take 8) ++ List.replicate (32 - 4 * 8) 0)) 0 32 = some (u8s (wordsB W)) := by
        rw [List.take_of_length_le (by omega), show 32 - 4 * 8 = 0 from rfl, List.replicate_zero, List.append_nil]
        exact loadN_all (by rw [u8s_length, wordsB_length]; omega)
      rw [show 32 - 4 * 8 = 0 from rfl] at ho5 l32
      have b32 : Nat.beq (u8s (wordsB W)).length 32 = true := by rw [u8s_length, wordsB_length, lW]; rfl
      have o32 : (u8s (wordsB W)).all oneCell = true := u8s_one
      have s32 : (u8s (wordsB W)).length = (u8s (List.replicate 32 0)).length := by rw [u8s_length, wordsB_length, lW]; rfl
      have l32' : loadN (u8s (wordsB W)) 0 32 = some (u8s (wordsB W)) := loadN_all (by rw [u8s_length, wordsB_length]; omega)
      simp (maxSteps := 2000000) (disch := first | assumption | omega | (simp only [nx_push, nx_set, ne_eq] <;> omega) | (simp only [XSide, F107]; done) | decide) only [XWalk, XSl, ↓XPre, reduceIte, Nat.reduceEqDiff, Nat.reduceLT, Nat.reduceAdd, Nat.reduceSub, Nat.reduceMul, Nat.reduceBEq, reduceCtorEq, Int.reduceAdd, Int.reduceSub, Int.reduceMul, Int.reduceLT, Int.reduceLE, Int.reduceGT, Int.reduceGE, Int.reduceEq, Int.reduceNe, Int.reduceBEq, Int.reduceBNe, Int.reduceTMod, Int.reduceTDiv, ↓if_true, ↓if_false, F107, A107, he, q2, q6, loadRow_agg, ho5, l32, b32, hr5]
      change WR (aresults Tryz.prog Tryz.f107 _ _) _ _
      simp (maxSteps := 2000000) (disch := first | assumption | omega | (simp only [nx_push, nx_set, ne_eq] <;> omega) | (simp only [XSide, F107]; done) | decide) only [XWalk, XSl, ↓XPre, reduceIte, Nat.reduceEqDiff, Nat.reduceLT, Nat.reduceAdd, Nat.reduceSub, Nat.reduceMul, Nat.reduceBEq, reduceCtorEq, Int.reduceAdd, Int.reduceSub, Int.reduceMul, Int.reduceLT, Int.reduceLE, Int.reduceGT, Int.reduceGE, Int.reduceEq, Int.reduceNe, Int.reduceBEq, Int.reduceBNe, Int.reduceTMod, Int.reduceTDiv, ↓if_true, ↓if_false, F107, A107, he, q2, loadRow_agg, l32']
  rcases Nat.lt_or_ge used 64 with hu | hu
  · simp (maxSteps := 2000000) (disch := first | assumption | omega | (simp only [nx_push, nx_set, ne_eq] <;> omega) | (simp only [XSide, F107]; done) | decide) only [XWalk, XSl, ↓XPre, reduceIte, Nat.reduceEqDiff, Nat.reduceLT, Nat.reduceAdd, Nat.reduceSub, Nat.reduceMul, Nat.reduceBEq, reduceCtorEq, Int.reduceAdd, Int.reduceSub, Int.reduceMul, Int.reduceLT, Int.reduceLE, Int.reduceGT, Int.reduceGE, Int.reduceEq, Int.reduceNe, Int.reduceBEq, Int.reduceBNe, Int.reduceTMod, Int.reduceTDiv, ↓if_true, ↓if_false, F107, A107, aop_clear, hr72 hs.lH hs.lR]
    rw [aclear_row (z := .int .u8 0) (show Tryz.prog.underlying 22 = some (.slice 5) by kernel_rfl) (by kernel_rfl) rfl rfl (rs := u8s R) (by simp (maxSteps := 2000000) (disch := first | assumption | omega | (simp only [nx_push, nx_set, ne_eq] <;> omega) | (simp only [XSide]; done) | decide) only [XWalk, XSl, ↓XPre, reduceIte, Nat.reduceEqDiff, Nat.reduceLT, Nat.reduceAdd, Nat.reduceSub, Nat.reduceMul, Nat.reduceBEq, reduceCtorEq, Int.reduceAdd, Int.reduceSub, Int.reduceMul, Int.reduceLT, Int.reduceLE, Int.reduceGT, Int.reduceGE, Int.reduceEq, Int.reduceNe, Int.reduceBEq, Int.reduceBNe, Int.reduceTMod, Int.reduceTDiv, ↓if_true, ↓if_false]) (by omega) (by rw [s64]; omega) rfl]
    have hc : (u8s R).take used ++ List.replicate (64 - used) (Value.int .u8 0) ++ (u8s R).drop (used + (64 - used)) = u8s (pad64 (R.take used)) := by
      rw [List.drop_eq_nil_of_le (by rw [s64]; omega), u8s_take, pad64, u8s_append, List.append_nil, List.length_take, Nat.min_eq_left (by rw [hs.lR]; omega)]
      congr 1
      simp [u8s]
    rw [hc]
    simp (maxSteps := 2000000) (disch := first | assumption | omega | (simp only [nx_push, nx_set, ne_eq] <;> omega) | (simp only [XSide, F107]; done) | decide) only [XWalk, XSl, ↓XPre, reduceIte, Nat.reduceEqDiff, Nat.reduceLT, Nat.reduceAdd, Nat.reduceSub, Nat.reduceMul, Nat.reduceBEq, reduceCtorEq, Int.reduceAdd, Int.reduceSub, Int.reduceMul, Int.reduceLT, Int.reduceLE, Int.reduceGT, Int.reduceGE, Int.reduceEq, Int.reduceNe, Int.reduceBEq, Int.reduceBNe, Int.reduceTMod, Int.reduceTDiv, ↓if_true, ↓if_false, F107, A107]
    refine tail _ _ ⟨?_, ?_, ?_, ?_, ?_, ?_, ?_, ?_, ?_, ?_, ?_⟩ <;> (try simp (maxSteps := 2000000) (disch := first | assumption | omega | (simp only [nx_push, nx_set, ne_eq] <;> omega) | (simp only [XSide]; done) | decide) only [XWalk, XSl, ↓XPre, reduceIte, Nat.reduceEqDiff, Nat.reduceLT, Nat.reduceAdd, Nat.reduceSub, Nat.reduceMul, Nat.reduceBEq, reduceCtorEq, Int.reduceAdd, Int.reduceSub, Int.reduceMul, Int.reduceLT, Int.reduceLE, Int.reduceGT, Int.reduceGE, Int.reduceEq, Int.reduceNe, Int.reduceBEq, Int.reduceBNe, Int.reduceTMod, Int.reduceTDiv, ↓if_true, ↓if_false, hm])
    · (repeat (first | exact hw | apply WF.push | (refine WF.set ?_ (by first | omega | (simp only [Mem.next_set, Mem.next_push]; omega)))))
    · rfl
  · have hu64 : used = 64 := by have := hs.le; omega
    subst hu64
    have he : ∀ b, aslA (some (64, 1)) (some (.row (u8s R) .rw)) b 0 (some (.int .i64 ((64 : Nat) : Int))) none = some (.slice (some ⟨b, 0, none⟩) 0 0) := fun b => aslA_end
    simp (maxSteps := 2000000) (disch := first | assumption | omega | (simp only [nx_push, nx_set, ne_eq] <;> omega) | (simp only [XSide, F107]; done) | decide) only [XWalk, XSl, ↓XPre, reduceIte, Nat.reduceEqDiff, Nat.reduceLT, Nat.reduceAdd, Nat.reduceSub, Nat.reduceMul, Nat.reduceBEq, reduceCtorEq, Int.reduceAdd, Int.reduceSub, Int.reduceMul, Int.reduceLT, Int.reduceLE, Int.reduceGT, Int.reduceGE, Int.reduceEq, Int.reduceNe, Int.reduceBEq, Int.reduceBNe, Int.reduceTMod, Int.reduceTDiv, ↓if_true, ↓if_false, F107, A107, aop_clear, he, hr72 hs.lH hs.lR]
    rw [aclear_nil (show Tryz.prog.underlying 22 = some (.slice 5) by kernel_rfl)]
    simp (maxSteps := 2000000) (disch := first | assumption | omega | (simp only [nx_push, nx_set, ne_eq] <;> omega) | (simp only [XSide, F107]; done) | decide) only [XWalk, XSl, ↓XPre, reduceIte, Nat.reduceEqDiff, Nat.reduceLT, Nat.reduceAdd, Nat.reduceSub, Nat.reduceMul, Nat.reduceBEq, reduceCtorEq, Int.reduceAdd, Int.reduceSub, Int.reduceMul, Int.reduceLT, Int.reduceLE, Int.reduceGT, Int.reduceGE, Int.reduceEq, Int.reduceNe, Int.reduceBEq, Int.reduceBNe, Int.reduceTMod, Int.reduceTDiv, ↓if_true, ↓if_false, F107, A107]
    refine tail _ _ ⟨?_, ?_, ?_, ?_, ?_, ?_, ?_, ?_, ?_, ?_, ?_⟩ <;> (try simp (maxSteps := 2000000) (disch := first | assumption | omega | (simp only [nx_push, nx_set, ne_eq] <;> omega) | (simp only [XSide]; done) | decide) only [XWalk, XSl, ↓XPre, reduceIte, Nat.reduceEqDiff, Nat.reduceLT, Nat.reduceAdd, Nat.reduceSub, Nat.reduceMul, Nat.reduceBEq, reduceCtorEq, Int.reduceAdd, Int.reduceSub, Int.reduceMul, Int.reduceLT, Int.reduceLE, Int.reduceGT, Int.reduceGE, Int.reduceEq, Int.reduceNe, Int.reduceBEq, Int.reduceBNe, Int.reduceTMod, Int.reduceTDiv, ↓if_true, ↓if_false, hm])
    · (repeat (first | exact hw | apply WF.push | (refine WF.set ?_ (by first | omega | (simp only [Mem.next_set, Mem.next_push]; omega)))))
    · rfl
    · rw [List.take_of_length_le (by rw [hs.lR]; omega), pad64, hs.lR]; simp

end Go.Big

/- The hash: new computations, and the exported functions. -/
set_option linter.unusedSimpArgs false
set_option linter.unusedVariables false
set_option maxRecDepth 100000
set_option maxHeartbeats 2000000
namespace Go.Big
open Go.Proofs

theorem build179 : abuild Tryz.prog 179 [(0, .agg (w32s ivW).toArray), (5, .bool true)] = some (.agg (hashRow ivW (List.replicate 64 0) 0 0 0).toArray) := by kernel_rfl

theorem hr_set0 {H : List UInt32} {R : List UInt8} {used done : Nat} {cnt : Int} (lH : H.length = 8) {x : UInt32} : (hashRow H R used done cnt).set 0 (w32 x) = hashRow (H.set 0 x) R used done cnt := by
  unfold hashRow
  rw [List.append_assoc, List.set_append_left _ _ (by rw [w32s_len]; omega), w32s_set, List.append_assoc]

def keyBlock (key : List UInt8) : List UInt8 := if key = [] then [] else pad64 key

/-- A pointer to a computation of its own. -/
def IsHash (n0 : Nat) (k : List UInt32) (p : List UInt8) (v : Value) (m : Mem) : Prop := ∃ hb, v = .pointer (some ⟨hb, 0, none⟩) ∧ n0 ≤ hb ∧ HashAt m hb k p

theorem hnew_ct {m : Mem} (hw : WF m) {v : Value} {key : List UInt8} (hv : Bs m v key) (hl : key.length < 2147483648) : Ct Tryz.prog S0 105 [v] m []
    (fun out m' => if 32 < key.length then out = .ret (.tuple #[.pointer none, .int .i64 2]) else ∃ hp, out = .ret (.tuple #[hp, .int .i64 0]) ∧ IsHash m.next (key0 key.length) (keyBlock key) hp m') := by
  refine ct_x (spec0 _) (by rfl) Tryz.func105 rfl ?_
  simp (maxSteps := 2000000) (disch := first | assumption | omega | (simp only [nx_push, nx_set, ne_eq] <;> omega) | (simp only [XSide, F105]; done) | decide) only [XWalk, XSl, ↓XPre, reduceIte, Nat.reduceEqDiff, Nat.reduceLT, Nat.reduceAdd, Nat.reduceSub, Nat.reduceMul, Nat.reduceBEq, reduceCtorEq, Int.reduceAdd, Int.reduceSub, Int.reduceMul, Int.reduceLT, Int.reduceLE, Int.reduceGT, Int.reduceGE, Int.reduceEq, Int.reduceNe, Int.reduceBEq, Int.reduceBNe, Int.reduceTMod, Int.reduceTDiv, ↓if_true, ↓if_false, F105, A105, Tryz.ntmps105, alen_bs hv]
  refine x_if (fun h => ?_) (fun h => ?_)
  · have h1 : 32 < key.length := by have := of_decide_eq_true h; omega
    simp (maxSteps := 2000000) (disch := first | assumption | omega | (simp only [nx_push, nx_set, ne_eq] <;> omega) | (simp only [XSide, F105]; done) | decide) only [XWalk, XSl, ↓XPre, reduceIte, Nat.reduceEqDiff, Nat.reduceLT, Nat.reduceAdd, Nat.reduceSub, Nat.reduceMul, Nat.reduceBEq, reduceCtorEq, Int.reduceAdd, Int.reduceSub, Int.reduceMul, Int.reduceLT, Int.reduceLE, Int.reduceGT, Int.reduceGE, Int.reduceEq, Int.reduceNe, Int.reduceBEq, Int.reduceBNe, Int.reduceTMod, Int.reduceTDiv, ↓if_true, ↓if_false, F105, A105, if_pos h1]
  · have h1 : ¬ 32 < key.length := by have := of_decide_eq_false h; omega
    simp (maxSteps := 2000000) (disch := first | assumption | omega | (simp only [nx_push, nx_set, ne_eq] <;> omega) | (simp only [XSide, F105]; done) | decide) only [XWalk, XSl, ↓XPre, reduceIte, Nat.reduceEqDiff, Nat.reduceLT, Nat.reduceAdd, Nat.reduceSub, Nat.reduceMul, Nat.reduceBEq, reduceCtorEq, Int.reduceAdd, Int.reduceSub, Int.reduceMul, Int.reduceLT, Int.reduceLE, Int.reduceGT, Int.reduceGE, Int.reduceEq, Int.reduceNe, Int.reduceBEq, Int.reduceBNe, Int.reduceTMod, Int.reduceTDiv, ↓if_true, ↓if_false, F105, A105]
    refine wcall_x specLoc start_ct hw ?_
    rintro out m1 hw1 hn1 f1 rfl
    have hone : (hashRow ivW (List.replicate 64 0) 0 0 0).all oneCell = true := by rfl
    have h0 : (hashRow ivW (List.replicate 64 0) 0 0 0)[0]? = some (w32 0x6a09e667) := rfl
    have hv1 : Bs m1 v key := hv.keep (keep_of hw f1)
    have hv2 : ∀ o, Bs (m1.push o) v key := fun o => hv1.keep (Keep.push hw1)
    have hv3 : ∀ o o', Bs ((m1.push o).set m1.next o') v key := fun o o' => (hv2 o).frame_at fun b hb => by rw [get_set_ne (by have := hv1.blk_lt hw1 hb; omega)]
    have e1 : ∀ y : UInt32, (16842784 + (y.toNat : Int)) % 4294967296 = (((0x01010020 : UInt32) + y).toNat : Int) := fun y => addI_32 0x01010020 y
    have e2 : ((hashRow ivW (List.replicate 64 0) 0 0 0).set 0 (w32 ((0x6a09e667 : UInt32) ^^^ ((0x01010020 : UInt32) + ((UInt32.ofNat key.length) <<< (8 : UInt32)))))) = hashRow (key0 key.length) (List.replicate 64 0) 0 0 0 := by rw [hr_set0 rfl]; rfl
    simp (maxSteps := 2000000) (disch := first | assumption | omega | (simp only [nx_push, nx_set, ne_eq] <;> omega) | (simp only [XSide, F105]; done) | decide) only [XWalk, XSl, ↓XPre, reduceIte, Nat.reduceEqDiff, Nat.reduceLT, Nat.reduceAdd, Nat.reduceSub, Nat.reduceMul, Nat.reduceBEq, reduceCtorEq, Int.reduceAdd, Int.reduceSub, Int.reduceMul, Int.reduceLT, Int.reduceLE, Int.reduceGT, Int.reduceGE, Int.reduceEq, Int.reduceNe, Int.reduceBEq, Int.reduceBNe, Int.reduceTMod, Int.reduceTDiv, ↓if_true, ↓if_false, F105, A105, build179, abox_row hone]
    refine x_draw [0, 1, 3, 7, 15, 0, 32, 96, 224, 480, 1023, 1, 2049, 8191, 16383] (by kernel_rfl) ?_
    simp (maxSteps := 2000000) (disch := first | assumption | omega | (simp only [nx_push, nx_set, ne_eq] <;> omega) | (simp only [XSide, F105]; done) | decide) only [XWalk, XSl, ↓XPre, reduceIte, Nat.reduceEqDiff, Nat.reduceLT, Nat.reduceAdd, Nat.reduceSub, Nat.reduceMul, Nat.reduceBEq, reduceCtorEq, Int.reduceAdd, Int.reduceSub, Int.reduceMul, Int.reduceLT, Int.reduceLE, Int.reduceGT, Int.reduceGE, Int.reduceEq, Int.reduceNe, Int.reduceBEq, Int.reduceBNe, Int.reduceTMod, Int.reduceTDiv, ↓if_true, ↓if_false, F105, A105, alen_bs (hv2 _), alen_bs (hv3 _ _), h0, mod32_of, shl8, e1, xorI_32, e2]
    have lk : (key0 key.length).length = 8 := rfl
    have lz : (List.replicate 64 (0 : UInt8)).length = 64 := List.length_replicate
    have hw3 : ∀ o o', WF ((m1.push o).set m1.next o') := fun o o' => by (repeat (first | exact hw1 | apply WF.push | (refine WF.set ?_ (by first | omega | (simp only [Mem.next_set, Mem.next_push]; omega)))))
    refine x_if (fun h => ?_) (fun h => ?_)
    · have h2 : 0 < key.length := by have := of_decide_eq_true h; omega
      simp (maxSteps := 2000000) (disch := first | assumption | omega | (simp only [nx_push, nx_set, ne_eq] <;> omega) | (simp only [XSide, F105]; done) | decide) only [XWalk, XSl, ↓XPre, reduceIte, Nat.reduceEqDiff, Nat.reduceLT, Nat.reduceAdd, Nat.reduceSub, Nat.reduceMul, Nat.reduceBEq, reduceCtorEq, Int.reduceAdd, Int.reduceSub, Int.reduceMul, Int.reduceLT, Int.reduceLE, Int.reduceGT, Int.reduceGE, Int.reduceEq, Int.reduceNe, Int.reduceBEq, Int.reduceBNe, Int.reduceTMod, Int.reduceTDiv, ↓if_true, ↓if_false, F105, A105]
      rw [acopy_sl (by simp only [F105]) (hv3 _ _) get_set_self u8s_one (by rw [u8s_length]; omega) (by rw [u8s_length, hr_len lk lz]; omega)]
      have hm : min (u8s key).length 64 = key.length := by rw [u8s_length]; omega
      have hc := hr_copy (used := 0) (done := 0) (cnt := 0) lk lz (x := key) (u := 0) (by omega)
      have hR : (List.replicate 64 0).take 0 ++ key ++ (List.replicate 64 0).drop (0 + key.length) = pad64 key := by rw [List.take_zero, List.nil_append, List.drop_replicate, pad64, Nat.zero_add]
      have lp : (pad64 key).length = 64 := by rw [pad64, List.length_append, List.length_replicate]; omega
      rw [hR] at hc
      rw [Nat.add_zero] at hc
      rw [hm, List.take_of_length_le (l := u8s key) (by rw [u8s_length]; omega), hc]
      simp (maxSteps := 2000000) (disch := first | assumption | omega | (simp only [nx_push, nx_set, ne_eq] <;> omega) | (simp only [XSide, F105]; done) | decide) only [XWalk, XSl, ↓XPre, reduceIte, Nat.reduceEqDiff, Nat.reduceLT, Nat.reduceAdd, Nat.reduceSub, Nat.reduceMul, Nat.reduceBEq, reduceCtorEq, Int.reduceAdd, Int.reduceSub, Int.reduceMul, Int.reduceLT, Int.reduceLE, Int.reduceGT, Int.reduceGE, Int.reduceEq, Int.reduceNe, Int.reduceBEq, Int.reduceBNe, Int.reduceTMod, Int.reduceTDiv, ↓if_true, ↓if_false, F105, A105, hr_len lk lp, if_neg h1]
      refine ⟨_, rfl, m1.next, rfl, by omega, key0 key.length, pad64 key, 64, 0, 0, ?_, lk, lp, Nat.le_refl _, ?_, fun more => ?_⟩
      · rw [get_set_self]
        congr 2
        exact hr_set72 (n := 64) lk lp
      · rw [keyBlock, if_neg (by rintro rfl; simp at h2), lp]
      · rw [keyBlock, if_neg (by rintro rfl; simp at h2), List.take_of_length_le (by omega)]
    · have h2 : key = [] := List.eq_nil_of_length_eq_zero (by have := of_decide_eq_false h; omega)
      simp (maxSteps := 2000000) (disch := first | assumption | omega | (simp only [nx_push, nx_set, ne_eq] <;> omega) | (simp only [XSide, F105]; done) | decide) only [XWalk, XSl, ↓XPre, reduceIte, Nat.reduceEqDiff, Nat.reduceLT, Nat.reduceAdd, Nat.reduceSub, Nat.reduceMul, Nat.reduceBEq, reduceCtorEq, Int.reduceAdd, Int.reduceSub, Int.reduceMul, Int.reduceLT, Int.reduceLE, Int.reduceGT, Int.reduceGE, Int.reduceEq, Int.reduceNe, Int.reduceBEq, Int.reduceBNe, Int.reduceTMod, Int.reduceTDiv, ↓if_true, ↓if_false, F105, A105, if_neg h1]
      refine ⟨_, rfl, m1.next, rfl, by omega, key0 key.length, List.replicate 64 0, 0, 0, 0, get_set_self, lk, lz, Nat.zero_le _, ?_, fun more => ?_⟩
      · rw [keyBlock, if_pos h2]; rfl
      · rw [keyBlock, if_pos h2]; rfl

theorem IsHash.frame {m m' : Mem} {n0 : Nat} {k : List UInt32} {p : List UInt8} {v : Value} (hw : WF m) (h : IsHash n0 k p v m) (hf : ∀ b, b < m.next → m'.get b = m.get b) : IsHash n0 k p v m' := by
  obtain ⟨hb, rfl, h1, h2⟩ := h
  exact ⟨hb, rfl, h1, h2.frame (hf _ (h2.lt hw))⟩

/-- Appending bytes. -/
theorem hwrite_ct {m : Mem} (hw : WF m) {hb : Nat} {v : Value} {k : List UInt32} {p l : List UInt8} (hh : HashAt m hb k p) (hv : Bs m v l) (hne : slBlk v ≠ some hb) (hlen : p.length + l.length ≤ 1099511627776) :
    Ct Tryz.prog S0 118 [.pointer (some ⟨hb, 0, none⟩), v] m [hb] (fun out m' => out = .ret (.int .i64 0) ∧ HashAt m' hb k (p ++ l)) := by
  have hblt := hh.lt hw
  refine ct_x (spec0 _) (by rfl) Tryz.func118 rfl ?_
  simp (maxSteps := 2000000) (disch := first | assumption | omega | (simp only [nx_push, nx_set, ne_eq] <;> omega) | (simp only [XSide, F118]; done) | decide) only [XWalk, XSl, ↓XPre, reduceIte, Nat.reduceEqDiff, Nat.reduceLT, Nat.reduceAdd, Nat.reduceSub, Nat.reduceMul, Nat.reduceBEq, reduceCtorEq, Int.reduceAdd, Int.reduceSub, Int.reduceMul, Int.reduceLT, Int.reduceLE, Int.reduceGT, Int.reduceGE, Int.reduceEq, Int.reduceNe, Int.reduceBEq, Int.reduceBNe, Int.reduceTMod, Int.reduceTDiv, ↓if_true, ↓if_false, F118, A118, Tryz.ntmps118]
  refine wcall_pu (pu_of (hnone_ct hh)) ?_
  have ho : oneCell v = true := by rcases hv.shape with ⟨rfl, _⟩ | ⟨a, c, rfl⟩ <;> rfl
  simp (maxSteps := 2000000) (disch := first | assumption | omega | (simp only [nx_push, nx_set, ne_eq] <;> omega) | (simp only [XSide, F118]; done) | decide) only [XWalk, XSl, ↓XPre, reduceIte, Nat.reduceEqDiff, Nat.reduceLT, Nat.reduceAdd, Nat.reduceSub, Nat.reduceMul, Nat.reduceBEq, reduceCtorEq, Int.reduceAdd, Int.reduceSub, Int.reduceMul, Int.reduceLT, Int.reduceLE, Int.reduceGT, Int.reduceGE, Int.reduceEq, Int.reduceNe, Int.reduceBEq, Int.reduceBNe, Int.reduceTMod, Int.reduceTDiv, ↓if_true, ↓if_false, F118, A118]
  have hv1 : ∀ o, Bs (m.push o) v l := fun o => hv.keep (Keep.push hw)
  refine wcall_of specLoc (absorb_ct (k := k) (p := p) (l := l) (v := v) (kd := .rw) hw.push (hh.frame (by rw [get_push_ne (by omega)])) get_push_self (hv1 _) hne (by omega) hlen) hw.push (fun b hb' hlt => hb') ?_
  rintro out m2 wr hwr hw2 hn2 hf2 _ ⟨rfl, hh2⟩
  obtain ⟨H, R, used, done, cnt, hm, hs⟩ := hh2
  have hv2 : Bs m2 v l := (hv1 _).frame_at fun b hb' => hf2 b (by have := (hv1 (.row [v] .rw)).blk_lt hw.push hb'; omega) (by rintro h; simp at h; exact hne (by rw [← h]; exact hb'))
  have owr : OkW m.next [hb] wr := fun b hb' hlt => hwr b hb'
  simp (maxSteps := 2000000) (disch := first | assumption | omega | (simp only [nx_push, nx_set, ne_eq] <;> omega) | (simp only [XSide, F118]; done) | decide) only [XWalk, XSl, ↓XPre, reduceIte, Nat.reduceEqDiff, Nat.reduceLT, Nat.reduceAdd, Nat.reduceSub, Nat.reduceMul, Nat.reduceBEq, reduceCtorEq, Int.reduceAdd, Int.reduceSub, Int.reduceMul, Int.reduceLT, Int.reduceLE, Int.reduceGT, Int.reduceGE, Int.reduceEq, Int.reduceNe, Int.reduceBEq, Int.reduceBNe, Int.reduceTMod, Int.reduceTDiv, ↓if_true, ↓if_false, F118, A118, owr, hm, hr74 hs.lH hs.lR, alen_bs hv2, hr_len hs.lH hs.lR]
  exact ⟨H, R, used, done, _, by rw [get_set_self, hr_set74 hs.lH hs.lR], hs⟩

/-- A copy. -/
theorem hcopy_ct {m : Mem} (hw : WF m) {hb : Nat} {k : List UInt32} {p : List UInt8} (hh : HashAt m hb k p) : Ct Tryz.prog S0 119 [.pointer (some ⟨hb, 0, none⟩)] m [] (Rv (IsHash m.next k p)) := by
  have hblt := hh.lt hw
  refine ct_x (spec0 _) (by rfl) Tryz.func119 rfl ?_
  simp (maxSteps := 2000000) (disch := first | assumption | omega | (simp only [nx_push, nx_set, ne_eq] <;> omega) | (simp only [XSide, F119]; done) | decide) only [XWalk, XSl, ↓XPre, reduceIte, Nat.reduceEqDiff, Nat.reduceLT, Nat.reduceAdd, Nat.reduceSub, Nat.reduceMul, Nat.reduceBEq, reduceCtorEq, Int.reduceAdd, Int.reduceSub, Int.reduceMul, Int.reduceLT, Int.reduceLE, Int.reduceGT, Int.reduceGE, Int.reduceEq, Int.reduceNe, Int.reduceBEq, Int.reduceBNe, Int.reduceTMod, Int.reduceTDiv, ↓if_true, ↓if_false, F119, A119, Tryz.ntmps119]
  refine wcall_pu (pu_of (hnone_ct hh)) ?_
  obtain ⟨H, R, used, done, cnt, hm, hs⟩ := hh
  have l76 : loadN (hashRow H R used done cnt) 0 76 = some (hashRow H R used done cnt) := loadN_all (hr_len hs.lH hs.lR)
  have b76 : Nat.beq (hashRow H R used done cnt).length 76 = true := by rw [hr_len hs.lH hs.lR]; rfl
  have hone : (hashRow H R used done cnt).all oneCell = true := by
    unfold hashRow
    rw [List.all_append, List.all_append, show (w32s H).all oneCell = true from w32s_one', u8s_one]; rfl
  have hlen := hr_len (used := used) (done := done) (cnt := cnt) hs.lH hs.lR
  simp (maxSteps := 2000000) (disch := first | assumption | omega | (simp only [nx_push, nx_set, ne_eq] <;> omega) | (simp only [XSide, F119]; done) | decide) only [XWalk, XSl, ↓XPre, reduceIte, Nat.reduceEqDiff, Nat.reduceLT, Nat.reduceAdd, Nat.reduceSub, Nat.reduceMul, Nat.reduceBEq, reduceCtorEq, Int.reduceAdd, Int.reduceSub, Int.reduceMul, Int.reduceLT, Int.reduceLE, Int.reduceGT, Int.reduceGE, Int.reduceEq, Int.reduceNe, Int.reduceBEq, Int.reduceBNe, Int.reduceTMod, Int.reduceTDiv, ↓if_true, ↓if_false, F119, A119, hm, loadRow_agg, l76, b76]
  exact ⟨_, rfl, m.next, rfl, Nat.le_refl _, H, R, used, done, cnt, get_set_self, hs⟩

theorem zload : loadN [Value.int .u8 0, Value.int .u8 0, Value.int .u8 0, Value.int .u8 0, Value.int .u8 0, Value.int .u8 0, Value.int .u8 0, Value.int .u8 0, Value.int .u8 0, Value.int .u8 0, Value.int .u8 0, Value.int .u8 0, Value.int .u8 0, Value.int .u8 0, Value.int .u8 0, Value.int .u8 0, Value.int .u8 0, Value.int .u8 0, Value.int .u8 0, Value.int .u8 0, Value.int .u8 0, Value.int .u8 0, Value.int .u8 0, Value.int .u8 0, Value.int .u8 0, Value.int .u8 0, Value.int .u8 0, Value.int .u8 0, Value.int .u8 0, Value.int .u8 0, Value.int .u8 0, Value.int .u8 0] 0 32 = some [Value.int .u8 0, Value.int .u8 0, Value.int .u8 0, Value.int .u8 0, Value.int .u8 0, Value.int .u8 0, Value.int .u8 0, Value.int .u8 0, Value.int .u8 0, Value.int .u8 0, Value.int .u8 0, Value.int .u8 0, Value.int .u8 0, Value.int .u8 0, Value.int .u8 0, Value.int .u8 0, Value.int .u8 0, Value.int .u8 0, Value.int .u8 0, Value.int .u8 0, Value.int .u8 0, Value.int .u8 0, Value.int .u8 0, Value.int .u8 0, Value.int .u8 0, Value.int .u8 0, Value.int .u8 0, Value.int .u8 0, Value.int .u8 0, Value.int .u8 0, Value.int .u8 0, Value.int .u8 0] := id rfl

theorem abuild77 : abuild Tryz.prog 77 [] = some (.agg (u8s (List.replicate 32 0)).toArray) := by kernel_rfl

theorem hash_ct {m : Mem} (hw : WF m) {kv v : Value} {key l : List UInt8} {pb pc : Nat} {kd : Kind} (hk : Bs m kv key) (hp : m.get pb = some (.row [v] kd)) (hv : Bs m v l) (hkl : key.length < 2147483648) (hlen : l.length ≤ 1099511627000) : Ct Tryz.prog S0 77 [kv, .slice (some ⟨pb, 0, none⟩) 1 pc] m []
    (fun out m' => out = .ret (if 32 < key.length then .tuple #[.agg (u8s (List.replicate 32 0)).toArray, .int .i64 2] else .tuple #[.agg (u8s (blakeB key l)).toArray, .int .i64 0])) := by
  have hpb : pb < m.next := hw.lt (by rw [hp]; simp)
  refine ct_x (spec0 _) (by rfl) Tryz.func77 rfl ?_
  simp (maxSteps := 2000000) (disch := first | assumption | omega | (simp only [nx_push, nx_set, ne_eq] <;> omega) | (simp only [XSide, F77]; done) | decide) only [XWalk, XSl, ↓XPre, reduceIte, Nat.reduceEqDiff, Nat.reduceLT, Nat.reduceAdd, Nat.reduceSub, Nat.reduceMul, Nat.reduceBEq, reduceCtorEq, Int.reduceAdd, Int.reduceSub, Int.reduceMul, Int.reduceLT, Int.reduceLE, Int.reduceGT, Int.reduceGE, Int.reduceEq, Int.reduceNe, Int.reduceBEq, Int.reduceBNe, Int.reduceTMod, Int.reduceTDiv, ↓if_true, ↓if_false, F77, A77, Tryz.ntmps77]
  refine wcall_x specLoc (hnew_ct hw.push (hk.keep (Keep.push hw)) hkl) hw.push ?_
  intro out m1 hw1 hn1 f1 hr
  simp only [Mem.next_push] at hn1 f1
  have hv1 : Bs m1 v l := hv.frame_at fun b hb => by have := hv.blk_lt hw hb; rw [f1 b (by omega), get_push_ne (by omega)]
  have hp1 : m1.get pb = some (.row [v] kd) := by rw [f1 pb (by omega), get_push_ne (by omega)]; exact hp
  have hz1 : m1.get m.next = some (.row (u8s (List.replicate 32 0)) .rw) := by rw [f1 _ (by omega), get_push_self]; rfl
  have l32 : ∀ x : List UInt8, x.length = 32 → loadN (u8s x) 0 32 = some (u8s x) := fun x hx => loadN_all (by rw [u8s_length]; exact hx)
  have b32 : ∀ x : List UInt8, x.length = 32 → Nat.beq (u8s x).length 32 = true := fun x hx => by rw [u8s_length, hx]; rfl
  have o32 : ∀ x : List UInt8, (u8s x).all oneCell = true := fun x => u8s_one
  have s32 : ∀ x : List UInt8, x.length = 32 → (u8s x).length = (u8s (List.replicate 32 0)).length := fun x hx => by rw [u8s_length, hx]; rfl
  have z32 : (List.replicate 32 (0 : UInt8)).length = 32 := List.length_replicate
  by_cases h1 : 32 < key.length
  · rw [if_pos h1] at hr
    subst hr
    have o := o32 (List.replicate 32 0)
    have s := s32 _ z32
    simp (maxSteps := 2000000) (disch := first | assumption | omega | (simp only [nx_push, nx_set, ne_eq] <;> omega) | (simp only [XSide, F77]; done) | decide) only [XWalk, XSl, ↓XPre, reduceIte, Nat.reduceEqDiff, Nat.reduceLT, Nat.reduceAdd, Nat.reduceSub, Nat.reduceMul, Nat.reduceBEq, reduceCtorEq, Int.reduceAdd, Int.reduceSub, Int.reduceMul, Int.reduceLT, Int.reduceLE, Int.reduceGT, Int.reduceGE, Int.reduceEq, Int.reduceNe, Int.reduceBEq, Int.reduceBNe, Int.reduceTMod, Int.reduceTDiv, ↓if_true, ↓if_false, F77, A77, abuild77, hz1, b32 _ z32, loadRow_agg, l32 _ z32, if_pos h1, zload]
    rfl
  · rw [if_neg h1] at hr
    obtain ⟨hp', rfl, hb, rfl, hbn, hh⟩ := hr
    simp (maxSteps := 2000000) (disch := first | assumption | omega | (simp only [nx_push, nx_set, ne_eq] <;> omega) | (simp only [XSide, F77]; done) | decide) only [XWalk, XSl, ↓XPre, reduceIte, Nat.reduceEqDiff, Nat.reduceLT, Nat.reduceAdd, Nat.reduceSub, Nat.reduceMul, Nat.reduceBEq, reduceCtorEq, Int.reduceAdd, Int.reduceSub, Int.reduceMul, Int.reduceLT, Int.reduceLE, Int.reduceGT, Int.reduceGE, Int.reduceEq, Int.reduceNe, Int.reduceBEq, Int.reduceBNe, Int.reduceTMod, Int.reduceTDiv, ↓if_true, ↓if_false, F77, A77]
    have hl0 : (keyBlock key).length ≤ 64 := by
      unfold keyBlock
      split
      · simp
      · rw [pad64, List.length_append, List.length_replicate]; omega
    simp only [Mem.next_push] at hbn
    refine wcall_of specLoc (absorb_ct (k := key0 key.length) (p := keyBlock key) (l := l) (v := v) (kd := kd) (pb := pb) hw1 hh hp1 hv1 (fun hc => by have := hv.blk_lt hw hc; omega) (by omega) (by omega)) hw1 (fun b hb' hlt => by simp at hb'; omega) ?_
    rintro out m2 wr hwr hw2 hn2 hf2 _ ⟨rfl, hh2⟩
    have owr : OkW m.next [] wr := fun b hb' hlt => by have := hwr b hb'; simp at this; omega
    simp (maxSteps := 2000000) (disch := first | assumption | omega | (simp only [nx_push, nx_set, ne_eq] <;> omega) | (simp only [XSide, F77]; done) | decide) only [XWalk, XSl, ↓XPre, reduceIte, Nat.reduceEqDiff, Nat.reduceLT, Nat.reduceAdd, Nat.reduceSub, Nat.reduceMul, Nat.reduceBEq, reduceCtorEq, Int.reduceAdd, Int.reduceSub, Int.reduceMul, Int.reduceLT, Int.reduceLE, Int.reduceGT, Int.reduceGE, Int.reduceEq, Int.reduceNe, Int.reduceBEq, Int.reduceBNe, Int.reduceTMod, Int.reduceTDiv, ↓if_true, ↓if_false, F77, A77, owr]
    refine wcall_x specLoc (hsum_ct hw2 hh2 (by rw [List.length_append]; omega)) hw2 ?_
    rintro out m3 hw3 hn3 f3 rfl
    have hz3 : m3.get m.next = some (.row (u8s (List.replicate 32 0)) .rw) := by rw [f3 _ (by omega), hf2 _ (by omega) (by simp; omega)]; exact hz1
    have e : wordsB (hashFin (key0 key.length) 0 (keyBlock key ++ l)) = blakeB key l := rfl
    have lb := blakeB_length (key := key) (d := l)
    have o := o32 (blakeB key l)
    have s := s32 _ lb
    simp (maxSteps := 2000000) (disch := first | assumption | omega | (simp only [nx_push, nx_set, ne_eq] <;> omega) | (simp only [XSide, F77]; done) | decide) only [XWalk, XSl, ↓XPre, reduceIte, Nat.reduceEqDiff, Nat.reduceLT, Nat.reduceAdd, Nat.reduceSub, Nat.reduceMul, Nat.reduceBEq, reduceCtorEq, Int.reduceAdd, Int.reduceSub, Int.reduceMul, Int.reduceLT, Int.reduceLE, Int.reduceGT, Int.reduceGE, Int.reduceEq, Int.reduceNe, Int.reduceBEq, Int.reduceBNe, Int.reduceTMod, Int.reduceTDiv, ↓if_true, ↓if_false, F77, A77, e, hz3, b32 _ lb, loadRow_agg, l32 _ lb, if_neg h1]

theorem bsum_ct {m : Mem} (hw : WF m) {v : Value} {l : List UInt8} (hv : Bs m v l) (hlen : l.length ≤ 1099511627000) : Ct Tryz.prog S0 39 [v] m [] (fun out m' => out = .ret (.agg (u8s (blakeB [] l)).toArray)) := by
  refine ct_x (spec0 _) (by rfl) Tryz.func39 rfl ?_
  have ho : oneCell v = true := by rcases hv.shape with ⟨rfl, _⟩ | ⟨a, c, rfl⟩ <;> rfl
  simp (maxSteps := 2000000) (disch := first | assumption | omega | (simp only [nx_push, nx_set, ne_eq] <;> omega) | (simp only [XSide, F39]; done) | decide) only [XWalk, XSl, ↓XPre, reduceIte, Nat.reduceEqDiff, Nat.reduceLT, Nat.reduceAdd, Nat.reduceSub, Nat.reduceMul, Nat.reduceBEq, reduceCtorEq, Int.reduceAdd, Int.reduceSub, Int.reduceMul, Int.reduceLT, Int.reduceLE, Int.reduceGT, Int.reduceGE, Int.reduceEq, Int.reduceNe, Int.reduceBEq, Int.reduceBNe, Int.reduceTMod, Int.reduceTDiv, ↓if_true, ↓if_false, F39, A39, Tryz.ntmps39]
  have hv1 : ∀ o o', Bs ((m.push o).push o') v l := fun o o' => (hv.keep (Keep.push hw)).keep (Keep.push hw.push)
  refine wcall_x specLoc (hash_ct (key := []) (v := v) (l := l) (kd := .rw) hw.push.push .nil (by simp (maxSteps := 2000000) (disch := first | assumption | omega | (simp only [nx_push, nx_set, ne_eq] <;> omega) | (simp only [XSide]; done) | decide) only [XWalk, XSl, ↓XPre, reduceIte, Nat.reduceEqDiff, Nat.reduceLT, Nat.reduceAdd, Nat.reduceSub, Nat.reduceMul, Nat.reduceBEq, reduceCtorEq, Int.reduceAdd, Int.reduceSub, Int.reduceMul, Int.reduceLT, Int.reduceLE, Int.reduceGT, Int.reduceGE, Int.reduceEq, Int.reduceNe, Int.reduceBEq, Int.reduceBNe, Int.reduceTMod, Int.reduceTDiv, ↓if_true, ↓if_false]) (hv1 _ _) (by simp) hlen) hw.push.push ?_
  rintro out m1 hw1 hn1 f1 rfl
  simp only [Mem.next_push] at hn1 f1
  have hz1 : m1.get m.next = some (.row (u8s (List.replicate 32 0)) .rw) := by rw [f1 _ (by omega), get_push_ne (by simp), get_push_self]; rfl
  have lb := blakeB_length (key := []) (d := l)
  have b := (show Nat.beq (u8s (blakeB [] l)).length 32 = true by rw [u8s_length, lb]; rfl)
  have o := (show (u8s (blakeB [] l)).all oneCell = true from u8s_one)
  have s := (show (u8s (blakeB [] l)).length = 32 by rw [u8s_length, lb])
  have s' := (show (u8s (blakeB [] l)).length = (u8s (List.replicate 32 0)).length by rw [u8s_length, lb]; rfl)
  have ld := (show loadN (u8s (blakeB [] l)) 0 32 = some (u8s (blakeB [] l)) from loadN_all s)
  simp (maxSteps := 2000000) (disch := first | assumption | omega | (simp only [nx_push, nx_set, ne_eq] <;> omega) | (simp only [XSide, F39]; done) | decide) only [XWalk, XSl, ↓XPre, reduceIte, Nat.reduceEqDiff, Nat.reduceLT, Nat.reduceAdd, Nat.reduceSub, Nat.reduceMul, Nat.reduceBEq, reduceCtorEq, Int.reduceAdd, Int.reduceSub, Int.reduceMul, Int.reduceLT, Int.reduceLE, Int.reduceGT, Int.reduceGE, Int.reduceEq, Int.reduceNe, Int.reduceBEq, Int.reduceBNe, Int.reduceTMod, Int.reduceTDiv, ↓if_true, ↓if_false, F39, A39, List.length_nil, b, loadRow_agg, ld, hz1, show (if 32 < 0 then Value.tuple #[Value.agg (u8s (List.replicate 32 0)).toArray, Value.int IntKind.i64 2] else Value.tuple #[Value.agg (u8s (blakeB [] l)).toArray, Value.int IntKind.i64 0]) = Value.tuple #[Value.agg (u8s (blakeB [] l)).toArray, Value.int IntKind.i64 0] from rfl]

theorem keyed_ct {m : Mem} (hw : WF m) {kv v : Value} {key l : List UInt8} (hk : Bs m kv key) (hv : Bs m v l) (hkl : key.length < 2147483648) (hlen : l.length ≤ 1099511627000) : Ct Tryz.prog S0 67 [kv, v] m []
    (fun out m' => out = .ret (if key.length = 0 ∨ 32 < key.length then .tuple #[.agg (u8s (List.replicate 32 0)).toArray, .int .i64 2] else .tuple #[.agg (u8s (blakeB key l)).toArray, .int .i64 0])) := by
  refine ct_x (spec0 _) (by rfl) Tryz.func67 rfl ?_
  have ho : oneCell v = true := by rcases hv.shape with ⟨rfl, _⟩ | ⟨a, c, rfl⟩ <;> rfl
  have hk1 : ∀ o, Bs (m.push o) kv key := fun o => hk.keep (Keep.push hw)
  have l32 : ∀ x : List UInt8, x.length = 32 → loadN (u8s x) 0 32 = some (u8s x) := fun x hx => loadN_all (by rw [u8s_length]; exact hx)
  have b32 : ∀ x : List UInt8, x.length = 32 → Nat.beq (u8s x).length 32 = true := fun x hx => by rw [u8s_length, hx]; rfl
  have o32 : ∀ x : List UInt8, (u8s x).all oneCell = true := fun x => u8s_one
  have s32 : ∀ x : List UInt8, x.length = 32 → (u8s x).length = (u8s (List.replicate 32 0)).length := fun x hx => by rw [u8s_length, hx]; rfl
  have s32' : ∀ x : List UInt8, x.length = 32 → (u8s x).length = 32 := fun x hx => by rw [u8s_length, hx]
  have z32 : (List.replicate 32 (0 : UInt8)).length = 32 := List.length_replicate
  have oz := o32 (List.replicate 32 0)
  have sz := s32 _ z32
  have sz' := s32' _ z32
  simp (maxSteps := 2000000) (disch := first | assumption | omega | (simp only [nx_push, nx_set, ne_eq] <;> omega) | (simp only [XSide, F67]; done) | decide) only [XWalk, XSl, ↓XPre, reduceIte, Nat.reduceEqDiff, Nat.reduceLT, Nat.reduceAdd, Nat.reduceSub, Nat.reduceMul, Nat.reduceBEq, reduceCtorEq, Int.reduceAdd, Int.reduceSub, Int.reduceMul, Int.reduceLT, Int.reduceLE, Int.reduceGT, Int.reduceGE, Int.reduceEq, Int.reduceNe, Int.reduceBEq, Int.reduceBNe, Int.reduceTMod, Int.reduceTDiv, ↓if_true, ↓if_false, F67, A67, Tryz.ntmps67, alen_bs (hk1 _)]
  refine x_if (fun h => ?_) (fun h => ?_)
  · have h1 : key.length = 0 := by simpa using h
    simp (maxSteps := 2000000) (disch := first | assumption | omega | (simp only [nx_push, nx_set, ne_eq] <;> omega) | (simp only [XSide, F67]; done) | decide) only [XWalk, XSl, ↓XPre, reduceIte, Nat.reduceEqDiff, Nat.reduceLT, Nat.reduceAdd, Nat.reduceSub, Nat.reduceMul, Nat.reduceBEq, reduceCtorEq, Int.reduceAdd, Int.reduceSub, Int.reduceMul, Int.reduceLT, Int.reduceLE, Int.reduceGT, Int.reduceGE, Int.reduceEq, Int.reduceNe, Int.reduceBEq, Int.reduceBNe, Int.reduceTMod, Int.reduceTDiv, ↓if_true, ↓if_false, F67, A67, abuild77, b32 _ z32, loadRow_agg, l32 _ z32, if_pos (show key.length = 0 ∨ 32 < key.length from .inl h1), zload]
    rfl
  · have h1 : key.length ≠ 0 := by simpa using h
    simp (maxSteps := 2000000) (disch := first | assumption | omega | (simp only [nx_push, nx_set, ne_eq] <;> omega) | (simp only [XSide, F67]; done) | decide) only [XWalk, XSl, ↓XPre, reduceIte, Nat.reduceEqDiff, Nat.reduceLT, Nat.reduceAdd, Nat.reduceSub, Nat.reduceMul, Nat.reduceBEq, reduceCtorEq, Int.reduceAdd, Int.reduceSub, Int.reduceMul, Int.reduceLT, Int.reduceLE, Int.reduceGT, Int.reduceGE, Int.reduceEq, Int.reduceNe, Int.reduceBEq, Int.reduceBNe, Int.reduceTMod, Int.reduceTDiv, ↓if_true, ↓if_false, F67, A67]
    have hk2 : ∀ o o', Bs ((m.push o).push o') kv key := fun o o' => (hk1 o).keep (Keep.push hw.push)
    have hv2 : ∀ o o', Bs ((m.push o).push o') v l := fun o o' => (hv.keep (Keep.push hw)).keep (Keep.push hw.push)
    refine wcall_x specLoc (hash_ct (key := key) (v := v) (l := l) (kd := .rw) hw.push.push (hk2 _ _) (by simp (maxSteps := 2000000) (disch := first | assumption | omega | (simp only [nx_push, nx_set, ne_eq] <;> omega) | (simp only [XSide]; done) | decide) only [XWalk, XSl, ↓XPre, reduceIte, Nat.reduceEqDiff, Nat.reduceLT, Nat.reduceAdd, Nat.reduceSub, Nat.reduceMul, Nat.reduceBEq, reduceCtorEq, Int.reduceAdd, Int.reduceSub, Int.reduceMul, Int.reduceLT, Int.reduceLE, Int.reduceGT, Int.reduceGE, Int.reduceEq, Int.reduceNe, Int.reduceBEq, Int.reduceBNe, Int.reduceTMod, Int.reduceTDiv, ↓if_true, ↓if_false]) (hv2 _ _) hkl hlen) hw.push.push ?_
    rintro out m1 hw1 hn1 f1 rfl
    simp only [Mem.next_push] at hn1 f1
    have hz1 : m1.get m.next = some (.row (u8s (List.replicate 32 0)) .rw) := by rw [f1 _ (by omega), get_push_ne (by simp), get_push_self]; rfl
    by_cases h2 : 32 < key.length
    · rw [if_pos h2]
      simp (maxSteps := 2000000) (disch := first | assumption | omega | (simp only [nx_push, nx_set, ne_eq] <;> omega) | (simp only [XSide, F67]; done) | decide) only [XWalk, XSl, ↓XPre, reduceIte, Nat.reduceEqDiff, Nat.reduceLT, Nat.reduceAdd, Nat.reduceSub, Nat.reduceMul, Nat.reduceBEq, reduceCtorEq, Int.reduceAdd, Int.reduceSub, Int.reduceMul, Int.reduceLT, Int.reduceLE, Int.reduceGT, Int.reduceGE, Int.reduceEq, Int.reduceNe, Int.reduceBEq, Int.reduceBNe, Int.reduceTMod, Int.reduceTDiv, ↓if_true, ↓if_false, F67, A67, hz1, b32 _ z32, loadRow_agg, l32 _ z32, if_pos (show key.length = 0 ∨ 32 < key.length from .inr h2)]
    · rw [if_neg h2]
      have lb := blakeB_length (key := key) (d := l)
      have ob := o32 (blakeB key l)
      have sb := s32 _ lb
      have sb' := s32' _ lb
      simp (maxSteps := 2000000) (disch := first | assumption | omega | (simp only [nx_push, nx_set, ne_eq] <;> omega) | (simp only [XSide, F67]; done) | decide) only [XWalk, XSl, ↓XPre, reduceIte, Nat.reduceEqDiff, Nat.reduceLT, Nat.reduceAdd, Nat.reduceSub, Nat.reduceMul, Nat.reduceBEq, reduceCtorEq, Int.reduceAdd, Int.reduceSub, Int.reduceMul, Int.reduceLT, Int.reduceLE, Int.reduceGT, Int.reduceGE, Int.reduceEq, Int.reduceNe, Int.reduceBEq, Int.reduceBNe, Int.reduceTMod, Int.reduceTDiv, ↓if_true, ↓if_false, F67, A67, hz1, b32 _ lb, loadRow_agg, l32 _ lb, if_neg (show ¬ (key.length = 0 ∨ 32 < key.length) by omega)]

end Go.Big
