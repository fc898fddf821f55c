/- The reference's hash. -/
import Derived.Test.YtobhnnbdobphfaaGreatDoorJoined12
set_option linter.unusedSimpArgs false
set_option linter.unusedVariables false
set_option linter.unusedSimpArgs false
set_option linter.unusedVariables false
set_option maxRecDepth 100000
set_option maxHeartbeats 4000000
namespace Go.Big
open Go.Proofs

/-- Bytes made as many as whole blocks. -/
def fillB (d : List UInt8) : List UInt8 := d ++ List.replicate (if d.length = 0 then 64 else (64 - d.length % 64) % 64) 0

theorem hashFin_step {H : List UInt32} {at_ : Nat} {d : List UInt8} (h : 64 < d.length) : hashFin H at_ d = hashFin (compressW H (d.take 64) (at_ + 64) false) (at_ + 64) (d.drop 64) := by
  rw [hashFin, if_neg (by omega)]
theorem hashFin_last {H : List UInt32} {at_ : Nat} {d : List UInt8} (h : d.length ≤ 64) : hashFin H at_ d = compressW H (pad64 d) (at_ + d.length) true := by
  rw [hashFin, if_pos h]

theorem key0_int {n : Nat} : xorI .u32 ((UInt32.toNat 1779033703 : Nat) : Int) ((16842784 + ((UInt32.ofNat n).toNat : Int) * 256 % 4294967296) % 4294967296) = ((((0x6a09e667 : UInt32) ^^^ ((0x01010020 : UInt32) + ((UInt32.ofNat n) <<< (8 : UInt32)))).toNat : Nat) : Int) := by
  have h1 : ((UInt32.ofNat n).toNat : Int) * 256 % 4294967296 = (((UInt32.ofNat n) <<< (8 : UInt32)).toNat : Int) := by
    have := shl8 (UInt32.ofNat n)
    rw [← this]
    unfold shlK
    rw [wrap_u32]
    rfl
  rw [h1]
  have h2 : ((16842784 + (((UInt32.ofNat n) <<< (8 : UInt32)).toNat : Int)) % 4294967296) = (((0x01010020 : UInt32) + ((UInt32.ofNat n) <<< (8 : UInt32))).toNat : Int) := addI_32 0x01010020 _
  rw [h2]
  exact xorI_32 _ _

theorem rhash_ct {m : Mem} (hw : WF m) {kv dv : Value} {key d : List UInt8} (hk : Bs m kv key) (lk : key.length ≤ 32) (hd : Bs m dv d) (ld : d.length ≤ 1000000000) :
    Ct Tryz.prog S0 73 [kv, dv] m [] (Rv fun v m' => Ab m' m.next v (blakeB key d)) := by
  refine ct_x (spec0 _) (by rfl) Tryz.func73 rfl ?_
  simp (maxSteps := 2000000) (disch := first | assumption | omega | (simp only [nx_push, nx_set, ne_eq] <;> omega) | (simp only [XSide, F73]; done) | decide) only [XWalk, XSl, ↓XPre, reduceIte, Nat.reduceEqDiff, Nat.reduceLT, Nat.reduceAdd, Nat.reduceSub, Nat.reduceMul, Nat.reduceBEq, reduceCtorEq, Int.reduceAdd, Int.reduceSub, Int.reduceMul, Int.reduceLT, Int.reduceLE, Int.reduceGT, Int.reduceGE, Int.reduceEq, Int.reduceNe, Int.reduceBEq, Int.reduceBNe, Int.reduceTMod, Int.reduceTDiv, ↓if_true, ↓if_false, F73, A73, Tryz.ntmps73, alen_bs hk]
  refine x_join (fun e m1 => ∃ mv, e.n = 109 ∧ e.get 0 = kv ∧ e.get 1 = dv ∧ e.get 5 = mv ∧ WF m1 ∧ m.next ≤ m1.next ∧ (∀ b, b < m.next → m1.get b = m.get b) ∧ Ab m1 m.next mv (if key = [] then [] else pad64 key)) (fun hx => ?_) (fun hx => ?_) ?_
  · have hkl : 0 < key.length := by have := of_decide_eq_true hx; omega
    have hkn : key ≠ [] := by intro e; rw [e] at hkl; simp at hkl
    simp (maxSteps := 2000000) (disch := first | assumption | omega | (simp only [nx_push, nx_set, ne_eq] <;> omega) | (simp only [XSide, F73]; done) | decide) only [XWalk, XSl, ↓XPre, reduceIte, Nat.reduceEqDiff, Nat.reduceLT, Nat.reduceAdd, Nat.reduceSub, Nat.reduceMul, Nat.reduceBEq, reduceCtorEq, Int.reduceAdd, Int.reduceSub, Int.reduceMul, Int.reduceLT, Int.reduceLE, Int.reduceGT, Int.reduceGE, Int.reduceEq, Int.reduceNe, Int.reduceBEq, Int.reduceBNe, Int.reduceTMod, Int.reduceTDiv, ↓if_true, ↓if_false, F73, A73]
    refine wappend (bytes := 1) (a := []) (by simp only [F73]) (.nil (n0 := m.next)) hk (by rw [List.length_nil]; omega) (Nat.le_refl _) hw fun v1 m1 w1 ha1 ok1 => ?_
    rw [List.nil_append] at ha1
    simp (maxSteps := 2000000) (disch := first | assumption | omega | (simp only [nx_push, nx_set, ne_eq] <;> omega) | (simp only [XSide, F73]; done) | decide) only [XWalk, XSl, ↓XPre, reduceIte, Nat.reduceEqDiff, Nat.reduceLT, Nat.reduceAdd, Nat.reduceSub, Nat.reduceMul, Nat.reduceBEq, reduceCtorEq, Int.reduceAdd, Int.reduceSub, Int.reduceMul, Int.reduceLT, Int.reduceLE, Int.reduceGT, Int.reduceGE, Int.reduceEq, Int.reduceNe, Int.reduceBEq, Int.reduceBNe, Int.reduceTMod, Int.reduceTDiv, ↓if_true, ↓if_false, F73, A73, ok1 m.next [] (Nat.le_refl _)]
    refine x_loop (fun k e m2 => ∃ i mv, i + k = 64 ∧ key.length ≤ i ∧ e.n = 109 ∧ e.get 0 = kv ∧ e.get 1 = dv ∧ e.get 5 = mv ∧ WF m2 ∧ m.next ≤ m2.next ∧ (∀ b, b < m.next → m2.get b = m.get b) ∧ Ab m2 m.next mv (key ++ List.replicate (i - key.length) 0)) (64 - key.length)
      ⟨key.length, v1, by omega, by omega, by simp (maxSteps := 2000000) (disch := first | assumption | omega | (simp only [nx_push, nx_set, ne_eq] <;> omega) | (simp only [XSide]; done) | decide) only [XWalk, XSl, ↓XPre, reduceIte, Nat.reduceEqDiff, Nat.reduceLT, Nat.reduceAdd, Nat.reduceSub, Nat.reduceMul, Nat.reduceBEq, reduceCtorEq, Int.reduceAdd, Int.reduceSub, Int.reduceMul, Int.reduceLT, Int.reduceLE, Int.reduceGT, Int.reduceGE, Int.reduceEq, Int.reduceNe, Int.reduceBEq, Int.reduceBNe, Int.reduceTMod, Int.reduceTDiv, ↓if_true, ↓if_false], by simp (maxSteps := 2000000) (disch := first | assumption | omega | (simp only [nx_push, nx_set, ne_eq] <;> omega) | (simp only [XSide]; done) | decide) only [XWalk, XSl, ↓XPre, reduceIte, Nat.reduceEqDiff, Nat.reduceLT, Nat.reduceAdd, Nat.reduceSub, Nat.reduceMul, Nat.reduceBEq, reduceCtorEq, Int.reduceAdd, Int.reduceSub, Int.reduceMul, Int.reduceLT, Int.reduceLE, Int.reduceGT, Int.reduceGE, Int.reduceEq, Int.reduceNe, Int.reduceBEq, Int.reduceBNe, Int.reduceTMod, Int.reduceTDiv, ↓if_true, ↓if_false], by simp (maxSteps := 2000000) (disch := first | assumption | omega | (simp only [nx_push, nx_set, ne_eq] <;> omega) | (simp only [XSide]; done) | decide) only [XWalk, XSl, ↓XPre, reduceIte, Nat.reduceEqDiff, Nat.reduceLT, Nat.reduceAdd, Nat.reduceSub, Nat.reduceMul, Nat.reduceBEq, reduceCtorEq, Int.reduceAdd, Int.reduceSub, Int.reduceMul, Int.reduceLT, Int.reduceLE, Int.reduceGT, Int.reduceGE, Int.reduceEq, Int.reduceNe, Int.reduceBEq, Int.reduceBNe, Int.reduceTMod, Int.reduceTDiv, ↓if_true, ↓if_false], by simp (maxSteps := 2000000) (disch := first | assumption | omega | (simp only [nx_push, nx_set, ne_eq] <;> omega) | (simp only [XSide]; done) | decide) only [XWalk, XSl, ↓XPre, reduceIte, Nat.reduceEqDiff, Nat.reduceLT, Nat.reduceAdd, Nat.reduceSub, Nat.reduceMul, Nat.reduceBEq, reduceCtorEq, Int.reduceAdd, Int.reduceSub, Int.reduceMul, Int.reduceLT, Int.reduceLE, Int.reduceGT, Int.reduceGE, Int.reduceEq, Int.reduceNe, Int.reduceBEq, Int.reduceBNe, Int.reduceTMod, Int.reduceTDiv, ↓if_true, ↓if_false], ha1.wf, ha1.next, fun b hb => ha1.old (by simp [slBlk]) b hb hb, by rw [Nat.sub_self]; simpa using ha1.app⟩ ?_
    rintro k e m2 ⟨i, mv, hi, hki, he, q0, q1, q5, hw2, hn2, f2, hm2⟩
    have lmv : (key ++ List.replicate (i - key.length) (0 : UInt8)).length = i := by simp; omega
    simp (maxSteps := 2000000) (disch := first | assumption | omega | (simp only [nx_push, nx_set, ne_eq] <;> omega) | (simp only [XSide, F73]; done) | decide) only [XWalk, XSl, ↓XPre, reduceIte, Nat.reduceEqDiff, Nat.reduceLT, Nat.reduceAdd, Nat.reduceSub, Nat.reduceMul, Nat.reduceBEq, reduceCtorEq, Int.reduceAdd, Int.reduceSub, Int.reduceMul, Int.reduceLT, Int.reduceLE, Int.reduceGT, Int.reduceGE, Int.reduceEq, Int.reduceNe, Int.reduceBEq, Int.reduceBNe, Int.reduceTMod, Int.reduceTDiv, ↓if_true, ↓if_false, F73, A73, he, q5, alen_bs hm2.sl, lmv]
    refine x_if (fun hx => ?_) (fun hx => ?_)
    · have hi64 : i < 64 := by have := of_decide_eq_true hx; omega
      simp (maxSteps := 2000000) (disch := first | assumption | omega | (simp only [nx_push, nx_set, ne_eq] <;> omega) | (simp only [XSide, F73]; done) | decide) only [XWalk, XSl, ↓XPre, reduceIte, Nat.reduceEqDiff, Nat.reduceLT, Nat.reduceAdd, Nat.reduceSub, Nat.reduceMul, Nat.reduceBEq, reduceCtorEq, Int.reduceAdd, Int.reduceSub, Int.reduceMul, Int.reduceLT, Int.reduceLE, Int.reduceGT, Int.reduceGE, Int.reduceEq, Int.reduceNe, Int.reduceBEq, Int.reduceBNe, Int.reduceTMod, Int.reduceTDiv, ↓if_true, ↓if_false, F73, A73, he, q5]
      refine wappend (bytes := 1) (b := [0]) (by simp only [F73]) (hm2.keep (Keep.push hw2)) (Sl.of_row get_push_self rfl rfl (Nat.le_refl _)) (by rw [lmv]; simp; omega) (by simp; omega) hw2.push fun v3 m3 w3 ha3 ok3 => ?_
      simp (maxSteps := 2000000) (disch := first | assumption | omega | (simp only [nx_push, nx_set, ne_eq] <;> omega) | (simp only [XSide, F73]; done) | decide) only [XWalk, XSl, ↓XPre, reduceIte, Nat.reduceEqDiff, Nat.reduceLT, Nat.reduceAdd, Nat.reduceSub, Nat.reduceMul, Nat.reduceBEq, reduceCtorEq, Int.reduceAdd, Int.reduceSub, Int.reduceMul, Int.reduceLT, Int.reduceLE, Int.reduceGT, Int.reduceGE, Int.reduceEq, Int.reduceNe, Int.reduceBEq, Int.reduceBNe, Int.reduceTMod, Int.reduceTDiv, ↓if_true, ↓if_false, F73, A73, he, q0, q1, ok3 m.next [] (Nat.le_refl _)]
      refine ⟨k - 1, by omega, i + 1, v3, by omega, by omega, rfl, ha3.wf, by have := ha3.next; simp only [Mem.next_push] at this; omega, fun b hb => ?_, ?_⟩
      · rw [ha3.old (fun b hb => hm2.blk_ge hb) b hb (by simp; omega), get_push_ne (by omega)]; exact f2 b hb
      · have := ha3.app
        rw [List.append_assoc, ← List.replicate_succ', show i - key.length + 1 = i + 1 - key.length from by omega] at this
        exact this
    · have hk : i = 64 := by have := of_decide_eq_false hx; omega
      subst hk
      simp (maxSteps := 2000000) (disch := first | assumption | omega | (simp only [nx_push, nx_set, ne_eq] <;> omega) | (simp only [XSide, F73]; done) | decide) only [XWalk, XSl, ↓XPre, reduceIte, Nat.reduceEqDiff, Nat.reduceLT, Nat.reduceAdd, Nat.reduceSub, Nat.reduceMul, Nat.reduceBEq, reduceCtorEq, Int.reduceAdd, Int.reduceSub, Int.reduceMul, Int.reduceLT, Int.reduceLE, Int.reduceGT, Int.reduceGE, Int.reduceEq, Int.reduceNe, Int.reduceBEq, Int.reduceBNe, Int.reduceTMod, Int.reduceTDiv, ↓if_true, ↓if_false, F73, A73, he, q0, q1, q5]
      refine ⟨mv, rfl, hw2, hn2, f2, ?_⟩
      rw [if_neg hkn]
      exact hm2
  · have hkl : key.length = 0 := by have := of_decide_eq_false hx; omega
    have hkn : key = [] := List.eq_nil_of_length_eq_zero hkl
    simp (maxSteps := 2000000) (disch := first | assumption | omega | (simp only [nx_push, nx_set, ne_eq] <;> omega) | (simp only [XSide, F73]; done) | decide) only [XWalk, XSl, ↓XPre, reduceIte, Nat.reduceEqDiff, Nat.reduceLT, Nat.reduceAdd, Nat.reduceSub, Nat.reduceMul, Nat.reduceBEq, reduceCtorEq, Int.reduceAdd, Int.reduceSub, Int.reduceMul, Int.reduceLT, Int.reduceLE, Int.reduceGT, Int.reduceGE, Int.reduceEq, Int.reduceNe, Int.reduceBEq, Int.reduceBNe, Int.reduceTMod, Int.reduceTDiv, ↓if_true, ↓if_false, F73, A73]
    refine ⟨_, rfl, hw, Nat.le_refl _, fun _ _ => trivial, ?_⟩
    rw [if_pos hkn]
    exact .nil
  rintro e m1 ⟨mv, he, q0, q1, q5, hw1, hn1, f1, hm1⟩
  have hd1 : Bs m1 dv d := hd.frame_at fun c hc => f1 c (hd.blk_lt hw hc)
  simp (maxSteps := 2000000) (disch := first | assumption | omega | (simp only [nx_push, nx_set, ne_eq] <;> omega) | (simp only [XSide, F73]; done) | decide) only [XWalk, XSl, ↓XPre, reduceIte, Nat.reduceEqDiff, Nat.reduceLT, Nat.reduceAdd, Nat.reduceSub, Nat.reduceMul, Nat.reduceBEq, reduceCtorEq, Int.reduceAdd, Int.reduceSub, Int.reduceMul, Int.reduceLT, Int.reduceLE, Int.reduceGT, Int.reduceGE, Int.reduceEq, Int.reduceNe, Int.reduceBEq, Int.reduceBNe, Int.reduceTMod, Int.reduceTDiv, ↓if_true, ↓if_false, F73, A73, he, q1, q5]
  have lKB : (if key = [] then [] else pad64 key).length ≤ 64 := by
    split
    · simp
    · simp [pad64]; omega
  have hbl : blakeB key d = wordsB (hashFin (key0 key.length) 0 ((if key = [] then [] else pad64 key) ++ d)) := rfl
  rw [hbl]
  generalize (if key = [] then [] else pad64 key) = KB at *
  refine wappend (bytes := 1) (by simp only [F73]) hm1 hd1 (by omega) hn1 hw1 fun v2 m2 w2 ha2 ok2 => ?_
  have f2 : ∀ b, b < m.next → m2.get b = m.get b := fun b hb => by rw [ha2.old (fun b hb => hm1.blk_ge hb) b hb (by omega)]; exact f1 b hb
  have hn2 : m.next ≤ m2.next := by have := ha2.next; omega
  have hw2 := ha2.wf
  have ha2' := ha2.app
  have lD : (KB ++ d).length ≤ 1000000064 := by rw [List.length_append]; omega
  generalize KB ++ d = D at *
  simp (maxSteps := 2000000) (disch := first | assumption | omega | (simp only [nx_push, nx_set, ne_eq] <;> omega) | (simp only [XSide, F73]; done) | decide) only [XWalk, XSl, ↓XPre, reduceIte, Nat.reduceEqDiff, Nat.reduceLT, Nat.reduceAdd, Nat.reduceSub, Nat.reduceMul, Nat.reduceBEq, reduceCtorEq, Int.reduceAdd, Int.reduceSub, Int.reduceMul, Int.reduceLT, Int.reduceLE, Int.reduceGT, Int.reduceGE, Int.reduceEq, Int.reduceNe, Int.reduceBEq, Int.reduceBNe, Int.reduceTMod, Int.reduceTDiv, ↓if_true, ↓if_false, F73, A73, he, q0, q1, ok2 m.next [] (Nat.le_refl _)]
  refine wcall_x specLoc (ct_nil rwords_ct rfl) hw2 ?_
  rintro out m3 hw3 hn3 f3 ⟨rfl, rfl⟩
  have hk3 : ∀ o, Bs (m2.push o) kv key := fun o => hk.frame_at fun c hc => by rw [get_push_ne (by have := hk.blk_lt hw hc; omega)]; exact f2 c (hk.blk_lt hw hc)
  have hv3 : ∀ o o', Ab ((m2.push o).set m2.next o') m.next v2 D := fun o o' => (ha2'.keep (Keep.push hw2)).frame fun c hc => by rw [get_set_ne (by have := ha2'.blk_lt hw2 hc; omega)]
  have hki := key0_int (n := key.length)
  simp (maxSteps := 2000000) (disch := first | assumption | omega | (simp only [nx_push, nx_set, ne_eq] <;> omega) | (simp only [XSide, F73]; done) | decide) only [XWalk, XSl, ↓XPre, reduceIte, Nat.reduceEqDiff, Nat.reduceLT, Nat.reduceAdd, Nat.reduceSub, Nat.reduceMul, Nat.reduceBEq, reduceCtorEq, Int.reduceAdd, Int.reduceSub, Int.reduceMul, Int.reduceLT, Int.reduceLE, Int.reduceGT, Int.reduceGE, Int.reduceEq, Int.reduceNe, Int.reduceBEq, Int.reduceBNe, Int.reduceTMod, Int.reduceTDiv, ↓if_true, ↓if_false, F73, A73, he, q0, q1, w32s, ivW, alen_bs (hk3 _), mod32_of, alen_bs (hv3 _ _).sl, hki]
  obtain ⟨L, hL⟩ : ∃ L, L = if D.length = 0 then 64 else (D.length + 63) / 64 * 64 := ⟨_, rfl⟩
  have hL0 : D.length ≤ L ∧ 64 ≤ L ∧ L % 64 = 0 ∧ L ≤ 1000000200 ∧ (L = 64 ∨ L < D.length + 64) := by rw [hL]; split <;> omega
  obtain ⟨m4, hm4⟩ : ∃ m4, m4 = (m2.push (.row [w32 1779033703, w32 3144134277, w32 1013904242, w32 2773480762, w32 1359893119, w32 2600822924, w32 528734635, w32 1541459225] .rw)).set m2.next (.row ([w32 1779033703, w32 3144134277, w32 1013904242, w32 2773480762, w32 1359893119, w32 2600822924, w32 528734635, w32 1541459225].set 0 (.int .u32 ((((0x6a09e667 : UInt32) ^^^ ((0x01010020 : UInt32) + ((UInt32.ofNat key.length) <<< (8 : UInt32)))).toNat : Nat) : Int))) .rw) := ⟨_, rfl⟩
  have hw4 : WF m4 := by rw [hm4]; (repeat (first | exact hw2 | apply WF.push | (refine WF.set ?_ (by first | omega | (simp only [Mem.next_set, Mem.next_push]; omega)))))
  have hn4 : m4.next = m2.next + 1 := by rw [hm4]; rfl
  have f4 : ∀ b, b < m2.next → m4.get b = m2.get b := fun b hb => by rw [hm4, get_set_ne (by omega), get_push_ne (by omega)]
  have hh4 : m4.get m2.next = some (.row (w32s (key0 key.length)) .rw) := by rw [hm4, get_set_self]; rfl
  have hv4 : Ab m4 m.next v2 D := hm4 ▸ hv3 _ _
  rw [← hm4]
  clear hm4 hv3 hk3
  refine x_loop (fun k e m5 => ∃ i mv, D.length ≤ i ∧ i + k = L ∧ e.n = 109 ∧ e.get 5 = mv ∧ e.get 6 = .slice (some ⟨m2.next, 0, none⟩) 8 8 ∧ e.get 7 = .int .i64 (D.length : Int) ∧ WF m5 ∧ m4.next ≤ m5.next ∧ (∀ b, b < m.next → m5.get b = m.get b) ∧ m5.get m2.next = some (.row (w32s (key0 key.length)) .rw) ∧ Ab m5 m.next mv (D ++ List.replicate (i - D.length) 0) ∧ (∀ b, slBlk mv = some b → b ≠ m2.next)) (L - D.length)
    ⟨D.length, v2, Nat.le_refl _, by omega, by simp (maxSteps := 2000000) (disch := first | assumption | omega | (simp only [nx_push, nx_set, ne_eq] <;> omega) | (simp only [XSide]; done) | decide) only [XWalk, XSl, ↓XPre, reduceIte, Nat.reduceEqDiff, Nat.reduceLT, Nat.reduceAdd, Nat.reduceSub, Nat.reduceMul, Nat.reduceBEq, reduceCtorEq, Int.reduceAdd, Int.reduceSub, Int.reduceMul, Int.reduceLT, Int.reduceLE, Int.reduceGT, Int.reduceGE, Int.reduceEq, Int.reduceNe, Int.reduceBEq, Int.reduceBNe, Int.reduceTMod, Int.reduceTDiv, ↓if_true, ↓if_false, he], by simp (maxSteps := 2000000) (disch := first | assumption | omega | (simp only [nx_push, nx_set, ne_eq] <;> omega) | (simp only [XSide]; done) | decide) only [XWalk, XSl, ↓XPre, reduceIte, Nat.reduceEqDiff, Nat.reduceLT, Nat.reduceAdd, Nat.reduceSub, Nat.reduceMul, Nat.reduceBEq, reduceCtorEq, Int.reduceAdd, Int.reduceSub, Int.reduceMul, Int.reduceLT, Int.reduceLE, Int.reduceGT, Int.reduceGE, Int.reduceEq, Int.reduceNe, Int.reduceBEq, Int.reduceBNe, Int.reduceTMod, Int.reduceTDiv, ↓if_true, ↓if_false], by simp (maxSteps := 2000000) (disch := first | assumption | omega | (simp only [nx_push, nx_set, ne_eq] <;> omega) | (simp only [XSide]; done) | decide) only [XWalk, XSl, ↓XPre, reduceIte, Nat.reduceEqDiff, Nat.reduceLT, Nat.reduceAdd, Nat.reduceSub, Nat.reduceMul, Nat.reduceBEq, reduceCtorEq, Int.reduceAdd, Int.reduceSub, Int.reduceMul, Int.reduceLT, Int.reduceLE, Int.reduceGT, Int.reduceGE, Int.reduceEq, Int.reduceNe, Int.reduceBEq, Int.reduceBNe, Int.reduceTMod, Int.reduceTDiv, ↓if_true, ↓if_false], by simp (maxSteps := 2000000) (disch := first | assumption | omega | (simp only [nx_push, nx_set, ne_eq] <;> omega) | (simp only [XSide]; done) | decide) only [XWalk, XSl, ↓XPre, reduceIte, Nat.reduceEqDiff, Nat.reduceLT, Nat.reduceAdd, Nat.reduceSub, Nat.reduceMul, Nat.reduceBEq, reduceCtorEq, Int.reduceAdd, Int.reduceSub, Int.reduceMul, Int.reduceLT, Int.reduceLE, Int.reduceGT, Int.reduceGE, Int.reduceEq, Int.reduceNe, Int.reduceBEq, Int.reduceBNe, Int.reduceTMod, Int.reduceTDiv, ↓if_true, ↓if_false], hw4, Nat.le_refl _, fun b hb => by rw [f4 b (by omega)]; exact f2 b hb, hh4, by rw [Nat.sub_self, List.replicate_zero, List.append_nil]; exact hv4, fun b hb => by have := ha2'.blk_lt hw2 hb; omega⟩ ?_
  clear q0 q1 q5 he e
  rintro k e m5 ⟨i, mv5, hDi, hiL, he, q5, q6, q7, hw5, hn5, f5, hh5, hv5, hne5⟩
  have lmv : (D ++ List.replicate (i - D.length) (0 : UInt8)).length = i := by simp; omega
  have hmod : Int.tmod (i : Int) 64 = ((i % 64 : Nat) : Int) := by rw [Int.tmod_eq_emod_of_nonneg (by omega)]; omega
  have pad_next : ∀ (v6 : Value) (m6 : Mem), Ab m6 m.next v6 (D ++ List.replicate (i - D.length) 0 ++ [0]) → WF m6 → m5.next ≤ m6.next → (∀ b, b < m5.next → slBlk mv5 ≠ some b → m6.get b = m5.get b) → (∀ b, slBlk v6 = some b → slBlk mv5 = some b ∨ m5.next + 1 ≤ b) → i < L →
      ∃ j, j < k ∧ ∃ i_1 mv, D.length ≤ i_1 ∧ i_1 + j = L ∧ v6 = mv ∧ WF m6 ∧ m4.next ≤ m6.next ∧ (∀ b, b < m.next → m6.get b = m.get b) ∧ m6.get m2.next = some (.row (w32s (key0 key.length)) .rw) ∧ Ab m6 m.next mv (D ++ List.replicate (i_1 - D.length) 0) ∧ ∀ b, slBlk mv = some b → ¬ b = m2.next := fun v6 m6 h1 h2 h3 h4 h5 h6 => by
    refine ⟨k - 1, by omega, i + 1, v6, by omega, by omega, rfl, h2, by omega, fun b hb => ?_, ?_, ?_, fun b hb => ?_⟩
    · rw [h4 b (by omega) (fun e => by have := hv5.blk_ge e; omega)]; exact f5 b hb
    · rw [h4 _ (by omega) (fun e => hne5 _ e rfl)]; exact hh5
    · rw [List.append_assoc, ← List.replicate_succ', show i - D.length + 1 = i + 1 - D.length from by omega] at h1
      exact h1
    · rcases h5 b hb with h | h
      · exact hne5 b h
      · omega
  rcases Nat.eq_zero_or_pos i with hi0 | hi0
  · have hz : ((i : Int) == 0) = true := by rw [hi0]; rfl
    simp (maxSteps := 2000000) (disch := first | assumption | omega | (simp only [nx_push, nx_set, ne_eq] <;> omega) | (simp only [XSide, F73]; done) | decide) only [XWalk, XSl, ↓XPre, reduceIte, Nat.reduceEqDiff, Nat.reduceLT, Nat.reduceAdd, Nat.reduceSub, Nat.reduceMul, Nat.reduceBEq, reduceCtorEq, Int.reduceAdd, Int.reduceSub, Int.reduceMul, Int.reduceLT, Int.reduceLE, Int.reduceGT, Int.reduceGE, Int.reduceEq, Int.reduceNe, Int.reduceBEq, Int.reduceBNe, Int.reduceTMod, Int.reduceTDiv, ↓if_true, ↓if_false, F73, A73, he, q5, alen_bs hv5.sl, lmv, hz]
    refine wappend (bytes := 1) (b := [0]) (by simp only [F73]) (hv5.keep (Keep.push hw5)) (Sl.of_row get_push_self rfl rfl (Nat.le_refl _)) (by rw [lmv]; simp; omega) (by simp; omega) hw5.push fun v6 m6 w6 ha6 ok6 => ?_
    simp (maxSteps := 2000000) (disch := first | assumption | omega | (simp only [nx_push, nx_set, ne_eq] <;> omega) | (simp only [XSide, F73]; done) | decide) only [XWalk, XSl, ↓XPre, reduceIte, Nat.reduceEqDiff, Nat.reduceLT, Nat.reduceAdd, Nat.reduceSub, Nat.reduceMul, Nat.reduceBEq, reduceCtorEq, Int.reduceAdd, Int.reduceSub, Int.reduceMul, Int.reduceLT, Int.reduceLE, Int.reduceGT, Int.reduceGE, Int.reduceEq, Int.reduceNe, Int.reduceBEq, Int.reduceBNe, Int.reduceTMod, Int.reduceTDiv, ↓if_true, ↓if_false, F73, A73, he, q6, q7, ok6 m.next [] (Nat.le_refl _)]
    exact pad_next v6 m6 ha6.app ha6.wf (by have := ha6.next; simp only [Mem.next_push] at this; omega) (fun b hb hb2 => by rw [ha6.frame b (by simp; omega) hb2, get_push_ne (by omega)]) ha6.blk (by omega)
  · have hz : ((i : Int) == 0) = false := by rw [beq_eq_false_iff_ne]; omega
    simp (maxSteps := 2000000) (disch := first | assumption | omega | (simp only [nx_push, nx_set, ne_eq] <;> omega) | (simp only [XSide, F73]; done) | decide) only [XWalk, XSl, ↓XPre, reduceIte, Nat.reduceEqDiff, Nat.reduceLT, Nat.reduceAdd, Nat.reduceSub, Nat.reduceMul, Nat.reduceBEq, reduceCtorEq, Int.reduceAdd, Int.reduceSub, Int.reduceMul, Int.reduceLT, Int.reduceLE, Int.reduceGT, Int.reduceGE, Int.reduceEq, Int.reduceNe, Int.reduceBEq, Int.reduceBNe, Int.reduceTMod, Int.reduceTDiv, ↓if_true, ↓if_false, F73, A73, he, q5, alen_bs hv5.sl, lmv, hz, hmod]
    refine x_if (fun hx => ?_) (fun hx => ?_)
    · have hx' := bne_iff_ne.1 hx
      simp (maxSteps := 2000000) (disch := first | assumption | omega | (simp only [nx_push, nx_set, ne_eq] <;> omega) | (simp only [XSide, F73]; done) | decide) only [XWalk, XSl, ↓XPre, reduceIte, Nat.reduceEqDiff, Nat.reduceLT, Nat.reduceAdd, Nat.reduceSub, Nat.reduceMul, Nat.reduceBEq, reduceCtorEq, Int.reduceAdd, Int.reduceSub, Int.reduceMul, Int.reduceLT, Int.reduceLE, Int.reduceGT, Int.reduceGE, Int.reduceEq, Int.reduceNe, Int.reduceBEq, Int.reduceBNe, Int.reduceTMod, Int.reduceTDiv, ↓if_true, ↓if_false, F73, A73, he, q5]
      refine wappend (bytes := 1) (b := [0]) (by simp only [F73]) (hv5.keep (Keep.push hw5)) (Sl.of_row get_push_self rfl rfl (Nat.le_refl _)) (by rw [lmv]; simp; omega) (by simp; omega) hw5.push fun v6 m6 w6 ha6 ok6 => ?_
      simp (maxSteps := 2000000) (disch := first | assumption | omega | (simp only [nx_push, nx_set, ne_eq] <;> omega) | (simp only [XSide, F73]; done) | decide) only [XWalk, XSl, ↓XPre, reduceIte, Nat.reduceEqDiff, Nat.reduceLT, Nat.reduceAdd, Nat.reduceSub, Nat.reduceMul, Nat.reduceBEq, reduceCtorEq, Int.reduceAdd, Int.reduceSub, Int.reduceMul, Int.reduceLT, Int.reduceLE, Int.reduceGT, Int.reduceGE, Int.reduceEq, Int.reduceNe, Int.reduceBEq, Int.reduceBNe, Int.reduceTMod, Int.reduceTDiv, ↓if_true, ↓if_false, F73, A73, he, q6, q7, ok6 m.next [] (Nat.le_refl _)]
      exact pad_next v6 m6 ha6.app ha6.wf (by have := ha6.next; simp only [Mem.next_push] at this; omega) (fun b hb hb2 => by rw [ha6.frame b (by simp; omega) hb2, get_push_ne (by omega)]) ha6.blk (by omega)
    · have hk : i = L := by
        rw [bne_eq_false_iff_eq] at hx
        omega
      subst hk
      simp (maxSteps := 2000000) (disch := first | assumption | omega | (simp only [nx_push, nx_set, ne_eq] <;> omega) | (simp only [XSide, F73]; done) | decide) only [XWalk, XSl, ↓XPre, reduceIte, Nat.reduceEqDiff, Nat.reduceLT, Nat.reduceAdd, Nat.reduceSub, Nat.reduceMul, Nat.reduceBEq, reduceCtorEq, Int.reduceAdd, Int.reduceSub, Int.reduceMul, Int.reduceLT, Int.reduceLE, Int.reduceGT, Int.reduceGE, Int.reduceEq, Int.reduceNe, Int.reduceBEq, Int.reduceBNe, Int.reduceTMod, Int.reduceTDiv, ↓if_true, ↓if_false, F73, A73, he, q5, q6, q7]
      have hP : ∀ at_, at_ + 64 = i → (((D ++ List.replicate (i - D.length) 0).drop at_).take 64 = pad64 (D.drop at_) ∧ (D.drop at_).length ≤ 64 ∧ at_ + (D.drop at_).length = D.length) := fun at_ ha => by
        have h1 : at_ ≤ D.length := by omega
        refine ⟨?_, by rw [List.length_drop]; omega, by rw [List.length_drop]; omega⟩
        rw [List.drop_append_of_le_length h1, List.take_of_length_le (by simp; omega), pad64, List.length_drop]
        congr 2
        omega
      have hP2 : ∀ at_, at_ % 64 = 0 → at_ + 64 < i → (((D ++ List.replicate (i - D.length) 0).drop at_).take 64 = (D.drop at_).take 64 ∧ 64 < (D.drop at_).length ∧ at_ + 64 ≤ D.length) := fun at_ ha ha2 => by
        refine ⟨?_, by rw [List.length_drop]; omega, by omega⟩
        rw [List.drop_append_of_le_length (by omega), List.take_append_of_le_length (by rw [List.length_drop]; omega)]
      have lB : ∀ at_, at_ + 64 ≤ i → (((D ++ List.replicate (i - D.length) 0).drop at_).take 64).length = 64 := fun at_ ha => by rw [List.length_take, List.length_drop, lmv]; omega
      generalize D ++ List.replicate (i - D.length) 0 = PD at *
      refine x_loop (fun k e m6 => ∃ at_ H hv, at_ % 64 = 0 ∧ at_ + k = i ∧ e.n = 109 ∧ e.get 5 = mv5 ∧ e.get 6 = hv ∧ e.get 7 = .int .i64 (D.length : Int) ∧ e.get 8 = .int .i64 ((at_ : Nat) : Int) ∧ WF m6 ∧ m5.next ≤ m6.next ∧ (∀ b, b < m5.next → m6.get b = m5.get b) ∧ Sl m6 hv (w32s H) ∧ H.length = 8 ∧
        hashFin (key0 key.length) 0 D = (if at_ = i then H else hashFin H at_ (D.drop at_))) i
        ⟨0, key0 key.length, .slice (some ⟨m2.next, 0, none⟩) 8 8, rfl, by omega, by simp (maxSteps := 2000000) (disch := first | assumption | omega | (simp only [nx_push, nx_set, ne_eq] <;> omega) | (simp only [XSide]; done) | decide) only [XWalk, XSl, ↓XPre, reduceIte, Nat.reduceEqDiff, Nat.reduceLT, Nat.reduceAdd, Nat.reduceSub, Nat.reduceMul, Nat.reduceBEq, reduceCtorEq, Int.reduceAdd, Int.reduceSub, Int.reduceMul, Int.reduceLT, Int.reduceLE, Int.reduceGT, Int.reduceGE, Int.reduceEq, Int.reduceNe, Int.reduceBEq, Int.reduceBNe, Int.reduceTMod, Int.reduceTDiv, ↓if_true, ↓if_false, he], by simp (maxSteps := 2000000) (disch := first | assumption | omega | (simp only [nx_push, nx_set, ne_eq] <;> omega) | (simp only [XSide]; done) | decide) only [XWalk, XSl, ↓XPre, reduceIte, Nat.reduceEqDiff, Nat.reduceLT, Nat.reduceAdd, Nat.reduceSub, Nat.reduceMul, Nat.reduceBEq, reduceCtorEq, Int.reduceAdd, Int.reduceSub, Int.reduceMul, Int.reduceLT, Int.reduceLE, Int.reduceGT, Int.reduceGE, Int.reduceEq, Int.reduceNe, Int.reduceBEq, Int.reduceBNe, Int.reduceTMod, Int.reduceTDiv, ↓if_true, ↓if_false, q5], by simp (maxSteps := 2000000) (disch := first | assumption | omega | (simp only [nx_push, nx_set, ne_eq] <;> omega) | (simp only [XSide]; done) | decide) only [XWalk, XSl, ↓XPre, reduceIte, Nat.reduceEqDiff, Nat.reduceLT, Nat.reduceAdd, Nat.reduceSub, Nat.reduceMul, Nat.reduceBEq, reduceCtorEq, Int.reduceAdd, Int.reduceSub, Int.reduceMul, Int.reduceLT, Int.reduceLE, Int.reduceGT, Int.reduceGE, Int.reduceEq, Int.reduceNe, Int.reduceBEq, Int.reduceBNe, Int.reduceTMod, Int.reduceTDiv, ↓if_true, ↓if_false, q6], by simp (maxSteps := 2000000) (disch := first | assumption | omega | (simp only [nx_push, nx_set, ne_eq] <;> omega) | (simp only [XSide]; done) | decide) only [XWalk, XSl, ↓XPre, reduceIte, Nat.reduceEqDiff, Nat.reduceLT, Nat.reduceAdd, Nat.reduceSub, Nat.reduceMul, Nat.reduceBEq, reduceCtorEq, Int.reduceAdd, Int.reduceSub, Int.reduceMul, Int.reduceLT, Int.reduceLE, Int.reduceGT, Int.reduceGE, Int.reduceEq, Int.reduceNe, Int.reduceBEq, Int.reduceBNe, Int.reduceTMod, Int.reduceTDiv, ↓if_true, ↓if_false, q7], by simp (maxSteps := 2000000) (disch := first | assumption | omega | (simp only [nx_push, nx_set, ne_eq] <;> omega) | (simp only [XSide]; done) | decide) only [XWalk, XSl, ↓XPre, reduceIte, Nat.reduceEqDiff, Nat.reduceLT, Nat.reduceAdd, Nat.reduceSub, Nat.reduceMul, Nat.reduceBEq, reduceCtorEq, Int.reduceAdd, Int.reduceSub, Int.reduceMul, Int.reduceLT, Int.reduceLE, Int.reduceGT, Int.reduceGE, Int.reduceEq, Int.reduceNe, Int.reduceBEq, Int.reduceBNe, Int.reduceTMod, Int.reduceTDiv, ↓if_true, ↓if_false]; rfl, hw5, Nat.le_refl _, fun _ _ => rfl, Sl.of_row (cs := w32s (key0 key.length)) hh5 rfl rfl (Nat.le_refl _), rfl, by rw [if_neg (by omega)]; rfl⟩ ?_
      clear q5 q6 q7 hx he e
      rintro k6 e m6 ⟨at_, H, hv, hat, hatk, he, q5, q6, q7, q8, hw6, hn6, f6, hH6, lH, hfin⟩
      have hv6 : Ab m6 m.next mv5 PD := hv5.frame fun c hc => f6 c (hv5.blk_lt hw5 hc)
      simp (maxSteps := 2000000) (disch := first | assumption | omega | (simp only [nx_push, nx_set, ne_eq] <;> omega) | (simp only [XSide, F73]; done) | decide) only [XWalk, XSl, ↓XPre, reduceIte, Nat.reduceEqDiff, Nat.reduceLT, Nat.reduceAdd, Nat.reduceSub, Nat.reduceMul, Nat.reduceBEq, reduceCtorEq, Int.reduceAdd, Int.reduceSub, Int.reduceMul, Int.reduceLT, Int.reduceLE, Int.reduceGT, Int.reduceGE, Int.reduceEq, Int.reduceNe, Int.reduceBEq, Int.reduceBNe, Int.reduceTMod, Int.reduceTDiv, ↓if_true, ↓if_false, F73, A73, he, q5, q8, alen_bs hv6.sl, lmv]
      refine x_if (fun hx => ?_) (fun hx => ?_)
      · have hlt : at_ < i := by have := of_decide_eq_true hx; omega
        have g1 : IntKind.wrap .i64 ((at_ : Int) + 64) = ((at_ + 64 : Nat) : Int) := by rw [wrap_i64 (by omega) (by omega)]; omega
        simp (maxSteps := 2000000) (disch := first | assumption | omega | (simp only [nx_push, nx_set, ne_eq] <;> omega) | (simp only [XSide, F73]; done) | decide) only [XWalk, XSl, ↓XPre, reduceIte, Nat.reduceEqDiff, Nat.reduceLT, Nat.reduceAdd, Nat.reduceSub, Nat.reduceMul, Nat.reduceBEq, reduceCtorEq, Int.reduceAdd, Int.reduceSub, Int.reduceMul, Int.reduceLT, Int.reduceLE, Int.reduceGT, Int.reduceGE, Int.reduceEq, Int.reduceNe, Int.reduceBEq, Int.reduceBNe, Int.reduceTMod, Int.reduceTDiv, ↓if_true, ↓if_false, F73, A73, he, q5, q7, q8, g1]
        refine x_join (fun e m7 => e.n = 109 ∧ e.get 5 = mv5 ∧ e.get 6 = hv ∧ e.get 7 = .int .i64 (D.length : Int) ∧ e.get 8 = .int .i64 ((at_ : Nat) : Int) ∧ e.get 9 = .int .i64 ((min (at_ + 64) D.length : Nat) : Int) ∧ m7 = m6) (fun hy => ?_) (fun hy => ?_) ?_
        · have : min (at_ + 64) D.length = D.length := by have := of_decide_eq_true hy; omega
          rw [this]
          simp (maxSteps := 2000000) (disch := first | assumption | omega | (simp only [nx_push, nx_set, ne_eq] <;> omega) | (simp only [XSide, F73]; done) | decide) only [XWalk, XSl, ↓XPre, reduceIte, Nat.reduceEqDiff, Nat.reduceLT, Nat.reduceAdd, Nat.reduceSub, Nat.reduceMul, Nat.reduceBEq, reduceCtorEq, Int.reduceAdd, Int.reduceSub, Int.reduceMul, Int.reduceLT, Int.reduceLE, Int.reduceGT, Int.reduceGE, Int.reduceEq, Int.reduceNe, Int.reduceBEq, Int.reduceBNe, Int.reduceTMod, Int.reduceTDiv, ↓if_true, ↓if_false, F73, A73, he, q5, q6, q7, q8]
        · have : min (at_ + 64) D.length = at_ + 64 := by have := of_decide_eq_false hy; omega
          rw [this]
          simp (maxSteps := 2000000) (disch := first | assumption | omega | (simp only [nx_push, nx_set, ne_eq] <;> omega) | (simp only [XSide, F73]; done) | decide) only [XWalk, XSl, ↓XPre, reduceIte, Nat.reduceEqDiff, Nat.reduceLT, Nat.reduceAdd, Nat.reduceSub, Nat.reduceMul, Nat.reduceBEq, reduceCtorEq, Int.reduceAdd, Int.reduceSub, Int.reduceMul, Int.reduceLT, Int.reduceLE, Int.reduceGT, Int.reduceGE, Int.reduceEq, Int.reduceNe, Int.reduceBEq, Int.reduceBNe, Int.reduceTMod, Int.reduceTDiv, ↓if_true, ↓if_false, F73, A73, he, q5, q6, q7, q8]
        clear q5 q6 q7 q8 hx he e
        rintro e m7 ⟨he, q5, q6, q7, q8, q9, rfl⟩
        simp (maxSteps := 2000000) (disch := first | assumption | omega | (simp only [nx_push, nx_set, ne_eq] <;> omega) | (simp only [XSide, F73]; done) | decide) only [XWalk, XSl, ↓XPre, reduceIte, Nat.reduceEqDiff, Nat.reduceLT, Nat.reduceAdd, Nat.reduceSub, Nat.reduceMul, Nat.reduceBEq, reduceCtorEq, Int.reduceAdd, Int.reduceSub, Int.reduceMul, Int.reduceLT, Int.reduceLE, Int.reduceGT, Int.reduceGE, Int.reduceEq, Int.reduceNe, Int.reduceBEq, Int.reduceBNe, Int.reduceTMod, Int.reduceTDiv, ↓if_true, ↓if_false, F73, A73, he, q5, q6, q7, q8, q9, g1]
        refine Bs.wslice hv6.sl (a := at_) (b := at_ + 64) (by simp only [F73]) (Bs.not_nil hv6.sl (by omega)) rfl rfl (by omega) (by omega) fun v8 hv8 hb8 => ?_
        rw [Nat.add_sub_cancel_left] at hv8
        simp (maxSteps := 2000000) (disch := first | assumption | omega | (simp only [nx_push, nx_set, ne_eq] <;> omega) | (simp only [XSide, F73]; done) | decide) only [XWalk, XSl, ↓XPre, reduceIte, Nat.reduceEqDiff, Nat.reduceLT, Nat.reduceAdd, Nat.reduceSub, Nat.reduceMul, Nat.reduceBEq, reduceCtorEq, Int.reduceAdd, Int.reduceSub, Int.reduceMul, Int.reduceLT, Int.reduceLE, Int.reduceGT, Int.reduceGE, Int.reduceEq, Int.reduceNe, Int.reduceBEq, Int.reduceBNe, Int.reduceTMod, Int.reduceTDiv, ↓if_true, ↓if_false, F73, A73, he, q5, q6, q7, q8, q9, g1, alen_bs hv6.sl, lmv]
        refine wcall_v specLoc (rcompress_ct (t := min (at_ + 64) D.length) hw6 hH6 lH hv8 (lB at_ (by omega)) (by omega)) hw6 ?_
        intro v9 m9 hw9 hn9 f9 hv9
        simp (maxSteps := 2000000) (disch := first | assumption | omega | (simp only [nx_push, nx_set, ne_eq] <;> omega) | (simp only [XSide, F73]; done) | decide) only [XWalk, XSl, ↓XPre, reduceIte, Nat.reduceEqDiff, Nat.reduceLT, Nat.reduceAdd, Nat.reduceSub, Nat.reduceMul, Nat.reduceBEq, reduceCtorEq, Int.reduceAdd, Int.reduceSub, Int.reduceMul, Int.reduceLT, Int.reduceLE, Int.reduceGT, Int.reduceGE, Int.reduceEq, Int.reduceNe, Int.reduceBEq, Int.reduceBNe, Int.reduceTMod, Int.reduceTDiv, ↓if_true, ↓if_false, F73, A73, he, q5, q6, q7, q8, q9, g1]
        have hle : at_ + 64 ≤ i := by omega
        refine ⟨k6 - 64, by omega, at_ + 64, _, v9, by omega, by omega, rfl, rfl, hw9, by omega, fun b hb => ?_, hv9.sl, compressW_length, ?_⟩
        · rw [f9 b (by omega)]; exact f6 b hb
        · rw [hfin, if_neg (by omega)]
          by_cases hl : at_ + 64 = i
          · obtain ⟨p1, p2, p3⟩ := hP at_ hl
            have : min (at_ + 64) D.length = D.length := by omega
            rw [if_pos hl, this, p1, hashFin_last p2, p3, show (((at_ + 64 : Nat) : Int) == (i : Int)) = true from by rw [hl]; exact beq_self_eq_true _]
          · obtain ⟨p1, p2, p3⟩ := hP2 at_ hat (by omega)
            have : min (at_ + 64) D.length = at_ + 64 := by omega
            rw [if_neg hl, this, p1, hashFin_step p2, List.drop_drop, show (((at_ + 64 : Nat) : Int) == (i : Int)) = false from by rw [beq_eq_false_iff_ne]; omega]
      · have hk : at_ = i := by have := of_decide_eq_false hx; omega
        subst hk
        rw [if_pos rfl] at hfin
        rw [hfin]
        simp (maxSteps := 2000000) (disch := first | assumption | omega | (simp only [nx_push, nx_set, ne_eq] <;> omega) | (simp only [XSide, F73]; done) | decide) only [XWalk, XSl, ↓XPre, reduceIte, Nat.reduceEqDiff, Nat.reduceLT, Nat.reduceAdd, Nat.reduceSub, Nat.reduceMul, Nat.reduceBEq, reduceCtorEq, Int.reduceAdd, Int.reduceSub, Int.reduceMul, Int.reduceLT, Int.reduceLE, Int.reduceGT, Int.reduceGE, Int.reduceEq, Int.reduceNe, Int.reduceBEq, Int.reduceBNe, Int.reduceTMod, Int.reduceTDiv, ↓if_true, ↓if_false, F73, A73, he, q6]
        obtain ⟨hb', ho, hc, hrs, hkd, hhv, hhm, hhr, _, _⟩ := hH6.inv (by intro e; have := congrArg List.length e; rw [w32s_len, lH] at this; simp at this)
        rw [w32s_len, lH] at hhv hhr
        have hhlt : hb' < m6.next := hw6.lt (by rw [hhm]; simp)
        refine x_loop (fun k e m8 => ∃ i ov, i + k = 8 ∧ e.n = 109 ∧ e.get 6 = hv ∧ e.get 10 = ov ∧ e.get 11 = .int .i64 ((i : Nat) : Int) ∧ WF m8 ∧ m6.next ≤ m8.next ∧ (∀ b, b < m6.next → m8.get b = m6.get b) ∧ Ab m8 m6.next ov (wordsB (H.take i))) 8
          ⟨0, .slice none 0 0, by omega, by simp (maxSteps := 2000000) (disch := first | assumption | omega | (simp only [nx_push, nx_set, ne_eq] <;> omega) | (simp only [XSide]; done) | decide) only [XWalk, XSl, ↓XPre, reduceIte, Nat.reduceEqDiff, Nat.reduceLT, Nat.reduceAdd, Nat.reduceSub, Nat.reduceMul, Nat.reduceBEq, reduceCtorEq, Int.reduceAdd, Int.reduceSub, Int.reduceMul, Int.reduceLT, Int.reduceLE, Int.reduceGT, Int.reduceGE, Int.reduceEq, Int.reduceNe, Int.reduceBEq, Int.reduceBNe, Int.reduceTMod, Int.reduceTDiv, ↓if_true, ↓if_false, he], by simp (maxSteps := 2000000) (disch := first | assumption | omega | (simp only [nx_push, nx_set, ne_eq] <;> omega) | (simp only [XSide]; done) | decide) only [XWalk, XSl, ↓XPre, reduceIte, Nat.reduceEqDiff, Nat.reduceLT, Nat.reduceAdd, Nat.reduceSub, Nat.reduceMul, Nat.reduceBEq, reduceCtorEq, Int.reduceAdd, Int.reduceSub, Int.reduceMul, Int.reduceLT, Int.reduceLE, Int.reduceGT, Int.reduceGE, Int.reduceEq, Int.reduceNe, Int.reduceBEq, Int.reduceBNe, Int.reduceTMod, Int.reduceTDiv, ↓if_true, ↓if_false, q6], by simp (maxSteps := 2000000) (disch := first | assumption | omega | (simp only [nx_push, nx_set, ne_eq] <;> omega) | (simp only [XSide]; done) | decide) only [XWalk, XSl, ↓XPre, reduceIte, Nat.reduceEqDiff, Nat.reduceLT, Nat.reduceAdd, Nat.reduceSub, Nat.reduceMul, Nat.reduceBEq, reduceCtorEq, Int.reduceAdd, Int.reduceSub, Int.reduceMul, Int.reduceLT, Int.reduceLE, Int.reduceGT, Int.reduceGE, Int.reduceEq, Int.reduceNe, Int.reduceBEq, Int.reduceBNe, Int.reduceTMod, Int.reduceTDiv, ↓if_true, ↓if_false], by simp (maxSteps := 2000000) (disch := first | assumption | omega | (simp only [nx_push, nx_set, ne_eq] <;> omega) | (simp only [XSide]; done) | decide) only [XWalk, XSl, ↓XPre, reduceIte, Nat.reduceEqDiff, Nat.reduceLT, Nat.reduceAdd, Nat.reduceSub, Nat.reduceMul, Nat.reduceBEq, reduceCtorEq, Int.reduceAdd, Int.reduceSub, Int.reduceMul, Int.reduceLT, Int.reduceLE, Int.reduceGT, Int.reduceGE, Int.reduceEq, Int.reduceNe, Int.reduceBEq, Int.reduceBNe, Int.reduceTMod, Int.reduceTDiv, ↓if_true, ↓if_false]; rfl, hw6, Nat.le_refl _, fun _ _ => rfl, .nil⟩ ?_
        clear q5 q6 q7 q8 hx he e
        rintro k8 e m8 ⟨i8, ov, hi8, he, q6, q10, q11, hw8, hn8, f8, hov⟩
        simp (maxSteps := 2000000) (disch := first | assumption | omega | (simp only [nx_push, nx_set, ne_eq] <;> omega) | (simp only [XSide, F73]; done) | decide) only [XWalk, XSl, ↓XPre, reduceIte, Nat.reduceEqDiff, Nat.reduceLT, Nat.reduceAdd, Nat.reduceSub, Nat.reduceMul, Nat.reduceBEq, reduceCtorEq, Int.reduceAdd, Int.reduceSub, Int.reduceMul, Int.reduceLT, Int.reduceLE, Int.reduceGT, Int.reduceGE, Int.reduceEq, Int.reduceNe, Int.reduceBEq, Int.reduceBNe, Int.reduceTMod, Int.reduceTDiv, ↓if_true, ↓if_false, F73, A73, he, q11]
        refine x_if (fun hx => ?_) (fun hx => ?_)
        · have hi : i8 < 8 := by have := of_decide_eq_true hx; omega
          have hh8 : m8.get hb' = _ := (f8 hb' hhlt).trans hhm
          have g4 : IntKind.wrap .i64 ((i8 : Int) + 1) = ((i8 + 1 : Nat) : Int) := by rw [wrap_i64 (by omega) (by omega)]; omega
          have x0 : hrs[ho + i8]? = _ := w32_at hhr (by omega)
          have e3 : wordsB (H.take (i8 + 1)) = wordsB (H.take i8) ++ wordB (H.getD i8 0) := by
            have hlt : i8 < H.length := by omega
            rw [List.take_succ_eq_append_getElem hlt, wordsB, List.flatMap_append]
            simp [wordsB, hlt]
          have lov : (wordsB (H.take i8)).length ≤ 32 := by rw [wordsB_length, List.length_take]; omega
          simp (maxSteps := 2000000) (disch := first | assumption | omega | (simp only [nx_push, nx_set, ne_eq] <;> omega) | (simp only [XSide, F73]; done) | decide) only [XWalk, XSl, ↓XPre, reduceIte, Nat.reduceEqDiff, Nat.reduceLT, Nat.reduceAdd, Nat.reduceSub, Nat.reduceMul, Nat.reduceBEq, reduceCtorEq, Int.reduceAdd, Int.reduceSub, Int.reduceMul, Int.reduceLT, Int.reduceLE, Int.reduceGT, Int.reduceGE, Int.reduceEq, Int.reduceNe, Int.reduceBEq, Int.reduceBNe, Int.reduceTMod, Int.reduceTDiv, ↓if_true, ↓if_false, F73, A73, he, q11]
          refine x_draw [0, 0, 0, 6, 14, 30, 0, 0, 192, 448, 960, 1984, 0, 0, 12288, 28672, 61440, 126976, 0, 0, 786432, 1835008, 3932160, 8126464, 16777214, 33554431, 67108863] (by kernel_rfl) ?_
          simp (maxSteps := 2000000) (disch := first | assumption | omega | (simp only [nx_push, nx_set, ne_eq] <;> omega) | (simp only [XSide, F73]; done) | decide) only [XWalk, XSl, ↓XPre, reduceIte, Nat.reduceEqDiff, Nat.reduceLT, Nat.reduceAdd, Nat.reduceSub, Nat.reduceMul, Nat.reduceBEq, reduceCtorEq, Int.reduceAdd, Int.reduceSub, Int.reduceMul, Int.reduceLT, Int.reduceLE, Int.reduceGT, Int.reduceGE, Int.reduceEq, Int.reduceNe, Int.reduceBEq, Int.reduceBNe, Int.reduceTMod, Int.reduceTDiv, ↓if_true, ↓if_false, F73, A73, he, q6, q10, q11, hhv, hh8, x0, hi, u32_u8, shr8', shr16', shr24']
          refine wappend (bytes := 1) (b := wordB (H.getD i8 0)) (by simp only [F73]) (hov.keep (Keep.push hw8)) (Sl.of_row get_push_self rfl rfl (Nat.le_refl _)) (by simp [wordB]; omega) (by simp; omega) hw8.push fun v' m' w ha ok => ?_
          rw [← e3] at ha
          simp (maxSteps := 2000000) (disch := first | assumption | omega | (simp only [nx_push, nx_set, ne_eq] <;> omega) | (simp only [XSide, F73]; done) | decide) only [XWalk, XSl, ↓XPre, reduceIte, Nat.reduceEqDiff, Nat.reduceLT, Nat.reduceAdd, Nat.reduceSub, Nat.reduceMul, Nat.reduceBEq, reduceCtorEq, Int.reduceAdd, Int.reduceSub, Int.reduceMul, Int.reduceLT, Int.reduceLE, Int.reduceGT, Int.reduceGE, Int.reduceEq, Int.reduceNe, Int.reduceBEq, Int.reduceBNe, Int.reduceTMod, Int.reduceTDiv, ↓if_true, ↓if_false, F73, A73, ok m.next [] (by omega), he, q6, q10, q11, g4, hhv]
          refine ⟨k8 - 1, by omega, i8 + 1, v', by omega, rfl, rfl, ha.wf, by have := ha.next; simp only [Mem.next_push] at this; omega, fun b hb => ?_, ha.app⟩
          rw [ha.old (fun b hb => hov.blk_ge hb) b hb (by simp; omega), get_push_ne (by omega)]; exact f8 b hb
        · have hk : i8 = 8 := by have := of_decide_eq_false hx; omega
          subst hk
          rw [List.take_of_length_le (by omega)] at hov
          simp (maxSteps := 2000000) (disch := first | assumption | omega | (simp only [nx_push, nx_set, ne_eq] <;> omega) | (simp only [XSide, F73]; done) | decide) only [XWalk, XSl, ↓XPre, reduceIte, Nat.reduceEqDiff, Nat.reduceLT, Nat.reduceAdd, Nat.reduceSub, Nat.reduceMul, Nat.reduceBEq, reduceCtorEq, Int.reduceAdd, Int.reduceSub, Int.reduceMul, Int.reduceLT, Int.reduceLE, Int.reduceGT, Int.reduceGE, Int.reduceEq, Int.reduceNe, Int.reduceBEq, Int.reduceBNe, Int.reduceTMod, Int.reduceTDiv, ↓if_true, ↓if_false, F73, A73, he, q10]
          exact ⟨_, rfl, hov.mono (by omega)⟩

theorem rfixed_ct {m : Mem} (hw : WF m) {v : Value} {l : List UInt8} (hv : Bs m v l) (lv : l.length = 32) : Ct Tryz.prog S0 79 [v] m [] (fun out m' => out = .ret (.agg (u8s l).toArray)) := by
  obtain ⟨b, o, c, rs, kd, hvv, hvm, hvr, _, _⟩ := hv.inv (by intro e; have := congrArg List.length e; rw [u8s_length, lv] at this; simp at this)
  rw [u8s_length, lv] at hvv hvr
  have hlt : b < m.next := hw.lt (by rw [hvm]; simp)
  refine ct_x (spec0 _) (by rfl) Tryz.func79 rfl ?_
  simp (maxSteps := 2000000) (disch := first | assumption | omega | (simp only [nx_push, nx_set, ne_eq] <;> omega) | (simp only [XSide, F79]; done) | decide) only [XWalk, XSl, ↓XPre, reduceIte, Nat.reduceEqDiff, Nat.reduceLT, Nat.reduceAdd, Nat.reduceSub, Nat.reduceMul, Nat.reduceBEq, reduceCtorEq, Int.reduceAdd, Int.reduceSub, Int.reduceMul, Int.reduceLT, Int.reduceLE, Int.reduceGT, Int.reduceGE, Int.reduceEq, Int.reduceNe, Int.reduceBEq, Int.reduceBNe, Int.reduceTMod, Int.reduceTDiv, ↓if_true, ↓if_false, F79, A79, Tryz.ntmps79]
  refine x_loop (fun k e m1 => ∃ i, i + k = 32 ∧ e.n = 16 ∧ e.get 0 = v ∧ e.get 2 = .pointer (some ⟨m.next, 0, none⟩) ∧ e.get 3 = .pointer (some ⟨m.next + 1, 0, none⟩) ∧ e.get 4 = .int .i64 ((i : Nat) : Int) ∧ WF m1 ∧ m1.next = m.next + 2 ∧ m1.get b = some (.row rs kd) ∧ m1.get m.next = some (.row (u8s (List.replicate 32 0)) .rw) ∧
    m1.get (m.next + 1) = some (.row (u8s (l.take i ++ List.replicate (32 - i) 0)) .rw)) 32 ⟨0, by omega, by simp (maxSteps := 2000000) (disch := first | assumption | omega | (simp only [nx_push, nx_set, ne_eq] <;> omega) | (simp only [XSide]; done) | decide) only [XWalk, XSl, ↓XPre, reduceIte, Nat.reduceEqDiff, Nat.reduceLT, Nat.reduceAdd, Nat.reduceSub, Nat.reduceMul, Nat.reduceBEq, reduceCtorEq, Int.reduceAdd, Int.reduceSub, Int.reduceMul, Int.reduceLT, Int.reduceLE, Int.reduceGT, Int.reduceGE, Int.reduceEq, Int.reduceNe, Int.reduceBEq, Int.reduceBNe, Int.reduceTMod, Int.reduceTDiv, ↓if_true, ↓if_false], by simp (maxSteps := 2000000) (disch := first | assumption | omega | (simp only [nx_push, nx_set, ne_eq] <;> omega) | (simp only [XSide]; done) | decide) only [XWalk, XSl, ↓XPre, reduceIte, Nat.reduceEqDiff, Nat.reduceLT, Nat.reduceAdd, Nat.reduceSub, Nat.reduceMul, Nat.reduceBEq, reduceCtorEq, Int.reduceAdd, Int.reduceSub, Int.reduceMul, Int.reduceLT, Int.reduceLE, Int.reduceGT, Int.reduceGE, Int.reduceEq, Int.reduceNe, Int.reduceBEq, Int.reduceBNe, Int.reduceTMod, Int.reduceTDiv, ↓if_true, ↓if_false], by simp (maxSteps := 2000000) (disch := first | assumption | omega | (simp only [nx_push, nx_set, ne_eq] <;> omega) | (simp only [XSide]; done) | decide) only [XWalk, XSl, ↓XPre, reduceIte, Nat.reduceEqDiff, Nat.reduceLT, Nat.reduceAdd, Nat.reduceSub, Nat.reduceMul, Nat.reduceBEq, reduceCtorEq, Int.reduceAdd, Int.reduceSub, Int.reduceMul, Int.reduceLT, Int.reduceLE, Int.reduceGT, Int.reduceGE, Int.reduceEq, Int.reduceNe, Int.reduceBEq, Int.reduceBNe, Int.reduceTMod, Int.reduceTDiv, ↓if_true, ↓if_false], by simp (maxSteps := 2000000) (disch := first | assumption | omega | (simp only [nx_push, nx_set, ne_eq] <;> omega) | (simp only [XSide]; done) | decide) only [XWalk, XSl, ↓XPre, reduceIte, Nat.reduceEqDiff, Nat.reduceLT, Nat.reduceAdd, Nat.reduceSub, Nat.reduceMul, Nat.reduceBEq, reduceCtorEq, Int.reduceAdd, Int.reduceSub, Int.reduceMul, Int.reduceLT, Int.reduceLE, Int.reduceGT, Int.reduceGE, Int.reduceEq, Int.reduceNe, Int.reduceBEq, Int.reduceBNe, Int.reduceTMod, Int.reduceTDiv, ↓if_true, ↓if_false], by simp (maxSteps := 2000000) (disch := first | assumption | omega | (simp only [nx_push, nx_set, ne_eq] <;> omega) | (simp only [XSide]; done) | decide) only [XWalk, XSl, ↓XPre, reduceIte, Nat.reduceEqDiff, Nat.reduceLT, Nat.reduceAdd, Nat.reduceSub, Nat.reduceMul, Nat.reduceBEq, reduceCtorEq, Int.reduceAdd, Int.reduceSub, Int.reduceMul, Int.reduceLT, Int.reduceLE, Int.reduceGT, Int.reduceGE, Int.reduceEq, Int.reduceNe, Int.reduceBEq, Int.reduceBNe, Int.reduceTMod, Int.reduceTDiv, ↓if_true, ↓if_false]; rfl, hw.push.push, rfl, by simp (maxSteps := 2000000) (disch := first | assumption | omega | (simp only [nx_push, nx_set, ne_eq] <;> omega) | (simp only [XSide]; done) | decide) only [XWalk, XSl, ↓XPre, reduceIte, Nat.reduceEqDiff, Nat.reduceLT, Nat.reduceAdd, Nat.reduceSub, Nat.reduceMul, Nat.reduceBEq, reduceCtorEq, Int.reduceAdd, Int.reduceSub, Int.reduceMul, Int.reduceLT, Int.reduceLE, Int.reduceGT, Int.reduceGE, Int.reduceEq, Int.reduceNe, Int.reduceBEq, Int.reduceBNe, Int.reduceTMod, Int.reduceTDiv, ↓if_true, ↓if_false, hvm], by simp (maxSteps := 2000000) (disch := first | assumption | omega | (simp only [nx_push, nx_set, ne_eq] <;> omega) | (simp only [XSide]; done) | decide) only [XWalk, XSl, ↓XPre, reduceIte, Nat.reduceEqDiff, Nat.reduceLT, Nat.reduceAdd, Nat.reduceSub, Nat.reduceMul, Nat.reduceBEq, reduceCtorEq, Int.reduceAdd, Int.reduceSub, Int.reduceMul, Int.reduceLT, Int.reduceLE, Int.reduceGT, Int.reduceGE, Int.reduceEq, Int.reduceNe, Int.reduceBEq, Int.reduceBNe, Int.reduceTMod, Int.reduceTDiv, ↓if_true, ↓if_false]; rfl, by simp (maxSteps := 2000000) (disch := first | assumption | omega | (simp only [nx_push, nx_set, ne_eq] <;> omega) | (simp only [XSide]; done) | decide) only [XWalk, XSl, ↓XPre, reduceIte, Nat.reduceEqDiff, Nat.reduceLT, Nat.reduceAdd, Nat.reduceSub, Nat.reduceMul, Nat.reduceBEq, reduceCtorEq, Int.reduceAdd, Int.reduceSub, Int.reduceMul, Int.reduceLT, Int.reduceLE, Int.reduceGT, Int.reduceGE, Int.reduceEq, Int.reduceNe, Int.reduceBEq, Int.reduceBNe, Int.reduceTMod, Int.reduceTDiv, ↓if_true, ↓if_false]; rfl⟩ ?_
  rintro k e m1 ⟨i, hi, he, q0, q2, q3, q4, hw1, hn1, hb1, hz1, hr1⟩
  simp (maxSteps := 2000000) (disch := first | assumption | omega | (simp only [nx_push, nx_set, ne_eq] <;> omega) | (simp only [XSide, F79]; done) | decide) only [XWalk, XSl, ↓XPre, reduceIte, Nat.reduceEqDiff, Nat.reduceLT, Nat.reduceAdd, Nat.reduceSub, Nat.reduceMul, Nat.reduceBEq, reduceCtorEq, Int.reduceAdd, Int.reduceSub, Int.reduceMul, Int.reduceLT, Int.reduceLE, Int.reduceGT, Int.reduceGE, Int.reduceEq, Int.reduceNe, Int.reduceBEq, Int.reduceBNe, Int.reduceTMod, Int.reduceTDiv, ↓if_true, ↓if_false, F79, A79, he, q4]
  refine x_if (fun hx => ?_) (fun hx => ?_)
  · have hk : i < 32 := by have := of_decide_eq_true hx; omega
    have g4 : IntKind.wrap .i64 ((i : Int) + 1) = ((i + 1 : Nat) : Int) := by rw [wrap_i64 (by omega) (by omega)]; omega
    have x0 : rs[o + i]? = some (.int .u8 ((l.getD i 0).toNat : Int)) := by
      rw [take_drop_get hvr (by rw [u8s_length]; omega), u8s_get (b := l.getD i 0)]
      simp [show i < l.length by omega]
    have hl1 : (u8s (l.take i ++ List.replicate (32 - i) 0)).length = 32 := by rw [u8s_length]; simp; omega
    have hset : (l.take i ++ List.replicate (32 - i) (0 : UInt8)).set i (l.getD i 0) = l.take (i + 1) ++ List.replicate (32 - (i + 1)) 0 := by
      have hil : i < l.length := by omega
      rw [List.set_append_right _ _ (by simp; omega), List.take_succ_eq_append_getElem hil, List.append_assoc]
      congr 1
      rw [show i - (l.take i).length = 0 by simp; omega, show 32 - i = (32 - (i + 1)) + 1 from by omega, List.replicate_succ]
      simp [hil]
    simp (maxSteps := 2000000) (disch := first | assumption | omega | (simp only [nx_push, nx_set, ne_eq] <;> omega) | (simp only [XSide, F79]; done) | decide) only [XWalk, XSl, ↓XPre, reduceIte, Nat.reduceEqDiff, Nat.reduceLT, Nat.reduceAdd, Nat.reduceSub, Nat.reduceMul, Nat.reduceBEq, reduceCtorEq, Int.reduceAdd, Int.reduceSub, Int.reduceMul, Int.reduceLT, Int.reduceLE, Int.reduceGT, Int.reduceGE, Int.reduceEq, Int.reduceNe, Int.reduceBEq, Int.reduceBNe, Int.reduceTMod, Int.reduceTDiv, ↓if_true, ↓if_false, F79, A79, he, q0, q2, q3, q4, hvv, hb1, hr1, hz1, x0, hk, hl1, g4, u8s_set, hset]
    exact ⟨k - 1, by omega, i + 1, by omega, rfl, hw1.set (by omega), hn1, rfl⟩
  · have hk : i = 32 := by have := of_decide_eq_false hx; omega
    subst hk
    rw [List.take_of_length_le (by omega), Nat.sub_self, List.replicate_zero, List.append_nil] at hr1
    have sb : (u8s l).length = 32 := by rw [u8s_length]; exact lv
    have bq : Nat.beq (u8s l).length 32 = true := by rw [sb]; rfl
    have hob : (u8s l).all oneCell = true := u8s_one
    have sz : (u8s (List.replicate 32 (0 : UInt8))).length = 32 := rfl
    simp (maxSteps := 2000000) (disch := first | assumption | omega | (simp only [nx_push, nx_set, ne_eq] <;> omega) | (simp only [XSide, F79]; done) | decide) only [XWalk, XSl, ↓XPre, reduceIte, Nat.reduceEqDiff, Nat.reduceLT, Nat.reduceAdd, Nat.reduceSub, Nat.reduceMul, Nat.reduceBEq, reduceCtorEq, Int.reduceAdd, Int.reduceSub, Int.reduceMul, Int.reduceLT, Int.reduceLE, Int.reduceGT, Int.reduceGE, Int.reduceEq, Int.reduceNe, Int.reduceBEq, Int.reduceBNe, Int.reduceTMod, Int.reduceTDiv, ↓if_true, ↓if_false, F79, A79, he, q0, q2, q3, q4, hr1, hz1, loadRow_agg, loadN_all sb, bq, hob]

theorem rkeyed_ct {m : Mem} (hw : WF m) {kv dv : Value} {key d : List UInt8} (hk : Bs m kv key) (lk : key.length ≤ 32) (hd : Bs m dv d) (ld : d.length ≤ 1000000000) :
    Ct Tryz.prog S0 75 [kv, dv] m [] (fun out m' => out = .ret (.agg (u8s (blakeB key d)).toArray)) := by
  refine ct_x (spec0 _) (by rfl) Tryz.func75 rfl ?_
  simp (maxSteps := 2000000) (disch := first | assumption | omega | (simp only [nx_push, nx_set, ne_eq] <;> omega) | (simp only [XSide, F75]; done) | decide) only [XWalk, XSl, ↓XPre, reduceIte, Nat.reduceEqDiff, Nat.reduceLT, Nat.reduceAdd, Nat.reduceSub, Nat.reduceMul, Nat.reduceBEq, reduceCtorEq, Int.reduceAdd, Int.reduceSub, Int.reduceMul, Int.reduceLT, Int.reduceLE, Int.reduceGT, Int.reduceGE, Int.reduceEq, Int.reduceNe, Int.reduceBEq, Int.reduceBNe, Int.reduceTMod, Int.reduceTDiv, ↓if_true, ↓if_false, F75, A75, Tryz.ntmps75]
  refine wcall_v specLoc (rhash_ct hw.push (hk.keep (Keep.push hw)) lk (hd.keep (Keep.push hw)) ld) hw.push ?_
  intro v m1 hw1 hn1 f1 hv1
  have hz1 := (f1 m.next (by simp)).trans get_push_self
  simp (maxSteps := 2000000) (disch := first | assumption | omega | (simp only [nx_push, nx_set, ne_eq] <;> omega) | (simp only [XSide, F75]; done) | decide) only [XWalk, XSl, ↓XPre, reduceIte, Nat.reduceEqDiff, Nat.reduceLT, Nat.reduceAdd, Nat.reduceSub, Nat.reduceMul, Nat.reduceBEq, reduceCtorEq, Int.reduceAdd, Int.reduceSub, Int.reduceMul, Int.reduceLT, Int.reduceLE, Int.reduceGT, Int.reduceGE, Int.reduceEq, Int.reduceNe, Int.reduceBEq, Int.reduceBNe, Int.reduceTMod, Int.reduceTDiv, ↓if_true, ↓if_false, F75, A75]
  refine wcall_x specLoc (rfixed_ct hw1 hv1.sl blakeB_length) hw1 ?_
  rintro out m2 hw2 hn2 f2 rfl
  simp only [Mem.next_push] at hn1
  have hz2 := (f2 m.next (by omega)).trans hz1
  have sb : (u8s (blakeB key d)).length = 32 := by rw [u8s_length]; exact blakeB_length
  have bq : Nat.beq (u8s (blakeB key d)).length 32 = true := by rw [sb]; rfl
  have hob : (u8s (blakeB key d)).all oneCell = true := u8s_one
  simp (maxSteps := 2000000) (disch := first | assumption | omega | (simp only [nx_push, nx_set, ne_eq] <;> omega) | (simp only [XSide, F75]; done) | decide) only [XWalk, XSl, ↓XPre, reduceIte, Nat.reduceEqDiff, Nat.reduceLT, Nat.reduceAdd, Nat.reduceSub, Nat.reduceMul, Nat.reduceBEq, reduceCtorEq, Int.reduceAdd, Int.reduceSub, Int.reduceMul, Int.reduceLT, Int.reduceLE, Int.reduceGT, Int.reduceGE, Int.reduceEq, Int.reduceNe, Int.reduceBEq, Int.reduceBNe, Int.reduceTMod, Int.reduceTDiv, ↓if_true, ↓if_false, F75, A75, hz2, loadRow_agg, loadN_all sb, bq, hob, sb]

theorem rsum_ct {m : Mem} (hw : WF m) {dv : Value} {d : List UInt8} (hd : Bs m dv d) (ld : d.length ≤ 1000000000) :
    Ct Tryz.prog S0 41 [dv] m [] (fun out m' => out = .ret (.agg (u8s (blakeB [] d)).toArray)) := by
  refine ct_x (spec0 _) (by rfl) Tryz.func41 rfl ?_
  simp (maxSteps := 2000000) (disch := first | assumption | omega | (simp only [nx_push, nx_set, ne_eq] <;> omega) | (simp only [XSide, F41]; done) | decide) only [XWalk, XSl, ↓XPre, reduceIte, Nat.reduceEqDiff, Nat.reduceLT, Nat.reduceAdd, Nat.reduceSub, Nat.reduceMul, Nat.reduceBEq, reduceCtorEq, Int.reduceAdd, Int.reduceSub, Int.reduceMul, Int.reduceLT, Int.reduceLE, Int.reduceGT, Int.reduceGE, Int.reduceEq, Int.reduceNe, Int.reduceBEq, Int.reduceBNe, Int.reduceTMod, Int.reduceTDiv, ↓if_true, ↓if_false, F41, A41, Tryz.ntmps41]
  refine wcall_v specLoc (rhash_ct (key := []) hw.push .nil (by simp) (hd.keep (Keep.push hw)) ld) hw.push ?_
  intro v m1 hw1 hn1 f1 hv1
  have hz1 := (f1 m.next (by simp)).trans get_push_self
  simp (maxSteps := 2000000) (disch := first | assumption | omega | (simp only [nx_push, nx_set, ne_eq] <;> omega) | (simp only [XSide, F41]; done) | decide) only [XWalk, XSl, ↓XPre, reduceIte, Nat.reduceEqDiff, Nat.reduceLT, Nat.reduceAdd, Nat.reduceSub, Nat.reduceMul, Nat.reduceBEq, reduceCtorEq, Int.reduceAdd, Int.reduceSub, Int.reduceMul, Int.reduceLT, Int.reduceLE, Int.reduceGT, Int.reduceGE, Int.reduceEq, Int.reduceNe, Int.reduceBEq, Int.reduceBNe, Int.reduceTMod, Int.reduceTDiv, ↓if_true, ↓if_false, F41, A41]
  refine wcall_x specLoc (rfixed_ct hw1 hv1.sl blakeB_length) hw1 ?_
  rintro out m2 hw2 hn2 f2 rfl
  simp only [Mem.next_push] at hn1
  have hz2 := (f2 m.next (by omega)).trans hz1
  have sb : (u8s (blakeB [] d)).length = 32 := by rw [u8s_length]; exact blakeB_length
  have bq : Nat.beq (u8s (blakeB [] d)).length 32 = true := by rw [sb]; rfl
  have hob : (u8s (blakeB [] d)).all oneCell = true := u8s_one
  simp (maxSteps := 2000000) (disch := first | assumption | omega | (simp only [nx_push, nx_set, ne_eq] <;> omega) | (simp only [XSide, F41]; done) | decide) only [XWalk, XSl, ↓XPre, reduceIte, Nat.reduceEqDiff, Nat.reduceLT, Nat.reduceAdd, Nat.reduceSub, Nat.reduceMul, Nat.reduceBEq, reduceCtorEq, Int.reduceAdd, Int.reduceSub, Int.reduceMul, Int.reduceLT, Int.reduceLE, Int.reduceGT, Int.reduceGE, Int.reduceEq, Int.reduceNe, Int.reduceBEq, Int.reduceBNe, Int.reduceTMod, Int.reduceTDiv, ↓if_true, ↓if_false, F41, A41, hz2, loadRow_agg, loadN_all sb, bq, hob, sb]

end Go.Big

/- The reference's encodings; its keys, streams, tags. -/
set_option linter.unusedSimpArgs false
set_option linter.unusedVariables false
set_option maxRecDepth 100000
set_option maxHeartbeats 4000000
namespace Go.Big
open Go.Proofs

/-! ### Groups -/

theorem rgroup_ct {m : Mem} (hw : WF m) {n : Nat} (hn : n < 9223372036854775808) : Ct Tryz.prog S0 76 [.int .u64 (n : Int)] m [] (Rv fun v m' => Ab m' m.next v (groupB n)) := by
  have hgl := groupB_len 9 n (by omega) (by omega)
  refine ct_x (spec0 _) (by rfl) Tryz.func76 rfl ?_
  simp (maxSteps := 2000000) (disch := first | assumption | omega | (simp only [nx_push, nx_set, ne_eq] <;> omega) | (simp only [XSide, F76]; done) | decide) only [XWalk, XSl, ↓XPre, reduceIte, Nat.reduceEqDiff, Nat.reduceLT, Nat.reduceAdd, Nat.reduceSub, Nat.reduceMul, Nat.reduceBEq, reduceCtorEq, Int.reduceAdd, Int.reduceSub, Int.reduceMul, Int.reduceLT, Int.reduceLE, Int.reduceGT, Int.reduceGE, Int.reduceEq, Int.reduceNe, Int.reduceBEq, Int.reduceBNe, Int.reduceTMod, Int.reduceTDiv, ↓if_true, ↓if_false, F76, A76, Tryz.ntmps76]
  refine x_loop (fun k e m1 => ∃ mv l1, e.n = 20 ∧ e.get 0 = .int .u64 ((k : Nat) : Int) ∧ e.get 3 = mv ∧ k < 9223372036854775808 ∧ WF m1 ∧ m.next ≤ m1.next ∧ (∀ b, b < m.next → m1.get b = m.get b) ∧ Ab m1 m.next mv l1 ∧ l1 ++ groupB k = groupB n) n
    ⟨.slice none 0 0, [], by simp (maxSteps := 2000000) (disch := first | assumption | omega | (simp only [nx_push, nx_set, ne_eq] <;> omega) | (simp only [XSide]; done) | decide) only [XWalk, XSl, ↓XPre, reduceIte, Nat.reduceEqDiff, Nat.reduceLT, Nat.reduceAdd, Nat.reduceSub, Nat.reduceMul, Nat.reduceBEq, reduceCtorEq, Int.reduceAdd, Int.reduceSub, Int.reduceMul, Int.reduceLT, Int.reduceLE, Int.reduceGT, Int.reduceGE, Int.reduceEq, Int.reduceNe, Int.reduceBEq, Int.reduceBNe, Int.reduceTMod, Int.reduceTDiv, ↓if_true, ↓if_false], by simp (maxSteps := 2000000) (disch := first | assumption | omega | (simp only [nx_push, nx_set, ne_eq] <;> omega) | (simp only [XSide]; done) | decide) only [XWalk, XSl, ↓XPre, reduceIte, Nat.reduceEqDiff, Nat.reduceLT, Nat.reduceAdd, Nat.reduceSub, Nat.reduceMul, Nat.reduceBEq, reduceCtorEq, Int.reduceAdd, Int.reduceSub, Int.reduceMul, Int.reduceLT, Int.reduceLE, Int.reduceGT, Int.reduceGE, Int.reduceEq, Int.reduceNe, Int.reduceBEq, Int.reduceBNe, Int.reduceTMod, Int.reduceTDiv, ↓if_true, ↓if_false], by simp (maxSteps := 2000000) (disch := first | assumption | omega | (simp only [nx_push, nx_set, ne_eq] <;> omega) | (simp only [XSide]; done) | decide) only [XWalk, XSl, ↓XPre, reduceIte, Nat.reduceEqDiff, Nat.reduceLT, Nat.reduceAdd, Nat.reduceSub, Nat.reduceMul, Nat.reduceBEq, reduceCtorEq, Int.reduceAdd, Int.reduceSub, Int.reduceMul, Int.reduceLT, Int.reduceLE, Int.reduceGT, Int.reduceGE, Int.reduceEq, Int.reduceNe, Int.reduceBEq, Int.reduceBNe, Int.reduceTMod, Int.reduceTDiv, ↓if_true, ↓if_false], hn, hw, Nat.le_refl _, fun _ _ => rfl, .nil, rfl⟩ ?_
  rintro k e m1 ⟨mv, l1, he, q0, q3, hk, hw1, hn1, f1, hm1, hg⟩
  have hl1 : l1.length ≤ 9 := by
    have := congrArg List.length hg
    rw [List.length_append] at this
    omega
  simp (maxSteps := 2000000) (disch := first | assumption | omega | (simp only [nx_push, nx_set, ne_eq] <;> omega) | (simp only [XSide, F76]; done) | decide) only [XWalk, XSl, ↓XPre, reduceIte, Nat.reduceEqDiff, Nat.reduceLT, Nat.reduceAdd, Nat.reduceSub, Nat.reduceMul, Nat.reduceBEq, reduceCtorEq, Int.reduceAdd, Int.reduceSub, Int.reduceMul, Int.reduceLT, Int.reduceLE, Int.reduceGT, Int.reduceGE, Int.reduceEq, Int.reduceNe, Int.reduceBEq, Int.reduceBNe, Int.reduceTMod, Int.reduceTDiv, ↓if_true, ↓if_false, F76, A76, he, q0]
  refine x_if (fun hx => ?_) (fun hx => ?_)
  · have hk1 : 128 ≤ k := by have := of_decide_eq_true hx; omega
    have hgk : groupB k = UInt8.ofNat (k % 128 + 128) :: groupB (k / 128) := by rw [groupB, if_neg (by omega)]
    have hmod : Int.tmod (k : Int) 128 = ((k % 128 : Nat) : Int) := by rw [Int.tmod_eq_emod_of_nonneg (by omega)]; omega
    have hdiv : Int.tdiv (k : Int) 128 = ((k / 128 : Nat) : Int) := by rw [Int.tdiv_eq_ediv_of_nonneg (by omega)]; omega
    have hdm : ((k / 128 : Nat) : Int) % 18446744073709551616 = ((k / 128 : Nat) : Int) := by omega
    have hb : (((k % 128 : Nat) : Int) % 256 + 128) % 256 = ((UInt8.ofNat (k % 128 + 128)).toNat : Int) := by rw [UInt8.toNat_ofNat']; omega
    simp (maxSteps := 2000000) (disch := first | assumption | omega | (simp only [nx_push, nx_set, ne_eq] <;> omega) | (simp only [XSide, F76]; done) | decide) only [XWalk, XSl, ↓XPre, reduceIte, Nat.reduceEqDiff, Nat.reduceLT, Nat.reduceAdd, Nat.reduceSub, Nat.reduceMul, Nat.reduceBEq, reduceCtorEq, Int.reduceAdd, Int.reduceSub, Int.reduceMul, Int.reduceLT, Int.reduceLE, Int.reduceGT, Int.reduceGE, Int.reduceEq, Int.reduceNe, Int.reduceBEq, Int.reduceBNe, Int.reduceTMod, Int.reduceTDiv, ↓if_true, ↓if_false, F76, A76, he, q0, q3, hmod, hb]
    refine wappend (bytes := 1) (b := [UInt8.ofNat (k % 128 + 128)]) (by simp only [F76]) (hm1.keep (Keep.push hw1)) (Sl.of_row get_push_self rfl rfl (Nat.le_refl _)) (by simp; omega) (by simp; omega) hw1.push fun v2 m2 w2 ha2 ok2 => ?_
    simp (maxSteps := 2000000) (disch := first | assumption | omega | (simp only [nx_push, nx_set, ne_eq] <;> omega) | (simp only [XSide, F76]; done) | decide) only [XWalk, XSl, ↓XPre, reduceIte, Nat.reduceEqDiff, Nat.reduceLT, Nat.reduceAdd, Nat.reduceSub, Nat.reduceMul, Nat.reduceBEq, reduceCtorEq, Int.reduceAdd, Int.reduceSub, Int.reduceMul, Int.reduceLT, Int.reduceLE, Int.reduceGT, Int.reduceGE, Int.reduceEq, Int.reduceNe, Int.reduceBEq, Int.reduceBNe, Int.reduceTMod, Int.reduceTDiv, ↓if_true, ↓if_false, F76, A76, he, q0, ok2 m.next [] (Nat.le_refl _), hdiv, hdm]
    refine ⟨k / 128, by omega, v2, l1 ++ [UInt8.ofNat (k % 128 + 128)], rfl, rfl, by omega, ha2.wf, by have := ha2.next; simp only [Mem.next_push] at this; omega, fun b hb => ?_, ha2.app, ?_⟩
    · rw [ha2.old (fun b hb => hm1.blk_ge hb) b hb (by simp; omega), get_push_ne (by omega)]; exact f1 b hb
    · rw [← hg, hgk]; simp
  · have hk1 : k < 128 := by have := of_decide_eq_false hx; omega
    have hgk : groupB k = [UInt8.ofNat k] := by rw [groupB, if_pos hk1]
    have hb : (k : Int) % 256 = ((UInt8.ofNat k).toNat : Int) := by rw [UInt8.toNat_ofNat']; omega
    simp (maxSteps := 2000000) (disch := first | assumption | omega | (simp only [nx_push, nx_set, ne_eq] <;> omega) | (simp only [XSide, F76]; done) | decide) only [XWalk, XSl, ↓XPre, reduceIte, Nat.reduceEqDiff, Nat.reduceLT, Nat.reduceAdd, Nat.reduceSub, Nat.reduceMul, Nat.reduceBEq, reduceCtorEq, Int.reduceAdd, Int.reduceSub, Int.reduceMul, Int.reduceLT, Int.reduceLE, Int.reduceGT, Int.reduceGE, Int.reduceEq, Int.reduceNe, Int.reduceBEq, Int.reduceBNe, Int.reduceTMod, Int.reduceTDiv, ↓if_true, ↓if_false, F76, A76, he, q0, q3, hb]
    refine wappend (bytes := 1) (b := [UInt8.ofNat k]) (by simp only [F76]) (hm1.keep (Keep.push hw1)) (Sl.of_row get_push_self rfl rfl (Nat.le_refl _)) (by simp; omega) (by simp; omega) hw1.push fun v2 m2 w2 ha2 ok2 => ?_
    simp (maxSteps := 2000000) (disch := first | assumption | omega | (simp only [nx_push, nx_set, ne_eq] <;> omega) | (simp only [XSide, F76]; done) | decide) only [XWalk, XSl, ↓XPre, reduceIte, Nat.reduceEqDiff, Nat.reduceLT, Nat.reduceAdd, Nat.reduceSub, Nat.reduceMul, Nat.reduceBEq, reduceCtorEq, Int.reduceAdd, Int.reduceSub, Int.reduceMul, Int.reduceLT, Int.reduceLE, Int.reduceGT, Int.reduceGE, Int.reduceEq, Int.reduceNe, Int.reduceBEq, Int.reduceBNe, Int.reduceTMod, Int.reduceTDiv, ↓if_true, ↓if_false, F76, A76, he, ok2 m.next [] (Nat.le_refl _)]
    exact ⟨_, rfl, by rw [← hg, hgk]; exact ha2.app⟩

theorem rstring_ct {m : Mem} (hw : WF m) {bv : Value} {b : List UInt8} (hb : Bs m bv b) (lb : b.length ≤ 1000000000) : Ct Tryz.prog S0 60 [bv] m [] (Rv fun v m' => Ab m' m.next v (strB b)) := by
  have hgl := groupB_len 9 b.length (by omega) (by omega)
  have hm : (b.length : Int) % 18446744073709551616 = (b.length : Int) := by omega
  refine ct_x (spec0 _) (by rfl) Tryz.func60 rfl ?_
  simp (maxSteps := 2000000) (disch := first | assumption | omega | (simp only [nx_push, nx_set, ne_eq] <;> omega) | (simp only [XSide, F60]; done) | decide) only [XWalk, XSl, ↓XPre, reduceIte, Nat.reduceEqDiff, Nat.reduceLT, Nat.reduceAdd, Nat.reduceSub, Nat.reduceMul, Nat.reduceBEq, reduceCtorEq, Int.reduceAdd, Int.reduceSub, Int.reduceMul, Int.reduceLT, Int.reduceLE, Int.reduceGT, Int.reduceGE, Int.reduceEq, Int.reduceNe, Int.reduceBEq, Int.reduceBNe, Int.reduceTMod, Int.reduceTDiv, ↓if_true, ↓if_false, F60, A60, Tryz.ntmps60, alen_bs hb, hm]
  refine wcall_v specLoc (rgroup_ct hw (by omega)) hw ?_
  intro v m1 hw1 hn1 f1 hv1
  have hb1 := hb.keep (keep_of hw f1)
  simp (maxSteps := 2000000) (disch := first | assumption | omega | (simp only [nx_push, nx_set, ne_eq] <;> omega) | (simp only [XSide, F60]; done) | decide) only [XWalk, XSl, ↓XPre, reduceIte, Nat.reduceEqDiff, Nat.reduceLT, Nat.reduceAdd, Nat.reduceSub, Nat.reduceMul, Nat.reduceBEq, reduceCtorEq, Int.reduceAdd, Int.reduceSub, Int.reduceMul, Int.reduceLT, Int.reduceLE, Int.reduceGT, Int.reduceGE, Int.reduceEq, Int.reduceNe, Int.reduceBEq, Int.reduceBNe, Int.reduceTMod, Int.reduceTDiv, ↓if_true, ↓if_false, F60, A60]
  refine wappend (bytes := 1) (by simp only [F60]) hv1 hb1 (by omega) hn1 hw1 fun v2 m2 w2 ha2 ok2 => ?_
  simp (maxSteps := 2000000) (disch := first | assumption | omega | (simp only [nx_push, nx_set, ne_eq] <;> omega) | (simp only [XSide, F60]; done) | decide) only [XWalk, XSl, ↓XPre, reduceIte, Nat.reduceEqDiff, Nat.reduceLT, Nat.reduceAdd, Nat.reduceSub, Nat.reduceMul, Nat.reduceBEq, reduceCtorEq, Int.reduceAdd, Int.reduceSub, Int.reduceMul, Int.reduceLT, Int.reduceLE, Int.reduceGT, Int.reduceGE, Int.reduceEq, Int.reduceNe, Int.reduceBEq, Int.reduceBNe, Int.reduceTMod, Int.reduceTDiv, ↓if_true, ↓if_false, F60, A60, ok2 m.next [] (Nat.le_refl _)]
  exact ⟨_, rfl, ha2.app⟩

/-! ### Keys, streams -/

theorem rderive_ct {m : Mem} (hw : WF m) {kv : Value} {key label : List UInt8} (hk : Bs m kv key) (lk : key.length ≤ 32) (l2 : label.length ≤ 65536) :
    Ct Tryz.prog S0 33 [kv, str label] m [] (Rv fun v m' => Ab m' m.next v (blakeB key label)) := by
  refine ct_x (spec0 _) (by rfl) Tryz.func33 rfl ?_
  simp (maxSteps := 2000000) (disch := first | assumption | omega | (simp only [nx_push, nx_set, ne_eq] <;> omega) | (simp only [XSide, F33]; done) | decide) only [XWalk, XSl, ↓XPre, reduceIte, Nat.reduceEqDiff, Nat.reduceLT, Nat.reduceAdd, Nat.reduceSub, Nat.reduceMul, Nat.reduceBEq, reduceCtorEq, Int.reduceAdd, Int.reduceSub, Int.reduceMul, Int.reduceLT, Int.reduceLE, Int.reduceGT, Int.reduceGE, Int.reduceEq, Int.reduceNe, Int.reduceBEq, Int.reduceBNe, Int.reduceTMod, Int.reduceTDiv, ↓if_true, ↓if_false, F33, A33, Tryz.ntmps33, aconv_str2]
  have hl : Bs (m.push (.row (u8s label) (.slack 1))) (.slice (some ⟨m.next, 0, none⟩) label.length label.length) label := .row get_push_self (by rw [List.drop_zero, List.take_of_length_le (by rw [u8s_length]; omega)]) (by rw [u8s_length]) (Nat.le_refl _) (fun s hs => by cases hs; exact ⟨rfl, by rw [u8s_length]; omega⟩)
  refine wcall_v specLoc (rhash_ct hw.push (hk.keep (Keep.push hw)) lk hl (by omega)) hw.push ?_
  intro v m1 hw1 hn1 f1 hv1
  simp (maxSteps := 2000000) (disch := first | assumption | omega | (simp only [nx_push, nx_set, ne_eq] <;> omega) | (simp only [XSide, F33]; done) | decide) only [XWalk, XSl, ↓XPre, reduceIte, Nat.reduceEqDiff, Nat.reduceLT, Nat.reduceAdd, Nat.reduceSub, Nat.reduceMul, Nat.reduceBEq, reduceCtorEq, Int.reduceAdd, Int.reduceSub, Int.reduceMul, Int.reduceLT, Int.reduceLE, Int.reduceGT, Int.reduceGE, Int.reduceEq, Int.reduceNe, Int.reduceBEq, Int.reduceBNe, Int.reduceTMod, Int.reduceTDiv, ↓if_true, ↓if_false, F33, A33]
  exact ⟨_, rfl, hv1.mono (by simp)⟩

theorem ev0_sizeOf {P : Program} {t : TypeId} {n : Nat} (h : szOf P t = some n) : eval0 P (sizeOf t) = some n := by
  unfold szOf at h
  cases hi : P.info? t with
  | none => rw [hi] at h; cases h
  | some i =>
    rw [hi] at h
    cases h
    unfold sizeOf typeInfo
    rw [ev0_bind, ev0_bind, show eval0 P program = some P from rfl]
    simp only [Option.bind_some, hi]
    rfl
theorem aslM_nil {P : Program} {m : Mem} {t : TypeId} {n c : Nat} {lo hi mx : Option Value} {o : Res} : aslM P t (.slice none n c) lo hi mx m o = o := id rfl
theorem aslS_nil {P : Program} {m : Mem} {t : TypeId} {k : IntKind} (ht : idxSl P t = some 1) : aslS P t (.slice none 0 0) none (some (.int k 0)) m = some (.slice none 0 0, m, [], .no) := by
  unfold idxSl at ht
  split at ht
  case h_2 => cases ht
  rename_i e h1
  have he : eval0 P (Instr.sliceAt t (.slice none 0 0) none (some (.int k 0)) none) = some (.slice none 0 0) := by
    unfold Instr.sliceAt
    rw [ev0_bind, ev0_under h1]
    simp only [Option.bind_some]
    unfold Instr.slice
    rw [ev0_bind, ev0_under h1]
    simp only [Option.bind_some]
    unfold Instr.sliceBounds
    have hb : ∀ c, eval0 P (Instr.sliceBound (.int k 0) 0 c) = some 0 := fun c => bound_ok (a := 0) (Nat.le_refl 0)
    simp only [ev0_bind, ev0_pure, Option.bind_some, hb, ev0_sizeOf ht]
    rfl
  unfold aslS
  rw [show plain (.slice none 0 0) = true from rfl, he]
  rfl

theorem be64_step {i j : Nat} (hj : j < 8) : (be64 i).take (j + 1) = (be64 i).take j ++ [UInt8.ofNat (i / 2 ^ (56 - 8 * j))] := by
  have hc : j = 0 ∨ j = 1 ∨ j = 2 ∨ j = 3 ∨ j = 4 ∨ j = 5 ∨ j = 6 ∨ j = 7 := by omega
  rcases hc with rfl | rfl | rfl | rfl | rfl | rfl | rfl | rfl <;> simp [be64]

theorem rstream_ct {m : Mem} (hw : WF m) {kv nv : Value} {key nonce : List UInt8} {n : Nat} (hk : Bs m kv key) (lk : key.length ≤ 32) (hn : Bs m nv nonce) (ln : nonce.length ≤ 100) (hnn : n ≤ 70000) :
    Ct Tryz.prog S0 72 [kv, nv, .int .i64 (n : Int)] m [] (Rv fun v m' => Bs m' v (streamB (blakeB key streamL) nonce n) ∧ ∀ b, slBlk v = some b → m.next ≤ b) := by
  refine ct_x (spec0 _) (by rfl) Tryz.func72 rfl ?_
  simp (maxSteps := 2000000) (disch := first | assumption | omega | (simp only [nx_push, nx_set, ne_eq] <;> omega) | (simp only [XSide, F72]; done) | decide) only [XWalk, XSl, ↓XPre, reduceIte, Nat.reduceEqDiff, Nat.reduceLT, Nat.reduceAdd, Nat.reduceSub, Nat.reduceMul, Nat.reduceBEq, reduceCtorEq, Int.reduceAdd, Int.reduceSub, Int.reduceMul, Int.reduceLT, Int.reduceLE, Int.reduceGT, Int.reduceGE, Int.reduceEq, Int.reduceNe, Int.reduceBEq, Int.reduceBNe, Int.reduceTMod, Int.reduceTDiv, ↓if_true, ↓if_false, F72, A72, Tryz.ntmps72]
  refine wcall_v specLoc (rderive_ct (label := streamL) hw hk lk (by decide)) hw ?_
  intro dv m1 hw1 hn1 f1 hd1
  have hno1 : Bs m1 nv nonce := hn.keep (keep_of hw f1)
  have ld : (blakeB key streamL).length = 32 := blakeB_length
  generalize blakeB key streamL = dk at *
  simp (maxSteps := 2000000) (disch := first | assumption | omega | (simp only [nx_push, nx_set, ne_eq] <;> omega) | (simp only [XSide, F72]; done) | decide) only [XWalk, XSl, ↓XPre, reduceIte, Nat.reduceEqDiff, Nat.reduceLT, Nat.reduceAdd, Nat.reduceSub, Nat.reduceMul, Nat.reduceBEq, reduceCtorEq, Int.reduceAdd, Int.reduceSub, Int.reduceMul, Int.reduceLT, Int.reduceLE, Int.reduceGT, Int.reduceGE, Int.reduceEq, Int.reduceNe, Int.reduceBEq, Int.reduceBNe, Int.reduceTMod, Int.reduceTDiv, ↓if_true, ↓if_false, F72, A72]
  refine x_loop (fun k e m2 => ∃ i mv, i + k = n + 1 ∧ e.n = 42 ∧ e.get 1 = nv ∧ e.get 2 = .int .i64 (n : Int) ∧ e.get 7 = mv ∧ e.get 8 = dv ∧ e.get 9 = .int .i64 ((i : Nat) : Int) ∧ WF m2 ∧ m1.next ≤ m2.next ∧ (∀ b, b < m1.next → m2.get b = m1.get b) ∧ Ab m2 m1.next mv (streamN dk nonce i)) (n + 1)
    ⟨0, .slice none 0 0, by omega, by simp (maxSteps := 2000000) (disch := first | assumption | omega | (simp only [nx_push, nx_set, ne_eq] <;> omega) | (simp only [XSide]; done) | decide) only [XWalk, XSl, ↓XPre, reduceIte, Nat.reduceEqDiff, Nat.reduceLT, Nat.reduceAdd, Nat.reduceSub, Nat.reduceMul, Nat.reduceBEq, reduceCtorEq, Int.reduceAdd, Int.reduceSub, Int.reduceMul, Int.reduceLT, Int.reduceLE, Int.reduceGT, Int.reduceGE, Int.reduceEq, Int.reduceNe, Int.reduceBEq, Int.reduceBNe, Int.reduceTMod, Int.reduceTDiv, ↓if_true, ↓if_false], by simp (maxSteps := 2000000) (disch := first | assumption | omega | (simp only [nx_push, nx_set, ne_eq] <;> omega) | (simp only [XSide]; done) | decide) only [XWalk, XSl, ↓XPre, reduceIte, Nat.reduceEqDiff, Nat.reduceLT, Nat.reduceAdd, Nat.reduceSub, Nat.reduceMul, Nat.reduceBEq, reduceCtorEq, Int.reduceAdd, Int.reduceSub, Int.reduceMul, Int.reduceLT, Int.reduceLE, Int.reduceGT, Int.reduceGE, Int.reduceEq, Int.reduceNe, Int.reduceBEq, Int.reduceBNe, Int.reduceTMod, Int.reduceTDiv, ↓if_true, ↓if_false], by simp (maxSteps := 2000000) (disch := first | assumption | omega | (simp only [nx_push, nx_set, ne_eq] <;> omega) | (simp only [XSide]; done) | decide) only [XWalk, XSl, ↓XPre, reduceIte, Nat.reduceEqDiff, Nat.reduceLT, Nat.reduceAdd, Nat.reduceSub, Nat.reduceMul, Nat.reduceBEq, reduceCtorEq, Int.reduceAdd, Int.reduceSub, Int.reduceMul, Int.reduceLT, Int.reduceLE, Int.reduceGT, Int.reduceGE, Int.reduceEq, Int.reduceNe, Int.reduceBEq, Int.reduceBNe, Int.reduceTMod, Int.reduceTDiv, ↓if_true, ↓if_false], by simp (maxSteps := 2000000) (disch := first | assumption | omega | (simp only [nx_push, nx_set, ne_eq] <;> omega) | (simp only [XSide]; done) | decide) only [XWalk, XSl, ↓XPre, reduceIte, Nat.reduceEqDiff, Nat.reduceLT, Nat.reduceAdd, Nat.reduceSub, Nat.reduceMul, Nat.reduceBEq, reduceCtorEq, Int.reduceAdd, Int.reduceSub, Int.reduceMul, Int.reduceLT, Int.reduceLE, Int.reduceGT, Int.reduceGE, Int.reduceEq, Int.reduceNe, Int.reduceBEq, Int.reduceBNe, Int.reduceTMod, Int.reduceTDiv, ↓if_true, ↓if_false], by simp (maxSteps := 2000000) (disch := first | assumption | omega | (simp only [nx_push, nx_set, ne_eq] <;> omega) | (simp only [XSide]; done) | decide) only [XWalk, XSl, ↓XPre, reduceIte, Nat.reduceEqDiff, Nat.reduceLT, Nat.reduceAdd, Nat.reduceSub, Nat.reduceMul, Nat.reduceBEq, reduceCtorEq, Int.reduceAdd, Int.reduceSub, Int.reduceMul, Int.reduceLT, Int.reduceLE, Int.reduceGT, Int.reduceGE, Int.reduceEq, Int.reduceNe, Int.reduceBEq, Int.reduceBNe, Int.reduceTMod, Int.reduceTDiv, ↓if_true, ↓if_false], by simp (maxSteps := 2000000) (disch := first | assumption | omega | (simp only [nx_push, nx_set, ne_eq] <;> omega) | (simp only [XSide]; done) | decide) only [XWalk, XSl, ↓XPre, reduceIte, Nat.reduceEqDiff, Nat.reduceLT, Nat.reduceAdd, Nat.reduceSub, Nat.reduceMul, Nat.reduceBEq, reduceCtorEq, Int.reduceAdd, Int.reduceSub, Int.reduceMul, Int.reduceLT, Int.reduceLE, Int.reduceGT, Int.reduceGE, Int.reduceEq, Int.reduceNe, Int.reduceBEq, Int.reduceBNe, Int.reduceTMod, Int.reduceTDiv, ↓if_true, ↓if_false]; rfl, hw1, Nat.le_refl _, fun _ _ => rfl, .nil⟩ ?_
  rintro k e m2 ⟨i, mv, hi, he, q1, q2, q7, q8, q9, hw2, hn2, f2, hm2⟩
  have lmv : (streamN dk nonce i).length = 32 * i := streamN_length
  simp (maxSteps := 2000000) (disch := first | assumption | omega | (simp only [nx_push, nx_set, ne_eq] <;> omega) | (simp only [XSide, F72]; done) | decide) only [XWalk, XSl, ↓XPre, reduceIte, Nat.reduceEqDiff, Nat.reduceLT, Nat.reduceAdd, Nat.reduceSub, Nat.reduceMul, Nat.reduceBEq, reduceCtorEq, Int.reduceAdd, Int.reduceSub, Int.reduceMul, Int.reduceLT, Int.reduceLE, Int.reduceGT, Int.reduceGE, Int.reduceEq, Int.reduceNe, Int.reduceBEq, Int.reduceBNe, Int.reduceTMod, Int.reduceTDiv, ↓if_true, ↓if_false, F72, A72, he, q2, q7, alen_bs hm2.sl, lmv]
  refine x_if (fun hx => ?_) (fun hx => ?_)
  · have hlt : 32 * i < n := by have := of_decide_eq_true hx; omega
    have hno2 : Bs m2 nv nonce := hno1.frame_at fun c hc => f2 c (hno1.blk_lt hw1 hc)
    have hd2 : Bs m2 dv dk := hd1.sl.frame_at fun c hc => f2 c (hd1.blk_lt hw1 hc)
    simp (maxSteps := 2000000) (disch := first | assumption | omega | (simp only [nx_push, nx_set, ne_eq] <;> omega) | (simp only [XSide, F72]; done) | decide) only [XWalk, XSl, ↓XPre, reduceIte, Nat.reduceEqDiff, Nat.reduceLT, Nat.reduceAdd, Nat.reduceSub, Nat.reduceMul, Nat.reduceBEq, reduceCtorEq, Int.reduceAdd, Int.reduceSub, Int.reduceMul, Int.reduceLT, Int.reduceLE, Int.reduceGT, Int.reduceGE, Int.reduceEq, Int.reduceNe, Int.reduceBEq, Int.reduceBNe, Int.reduceTMod, Int.reduceTDiv, ↓if_true, ↓if_false, F72, A72, he, q1, bs0]
    refine wappend (bytes := 1) (by simp only [F72]) (App.empty (Nat.le_refl _)) (hno2.keep (Keep.push hw2)) (by rw [List.length_nil]; omega) (by simp) hw2.push fun v3 m3 w3 ha3 ok3 => ?_
    rw [List.nil_append] at ha3
    simp (maxSteps := 2000000) (disch := first | assumption | omega | (simp only [nx_push, nx_set, ne_eq] <;> omega) | (simp only [XSide, F72]; done) | decide) only [XWalk, XSl, ↓XPre, reduceIte, Nat.reduceEqDiff, Nat.reduceLT, Nat.reduceAdd, Nat.reduceSub, Nat.reduceMul, Nat.reduceBEq, reduceCtorEq, Int.reduceAdd, Int.reduceSub, Int.reduceMul, Int.reduceLT, Int.reduceLE, Int.reduceGT, Int.reduceGE, Int.reduceEq, Int.reduceNe, Int.reduceBEq, Int.reduceBNe, Int.reduceTMod, Int.reduceTDiv, ↓if_true, ↓if_false, F72, A72, he, ok3 m.next [] (by omega)]
    have f3 : ∀ b, b < m2.next → m3.get b = m2.get b := fun b hb => by rw [ha3.old (fun b hb => by simp [slBlk] at hb; omega) b hb (by simp; omega), get_push_ne (by omega)]
    have hn3 : m2.next ≤ m3.next := by have := ha3.next; simp only [Mem.next_push] at this; omega
    refine x_loop (fun k e m4 => ∃ j mm, j + k = 8 ∧ e.n = 42 ∧ e.get 1 = nv ∧ e.get 2 = .int .i64 (n : Int) ∧ e.get 7 = mv ∧ e.get 8 = dv ∧ e.get 9 = .int .i64 ((i : Nat) : Int) ∧ e.get 10 = mm ∧ e.get 11 = .int .i64 (56 - 8 * (j : Int)) ∧ WF m4 ∧ m2.next ≤ m4.next ∧ (∀ b, b < m2.next → m4.get b = m2.get b) ∧ Ab m4 m2.next mm (nonce ++ (be64 i).take j)) 8
      ⟨0, v3, by omega, by simp (maxSteps := 2000000) (disch := first | assumption | omega | (simp only [nx_push, nx_set, ne_eq] <;> omega) | (simp only [XSide]; done) | decide) only [XWalk, XSl, ↓XPre, reduceIte, Nat.reduceEqDiff, Nat.reduceLT, Nat.reduceAdd, Nat.reduceSub, Nat.reduceMul, Nat.reduceBEq, reduceCtorEq, Int.reduceAdd, Int.reduceSub, Int.reduceMul, Int.reduceLT, Int.reduceLE, Int.reduceGT, Int.reduceGE, Int.reduceEq, Int.reduceNe, Int.reduceBEq, Int.reduceBNe, Int.reduceTMod, Int.reduceTDiv, ↓if_true, ↓if_false, he], by simp (maxSteps := 2000000) (disch := first | assumption | omega | (simp only [nx_push, nx_set, ne_eq] <;> omega) | (simp only [XSide]; done) | decide) only [XWalk, XSl, ↓XPre, reduceIte, Nat.reduceEqDiff, Nat.reduceLT, Nat.reduceAdd, Nat.reduceSub, Nat.reduceMul, Nat.reduceBEq, reduceCtorEq, Int.reduceAdd, Int.reduceSub, Int.reduceMul, Int.reduceLT, Int.reduceLE, Int.reduceGT, Int.reduceGE, Int.reduceEq, Int.reduceNe, Int.reduceBEq, Int.reduceBNe, Int.reduceTMod, Int.reduceTDiv, ↓if_true, ↓if_false, q1], by simp (maxSteps := 2000000) (disch := first | assumption | omega | (simp only [nx_push, nx_set, ne_eq] <;> omega) | (simp only [XSide]; done) | decide) only [XWalk, XSl, ↓XPre, reduceIte, Nat.reduceEqDiff, Nat.reduceLT, Nat.reduceAdd, Nat.reduceSub, Nat.reduceMul, Nat.reduceBEq, reduceCtorEq, Int.reduceAdd, Int.reduceSub, Int.reduceMul, Int.reduceLT, Int.reduceLE, Int.reduceGT, Int.reduceGE, Int.reduceEq, Int.reduceNe, Int.reduceBEq, Int.reduceBNe, Int.reduceTMod, Int.reduceTDiv, ↓if_true, ↓if_false, q2], by simp (maxSteps := 2000000) (disch := first | assumption | omega | (simp only [nx_push, nx_set, ne_eq] <;> omega) | (simp only [XSide]; done) | decide) only [XWalk, XSl, ↓XPre, reduceIte, Nat.reduceEqDiff, Nat.reduceLT, Nat.reduceAdd, Nat.reduceSub, Nat.reduceMul, Nat.reduceBEq, reduceCtorEq, Int.reduceAdd, Int.reduceSub, Int.reduceMul, Int.reduceLT, Int.reduceLE, Int.reduceGT, Int.reduceGE, Int.reduceEq, Int.reduceNe, Int.reduceBEq, Int.reduceBNe, Int.reduceTMod, Int.reduceTDiv, ↓if_true, ↓if_false, q7], by simp (maxSteps := 2000000) (disch := first | assumption | omega | (simp only [nx_push, nx_set, ne_eq] <;> omega) | (simp only [XSide]; done) | decide) only [XWalk, XSl, ↓XPre, reduceIte, Nat.reduceEqDiff, Nat.reduceLT, Nat.reduceAdd, Nat.reduceSub, Nat.reduceMul, Nat.reduceBEq, reduceCtorEq, Int.reduceAdd, Int.reduceSub, Int.reduceMul, Int.reduceLT, Int.reduceLE, Int.reduceGT, Int.reduceGE, Int.reduceEq, Int.reduceNe, Int.reduceBEq, Int.reduceBNe, Int.reduceTMod, Int.reduceTDiv, ↓if_true, ↓if_false, q8], by simp (maxSteps := 2000000) (disch := first | assumption | omega | (simp only [nx_push, nx_set, ne_eq] <;> omega) | (simp only [XSide]; done) | decide) only [XWalk, XSl, ↓XPre, reduceIte, Nat.reduceEqDiff, Nat.reduceLT, Nat.reduceAdd, Nat.reduceSub, Nat.reduceMul, Nat.reduceBEq, reduceCtorEq, Int.reduceAdd, Int.reduceSub, Int.reduceMul, Int.reduceLT, Int.reduceLE, Int.reduceGT, Int.reduceGE, Int.reduceEq, Int.reduceNe, Int.reduceBEq, Int.reduceBNe, Int.reduceTMod, Int.reduceTDiv, ↓if_true, ↓if_false, q9], by simp (maxSteps := 2000000) (disch := first | assumption | omega | (simp only [nx_push, nx_set, ne_eq] <;> omega) | (simp only [XSide]; done) | decide) only [XWalk, XSl, ↓XPre, reduceIte, Nat.reduceEqDiff, Nat.reduceLT, Nat.reduceAdd, Nat.reduceSub, Nat.reduceMul, Nat.reduceBEq, reduceCtorEq, Int.reduceAdd, Int.reduceSub, Int.reduceMul, Int.reduceLT, Int.reduceLE, Int.reduceGT, Int.reduceGE, Int.reduceEq, Int.reduceNe, Int.reduceBEq, Int.reduceBNe, Int.reduceTMod, Int.reduceTDiv, ↓if_true, ↓if_false], by simp (maxSteps := 2000000) (disch := first | assumption | omega | (simp only [nx_push, nx_set, ne_eq] <;> omega) | (simp only [XSide]; done) | decide) only [XWalk, XSl, ↓XPre, reduceIte, Nat.reduceEqDiff, Nat.reduceLT, Nat.reduceAdd, Nat.reduceSub, Nat.reduceMul, Nat.reduceBEq, reduceCtorEq, Int.reduceAdd, Int.reduceSub, Int.reduceMul, Int.reduceLT, Int.reduceLE, Int.reduceGT, Int.reduceGE, Int.reduceEq, Int.reduceNe, Int.reduceBEq, Int.reduceBNe, Int.reduceTMod, Int.reduceTDiv, ↓if_true, ↓if_false]; rfl, ha3.wf, hn3, f3, by rw [List.take_zero, List.append_nil]; exact ha3.app⟩ ?_
    clear q1 q2 q7 q8 q9 hx he e
    rintro k4 e m4 ⟨j, mm, hj, he, q1, q2, q7, q8, q9, q10, q11, hw4, hn4, f4, hm4⟩
    have ltk : (nonce ++ (be64 i).take j).length ≤ 108 := by rw [List.length_append, List.length_take]; simp [be64]; omega
    simp (maxSteps := 2000000) (disch := first | assumption | omega | (simp only [nx_push, nx_set, ne_eq] <;> omega) | (simp only [XSide, F72]; done) | decide) only [XWalk, XSl, ↓XPre, reduceIte, Nat.reduceEqDiff, Nat.reduceLT, Nat.reduceAdd, Nat.reduceSub, Nat.reduceMul, Nat.reduceBEq, reduceCtorEq, Int.reduceAdd, Int.reduceSub, Int.reduceMul, Int.reduceLT, Int.reduceLE, Int.reduceGT, Int.reduceGE, Int.reduceEq, Int.reduceNe, Int.reduceBEq, Int.reduceBNe, Int.reduceTMod, Int.reduceTDiv, ↓if_true, ↓if_false, F72, A72, he, q11]
    refine x_if (fun hx => ?_) (fun hx => ?_)
    · have hj8 : j < 8 := by have := of_decide_eq_true hx; omega
      have e1 : (56 - 8 * (j : Int)) = ((56 - 8 * j : Nat) : Int) := by omega
      have e2 : shrK .i64 (i : Int) ((56 - 8 * j : Nat) : Int) % 256 = ((UInt8.ofNat (i / 2 ^ (56 - 8 * j))).toNat : Int) := by
        rw [shrK_nat (k := .i64) (a := i) (n := 56 - 8 * j) (by simp [IntKind.bits]; omega), UInt8.toNat_ofNat']
        omega
      have e3 : IntKind.wrap .i64 (((56 - 8 * j : Nat) : Int) - 8) = 56 - 8 * ((j + 1 : Nat) : Int) := by rw [wrap_i64 (by omega) (by omega)]; omega
      simp (maxSteps := 2000000) (disch := first | assumption | omega | (simp only [nx_push, nx_set, ne_eq] <;> omega) | (simp only [XSide, F72]; done) | decide) only [XWalk, XSl, ↓XPre, reduceIte, Nat.reduceEqDiff, Nat.reduceLT, Nat.reduceAdd, Nat.reduceSub, Nat.reduceMul, Nat.reduceBEq, reduceCtorEq, Int.reduceAdd, Int.reduceSub, Int.reduceMul, Int.reduceLT, Int.reduceLE, Int.reduceGT, Int.reduceGE, Int.reduceEq, Int.reduceNe, Int.reduceBEq, Int.reduceBNe, Int.reduceTMod, Int.reduceTDiv, ↓if_true, ↓if_false, F72, A72, he, q9, q10, q11, e1, e2]
      refine wappend (bytes := 1) (b := [UInt8.ofNat (i / 2 ^ (56 - 8 * j))]) (by simp only [F72]) (hm4.keep (Keep.push hw4)) (Sl.of_row get_push_self rfl rfl (Nat.le_refl _)) (by simp only [List.length_singleton]; omega) (by simp; omega) hw4.push fun v5 m5 w5 ha5 ok5 => ?_
      simp (maxSteps := 2000000) (disch := first | assumption | omega | (simp only [nx_push, nx_set, ne_eq] <;> omega) | (simp only [XSide, F72]; done) | decide) only [XWalk, XSl, ↓XPre, reduceIte, Nat.reduceEqDiff, Nat.reduceLT, Nat.reduceAdd, Nat.reduceSub, Nat.reduceMul, Nat.reduceBEq, reduceCtorEq, Int.reduceAdd, Int.reduceSub, Int.reduceMul, Int.reduceLT, Int.reduceLE, Int.reduceGT, Int.reduceGE, Int.reduceEq, Int.reduceNe, Int.reduceBEq, Int.reduceBNe, Int.reduceTMod, Int.reduceTDiv, ↓if_true, ↓if_false, F72, A72, he, q1, q2, q7, q8, q9, q11, e1, e3, ok5 m.next [] (by omega)]
      refine ⟨k4 - 1, by omega, j + 1, v5, by omega, rfl, rfl, ha5.wf, by have := ha5.next; simp only [Mem.next_push] at this; omega, fun b hb => ?_, ?_⟩
      · rw [ha5.old (fun b hb => hm4.blk_ge hb) b hb (by simp; omega), get_push_ne (by omega)]; exact f4 b hb
      · have := ha5.app
        rw [List.append_assoc, ← be64_step hj8] at this
        exact this
    · have hj8 : j = 8 := by have := of_decide_eq_false hx; omega
      subst hj8
      rw [List.take_of_length_le (by simp [be64])] at hm4
      have hd4 : Bs m4 dv dk := hd2.frame_at fun c hc => f4 c (hd2.blk_lt hw2 hc)
      simp (maxSteps := 2000000) (disch := first | assumption | omega | (simp only [nx_push, nx_set, ne_eq] <;> omega) | (simp only [XSide, F72]; done) | decide) only [XWalk, XSl, ↓XPre, reduceIte, Nat.reduceEqDiff, Nat.reduceLT, Nat.reduceAdd, Nat.reduceSub, Nat.reduceMul, Nat.reduceBEq, reduceCtorEq, Int.reduceAdd, Int.reduceSub, Int.reduceMul, Int.reduceLT, Int.reduceLE, Int.reduceGT, Int.reduceGE, Int.reduceEq, Int.reduceNe, Int.reduceBEq, Int.reduceBNe, Int.reduceTMod, Int.reduceTDiv, ↓if_true, ↓if_false, F72, A72, he, q7, q8, q10]
      refine wcall_v specLoc (rhash_ct hw4 hd4 (by omega) hm4.sl (by simp [be64]; omega)) hw4 ?_
      intro v6 m6 hw6 hn6 f6 hv6
      have hm6 : Ab m6 m1.next mv (streamN dk nonce i) := hm2.frame fun c hc => by
        have := hm2.blk_lt hw2 hc
        rw [f6 c (by omega)]; exact f4 c this
      simp (maxSteps := 2000000) (disch := first | assumption | omega | (simp only [nx_push, nx_set, ne_eq] <;> omega) | (simp only [XSide, F72]; done) | decide) only [XWalk, XSl, ↓XPre, reduceIte, Nat.reduceEqDiff, Nat.reduceLT, Nat.reduceAdd, Nat.reduceSub, Nat.reduceMul, Nat.reduceBEq, reduceCtorEq, Int.reduceAdd, Int.reduceSub, Int.reduceMul, Int.reduceLT, Int.reduceLE, Int.reduceGT, Int.reduceGE, Int.reduceEq, Int.reduceNe, Int.reduceBEq, Int.reduceBNe, Int.reduceTMod, Int.reduceTDiv, ↓if_true, ↓if_false, F72, A72, he]
      refine wappend (bytes := 1) (by simp only [F72]) hm6 hv6.sl (by rw [lmv, blakeB_length]; omega) (by omega) hw6 fun v7 m7 w7 ha7 ok7 => ?_
      have g4 : IntKind.wrap .i64 ((i : Int) + 1) = ((i + 1 : Nat) : Int) := by rw [wrap_i64 (by omega) (by omega)]; omega
      simp (maxSteps := 2000000) (disch := first | assumption | omega | (simp only [nx_push, nx_set, ne_eq] <;> omega) | (simp only [XSide, F72]; done) | decide) only [XWalk, XSl, ↓XPre, reduceIte, Nat.reduceEqDiff, Nat.reduceLT, Nat.reduceAdd, Nat.reduceSub, Nat.reduceMul, Nat.reduceBEq, reduceCtorEq, Int.reduceAdd, Int.reduceSub, Int.reduceMul, Int.reduceLT, Int.reduceLE, Int.reduceGT, Int.reduceGE, Int.reduceEq, Int.reduceNe, Int.reduceBEq, Int.reduceBNe, Int.reduceTMod, Int.reduceTDiv, ↓if_true, ↓if_false, F72, A72, he, q1, q2, q8, q9, g4, ok7 m.next [] (by omega)]
      refine ⟨k - 1, by omega, i + 1, v7, by omega, rfl, rfl, ha7.wf, by have := ha7.next; omega, fun b hb => ?_, by rw [streamN_succ]; exact ha7.app⟩
      rw [ha7.old (fun b hb => hm2.blk_ge hb) b hb (by omega), f6 b (by omega), f4 b (by omega)]; exact f2 b hb
  · have hge : n ≤ 32 * i := by have := of_decide_eq_false hx; omega
    have hst : (streamN dk nonce i).take n = streamB dk nonce n := by
      rw [streamB]
      rcases Nat.le_total (n / 32 + 1) i with h | h
      · obtain ⟨j, rfl⟩ := Nat.exists_eq_add_of_le h
        exact streamN_take (by omega)
      · obtain ⟨j, hj⟩ := Nat.exists_eq_add_of_le h
        rw [hj]
        exact (streamN_take hge).symm
    simp (maxSteps := 2000000) (disch := first | assumption | omega | (simp only [nx_push, nx_set, ne_eq] <;> omega) | (simp only [XSide, F72]; done) | decide) only [XWalk, XSl, ↓XPre, reduceIte, Nat.reduceEqDiff, Nat.reduceLT, Nat.reduceAdd, Nat.reduceSub, Nat.reduceMul, Nat.reduceBEq, reduceCtorEq, Int.reduceAdd, Int.reduceSub, Int.reduceMul, Int.reduceLT, Int.reduceLE, Int.reduceGT, Int.reduceGE, Int.reduceEq, Int.reduceNe, Int.reduceBEq, Int.reduceBNe, Int.reduceTMod, Int.reduceTDiv, ↓if_true, ↓if_false, F72, A72, he, q2, q7]
    rcases Nat.eq_zero_or_pos i with hi0 | hi0
    · subst hi0
      obtain rfl : n = 0 := by omega
      rw [← hst]
      have key0 : ∀ v' : Value, Bs m2 v' ((streamN dk nonce 0).take 0) → Bs m2 v' [] := fun v' h => h
      rcases hm2.sl.shape with ⟨rfl, -⟩ | ⟨a, c, hmv⟩
      · simp (maxSteps := 2000000) (disch := first | assumption | omega | (simp only [nx_push, nx_set, ne_eq] <;> omega) | (simp only [XSide, F72]; done) | decide) only [XWalk, XSl, ↓XPre, reduceIte, Nat.reduceEqDiff, Nat.reduceLT, Nat.reduceAdd, Nat.reduceSub, Nat.reduceMul, Nat.reduceBEq, reduceCtorEq, Int.reduceAdd, Int.reduceSub, Int.reduceMul, Int.reduceLT, Int.reduceLE, Int.reduceGT, Int.reduceGE, Int.reduceEq, Int.reduceNe, Int.reduceBEq, Int.reduceBNe, Int.reduceTMod, Int.reduceTDiv, ↓if_true, ↓if_false, F72, A72, he, q2, q7, aslM_nil, pv_slice, cast_lit, aslS_nil (k := .i64) (show idxSl Tryz.prog 22 = some 1 by simp only [F72])]
        exact ⟨_, rfl, .nil, by simp [slBlk]⟩
      · refine Bs.wslice hm2.sl (a := 0) (b := 0) (by simp only [F72]) (by rw [hmv]; simp) rfl rfl (by omega) (by omega) fun v8 hv8 hb8 => ?_
        simp (maxSteps := 2000000) (disch := first | assumption | omega | (simp only [nx_push, nx_set, ne_eq] <;> omega) | (simp only [XSide, F72]; done) | decide) only [XWalk, XSl, ↓XPre, reduceIte, Nat.reduceEqDiff, Nat.reduceLT, Nat.reduceAdd, Nat.reduceSub, Nat.reduceMul, Nat.reduceBEq, reduceCtorEq, Int.reduceAdd, Int.reduceSub, Int.reduceMul, Int.reduceLT, Int.reduceLE, Int.reduceGT, Int.reduceGE, Int.reduceEq, Int.reduceNe, Int.reduceBEq, Int.reduceBNe, Int.reduceTMod, Int.reduceTDiv, ↓if_true, ↓if_false, F72, A72, he]
        exact ⟨_, rfl, hv8, fun b hb => by have := hm2.blk_ge (hb8 b hb); omega⟩
    · refine Bs.wslice hm2.sl (a := 0) (b := n) (by simp only [F72]) (Bs.not_nil hm2.sl (by omega)) rfl rfl (by omega) (by omega) fun v8 hv8 hb8 => ?_
      rw [List.drop_zero, Nat.sub_zero, hst] at hv8
      simp (maxSteps := 2000000) (disch := first | assumption | omega | (simp only [nx_push, nx_set, ne_eq] <;> omega) | (simp only [XSide, F72]; done) | decide) only [XWalk, XSl, ↓XPre, reduceIte, Nat.reduceEqDiff, Nat.reduceLT, Nat.reduceAdd, Nat.reduceSub, Nat.reduceMul, Nat.reduceBEq, reduceCtorEq, Int.reduceAdd, Int.reduceSub, Int.reduceMul, Int.reduceLT, Int.reduceLE, Int.reduceGT, Int.reduceGE, Int.reduceEq, Int.reduceNe, Int.reduceBEq, Int.reduceBNe, Int.reduceTMod, Int.reduceTDiv, ↓if_true, ↓if_false, F72, A72, he]
      exact ⟨_, rfl, hv8, fun b hb => by have := hm2.blk_ge (hb8 b hb); omega⟩

theorem rtag_ct {m : Mem} (hw : WF m) {kv bv : Value} {key b : List UInt8} (hk : Bs m kv key) (lk : key.length ≤ 32) (hb : Bs m bv b) (lb : b.length ≤ 1000000000) :
    Ct Tryz.prog S0 71 [kv, bv] m [] (Rv fun v m' => Bs m' v ((blakeB (blakeB key tagL) b).take 16)) := by
  refine ct_x (spec0 _) (by rfl) Tryz.func71 rfl ?_
  simp (maxSteps := 2000000) (disch := first | assumption | omega | (simp only [nx_push, nx_set, ne_eq] <;> omega) | (simp only [XSide, F71]; done) | decide) only [XWalk, XSl, ↓XPre, reduceIte, Nat.reduceEqDiff, Nat.reduceLT, Nat.reduceAdd, Nat.reduceSub, Nat.reduceMul, Nat.reduceBEq, reduceCtorEq, Int.reduceAdd, Int.reduceSub, Int.reduceMul, Int.reduceLT, Int.reduceLE, Int.reduceGT, Int.reduceGE, Int.reduceEq, Int.reduceNe, Int.reduceBEq, Int.reduceBNe, Int.reduceTMod, Int.reduceTDiv, ↓if_true, ↓if_false, F71, A71, Tryz.ntmps71]
  refine wcall_v specLoc (rderive_ct (label := tagL) hw hk lk (by decide)) hw ?_
  intro dv m1 hw1 hn1 f1 hd1
  simp (maxSteps := 2000000) (disch := first | assumption | omega | (simp only [nx_push, nx_set, ne_eq] <;> omega) | (simp only [XSide, F71]; done) | decide) only [XWalk, XSl, ↓XPre, reduceIte, Nat.reduceEqDiff, Nat.reduceLT, Nat.reduceAdd, Nat.reduceSub, Nat.reduceMul, Nat.reduceBEq, reduceCtorEq, Int.reduceAdd, Int.reduceSub, Int.reduceMul, Int.reduceLT, Int.reduceLE, Int.reduceGT, Int.reduceGE, Int.reduceEq, Int.reduceNe, Int.reduceBEq, Int.reduceBNe, Int.reduceTMod, Int.reduceTDiv, ↓if_true, ↓if_false, F71, A71]
  refine wcall_v specLoc (rhash_ct hw1 hd1.sl (by rw [blakeB_length]; omega) (hb.keep (keep_of hw f1)) lb) hw1 ?_
  intro v2 m2 hw2 hn2 f2 hv2
  simp (maxSteps := 2000000) (disch := first | assumption | omega | (simp only [nx_push, nx_set, ne_eq] <;> omega) | (simp only [XSide, F71]; done) | decide) only [XWalk, XSl, ↓XPre, reduceIte, Nat.reduceEqDiff, Nat.reduceLT, Nat.reduceAdd, Nat.reduceSub, Nat.reduceMul, Nat.reduceBEq, reduceCtorEq, Int.reduceAdd, Int.reduceSub, Int.reduceMul, Int.reduceLT, Int.reduceLE, Int.reduceGT, Int.reduceGE, Int.reduceEq, Int.reduceNe, Int.reduceBEq, Int.reduceBNe, Int.reduceTMod, Int.reduceTDiv, ↓if_true, ↓if_false, F71, A71]
  refine Bs.wslice hv2.sl (a := 0) (b := 16) (by simp only [F71]) (Bs.not_nil hv2.sl (by rw [blakeB_length]; omega)) rfl rfl (by omega) (by rw [blakeB_length]; omega) fun v8 hv8 hb8 => ?_
  rw [List.drop_zero] at hv8
  simp (maxSteps := 2000000) (disch := first | assumption | omega | (simp only [nx_push, nx_set, ne_eq] <;> omega) | (simp only [XSide, F71]; done) | decide) only [XWalk, XSl, ↓XPre, reduceIte, Nat.reduceEqDiff, Nat.reduceLT, Nat.reduceAdd, Nat.reduceSub, Nat.reduceMul, Nat.reduceBEq, reduceCtorEq, Int.reduceAdd, Int.reduceSub, Int.reduceMul, Int.reduceLT, Int.reduceLE, Int.reduceGT, Int.reduceGE, Int.reduceEq, Int.reduceNe, Int.reduceBEq, Int.reduceBNe, Int.reduceTMod, Int.reduceTDiv, ↓if_true, ↓if_false, F71, A71]
  exact ⟨_, rfl, hv8⟩

end Go.Big

/- The reference's opening. -/
set_option linter.unusedSimpArgs false
set_option linter.unusedVariables false
set_option maxRecDepth 100000
set_option maxHeartbeats 4000000
namespace Go.Big
open Go.Proofs

theorem u8_atn {l : List UInt8} {rs : List Value} {o n i : Nat} (h : (rs.drop o).take n = u8s l) (hi : i < l.length) : rs[o + i]? = some (.int .u8 ((l.getD i 0).toNat : Int)) := by
  rw [take_drop_get h (by rw [u8s_length]; exact hi), u8s_get (b := l.getD i 0)]
  simp [hi]
theorem xorB_len' {s b : List UInt8} : (xorB s b).length = min s.length b.length := by simp [xorB]
theorem xorB_step {s b : List UInt8} {j : Nat} (h1 : j < s.length) (h2 : j < b.length) : (xorB s b).take (j + 1) = (xorB s b).take j ++ [b.getD j 0 ^^^ s.getD j 0] := by
  have hlt : j < (xorB s b).length := by rw [xorB_len']; omega
  rw [List.take_succ_eq_append_getElem hlt]
  congr 1
  simp [xorB, h1, h2, UInt8.xor_comm]

theorem Bs.rd {m : Mem} {v : Value} {l : List UInt8} (h : Bs m v l) (hw : WF m) (hl : 0 < l.length) : ∃ b, rdV v = .one b ∧ slBlk v = some b ∧ b < m.next := by
  obtain ⟨b, o, c, rs, k, hv, hm, -, -, -⟩ := h.inv (u8s_ne hl)
  subst hv
  exact ⟨b, rfl, rfl, hw.lt (by rw [hm]; simp)⟩

end Go.Big

/- The reference's book: tags; signed bytes; which envelopes are authentic; opening. -/
set_option linter.unusedSimpArgs false
set_option linter.unusedVariables false
set_option maxRecDepth 100000
set_option maxHeartbeats 4000000
namespace Go.Big
open Go.Proofs

def atI (n : List UInt8) : Int := if n = acmeN then 0 else if n = bellN then 1 else -1

theorem rat_ct {m : Mem} (hw : WF m) {w : Value} {n : List UInt8} (hb : RefBook m w) : Ct Tryz.prog S0 46 [w, str n] m [] (fun out m' => out = .ret (.int .i64 (atI n))) := by
  obtain ⟨rb, k1, k2, rfl, hr, hk1, hk2⟩ := hb
  have hlt : rb < m.next := hw.lt (by rw [hr]; simp)
  refine ct_x (spec0 _) (by rfl) Tryz.func46 rfl ?_
  simp (maxSteps := 2000000) (disch := first | assumption | omega | (simp only [nx_push, nx_set, ne_eq] <;> omega) | (simp only [XSide, F46]; done) | decide) only [XWalk, XSl, ↓XPre, reduceIte, Nat.reduceEqDiff, Nat.reduceLT, Nat.reduceAdd, Nat.reduceSub, Nat.reduceMul, Nat.reduceBEq, reduceCtorEq, Int.reduceAdd, Int.reduceSub, Int.reduceMul, Int.reduceLT, Int.reduceLE, Int.reduceGT, Int.reduceGE, Int.reduceEq, Int.reduceNe, Int.reduceBEq, Int.reduceBNe, Int.reduceTMod, Int.reduceTDiv, ↓if_true, ↓if_false, F46, A46, Tryz.ntmps46, XAcc]
  refine x_loop_once ?_
  simp (maxSteps := 2000000) (disch := first | assumption | omega | (simp only [nx_push, nx_set, ne_eq] <;> omega) | (simp only [XSide, F46]; done) | decide) only [XWalk, XSl, ↓XPre, reduceIte, Nat.reduceEqDiff, Nat.reduceLT, Nat.reduceAdd, Nat.reduceSub, Nat.reduceMul, Nat.reduceBEq, reduceCtorEq, Int.reduceAdd, Int.reduceSub, Int.reduceMul, Int.reduceLT, Int.reduceLE, Int.reduceGT, Int.reduceGE, Int.reduceEq, Int.reduceNe, Int.reduceBEq, Int.reduceBNe, Int.reduceTMod, Int.reduceTDiv, ↓if_true, ↓if_false, F46, A46, XAcc, hr, cast_lit]
  cases h1 : (acmeN == n) with
  | true =>
    have h1' : n = acmeN := (beq_iff_eq.1 h1).symm
    simp (maxSteps := 2000000) (disch := first | assumption | omega | (simp only [nx_push, nx_set, ne_eq] <;> omega) | (simp only [XSide, F46]; done) | decide) only [XWalk, XSl, ↓XPre, reduceIte, Nat.reduceEqDiff, Nat.reduceLT, Nat.reduceAdd, Nat.reduceSub, Nat.reduceMul, Nat.reduceBEq, reduceCtorEq, Int.reduceAdd, Int.reduceSub, Int.reduceMul, Int.reduceLT, Int.reduceLE, Int.reduceGT, Int.reduceGE, Int.reduceEq, Int.reduceNe, Int.reduceBEq, Int.reduceBNe, Int.reduceTMod, Int.reduceTDiv, ↓if_true, ↓if_false, F46, A46]
    rw [atI, if_pos h1']
  | false =>
    have h1' : n ≠ acmeN := fun e => by rw [e] at h1; simp at h1
    simp (maxSteps := 2000000) (disch := first | assumption | omega | (simp only [nx_push, nx_set, ne_eq] <;> omega) | (simp only [XSide, F46]; done) | decide) only [XWalk, XSl, ↓XPre, reduceIte, Nat.reduceEqDiff, Nat.reduceLT, Nat.reduceAdd, Nat.reduceSub, Nat.reduceMul, Nat.reduceBEq, reduceCtorEq, Int.reduceAdd, Int.reduceSub, Int.reduceMul, Int.reduceLT, Int.reduceLE, Int.reduceGT, Int.reduceGE, Int.reduceEq, Int.reduceNe, Int.reduceBEq, Int.reduceBNe, Int.reduceTMod, Int.reduceTDiv, ↓if_true, ↓if_false, F46, A46]
    refine x_loop_once ?_
    simp (maxSteps := 2000000) (disch := first | assumption | omega | (simp only [nx_push, nx_set, ne_eq] <;> omega) | (simp only [XSide, F46]; done) | decide) only [XWalk, XSl, ↓XPre, reduceIte, Nat.reduceEqDiff, Nat.reduceLT, Nat.reduceAdd, Nat.reduceSub, Nat.reduceMul, Nat.reduceBEq, reduceCtorEq, Int.reduceAdd, Int.reduceSub, Int.reduceMul, Int.reduceLT, Int.reduceLE, Int.reduceGT, Int.reduceGE, Int.reduceEq, Int.reduceNe, Int.reduceBEq, Int.reduceBNe, Int.reduceTMod, Int.reduceTDiv, ↓if_true, ↓if_false, F46, A46, XAcc, hr, cast_lit]
    cases h2 : (bellN == n) with
    | true =>
      have h2' : n = bellN := (beq_iff_eq.1 h2).symm
      simp (maxSteps := 2000000) (disch := first | assumption | omega | (simp only [nx_push, nx_set, ne_eq] <;> omega) | (simp only [XSide, F46]; done) | decide) only [XWalk, XSl, ↓XPre, reduceIte, Nat.reduceEqDiff, Nat.reduceLT, Nat.reduceAdd, Nat.reduceSub, Nat.reduceMul, Nat.reduceBEq, reduceCtorEq, Int.reduceAdd, Int.reduceSub, Int.reduceMul, Int.reduceLT, Int.reduceLE, Int.reduceGT, Int.reduceGE, Int.reduceEq, Int.reduceNe, Int.reduceBEq, Int.reduceBNe, Int.reduceTMod, Int.reduceTDiv, ↓if_true, ↓if_false, F46, A46]
      rw [atI, if_neg h1', if_pos h2']
    | false =>
      have h2' : n ≠ bellN := fun e => by rw [e] at h2; simp at h2
      simp (maxSteps := 2000000) (disch := first | assumption | omega | (simp only [nx_push, nx_set, ne_eq] <;> omega) | (simp only [XSide, F46]; done) | decide) only [XWalk, XSl, ↓XPre, reduceIte, Nat.reduceEqDiff, Nat.reduceLT, Nat.reduceAdd, Nat.reduceSub, Nat.reduceMul, Nat.reduceBEq, reduceCtorEq, Int.reduceAdd, Int.reduceSub, Int.reduceMul, Int.reduceLT, Int.reduceLE, Int.reduceGT, Int.reduceGE, Int.reduceEq, Int.reduceNe, Int.reduceBEq, Int.reduceBNe, Int.reduceTMod, Int.reduceTDiv, ↓if_true, ↓if_false, F46, A46]
      refine x_loop_once ?_
      simp (maxSteps := 2000000) (disch := first | assumption | omega | (simp only [nx_push, nx_set, ne_eq] <;> omega) | (simp only [XSide, F46]; done) | decide) only [XWalk, XSl, ↓XPre, reduceIte, Nat.reduceEqDiff, Nat.reduceLT, Nat.reduceAdd, Nat.reduceSub, Nat.reduceMul, Nat.reduceBEq, reduceCtorEq, Int.reduceAdd, Int.reduceSub, Int.reduceMul, Int.reduceLT, Int.reduceLE, Int.reduceGT, Int.reduceGE, Int.reduceEq, Int.reduceNe, Int.reduceBEq, Int.reduceBNe, Int.reduceTMod, Int.reduceTDiv, ↓if_true, ↓if_false, F46, A46, XAcc, hr, cast_lit]
      rw [atI, if_neg h1', if_neg h2']

theorem loadN1 {a : Value} : loadN [a] 0 1 = some [a] := id rfl
/-- The reference's answer to a tag. -/
def rtagV (n p : List UInt8) : Value := match acctOf n with | some (key, _) => if 65536 < p.length then .tuple #[str [], .int .i64 5] else .tuple #[str (blakeB key p), .int .i64 0] | none => .tuple #[str [], .int .i64 9]

theorem rbtag_ct {m : Mem} (hw : WF m) {w pv : Value} {n p : List UInt8} (hb : RefBook m w) (hp : Bs m pv p) (lp : p.length ≤ 1000000000) : Ct Tryz.prog S0 37 [w, str n, pv] m [] (fun out m' => out = .ret (rtagV n p)) := by
  have hb0 := hb
  obtain ⟨rb, k1, k2, rfl, hr, hk1, hk2⟩ := hb
  have hlt : rb < m.next := hw.lt (by rw [hr]; simp)
  refine ct_x (spec0 _) (by rfl) Tryz.func37 rfl ?_
  simp (maxSteps := 2000000) (disch := first | assumption | omega | (simp only [nx_push, nx_set, ne_eq] <;> omega) | (simp only [XSide, F37]; done) | decide) only [XWalk, XSl, ↓XPre, reduceIte, Nat.reduceEqDiff, Nat.reduceLT, Nat.reduceAdd, Nat.reduceSub, Nat.reduceMul, Nat.reduceBEq, reduceCtorEq, Int.reduceAdd, Int.reduceSub, Int.reduceMul, Int.reduceLT, Int.reduceLE, Int.reduceGT, Int.reduceGE, Int.reduceEq, Int.reduceNe, Int.reduceBEq, Int.reduceBNe, Int.reduceTMod, Int.reduceTDiv, ↓if_true, ↓if_false, F37, A37, Tryz.ntmps37, XAcc, loadN1]
  refine wcall_x specLoc (rat_ct hw.push (hb0.keep (Keep.push hw))) hw.push ?_
  rintro out m1 hw1 hn1 f1 rfl
  simp only [Mem.next_push] at hn1 f1
  have hr1 : m1.get rb = _ := (f1 rb (by omega)).trans ((get_push_ne (by omega)).trans hr)
  have hp1 : Bs m1 pv p := (hp.keep (Keep.push hw (o := .row [.slice (some ⟨rb, 0, none⟩) 2 2] .rw))).keep (keep_of hw.push f1)
  have hkk : ∀ k l, Bs m k l → Bs m1 k l := fun k l h => (h.keep (Keep.push hw (o := .row [.slice (some ⟨rb, 0, none⟩) 2 2] .rw))).keep (keep_of hw.push f1)
  have hbx : m1.get m.next = some (.row [.slice (some ⟨rb, 0, none⟩) 2 2] .rw) := (f1 _ (by omega)).trans get_push_self
  unfold rtagV
  by_cases ha : n = acmeN
  · have hof : acctOf n = some (List.replicate 32 8, 0) := by rw [ha]; rfl
    have hat : atI n = ((0 : Nat) : Int) := by rw [atI, if_pos ha]; rfl
    rw [hat, hof]
    by_cases hl : 65536 < p.length
    · have e1 : ((p.length : Int) > 65536) = True := by simp; omega
      simp (maxSteps := 2000000) (disch := first | assumption | omega | (simp only [nx_push, nx_set, ne_eq] <;> omega) | (simp only [XSide, F37]; done) | decide) only [XWalk, XSl, ↓XPre, reduceIte, Nat.reduceEqDiff, Nat.reduceLT, Nat.reduceAdd, Nat.reduceSub, Nat.reduceMul, Nat.reduceBEq, reduceCtorEq, Int.reduceAdd, Int.reduceSub, Int.reduceMul, Int.reduceLT, Int.reduceLE, Int.reduceGT, Int.reduceGE, Int.reduceEq, Int.reduceNe, Int.reduceBEq, Int.reduceBNe, Int.reduceTMod, Int.reduceTDiv, ↓if_true, ↓if_false, F37, A37, alen_bs hp1, e1, cast_lit, if_pos hl]
    · have e1 : ((p.length : Int) > 65536) = False := by simp; omega
      simp (maxSteps := 2000000) (disch := first | assumption | omega | (simp only [nx_push, nx_set, ne_eq] <;> omega) | (simp only [XSide, F37]; done) | decide) only [XWalk, XSl, ↓XPre, reduceIte, Nat.reduceEqDiff, Nat.reduceLT, Nat.reduceAdd, Nat.reduceSub, Nat.reduceMul, Nat.reduceBEq, reduceCtorEq, Int.reduceAdd, Int.reduceSub, Int.reduceMul, Int.reduceLT, Int.reduceLE, Int.reduceGT, Int.reduceGE, Int.reduceEq, Int.reduceNe, Int.reduceBEq, Int.reduceBNe, Int.reduceTMod, Int.reduceTDiv, ↓if_true, ↓if_false, F37, A37, alen_bs hp1, e1, cast_lit, if_neg hl, hbx, hr1]
      refine wcall_x specLoc (rkeyed_ct hw1 (hkk _ _ hk1) (by decide) hp1 lp) hw1 ?_
      rintro out m2 hw2 hn2 f2 rfl
      have lb := blakeB_length (key := List.replicate 32 (8 : UInt8)) (d := p)
      generalize blakeB (List.replicate 32 (8 : UInt8)) p = tg at *
      have bq : Nat.beq (u8s tg).length 32 = true := by rw [u8s_length, lb]; rfl
      have hob : (u8s tg).all oneCell = true := u8s_one
      have sb : (u8s tg).length = 32 := by rw [u8s_length]; exact lb
      simp (maxSteps := 2000000) (disch := first | assumption | omega | (simp only [nx_push, nx_set, ne_eq] <;> omega) | (simp only [XSide, F37]; done) | decide) only [XWalk, XSl, ↓XPre, reduceIte, Nat.reduceEqDiff, Nat.reduceLT, Nat.reduceAdd, Nat.reduceSub, Nat.reduceMul, Nat.reduceBEq, reduceCtorEq, Int.reduceAdd, Int.reduceSub, Int.reduceMul, Int.reduceLT, Int.reduceLE, Int.reduceGT, Int.reduceGE, Int.reduceEq, Int.reduceNe, Int.reduceBEq, Int.reduceBNe, Int.reduceTMod, Int.reduceTDiv, ↓if_true, ↓if_false, F37, A37, bq]
      have hrow : ∀ o, Bs ((m2.push o).set m2.next (.row (u8s tg) .rw)) (.slice (some ⟨m2.next, 0, none⟩) 32 32) tg := fun o => agg_row get_set_self lb
      refine Bs.wconv (hrow _) (by simp only [F37]) (by simp only [F37]) fun r hr => ?_
      simp (maxSteps := 2000000) (disch := first | assumption | omega | (simp only [nx_push, nx_set, ne_eq] <;> omega) | (simp only [XSide, F37]; done) | decide) only [XWalk, XSl, ↓XPre, reduceIte, Nat.reduceEqDiff, Nat.reduceLT, Nat.reduceAdd, Nat.reduceSub, Nat.reduceMul, Nat.reduceBEq, reduceCtorEq, Int.reduceAdd, Int.reduceSub, Int.reduceMul, Int.reduceLT, Int.reduceLE, Int.reduceGT, Int.reduceGE, Int.reduceEq, Int.reduceNe, Int.reduceBEq, Int.reduceBNe, Int.reduceTMod, Int.reduceTDiv, ↓if_true, ↓if_false, F37, A37]
  · by_cases hb' : n = bellN
    · have hof : acctOf n = some (List.replicate 32 9, 1) := by rw [hb']; rfl
      have hat : atI n = ((1 : Nat) : Int) := by rw [atI, if_neg ha, if_pos hb']; rfl
      rw [hat, hof]
      by_cases hl : 65536 < p.length
      · have e1 : ((p.length : Int) > 65536) = True := by simp; omega
        simp (maxSteps := 2000000) (disch := first | assumption | omega | (simp only [nx_push, nx_set, ne_eq] <;> omega) | (simp only [XSide, F37]; done) | decide) only [XWalk, XSl, ↓XPre, reduceIte, Nat.reduceEqDiff, Nat.reduceLT, Nat.reduceAdd, Nat.reduceSub, Nat.reduceMul, Nat.reduceBEq, reduceCtorEq, Int.reduceAdd, Int.reduceSub, Int.reduceMul, Int.reduceLT, Int.reduceLE, Int.reduceGT, Int.reduceGE, Int.reduceEq, Int.reduceNe, Int.reduceBEq, Int.reduceBNe, Int.reduceTMod, Int.reduceTDiv, ↓if_true, ↓if_false, F37, A37, alen_bs hp1, e1, cast_lit, if_pos hl]
      · have e1 : ((p.length : Int) > 65536) = False := by simp; omega
        simp (maxSteps := 2000000) (disch := first | assumption | omega | (simp only [nx_push, nx_set, ne_eq] <;> omega) | (simp only [XSide, F37]; done) | decide) only [XWalk, XSl, ↓XPre, reduceIte, Nat.reduceEqDiff, Nat.reduceLT, Nat.reduceAdd, Nat.reduceSub, Nat.reduceMul, Nat.reduceBEq, reduceCtorEq, Int.reduceAdd, Int.reduceSub, Int.reduceMul, Int.reduceLT, Int.reduceLE, Int.reduceGT, Int.reduceGE, Int.reduceEq, Int.reduceNe, Int.reduceBEq, Int.reduceBNe, Int.reduceTMod, Int.reduceTDiv, ↓if_true, ↓if_false, F37, A37, alen_bs hp1, e1, cast_lit, if_neg hl, hbx, hr1]
        refine wcall_x specLoc (rkeyed_ct hw1 (hkk _ _ hk2) (by decide) hp1 lp) hw1 ?_
        rintro out m2 hw2 hn2 f2 rfl
        have lb := blakeB_length (key := List.replicate 32 (9 : UInt8)) (d := p)
        generalize blakeB (List.replicate 32 (9 : UInt8)) p = tg at *
        have bq : Nat.beq (u8s tg).length 32 = true := by rw [u8s_length, lb]; rfl
        have hob : (u8s tg).all oneCell = true := u8s_one
        have sb : (u8s tg).length = 32 := by rw [u8s_length]; exact lb
        simp (maxSteps := 2000000) (disch := first | assumption | omega | (simp only [nx_push, nx_set, ne_eq] <;> omega) | (simp only [XSide, F37]; done) | decide) only [XWalk, XSl, ↓XPre, reduceIte, Nat.reduceEqDiff, Nat.reduceLT, Nat.reduceAdd, Nat.reduceSub, Nat.reduceMul, Nat.reduceBEq, reduceCtorEq, Int.reduceAdd, Int.reduceSub, Int.reduceMul, Int.reduceLT, Int.reduceLE, Int.reduceGT, Int.reduceGE, Int.reduceEq, Int.reduceNe, Int.reduceBEq, Int.reduceBNe, Int.reduceTMod, Int.reduceTDiv, ↓if_true, ↓if_false, F37, A37, bq]
        have hrow : ∀ o, Bs ((m2.push o).set m2.next (.row (u8s tg) .rw)) (.slice (some ⟨m2.next, 0, none⟩) 32 32) tg := fun o => agg_row get_set_self lb
        refine Bs.wconv (hrow _) (by simp only [F37]) (by simp only [F37]) fun r hr => ?_
        simp (maxSteps := 2000000) (disch := first | assumption | omega | (simp only [nx_push, nx_set, ne_eq] <;> omega) | (simp only [XSide, F37]; done) | decide) only [XWalk, XSl, ↓XPre, reduceIte, Nat.reduceEqDiff, Nat.reduceLT, Nat.reduceAdd, Nat.reduceSub, Nat.reduceMul, Nat.reduceBEq, reduceCtorEq, Int.reduceAdd, Int.reduceSub, Int.reduceMul, Int.reduceLT, Int.reduceLE, Int.reduceGT, Int.reduceGE, Int.reduceEq, Int.reduceNe, Int.reduceBEq, Int.reduceBNe, Int.reduceTMod, Int.reduceTDiv, ↓if_true, ↓if_false, F37, A37]
    · have hof : acctOf n = none := by rw [acctOf, if_neg ha, if_neg hb']
      have hat : atI n = -1 := by rw [atI, if_neg ha, if_neg hb']
      rw [hat, hof]
      simp (maxSteps := 2000000) (disch := first | assumption | omega | (simp only [nx_push, nx_set, ne_eq] <;> omega) | (simp only [XSide, F37]; done) | decide) only [XWalk, XSl, ↓XPre, reduceIte, Nat.reduceEqDiff, Nat.reduceLT, Nat.reduceAdd, Nat.reduceSub, Nat.reduceMul, Nat.reduceBEq, reduceCtorEq, Int.reduceAdd, Int.reduceSub, Int.reduceMul, Int.reduceLT, Int.reduceLE, Int.reduceGT, Int.reduceGE, Int.reduceEq, Int.reduceNe, Int.reduceBEq, Int.reduceBNe, Int.reduceTMod, Int.reduceTDiv, ↓if_true, ↓if_false, F37, A37]
end Go.Big
