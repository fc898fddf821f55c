/- The examples of the chapter, as the laws try them. -/
import Derived.Test.YtobhnnbdobphfaaGreatDoorJoined11
set_option linter.unusedSimpArgs false
set_option linter.unusedVariables false
set_option linter.unusedSimpArgs false
set_option linter.unusedVariables false
set_option maxRecDepth 100000
set_option maxHeartbeats 8000000
namespace Go.Big
open Go.Proofs

theorem aconv_sl {P : Program} {m : Mem} {t : TypeId} {b o n c : Nat} {rs : List Value} {k : Kind} (hu : isBytesT P t = true) (hm : m.get b = some (.row rs k)) (hk : writable k = true) :
    aconv P t t (.slice (some ⟨b, o, none⟩) n c) m = some (.slice (some ⟨b, o, none⟩) n c, m, [], .one b) := by
  obtain ⟨e, h1, h2⟩ := isBytesT_spec hu
  simp [aconv, aconvert, h1, h2, hm, hk]

theorem k_sealErr : sealErr 0 (gotErr acmeN) 3 1 32 16 5 = 0 := by decide
theorem k_sealErr2 : sealErr 0 (gotErr [110, 111, 110, 101]) 3 1 32 16 0 = 9 := by decide
theorem k_sealErr3 : sealErr 0 (gotErr acmeN) 3 1 32 16 4097 = 5 := by decide
theorem k_sealErr4 : sealErr 0 (gotErr [110, 111, 110, 101]) 3 1 32 16 4097 = 5 := by decide

theorem Sl.not_blk2 {m : Mem} {v : Value} {l : List UInt8} {rs : List Value} {b : Nat} {k : Kind} (h : Bs m v l) (hm : m.get b = some (.row rs k)) (hl : l ≠ []) (hrs : ∀ x ∈ rs, ∀ n, x ≠ .int .u8 n) : slBlk v ≠ some b := by
  intro e
  obtain ⟨b', off, c, rs', k', hv, hm', hr, _, _⟩ := h.inv (by intro e2; have := congrArg List.length e2; rw [u8s_length] at this; simp at this; exact hl this)
  subst hv
  cases e
  rw [hm] at hm'
  cases hm'
  obtain ⟨y, r, rfl⟩ : ∃ y r, l = y :: r := by
    cases l with
    | nil => exact absurd rfl hl
    | cons y r => exact ⟨y, r, rfl⟩
  have h0 := take_drop_get (i := 0) hr (by rw [u8s_length]; simp)
  have h1 : rs[off + 0]? = some (.int .u8 (y.toNat : Int)) := by rw [h0]; rfl
  exact hrs _ (List.mem_of_getElem? h1) _ rfl

theorem known_ct {m : Mem} (hw : WF m) : Ct Tryz.prog S0 8 [] m [] (fun out m' => out = .ret (.bool true)) := by
  refine ct_x (spec0 _) (by rfl) Tryz.func8 rfl ?_
  simp (maxSteps := 2000000) (disch := first | assumption | omega | (simp only [nx_push, nx_set, ne_eq] <;> omega) | (simp only [XSide, F8]; done) | decide) only [XWalk, XSl, ↓XPre, reduceIte, Nat.reduceEqDiff, Nat.reduceLT, Nat.reduceAdd, Nat.reduceSub, Nat.reduceMul, Nat.reduceBEq, reduceCtorEq, Int.reduceAdd, Int.reduceSub, Int.reduceMul, Int.reduceLT, Int.reduceLE, Int.reduceGT, Int.reduceGE, Int.reduceEq, Int.reduceNe, Int.reduceBEq, Int.reduceBNe, Int.reduceTMod, Int.reduceTDiv, ↓if_true, ↓if_false, F8, A8, Tryz.ntmps8]
  refine wcall_v specLoc (given_ct hw) hw ?_
  rintro v m1 hw1 hn1 f1 ⟨x, w, rfl, hx1, rb, j1, j2, rfl, -, -, -⟩
  simp (maxSteps := 2000000) (disch := first | assumption | omega | (simp only [nx_push, nx_set, ne_eq] <;> omega) | (simp only [XSide, F8]; done) | decide) only [XWalk, XSl, ↓XPre, reduceIte, Nat.reduceEqDiff, Nat.reduceLT, Nat.reduceAdd, Nat.reduceSub, Nat.reduceMul, Nat.reduceBEq, reduceCtorEq, Int.reduceAdd, Int.reduceSub, Int.reduceMul, Int.reduceLT, Int.reduceLE, Int.reduceGT, Int.reduceGE, Int.reduceEq, Int.reduceNe, Int.reduceBEq, Int.reduceBNe, Int.reduceTMod, Int.reduceTDiv, ↓if_true, ↓if_false, F8, A8]
  have hw2 : ∀ o o', WF ((m1.push o).set m1.next o') := fun o o' => by (repeat (first | exact hw1 | apply WF.push | (refine WF.set ?_ (by first | omega | (simp only [Mem.next_set, Mem.next_push]; omega)))))
  have hx2 : ∀ o o', BookAt ((m1.push o).set m1.next o') x := fun o o' => hx1.keep fun c hc => by
    have := hw1.lt hc
    rw [get_set_ne (by omega), get_push_ne (by omega)]
  refine wcall_v specLoc (row_ct (b := 1) (n := 32) (hw2 _ _) (by omega)) (hw2 _ _) ?_
  rintro kv m3 hw3 hn3 f3 ⟨hk3, _⟩
  have hx3 := (hx2 _ _).keep (keep_of (hw2 _ _) f3)
  simp only [Mem.next_set, Mem.next_push] at hn3
  clear f3 hx2 hw2
  simp (maxSteps := 2000000) (disch := first | assumption | omega | (simp only [nx_push, nx_set, ne_eq] <;> omega) | (simp only [XSide, F8]; done) | decide) only [XWalk, XSl, ↓XPre, reduceIte, Nat.reduceEqDiff, Nat.reduceLT, Nat.reduceAdd, Nat.reduceSub, Nat.reduceMul, Nat.reduceBEq, reduceCtorEq, Int.reduceAdd, Int.reduceSub, Int.reduceMul, Int.reduceLT, Int.reduceLE, Int.reduceGT, Int.reduceGE, Int.reduceEq, Int.reduceNe, Int.reduceBEq, Int.reduceBNe, Int.reduceTMod, Int.reduceTDiv, ↓if_true, ↓if_false, F8, A8]
  refine wcall_v specLoc (row_ct (b := 2) (n := 16) hw3 (by omega)) hw3 ?_
  rintro nv m4 hw4 hn4 f4 ⟨hno4, _⟩
  have hx4 := hx3.keep (keep_of hw3 f4)
  have hk4 := hk3.keep (keep_of hw3 f4)
  clear f4
  have hcv : ∀ o : List Value, aconv Tryz.prog 22 22 (.slice (some ⟨m4.next, 0, none⟩) 5 5) (m4.push (.row o .rw)) = _ := fun o => aconv_sl (by simp only [F8]) get_push_self rfl
  simp (maxSteps := 2000000) (disch := first | assumption | omega | (simp only [nx_push, nx_set, ne_eq] <;> omega) | (simp only [XSide, F8]; done) | decide) only [XWalk, XSl, ↓XPre, reduceIte, Nat.reduceEqDiff, Nat.reduceLT, Nat.reduceAdd, Nat.reduceSub, Nat.reduceMul, Nat.reduceBEq, reduceCtorEq, Int.reduceAdd, Int.reduceSub, Int.reduceMul, Int.reduceLT, Int.reduceLE, Int.reduceGT, Int.reduceGE, Int.reduceEq, Int.reduceNe, Int.reduceBEq, Int.reduceBNe, Int.reduceTMod, Int.reduceTDiv, ↓if_true, ↓if_false, F8, A8, hcv]
  have hb5 : Bs (m4.push (.row (u8s kHello) .rw)) (.slice (some ⟨m4.next, 0, none⟩) 5 5) kHello := Sl.of_row get_push_self rfl rfl (Nat.le_refl _)
  refine wcall_v specLoc (eseal_ct (n := acmeN) (key := kKey) (nonce := kNonce) (bid := kHello) (r := 3) (s := 1) hw4.push (hx4.keep (Keep.push hw4)) (hk4.keep (Keep.push hw4)) (hno4.keep (Keep.push hw4)) hb5 (by decide) (by decide) (by decide) (by decide)) hw4.push ?_
  intro v m5 hw5 hn5 f5 hse
  have hx5 := (hx4.keep (Keep.push hw4 (o := .row (u8s kHello) .rw))).keep (keep_of hw4.push f5)
  have hk5 := (hk4.keep (Keep.push hw4 (o := .row (u8s kHello) .rw))).keep (keep_of hw4.push f5)
  have hno5 := (hno4.keep (Keep.push hw4 (o := .row (u8s kHello) .rw))).keep (keep_of hw4.push f5)
  simp only [Mem.next_push] at hn5
  clear f5
  rw [show sealErr 0 (gotErr acmeN) 3 1 kKey.length kNonce.length kHello.length = 0 from k_sealErr] at hse
  unfold SealR at hse
  rw [if_neg (by decide)] at hse
  obtain ⟨sv, tv, rfl, hs5, ht5⟩ := hse
  change Bs m5 sv kSealed at hs5
  change Bs m5 tv kTag at ht5
  obtain ⟨a, l, c, rfl⟩ := sl_shape hs5
  obtain ⟨a', l', c', rfl⟩ := sl_shape ht5
  simp (maxSteps := 2000000) (disch := first | assumption | omega | (simp only [nx_push, nx_set, ne_eq] <;> omega) | (simp only [XSide, F8]; done) | decide) only [XWalk, XSl, ↓XPre, reduceIte, Nat.reduceEqDiff, Nat.reduceLT, Nat.reduceAdd, Nat.reduceSub, Nat.reduceMul, Nat.reduceBEq, reduceCtorEq, Int.reduceAdd, Int.reduceSub, Int.reduceMul, Int.reduceLT, Int.reduceLE, Int.reduceGT, Int.reduceGE, Int.reduceEq, Int.reduceNe, Int.reduceBEq, Int.reduceBNe, Int.reduceTMod, Int.reduceTDiv, ↓if_true, ↓if_false, F8, A8, XAcc]
  have blS : ∀ b, slBlk (.slice a l c) = some b → b < m5.next := fun b hb => hs5.blk_lt hw5 hb
  have blT : ∀ b, slBlk (.slice a' l' c') = some b → b < m5.next := fun b hb => ht5.blk_lt hw5 hb
  have toS : ∀ m' : Mem, (∀ b, b < m5.next → m'.get b = m5.get b) → Bs m' (.slice a l c) kSealed := fun m' F => hs5.frame_at fun b hb => F b (blS b hb)
  have toT : ∀ m' : Mem, (∀ b, b < m5.next → m'.get b = m5.get b) → Bs m' (.slice a' l' c') kTag := fun m' F => ht5.frame_at fun b hb => F b (blT b hb)
  have toK : ∀ m' : Mem, (∀ b, b < m5.next → m'.get b = m5.get b) → Bs m' kv kKey := fun m' F => hk5.frame_at fun b hb => F b (hk5.blk_lt hw5 hb)
  have toN : ∀ m' : Mem, (∀ b, b < m5.next → m'.get b = m5.get b) → Bs m' nv kNonce := fun m' F => hno5.frame_at fun b hb => F b (hno5.blk_lt hw5 hb)
  have toX : ∀ m' : Mem, (∀ b, b < m5.next → m'.get b = m5.get b) → BookAt m' x := fun m' F => hx5.keep fun b hb => F b (hw5.lt hb)
  obtain ⟨m6, hm6⟩ : ∃ m6, m6 = (m5.push (.row [.string ⟨#[]⟩, .int .i64 0, .int .i64 0, .slice none 0 0, .slice none 0 0] .rw)).set m5.next (.row [str acmeN, .int .i64 3, .int .i64 1, .slice a l c, .slice a' l' c'] .rw) := ⟨_, rfl⟩
  have hw6 : WF m6 := by rw [hm6]; (repeat (first | exact hw5 | apply WF.push | (refine WF.set ?_ (by first | omega | (simp only [Mem.next_set, Mem.next_push]; omega)))))
  have Fm6 : ∀ b, b < m5.next → m6.get b = m5.get b := fun b hb => by rw [hm6, get_set_ne (by omega), get_push_ne (by omega)]
  have hr6 : m6.get m5.next = some (.row [str acmeN, .int .i64 3, .int .i64 1, .slice a l c, .slice a' l' c'] .rw) := by rw [hm6, get_set_self]
  have hn6 : m6.next = m5.next + 1 := by rw [hm6]; rfl
  simp (maxSteps := 2000000) (disch := first | assumption | omega | (simp only [nx_push, nx_set, ne_eq] <;> omega) | (simp only [XSide, F8]; done) | decide) only [XWalk, XSl, ↓XPre, reduceIte, Nat.reduceEqDiff, Nat.reduceLT, Nat.reduceAdd, Nat.reduceSub, Nat.reduceMul, Nat.reduceBEq, reduceCtorEq, Int.reduceAdd, Int.reduceSub, Int.reduceMul, Int.reduceLT, Int.reduceLE, Int.reduceGT, Int.reduceGE, Int.reduceEq, Int.reduceNe, Int.reduceBEq, Int.reduceBNe, Int.reduceTMod, Int.reduceTDiv, ↓if_true, ↓if_false, F8, A8, XAcc, show (!(acmeN == [97, 99, 109, 101])) = false from rfl]
  rw [← hm6]
  clear hm6
  refine wcall_x specLoc (size_ct (n := acmeN) (r := 3) (s := 1) hw6 (toS _ Fm6) (toT _ Fm6) (by decide)) hw6 ?_
  rintro out m7 hw7 hn7 f7 rfl
  rw [if_pos k_valid, kSealed_len]
  have Fm7 : ∀ b, b < m5.next → m7.get b = m5.get b := fun b hb => by rw [f7 b (by omega)]; exact Fm6 b hb
  have hr7 : m7.get m5.next = some (.row [str acmeN, .int .i64 3, .int .i64 1, .slice a l c, .slice a' l' c'] .rw) := by rw [f7 _ (by omega)]; exact hr6
  simp (maxSteps := 2000000) (disch := first | assumption | omega | (simp only [nx_push, nx_set, ne_eq] <;> omega) | (simp only [XSide, F8]; done) | decide) only [XWalk, XSl, ↓XPre, reduceIte, Nat.reduceEqDiff, Nat.reduceLT, Nat.reduceAdd, Nat.reduceSub, Nat.reduceMul, Nat.reduceBEq, reduceCtorEq, Int.reduceAdd, Int.reduceSub, Int.reduceMul, Int.reduceLT, Int.reduceLE, Int.reduceGT, Int.reduceGE, Int.reduceEq, Int.reduceNe, Int.reduceBEq, Int.reduceBNe, Int.reduceTMod, Int.reduceTDiv, ↓if_true, ↓if_false, F8, A8, XAcc, hr7, show ((((37 : Nat) : Int) - 32) != 5) = false from rfl]
  refine wcall_x specLoc (check_ct (n := acmeN) (r := 3) (s := 1) hw7 (toX _ Fm7) (toS _ Fm7) (toT _ Fm7) (by decide)) hw7 ?_
  rintro out m8 hw8 hn8 f8 rfl
  rw [k_check]
  have Fm8 : ∀ b, b < m5.next → m8.get b = m5.get b := fun b hb => by rw [f8 b (by omega)]; exact Fm7 b hb
  have hr8 : m8.get m5.next = some (.row [str acmeN, .int .i64 3, .int .i64 1, .slice a l c, .slice a' l' c'] .rw) := by rw [f8 _ (by omega)]; exact hr7
  simp (maxSteps := 2000000) (disch := first | assumption | omega | (simp only [nx_push, nx_set, ne_eq] <;> omega) | (simp only [XSide, F8]; done) | decide) only [XWalk, XSl, ↓XPre, reduceIte, Nat.reduceEqDiff, Nat.reduceLT, Nat.reduceAdd, Nat.reduceSub, Nat.reduceMul, Nat.reduceBEq, reduceCtorEq, Int.reduceAdd, Int.reduceSub, Int.reduceMul, Int.reduceLT, Int.reduceLE, Int.reduceGT, Int.reduceGE, Int.reduceEq, Int.reduceNe, Int.reduceBEq, Int.reduceBNe, Int.reduceTMod, Int.reduceTDiv, ↓if_true, ↓if_false, F8, A8, XAcc, hr8]
  refine wcall_v specLoc (eopen_ct (n := acmeN) (r := 3) (s := 1) (key := kKey) hw8 (toX _ Fm8) (toS _ Fm8) (toT _ Fm8) (toK _ Fm8) (by decide) (by decide)) hw8 ?_
  intro v m9 hw9 hn9 f9 ho9
  rw [k_open] at ho9
  obtain ⟨bv, rfl, hbv9⟩ := ho9
  have Fm9 : ∀ b, b < m5.next → m9.get b = m5.get b := fun b hb => by rw [f9 b (by omega)]; exact Fm8 b hb
  have hr9 : m9.get m5.next = some (.row [str acmeN, .int .i64 3, .int .i64 1, .slice a l c, .slice a' l' c'] .rw) := by rw [f9 _ (by omega)]; exact hr8
  simp (maxSteps := 2000000) (disch := first | assumption | omega | (simp only [nx_push, nx_set, ne_eq] <;> omega) | (simp only [XSide, F8]; done) | decide) only [XWalk, XSl, ↓XPre, reduceIte, Nat.reduceEqDiff, Nat.reduceLT, Nat.reduceAdd, Nat.reduceSub, Nat.reduceMul, Nat.reduceBEq, reduceCtorEq, Int.reduceAdd, Int.reduceSub, Int.reduceMul, Int.reduceLT, Int.reduceLE, Int.reduceGT, Int.reduceGE, Int.reduceEq, Int.reduceNe, Int.reduceBEq, Int.reduceBNe, Int.reduceTMod, Int.reduceTDiv, ↓if_true, ↓if_false, F8, A8, XAcc, hr9]
  refine x_draw [0, 0, 0, 7, 15, 31, 31, 63, 255] (by kernel_rfl) ?_
  simp (maxSteps := 2000000) (disch := first | assumption | omega | (simp only [nx_push, nx_set, ne_eq] <;> omega) | (simp only [XSide, F8]; done) | decide) only [XWalk, XSl, ↓XPre, reduceIte, Nat.reduceEqDiff, Nat.reduceLT, Nat.reduceAdd, Nat.reduceSub, Nat.reduceMul, Nat.reduceBEq, reduceCtorEq, Int.reduceAdd, Int.reduceSub, Int.reduceMul, Int.reduceLT, Int.reduceLE, Int.reduceGT, Int.reduceGE, Int.reduceEq, Int.reduceNe, Int.reduceBEq, Int.reduceBNe, Int.reduceTMod, Int.reduceTDiv, ↓if_true, ↓if_false, F8, A8, XAcc, hr9]
  refine wcall_v specLoc (row_ct (b := 9) (n := 32) hw9 (by omega)) hw9 ?_
  rintro k9 m10 hw10 hn10 f10 ⟨hk10, _⟩
  have hbv10 := hbv9.keep (keep_of hw9 f10)
  have Fm10 : ∀ b, b < m5.next → m10.get b = m5.get b := fun b hb => by rw [f10 b (by omega)]; exact Fm9 b hb
  have hr10 : m10.get m5.next = some (.row [str acmeN, .int .i64 3, .int .i64 1, .slice a l c, .slice a' l' c'] .rw) := by rw [f10 _ (by omega)]; exact hr9
  simp (maxSteps := 2000000) (disch := first | assumption | omega | (simp only [nx_push, nx_set, ne_eq] <;> omega) | (simp only [XSide, F8]; done) | decide) only [XWalk, XSl, ↓XPre, reduceIte, Nat.reduceEqDiff, Nat.reduceLT, Nat.reduceAdd, Nat.reduceSub, Nat.reduceMul, Nat.reduceBEq, reduceCtorEq, Int.reduceAdd, Int.reduceSub, Int.reduceMul, Int.reduceLT, Int.reduceLE, Int.reduceGT, Int.reduceGE, Int.reduceEq, Int.reduceNe, Int.reduceBEq, Int.reduceBNe, Int.reduceTMod, Int.reduceTDiv, ↓if_true, ↓if_false, F8, A8, XAcc, hr10]
  refine wcall_v specLoc (eopen_ct (n := acmeN) (r := 3) (s := 1) (key := List.replicate 32 9) hw10 (toX _ Fm10) (toS _ Fm10) (toT _ Fm10) hk10 (by decide) (by decide)) hw10 ?_
  intro v m11 hw11 hn11 f11 ho11
  rw [k_open2] at ho11
  change v = _ at ho11
  subst ho11
  have hbv11 := hbv10.keep (keep_of hw10 f11)
  have Fm11 : ∀ b, b < m5.next → m11.get b = m5.get b := fun b hb => by rw [f11 b (by omega)]; exact Fm10 b hb
  have hr11 : m11.get m5.next = some (.row [str acmeN, .int .i64 3, .int .i64 1, .slice a l c, .slice a' l' c'] .rw) := by rw [f11 _ (by omega)]; exact hr10
  simp (maxSteps := 2000000) (disch := first | assumption | omega | (simp only [nx_push, nx_set, ne_eq] <;> omega) | (simp only [XSide, F8]; done) | decide) only [XWalk, XSl, ↓XPre, reduceIte, Nat.reduceEqDiff, Nat.reduceLT, Nat.reduceAdd, Nat.reduceSub, Nat.reduceMul, Nat.reduceBEq, reduceCtorEq, Int.reduceAdd, Int.reduceSub, Int.reduceMul, Int.reduceLT, Int.reduceLE, Int.reduceGT, Int.reduceGE, Int.reduceEq, Int.reduceNe, Int.reduceBEq, Int.reduceBNe, Int.reduceTMod, Int.reduceTDiv, ↓if_true, ↓if_false, F8, A8, XAcc, hr11]
  refine wcall_v specLoc (eopen_ct (n := acmeN) (r := 3) (s := 1) (key := []) hw11 (toX _ Fm11) (toS _ Fm11) (toT _ Fm11) .nil (by decide) (by decide)) hw11 ?_
  intro v m12 hw12 hn12 f12 ho12
  rw [k_open3] at ho12
  change v = _ at ho12
  subst ho12
  have hbv12 := hbv11.keep (keep_of hw11 f12)
  have Fm12 : ∀ b, b < m5.next → m12.get b = m5.get b := fun b hb => by rw [f12 b (by omega)]; exact Fm11 b hb
  have hr12 : m12.get m5.next = some (.row [str acmeN, .int .i64 3, .int .i64 1, .slice a l c, .slice a' l' c'] .rw) := by rw [f12 _ (by omega)]; exact hr11
  simp (maxSteps := 2000000) (disch := first | assumption | omega | (simp only [nx_push, nx_set, ne_eq] <;> omega) | (simp only [XSide, F8]; done) | decide) only [XWalk, XSl, ↓XPre, reduceIte, Nat.reduceEqDiff, Nat.reduceLT, Nat.reduceAdd, Nat.reduceSub, Nat.reduceMul, Nat.reduceBEq, reduceCtorEq, Int.reduceAdd, Int.reduceSub, Int.reduceMul, Int.reduceLT, Int.reduceLE, Int.reduceGT, Int.reduceGE, Int.reduceEq, Int.reduceNe, Int.reduceBEq, Int.reduceBNe, Int.reduceTMod, Int.reduceTDiv, ↓if_true, ↓if_false, F8, A8, XAcc, hr12]
  refine wcall_v specLoc (eseal_ct (n := [110, 111, 110, 101]) (key := kKey) (nonce := kNonce) (bid := []) (r := 3) (s := 1) hw12 (toX _ Fm12) (toK _ Fm12) (toN _ Fm12) .nil (by decide) (by decide) (by decide) (by decide)) hw12 ?_
  intro v m13 hw13 hn13 f13 ho13
  rw [show sealErr 0 (gotErr [110, 111, 110, 101]) 3 1 kKey.length kNonce.length ([] : List UInt8).length = 9 from k_sealErr2] at ho13
  unfold SealR at ho13
  rw [if_pos (by decide)] at ho13
  subst ho13
  have hbv13 := hbv12.keep (keep_of hw12 f13)
  have Fm13 : ∀ b, b < m5.next → m13.get b = m5.get b := fun b hb => by rw [f13 b (by omega)]; exact Fm12 b hb
  have hr13 : m13.get m5.next = some (.row [str acmeN, .int .i64 3, .int .i64 1, .slice a l c, .slice a' l' c'] .rw) := by rw [f13 _ (by omega)]; exact hr12
  simp (maxSteps := 2000000) (disch := first | assumption | omega | (simp only [nx_push, nx_set, ne_eq] <;> omega) | (simp only [XSide, F8]; done) | decide) only [XWalk, XSl, ↓XPre, reduceIte, Nat.reduceEqDiff, Nat.reduceLT, Nat.reduceAdd, Nat.reduceSub, Nat.reduceMul, Nat.reduceBEq, reduceCtorEq, Int.reduceAdd, Int.reduceSub, Int.reduceMul, Int.reduceLT, Int.reduceLE, Int.reduceGT, Int.reduceGE, Int.reduceEq, Int.reduceNe, Int.reduceBEq, Int.reduceBNe, Int.reduceTMod, Int.reduceTDiv, ↓if_true, ↓if_false, F8, A8, XAcc, hr13]
  refine wcall_v specLoc (row_ct (b := 0) (n := 4097) (by (repeat (first | exact hw13 | apply WF.push | (refine WF.set ?_ (by first | omega | (simp only [Mem.next_set, Mem.next_push]; omega)))))) (by omega)) (by (repeat (first | exact hw13 | apply WF.push | (refine WF.set ?_ (by first | omega | (simp only [Mem.next_set, Mem.next_push]; omega)))))) ?_
  rintro k14 m14 hw14 hn14 f14 ⟨hk14, _⟩
  simp only [Mem.next_set, Mem.next_push] at hn14 f14
  have Fm14 : ∀ b, b < m5.next → m14.get b = m5.get b := fun b hb => by rw [f14 b (by omega), get_set_ne (by omega), get_push_ne (by omega)]; exact Fm13 b hb
  have hr14 : m14.get m5.next = some (.row [str acmeN, .int .i64 3, .int .i64 1, .slice a l c, .slice a' l' c'] .rw) := by rw [f14 _ (by omega), get_set_ne (by omega), get_push_ne (by omega)]; exact hr13
  have hbv14 : Bs m14 bv kHello := hbv13.frame_at fun b hb => by
    have := hbv13.blk_lt hw13 hb
    rw [f14 b (by omega), get_set_ne (by omega), get_push_ne (by omega)]
  simp (maxSteps := 2000000) (disch := first | assumption | omega | (simp only [nx_push, nx_set, ne_eq] <;> omega) | (simp only [XSide, F8]; done) | decide) only [XWalk, XSl, ↓XPre, reduceIte, Nat.reduceEqDiff, Nat.reduceLT, Nat.reduceAdd, Nat.reduceSub, Nat.reduceMul, Nat.reduceBEq, reduceCtorEq, Int.reduceAdd, Int.reduceSub, Int.reduceMul, Int.reduceLT, Int.reduceLE, Int.reduceGT, Int.reduceGE, Int.reduceEq, Int.reduceNe, Int.reduceBEq, Int.reduceBNe, Int.reduceTMod, Int.reduceTDiv, ↓if_true, ↓if_false, F8, A8, XAcc, hr14]
  refine wcall_v specLoc (eseal_ct (n := acmeN) (key := kKey) (nonce := kNonce) (bid := List.replicate 4097 0) (r := 3) (s := 1) hw14 (toX _ Fm14) (toK _ Fm14) (toN _ Fm14) hk14 (by decide) (by rw [List.length_replicate]; omega) (by decide) (by decide)) hw14 ?_
  intro v m15 hw15 hn15 f15 ho15
  rw [List.length_replicate, show sealErr 0 (gotErr acmeN) 3 1 kKey.length kNonce.length 4097 = 5 from k_sealErr3] at ho15
  unfold SealR at ho15
  rw [if_pos (by decide)] at ho15
  subst ho15
  have hbv15 := hbv14.keep (keep_of hw14 f15)
  have Fm15 : ∀ b, b < m5.next → m15.get b = m5.get b := fun b hb => by rw [f15 b (by omega)]; exact Fm14 b hb
  have hr15 : m15.get m5.next = some (.row [str acmeN, .int .i64 3, .int .i64 1, .slice a l c, .slice a' l' c'] .rw) := by rw [f15 _ (by omega)]; exact hr14
  simp (maxSteps := 2000000) (disch := first | assumption | omega | (simp only [nx_push, nx_set, ne_eq] <;> omega) | (simp only [XSide, F8]; done) | decide) only [XWalk, XSl, ↓XPre, reduceIte, Nat.reduceEqDiff, Nat.reduceLT, Nat.reduceAdd, Nat.reduceSub, Nat.reduceMul, Nat.reduceBEq, reduceCtorEq, Int.reduceAdd, Int.reduceSub, Int.reduceMul, Int.reduceLT, Int.reduceLE, Int.reduceGT, Int.reduceGE, Int.reduceEq, Int.reduceNe, Int.reduceBEq, Int.reduceBNe, Int.reduceTMod, Int.reduceTDiv, ↓if_true, ↓if_false, F8, A8, XAcc, hr15]
  refine wcall_v specLoc (row_ct (b := 0) (n := 4097) (by (repeat (first | exact hw15 | apply WF.push | (refine WF.set ?_ (by first | omega | (simp only [Mem.next_set, Mem.next_push]; omega)))))) (by omega)) (by (repeat (first | exact hw15 | apply WF.push | (refine WF.set ?_ (by first | omega | (simp only [Mem.next_set, Mem.next_push]; omega)))))) ?_
  rintro k16 m16 hw16 hn16 f16 ⟨hk16, _⟩
  simp only [Mem.next_set, Mem.next_push] at hn16 f16
  have Fm16 : ∀ b, b < m5.next → m16.get b = m5.get b := fun b hb => by rw [f16 b (by omega), get_set_ne (by omega), get_push_ne (by omega)]; exact Fm15 b hb
  have hr16 : m16.get m5.next = some (.row [str acmeN, .int .i64 3, .int .i64 1, .slice a l c, .slice a' l' c'] .rw) := by rw [f16 _ (by omega), get_set_ne (by omega), get_push_ne (by omega)]; exact hr15
  have hbv16 : Bs m16 bv kHello := hbv15.frame_at fun b hb => by
    have := hbv15.blk_lt hw15 hb
    rw [f16 b (by omega), get_set_ne (by omega), get_push_ne (by omega)]
  simp (maxSteps := 2000000) (disch := first | assumption | omega | (simp only [nx_push, nx_set, ne_eq] <;> omega) | (simp only [XSide, F8]; done) | decide) only [XWalk, XSl, ↓XPre, reduceIte, Nat.reduceEqDiff, Nat.reduceLT, Nat.reduceAdd, Nat.reduceSub, Nat.reduceMul, Nat.reduceBEq, reduceCtorEq, Int.reduceAdd, Int.reduceSub, Int.reduceMul, Int.reduceLT, Int.reduceLE, Int.reduceGT, Int.reduceGE, Int.reduceEq, Int.reduceNe, Int.reduceBEq, Int.reduceBNe, Int.reduceTMod, Int.reduceTDiv, ↓if_true, ↓if_false, F8, A8, XAcc, hr16]
  refine wcall_v specLoc (eseal_ct (n := [110, 111, 110, 101]) (key := kKey) (nonce := kNonce) (bid := List.replicate 4097 0) (r := 3) (s := 1) hw16 (toX _ Fm16) (toK _ Fm16) (toN _ Fm16) hk16 (by decide) (by rw [List.length_replicate]; omega) (by decide) (by decide)) hw16 ?_
  intro v m17 hw17 hn17 f17 ho17
  rw [List.length_replicate, show sealErr 0 (gotErr [110, 111, 110, 101]) 3 1 kKey.length kNonce.length 4097 = 5 from k_sealErr4] at ho17
  unfold SealR at ho17
  rw [if_pos (by decide)] at ho17
  subst ho17
  have hbv17 := hbv16.keep (keep_of hw16 f17)
  have Fm17 : ∀ b, b < m5.next → m17.get b = m5.get b := fun b hb => by rw [f17 b (by omega)]; exact Fm16 b hb
  have hr17 : m17.get m5.next = some (.row [str acmeN, .int .i64 3, .int .i64 1, .slice a l c, .slice a' l' c'] .rw) := by rw [f17 _ (by omega)]; exact hr16
  have hw18 : ∀ o o' o'', WF (((m17.push o).set m17.next o').set m5.next o'') := fun o o' o'' => by (repeat (first | exact hw17 | apply WF.push | (refine WF.set ?_ (by first | omega | (simp only [Mem.next_set, Mem.next_push]; omega)))))
  have hbn : slBlk bv ≠ some m5.next := Sl.not_blk2 hbv17 hr17 (by decide) (by
    intro y hy n e
    subst e
    simp at hy)
  have hbv18 : ∀ o o' o'', Bs (((m17.push o).set m17.next o').set m5.next o'') bv kHello := fun o o' o'' => hbv17.frame_at fun b hb => by
    have := hbv17.blk_lt hw17 hb
    rw [get_set_ne (fun e => hbn (by rw [← e]; exact hb)), get_set_ne (by omega), get_push_ne (by omega)]
  have Fm18 : ∀ o o' o'' b, b < m5.next → (((m17.push o).set m17.next o').set m5.next o'').get b = m5.get b := fun o o' o'' b hb => by
    rw [get_set_ne (by omega), get_set_ne (by omega), get_push_ne (by omega)]; exact Fm17 b hb
  simp (maxSteps := 2000000) (disch := first | assumption | omega | (simp only [nx_push, nx_set, ne_eq] <;> omega) | (simp only [XSide, F8]; done) | decide) only [XWalk, XSl, ↓XPre, reduceIte, Nat.reduceEqDiff, Nat.reduceLT, Nat.reduceAdd, Nat.reduceSub, Nat.reduceMul, Nat.reduceBEq, reduceCtorEq, Int.reduceAdd, Int.reduceSub, Int.reduceMul, Int.reduceLT, Int.reduceLE, Int.reduceGT, Int.reduceGE, Int.reduceEq, Int.reduceNe, Int.reduceBEq, Int.reduceBNe, Int.reduceTMod, Int.reduceTDiv, ↓if_true, ↓if_false, F8, A8, XAcc, hr17]
  refine (hbv18 _ _ _).wconv (by simp only [F8]) (by simp only [F8]) fun q hq => ?_
  simp (maxSteps := 2000000) (disch := first | assumption | omega | (simp only [nx_push, nx_set, ne_eq] <;> omega) | (simp only [XSide, F8]; done) | decide) only [XWalk, XSl, ↓XPre, reduceIte, Nat.reduceEqDiff, Nat.reduceLT, Nat.reduceAdd, Nat.reduceSub, Nat.reduceMul, Nat.reduceBEq, reduceCtorEq, Int.reduceAdd, Int.reduceSub, Int.reduceMul, Int.reduceLT, Int.reduceLE, Int.reduceGT, Int.reduceGE, Int.reduceEq, Int.reduceNe, Int.reduceBEq, Int.reduceBNe, Int.reduceTMod, Int.reduceTDiv, ↓if_true, ↓if_false, F8, A8, XAcc, show (kHello == [104, 101, 108, 108, 111]) = true from rfl]
  refine wcall_x specLoc (check_ct (n := acmeN) (r := 3) (s := 2) (hw18 _ _ _) (toX _ (Fm18 _ _ _)) (toS _ (Fm18 _ _ _)) (toT _ (Fm18 _ _ _)) (by decide)) (hw18 _ _ _) ?_
  rintro out m19 hw19 hn19 f19 rfl
  rw [k_check2]
  simp (maxSteps := 2000000) (disch := first | assumption | omega | (simp only [nx_push, nx_set, ne_eq] <;> omega) | (simp only [XSide, F8]; done) | decide) only [XWalk, XSl, ↓XPre, reduceIte, Nat.reduceEqDiff, Nat.reduceLT, Nat.reduceAdd, Nat.reduceSub, Nat.reduceMul, Nat.reduceBEq, reduceCtorEq, Int.reduceAdd, Int.reduceSub, Int.reduceMul, Int.reduceLT, Int.reduceLE, Int.reduceGT, Int.reduceGE, Int.reduceEq, Int.reduceNe, Int.reduceBEq, Int.reduceBNe, Int.reduceTMod, Int.reduceTDiv, ↓if_true, ↓if_false, F8, A8, XAcc]

end Go.Big

/- The reference's hash: words, rotation, lanes. -/
set_option linter.unusedSimpArgs false
set_option linter.unusedVariables false
set_option maxRecDepth 100000
set_option maxHeartbeats 4000000
namespace Go.Big
open Go.Proofs

theorem rwords_ct {m : Mem} : Ct Tryz.prog S0 103 [] m [] (fun out m' => out = .ret (.slice (some ⟨m.next, 0, none⟩) 8 8) ∧ m' = m.push (.row (w32s ivW) .rw)) := by
  refine ct_x (spec0 _) (by rfl) Tryz.func103 rfl ?_
  simp (maxSteps := 2000000) (disch := first | assumption | omega | (simp only [nx_push, nx_set, ne_eq] <;> omega) | (simp only [XSide, F103]; done) | decide) only [XWalk, XSl, ↓XPre, reduceIte, Nat.reduceEqDiff, Nat.reduceLT, Nat.reduceAdd, Nat.reduceSub, Nat.reduceMul, Nat.reduceBEq, reduceCtorEq, Int.reduceAdd, Int.reduceSub, Int.reduceMul, Int.reduceLT, Int.reduceLE, Int.reduceGT, Int.reduceGE, Int.reduceEq, Int.reduceNe, Int.reduceBEq, Int.reduceBNe, Int.reduceTMod, Int.reduceTDiv, ↓if_true, ↓if_false, F103, A103, Tryz.ntmps103]
  rfl

theorem rright_ct {m : Mem} {x : UInt32} {n : Nat} (h0 : 0 < n) (hn : n < 32) : Ct Tryz.prog S0 134 [w32 x, .int .i64 (n : Int)] m [] (fun out m' => out = .ret (w32 (rotr x (UInt32.ofNat n))) ∧ m' = m) := by
  have e1 : IntKind.wrap .i64 (32 - (n : Int)) = ((32 - n : Nat) : Int) := by rw [wrap_i64 (by omega) (by omega)]; omega
  refine ct_x (spec0 _) (by rfl) Tryz.func134 rfl ?_
  simp (maxSteps := 2000000) (disch := first | assumption | omega | (simp only [nx_push, nx_set, ne_eq] <;> omega) | (simp only [XSide, F134]; done) | decide) only [XWalk, XSl, ↓XPre, reduceIte, Nat.reduceEqDiff, Nat.reduceLT, Nat.reduceAdd, Nat.reduceSub, Nat.reduceMul, Nat.reduceBEq, reduceCtorEq, Int.reduceAdd, Int.reduceSub, Int.reduceMul, Int.reduceLT, Int.reduceLE, Int.reduceGT, Int.reduceGE, Int.reduceEq, Int.reduceNe, Int.reduceBEq, Int.reduceBNe, Int.reduceTMod, Int.reduceTDiv, ↓if_true, ↓if_false, F134, A134, Tryz.ntmps134]
  refine x_draw [0, 0, 3, 0, 0, 16, 56, 127, 255] (by kernel_rfl) ?_
  simp (maxSteps := 2000000) (disch := first | assumption | omega | (simp only [nx_push, nx_set, ne_eq] <;> omega) | (simp only [XSide, F134]; done) | decide) only [XWalk, XSl, ↓XPre, reduceIte, Nat.reduceEqDiff, Nat.reduceLT, Nat.reduceAdd, Nat.reduceSub, Nat.reduceMul, Nat.reduceBEq, reduceCtorEq, Int.reduceAdd, Int.reduceSub, Int.reduceMul, Int.reduceLT, Int.reduceLE, Int.reduceGT, Int.reduceGE, Int.reduceEq, Int.reduceNe, Int.reduceBEq, Int.reduceBNe, Int.reduceTMod, Int.reduceTDiv, ↓if_true, ↓if_false, F134, A134, e1, shlK_32 x (32 - n) (by omega), shrK_32 x n hn, orI_32]
  have e2 : UInt32.ofNat (32 - n) = 32 - UInt32.ofNat n := by
    apply UInt32.toNat_inj.1
    rw [UInt32.toNat_sub, UInt32.toNat_ofNat', UInt32.toNat_ofNat']
    simp
    omega
  rw [e2, UInt32.or_comm]
  rfl

theorem rlane_ct {m : Mem} {i : Nat} (hi : i < 8) : Ct Tryz.prog S0 122 [.int .i64 (i : Int)] m [] (fun out m' => out = .ret (.slice (some ⟨m.next, 0, none⟩) 4 4) ∧
    m' = m.push (.row [.int .i64 ((lane i).1 : Int), .int .i64 ((lane i).2.1 : Int), .int .i64 ((lane i).2.2.1 : Int), .int .i64 ((lane i).2.2.2 : Int)] .rw)) := by
  have hc : i = 0 ∨ i = 1 ∨ i = 2 ∨ i = 3 ∨ i = 4 ∨ i = 5 ∨ i = 6 ∨ i = 7 := by omega
  rcases hc with rfl | rfl | rfl | rfl | rfl | rfl | rfl | rfl
  all_goals
    refine ct_x (spec0 _) (by rfl) Tryz.func122 rfl ?_
    simp (maxSteps := 2000000) (disch := first | assumption | omega | (simp only [nx_push, nx_set, ne_eq] <;> omega) | (simp only [XSide, F122]; done) | decide) only [XWalk, XSl, ↓XPre, reduceIte, Nat.reduceEqDiff, Nat.reduceLT, Nat.reduceAdd, Nat.reduceSub, Nat.reduceMul, Nat.reduceBEq, reduceCtorEq, Int.reduceAdd, Int.reduceSub, Int.reduceMul, Int.reduceLT, Int.reduceLE, Int.reduceGT, Int.reduceGE, Int.reduceEq, Int.reduceNe, Int.reduceBEq, Int.reduceBNe, Int.reduceTMod, Int.reduceTDiv, ↓if_true, ↓if_false, F122, A122, Tryz.ntmps122, cast_lit]
    rfl

section
variable {P : Program} {t : TypeId} {m : Mem} {a0 a1 a2 a3 a4 a5 a6 a7 a8 a9 a10 a11 a12 a13 a14 a15 : Value}
theorem bs16 (h : bsK P t = true) (h0 : oneCell a0 = true) (h1 : oneCell a1 = true) (h2 : oneCell a2 = true) (h3 : oneCell a3 = true) (h4 : oneCell a4 = true) (h5 : oneCell a5 = true) (h6 : oneCell a6 = true) (h7 : oneCell a7 = true) (h8 : oneCell a8 = true) (h9 : oneCell a9 = true) (h10 : oneCell a10 = true) (h11 : oneCell a11 = true) (h12 : oneCell a12 = true) (h13 : oneCell a13 = true) (h14 : oneCell a14 = true) (h15 : oneCell a15 = true) : abuildSliceR P t 16 [(0, a0), (1, a1), (2, a2), (3, a3), (4, a4), (5, a5), (6, a6), (7, a7), (8, a8), (9, a9), (10, a10), (11, a11), (12, a12), (13, a13), (14, a14), (15, a15)] m = some (.slice (some ⟨m.next, 0, none⟩) 16 16, m.push (.row [a0, a1, a2, a3, a4, a5, a6, a7, a8, a9, a10, a11, a12, a13, a14, a15] .rw), [], .no) :=
  bs_row h (vs := [a0, a1, a2, a3, a4, a5, a6, a7, a8, a9, a10, a11, a12, a13, a14, a15]) (by simp [h0, h1, h2, h3, h4, h5, h6, h7, h8, h9, h10, h11, h12, h13, h14, h15]) (by simp)
theorem bs10 (h : bsK P t = true) (h0 : oneCell a0 = true) (h1 : oneCell a1 = true) (h2 : oneCell a2 = true) (h3 : oneCell a3 = true) (h4 : oneCell a4 = true) (h5 : oneCell a5 = true) (h6 : oneCell a6 = true) (h7 : oneCell a7 = true) (h8 : oneCell a8 = true) (h9 : oneCell a9 = true) : abuildSliceR P t 10 [(0, a0), (1, a1), (2, a2), (3, a3), (4, a4), (5, a5), (6, a6), (7, a7), (8, a8), (9, a9)] m = some (.slice (some ⟨m.next, 0, none⟩) 10 10, m.push (.row [a0, a1, a2, a3, a4, a5, a6, a7, a8, a9] .rw), [], .no) :=
  bs_row h (vs := [a0, a1, a2, a3, a4, a5, a6, a7, a8, a9]) (by simp [h0, h1, h2, h3, h4, h5, h6, h7, h8, h9]) (by simp)
end

theorem push_at {m : Mem} {l : List AObj} {i : Nat} {o : AObj} (h : l[i]? = some o) : (pushAll m l).get (m.next + i) = some o := by
  have hi : i < l.length := by
    rcases Nat.lt_or_ge i l.length with h1 | h1
    · exact h1
    · rw [List.getElem?_eq_none h1] at h; cases h
  rw [pushAll_get, if_pos (by omega), Nat.add_sub_cancel_left]
  exact h

def intCells (s : List Nat) : List Value := s.map fun (n : Nat) => .int .i64 (n : Int)

theorem rrow_ct {m : Mem} {r : Nat} (hr : r < 10) : Ct Tryz.prog S0 120 [.int .i64 (r : Int)] m [] (Rv fun v m' => v = .slice (some ⟨m.next + r, 0, none⟩) 16 16 ∧ m'.get (m.next + r) = some (.row (intCells (sigma.getD r [])) .rw)) := by
  have hc : r = 0 ∨ r = 1 ∨ r = 2 ∨ r = 3 ∨ r = 4 ∨ r = 5 ∨ r = 6 ∨ r = 7 ∨ r = 8 ∨ r = 9 := by omega
  rcases hc with rfl | rfl | rfl | rfl | rfl | rfl | rfl | rfl | rfl | rfl
  · refine ct_x (spec0 _) (by rfl) Tryz.func120 rfl ?_
    simp (maxSteps := 2000000) (disch := first | assumption | omega | (simp only [nx_push, nx_set, ne_eq] <;> omega) | (simp only [XSide, F120]; done) | decide) only [XWalk, XSl, ↓XPre, reduceIte, Nat.reduceEqDiff, Nat.reduceLT, Nat.reduceAdd, Nat.reduceSub, Nat.reduceMul, Nat.reduceBEq, reduceCtorEq, Int.reduceAdd, Int.reduceSub, Int.reduceMul, Int.reduceLT, Int.reduceLE, Int.reduceGT, Int.reduceGE, Int.reduceEq, Int.reduceNe, Int.reduceBEq, Int.reduceBNe, Int.reduceTMod, Int.reduceTDiv, ↓if_true, ↓if_false, F120, A120, Tryz.ntmps120, cast_lit, bs16, bs10]
    refine ⟨_, rfl, rfl, ?_⟩
    refine push_at (l := [_, _, _, _, _, _, _, _, _, _, _]) (i := 0) ?_
    rfl
  · refine ct_x (spec0 _) (by rfl) Tryz.func120 rfl ?_
    simp (maxSteps := 2000000) (disch := first | assumption | omega | (simp only [nx_push, nx_set, ne_eq] <;> omega) | (simp only [XSide, F120]; done) | decide) only [XWalk, XSl, ↓XPre, reduceIte, Nat.reduceEqDiff, Nat.reduceLT, Nat.reduceAdd, Nat.reduceSub, Nat.reduceMul, Nat.reduceBEq, reduceCtorEq, Int.reduceAdd, Int.reduceSub, Int.reduceMul, Int.reduceLT, Int.reduceLE, Int.reduceGT, Int.reduceGE, Int.reduceEq, Int.reduceNe, Int.reduceBEq, Int.reduceBNe, Int.reduceTMod, Int.reduceTDiv, ↓if_true, ↓if_false, F120, A120, Tryz.ntmps120, cast_lit, bs16, bs10]
    refine ⟨_, rfl, rfl, ?_⟩
    refine push_at (l := [_, _, _, _, _, _, _, _, _, _, _]) (i := 1) ?_
    rfl
  · refine ct_x (spec0 _) (by rfl) Tryz.func120 rfl ?_
    simp (maxSteps := 2000000) (disch := first | assumption | omega | (simp only [nx_push, nx_set, ne_eq] <;> omega) | (simp only [XSide, F120]; done) | decide) only [XWalk, XSl, ↓XPre, reduceIte, Nat.reduceEqDiff, Nat.reduceLT, Nat.reduceAdd, Nat.reduceSub, Nat.reduceMul, Nat.reduceBEq, reduceCtorEq, Int.reduceAdd, Int.reduceSub, Int.reduceMul, Int.reduceLT, Int.reduceLE, Int.reduceGT, Int.reduceGE, Int.reduceEq, Int.reduceNe, Int.reduceBEq, Int.reduceBNe, Int.reduceTMod, Int.reduceTDiv, ↓if_true, ↓if_false, F120, A120, Tryz.ntmps120, cast_lit, bs16, bs10]
    refine ⟨_, rfl, rfl, ?_⟩
    refine push_at (l := [_, _, _, _, _, _, _, _, _, _, _]) (i := 2) ?_
    rfl
  · refine ct_x (spec0 _) (by rfl) Tryz.func120 rfl ?_
    simp (maxSteps := 2000000) (disch := first | assumption | omega | (simp only [nx_push, nx_set, ne_eq] <;> omega) | (simp only [XSide, F120]; done) | decide) only [XWalk, XSl, ↓XPre, reduceIte, Nat.reduceEqDiff, Nat.reduceLT, Nat.reduceAdd, Nat.reduceSub, Nat.reduceMul, Nat.reduceBEq, reduceCtorEq, Int.reduceAdd, Int.reduceSub, Int.reduceMul, Int.reduceLT, Int.reduceLE, Int.reduceGT, Int.reduceGE, Int.reduceEq, Int.reduceNe, Int.reduceBEq, Int.reduceBNe, Int.reduceTMod, Int.reduceTDiv, ↓if_true, ↓if_false, F120, A120, Tryz.ntmps120, cast_lit, bs16, bs10]
    refine ⟨_, rfl, rfl, ?_⟩
    refine push_at (l := [_, _, _, _, _, _, _, _, _, _, _]) (i := 3) ?_
    rfl
  · refine ct_x (spec0 _) (by rfl) Tryz.func120 rfl ?_
    simp (maxSteps := 2000000) (disch := first | assumption | omega | (simp only [nx_push, nx_set, ne_eq] <;> omega) | (simp only [XSide, F120]; done) | decide) only [XWalk, XSl, ↓XPre, reduceIte, Nat.reduceEqDiff, Nat.reduceLT, Nat.reduceAdd, Nat.reduceSub, Nat.reduceMul, Nat.reduceBEq, reduceCtorEq, Int.reduceAdd, Int.reduceSub, Int.reduceMul, Int.reduceLT, Int.reduceLE, Int.reduceGT, Int.reduceGE, Int.reduceEq, Int.reduceNe, Int.reduceBEq, Int.reduceBNe, Int.reduceTMod, Int.reduceTDiv, ↓if_true, ↓if_false, F120, A120, Tryz.ntmps120, cast_lit, bs16, bs10]
    refine ⟨_, rfl, rfl, ?_⟩
    refine push_at (l := [_, _, _, _, _, _, _, _, _, _, _]) (i := 4) ?_
    rfl
  · refine ct_x (spec0 _) (by rfl) Tryz.func120 rfl ?_
    simp (maxSteps := 2000000) (disch := first | assumption | omega | (simp only [nx_push, nx_set, ne_eq] <;> omega) | (simp only [XSide, F120]; done) | decide) only [XWalk, XSl, ↓XPre, reduceIte, Nat.reduceEqDiff, Nat.reduceLT, Nat.reduceAdd, Nat.reduceSub, Nat.reduceMul, Nat.reduceBEq, reduceCtorEq, Int.reduceAdd, Int.reduceSub, Int.reduceMul, Int.reduceLT, Int.reduceLE, Int.reduceGT, Int.reduceGE, Int.reduceEq, Int.reduceNe, Int.reduceBEq, Int.reduceBNe, Int.reduceTMod, Int.reduceTDiv, ↓if_true, ↓if_false, F120, A120, Tryz.ntmps120, cast_lit, bs16, bs10]
    refine ⟨_, rfl, rfl, ?_⟩
    refine push_at (l := [_, _, _, _, _, _, _, _, _, _, _]) (i := 5) ?_
    rfl
  · refine ct_x (spec0 _) (by rfl) Tryz.func120 rfl ?_
    simp (maxSteps := 2000000) (disch := first | assumption | omega | (simp only [nx_push, nx_set, ne_eq] <;> omega) | (simp only [XSide, F120]; done) | decide) only [XWalk, XSl, ↓XPre, reduceIte, Nat.reduceEqDiff, Nat.reduceLT, Nat.reduceAdd, Nat.reduceSub, Nat.reduceMul, Nat.reduceBEq, reduceCtorEq, Int.reduceAdd, Int.reduceSub, Int.reduceMul, Int.reduceLT, Int.reduceLE, Int.reduceGT, Int.reduceGE, Int.reduceEq, Int.reduceNe, Int.reduceBEq, Int.reduceBNe, Int.reduceTMod, Int.reduceTDiv, ↓if_true, ↓if_false, F120, A120, Tryz.ntmps120, cast_lit, bs16, bs10]
    refine ⟨_, rfl, rfl, ?_⟩
    refine push_at (l := [_, _, _, _, _, _, _, _, _, _, _]) (i := 6) ?_
    rfl
  · refine ct_x (spec0 _) (by rfl) Tryz.func120 rfl ?_
    simp (maxSteps := 2000000) (disch := first | assumption | omega | (simp only [nx_push, nx_set, ne_eq] <;> omega) | (simp only [XSide, F120]; done) | decide) only [XWalk, XSl, ↓XPre, reduceIte, Nat.reduceEqDiff, Nat.reduceLT, Nat.reduceAdd, Nat.reduceSub, Nat.reduceMul, Nat.reduceBEq, reduceCtorEq, Int.reduceAdd, Int.reduceSub, Int.reduceMul, Int.reduceLT, Int.reduceLE, Int.reduceGT, Int.reduceGE, Int.reduceEq, Int.reduceNe, Int.reduceBEq, Int.reduceBNe, Int.reduceTMod, Int.reduceTDiv, ↓if_true, ↓if_false, F120, A120, Tryz.ntmps120, cast_lit, bs16, bs10]
    refine ⟨_, rfl, rfl, ?_⟩
    refine push_at (l := [_, _, _, _, _, _, _, _, _, _, _]) (i := 7) ?_
    rfl
  · refine ct_x (spec0 _) (by rfl) Tryz.func120 rfl ?_
    simp (maxSteps := 2000000) (disch := first | assumption | omega | (simp only [nx_push, nx_set, ne_eq] <;> omega) | (simp only [XSide, F120]; done) | decide) only [XWalk, XSl, ↓XPre, reduceIte, Nat.reduceEqDiff, Nat.reduceLT, Nat.reduceAdd, Nat.reduceSub, Nat.reduceMul, Nat.reduceBEq, reduceCtorEq, Int.reduceAdd, Int.reduceSub, Int.reduceMul, Int.reduceLT, Int.reduceLE, Int.reduceGT, Int.reduceGE, Int.reduceEq, Int.reduceNe, Int.reduceBEq, Int.reduceBNe, Int.reduceTMod, Int.reduceTDiv, ↓if_true, ↓if_false, F120, A120, Tryz.ntmps120, cast_lit, bs16, bs10]
    refine ⟨_, rfl, rfl, ?_⟩
    refine push_at (l := [_, _, _, _, _, _, _, _, _, _, _]) (i := 8) ?_
    rfl
  · refine ct_x (spec0 _) (by rfl) Tryz.func120 rfl ?_
    simp (maxSteps := 2000000) (disch := first | assumption | omega | (simp only [nx_push, nx_set, ne_eq] <;> omega) | (simp only [XSide, F120]; done) | decide) only [XWalk, XSl, ↓XPre, reduceIte, Nat.reduceEqDiff, Nat.reduceLT, Nat.reduceAdd, Nat.reduceSub, Nat.reduceMul, Nat.reduceBEq, reduceCtorEq, Int.reduceAdd, Int.reduceSub, Int.reduceMul, Int.reduceLT, Int.reduceLE, Int.reduceGT, Int.reduceGE, Int.reduceEq, Int.reduceNe, Int.reduceBEq, Int.reduceBNe, Int.reduceTMod, Int.reduceTDiv, ↓if_true, ↓if_false, F120, A120, Tryz.ntmps120, cast_lit, bs16, bs10]
    refine ⟨_, rfl, rfl, ?_⟩
    refine push_at (l := [_, _, _, _, _, _, _, _, _, _, _]) (i := 9) ?_
    rfl

end Go.Big

/- The reference's mixing. -/
set_option linter.unusedSimpArgs false
set_option linter.unusedVariables false
set_option maxRecDepth 100000
set_option maxHeartbeats 4000000
namespace Go.Big
open Go.Proofs

theorem rG_ct {m : Mem} {vb pb c : Nat} {kd : Kind} (hkd : writable kd = true) {V : List UInt32} (hv : m.get vb = some (.row (w32s V) kd)) (lV : V.length = 16) {ia ib ic id : Nat}
    (hp : m.get pb = some (.row [.int .i64 (ia : Int), .int .i64 (ib : Int), .int .i64 (ic : Int), .int .i64 (id : Int)] .rw)) (npv : pb ≠ vb) (hc : 16 ≤ c)
    (la : ia < 16) (lb : ib < 16) (lc : ic < 16) (ld : id < 16) {x y : UInt32} :
    Ct Tryz.prog S0 121 [.slice (some ⟨vb, 0, none⟩) 16 c, .slice (some ⟨pb, 0, none⟩) 4 4, w32 x, w32 y] m [vb]
      (fun out m' => out = .ret (.tuple #[]) ∧ m'.next = m.next ∧ m'.get vb = some (.row (w32s (mixAt V (ia, ib, ic, id) x y)) kd)) := by
  have ga : (w32s V)[ia]? = some (w32 (V.getD ia 0)) := w32s_get (by omega)
  have gb : (w32s V)[ib]? = some (w32 (V.getD ib 0)) := w32s_get (by omega)
  have gc : (w32s V)[ic]? = some (w32 (V.getD ic 0)) := w32s_get (by omega)
  have gd : (w32s V)[id]? = some (w32 (V.getD id 0)) := w32s_get (by omega)
  refine ct_x (spec0 _) (by rfl) Tryz.func121 rfl ?_
  simp (maxSteps := 2000000) (disch := first | assumption | omega | (simp only [nx_push, nx_set, ne_eq] <;> omega) | (simp only [XSide, F121]; done) | decide) only [XWalk, XSl, ↓XPre, reduceIte, Nat.reduceEqDiff, Nat.reduceLT, Nat.reduceAdd, Nat.reduceSub, Nat.reduceMul, Nat.reduceBEq, reduceCtorEq, Int.reduceAdd, Int.reduceSub, Int.reduceMul, Int.reduceLT, Int.reduceLE, Int.reduceGT, Int.reduceGE, Int.reduceEq, Int.reduceNe, Int.reduceBEq, Int.reduceBNe, Int.reduceTMod, Int.reduceTDiv, ↓if_true, ↓if_false, F121, A121, Tryz.ntmps121]
  refine x_draw [0, 0, 2, 6, 15, 31, 0, 0, 128, 384, 960, 1984, 0, 0, 8192, 24576, 61440, 126976, 0, 0, 524288, 1572864, 3932160, 8126464, 63, 16781311, 50593791, 134217727] (by kernel_rfl) ?_
  simp (maxSteps := 2000000) (disch := first | assumption | omega | (simp only [nx_push, nx_set, ne_eq] <;> omega) | (simp only [XSide, F121]; done) | decide) only [XWalk, XSl, ↓XPre, reduceIte, Nat.reduceEqDiff, Nat.reduceLT, Nat.reduceAdd, Nat.reduceSub, Nat.reduceMul, Nat.reduceBEq, reduceCtorEq, Int.reduceAdd, Int.reduceSub, Int.reduceMul, Int.reduceLT, Int.reduceLE, Int.reduceGT, Int.reduceGE, Int.reduceEq, Int.reduceNe, Int.reduceBEq, Int.reduceBNe, Int.reduceTMod, Int.reduceTDiv, ↓if_true, ↓if_false, F121, A121, hp, hv, ga, gb, gc, gd, cast_lit, addI_32, xorI_32]
  refine wcall_pu (pu_of (rright_ct (n := 16) (by omega) (by omega))) ?_
  simp (maxSteps := 2000000) (disch := first | assumption | omega | (simp only [nx_push, nx_set, ne_eq] <;> omega) | (simp only [XSide, F121]; done) | decide) only [XWalk, XSl, ↓XPre, reduceIte, Nat.reduceEqDiff, Nat.reduceLT, Nat.reduceAdd, Nat.reduceSub, Nat.reduceMul, Nat.reduceBEq, reduceCtorEq, Int.reduceAdd, Int.reduceSub, Int.reduceMul, Int.reduceLT, Int.reduceLE, Int.reduceGT, Int.reduceGE, Int.reduceEq, Int.reduceNe, Int.reduceBEq, Int.reduceBNe, Int.reduceTMod, Int.reduceTDiv, ↓if_true, ↓if_false, F121, A121, addI_32, xorI_32, w32]
  refine wcall_pu (pu_of (rright_ct (n := 12) (by omega) (by omega))) ?_
  simp (maxSteps := 2000000) (disch := first | assumption | omega | (simp only [nx_push, nx_set, ne_eq] <;> omega) | (simp only [XSide, F121]; done) | decide) only [XWalk, XSl, ↓XPre, reduceIte, Nat.reduceEqDiff, Nat.reduceLT, Nat.reduceAdd, Nat.reduceSub, Nat.reduceMul, Nat.reduceBEq, reduceCtorEq, Int.reduceAdd, Int.reduceSub, Int.reduceMul, Int.reduceLT, Int.reduceLE, Int.reduceGT, Int.reduceGE, Int.reduceEq, Int.reduceNe, Int.reduceBEq, Int.reduceBNe, Int.reduceTMod, Int.reduceTDiv, ↓if_true, ↓if_false, F121, A121, addI_32, xorI_32, w32]
  refine wcall_pu (pu_of (rright_ct (n := 8) (by omega) (by omega))) ?_
  simp (maxSteps := 2000000) (disch := first | assumption | omega | (simp only [nx_push, nx_set, ne_eq] <;> omega) | (simp only [XSide, F121]; done) | decide) only [XWalk, XSl, ↓XPre, reduceIte, Nat.reduceEqDiff, Nat.reduceLT, Nat.reduceAdd, Nat.reduceSub, Nat.reduceMul, Nat.reduceBEq, reduceCtorEq, Int.reduceAdd, Int.reduceSub, Int.reduceMul, Int.reduceLT, Int.reduceLE, Int.reduceGT, Int.reduceGE, Int.reduceEq, Int.reduceNe, Int.reduceBEq, Int.reduceBNe, Int.reduceTMod, Int.reduceTDiv, ↓if_true, ↓if_false, F121, A121, addI_32, xorI_32, w32]
  refine wcall_pu (pu_of (rright_ct (n := 7) (by omega) (by omega))) ?_
  simp (maxSteps := 2000000) (disch := first | assumption | omega | (simp only [nx_push, nx_set, ne_eq] <;> omega) | (simp only [XSide, F121]; done) | decide) only [XWalk, XSl, ↓XPre, reduceIte, Nat.reduceEqDiff, Nat.reduceLT, Nat.reduceAdd, Nat.reduceSub, Nat.reduceMul, Nat.reduceBEq, reduceCtorEq, Int.reduceAdd, Int.reduceSub, Int.reduceMul, Int.reduceLT, Int.reduceLE, Int.reduceGT, Int.reduceGE, Int.reduceEq, Int.reduceNe, Int.reduceBEq, Int.reduceBNe, Int.reduceTMod, Int.reduceTDiv, ↓if_true, ↓if_false, F121, A121, addI_32, xorI_32, w32]
  refine x_draw [0, 0, 2, 6, 0, 0, 32, 96, 0, 0, 512, 1536, 0, 0, 8192, 24576, 0, 0, 0, 0, 126703, 1175279, 3403519, 7597823, 16248831, 33026047, 67108863, 134217727] (by kernel_rfl) ?_
  have lV' : (w32s V).length = 16 := by rw [w32s_len]; exact lV
  simp (maxSteps := 2000000) (disch := first | assumption | omega | (simp only [nx_push, nx_set, ne_eq] <;> omega) | (simp only [XSide, F121]; done) | decide) only [XWalk, XSl, ↓XPre, reduceIte, Nat.reduceEqDiff, Nat.reduceLT, Nat.reduceAdd, Nat.reduceSub, Nat.reduceMul, Nat.reduceBEq, reduceCtorEq, Int.reduceAdd, Int.reduceSub, Int.reduceMul, Int.reduceLT, Int.reduceLE, Int.reduceGT, Int.reduceGE, Int.reduceEq, Int.reduceNe, Int.reduceBEq, Int.reduceBNe, Int.reduceTMod, Int.reduceTDiv, ↓if_true, ↓if_false, F121, A121, hp, hv, cast_lit, hkd, lV', la, lb, lc, ld, List.length_set]
  simp only [mixAt, mixW, ← w32s_set, ← UInt32.add_assoc]
  rfl
end Go.Big

/- The reference's compression. -/
set_option linter.unusedSimpArgs false
set_option linter.unusedVariables false
set_option maxRecDepth 100000
set_option maxHeartbeats 4000000
namespace Go.Big
open Go.Proofs

/-- An own slice of words. -/
abbrev Aw (m : Mem) (n0 : Nat) (v : Value) (l : List UInt32) : Prop := App m n0 v (w32s l)
theorem w32s_app {a b : List UInt32} : w32s (a ++ b) = w32s a ++ w32s b := by simp [w32s]
theorem w32s_one {l : List UInt32} : (w32s l).all oneCell = true := w32s_one'

theorem wappendW {P : Program} {m : Mem} {v x : Value} {a b : List UInt32} {n0 : Nat} {aT : Array TypeId} {bytes : Nat} (h : appK P aT = some bytes) (hv : Aw m n0 v a) (hx : Sl m x (w32s b)) (hlen : a.length + b.length ≤ 1073741824) (hn0 : n0 ≤ m.next) (hw : WF m)
    {K : Value → Mem → List Nat → Rd → Prop} (hk : ∀ v' m' w, Appd m n0 v (w32s (a ++ b)) v' m' w → (∀ base L, base ≤ n0 → OkW base L w) → K v' m' w .all) : @WV (aappend P aT v x m) ⟨K⟩ := by
  obtain ⟨v', m', w, h1, h2⟩ := append_app h hv hx w32s_one (by rw [w32s_len, w32s_len]; exact hlen) hn0 hw
  rw [h1]
  rw [← w32s_app] at h2
  exact hk v' m' w h2 (fun base L hb => h2.ok (fun b hb' => hv.blk_ge hb') base hb L)

theorem wappendO {P : Program} {m : Mem} {v x : Value} {cs ds : List Value} {n0 : Nat} {aT : Array TypeId} {bytes : Nat} (h : appK P aT = some bytes) (hv : Own m n0 v cs) (hx : Sl m x ds) (hone : ds.all oneCell = true) (hlen : cs.length + ds.length ≤ 1073741824) (hn0 : n0 ≤ m.next) (hw : WF m)
    {K : Value → Mem → List Nat → Rd → Prop} (hk : ∀ v' m' w, Own m' n0 v' (cs ++ ds) → (∀ base L, base ≤ n0 → OkW base L w) → WF m' → m.next ≤ m'.next → (∀ b, b < m.next → slBlk v ≠ some b → m'.get b = m.get b) → (∀ b, slBlk v' = some b → slBlk v = some b ∨ m.next ≤ b) → K v' m' w .all) : @WV (aappend P aT v x m) ⟨K⟩ := by
  obtain ⟨v', m', w, h1, h2, h3, h4, h5, h6, h7, h8, h9⟩ := append_own h hv hx.elems hone hlen hn0 hw
  rw [h1]
  exact hk v' m' w h2 (fun base L hb b hb' hlt => by have := h3 b hb'; omega) h5 h4 h6 h8
theorem Own.inv {m : Mem} {n0 : Nat} {v : Value} {cs : List Value} (h : Own m n0 v cs) (hne : cs ≠ []) : ∃ b, n0 ≤ b ∧ v = .slice (some ⟨b, 0, none⟩) cs.length cs.length ∧ m.get b = some (.row cs (.slack 1)) := by
  cases h with
  | nil => exact absurd rfl hne
  | row h1 h2 h3 => exact ⟨_, h1, rfl, h3⟩
theorem w32_at {L : List UInt32} {rs : List Value} {o n i : Nat} (h : (rs.drop o).take n = w32s L) (hi : i < L.length) : rs[o + i]? = some (w32 (L.getD i 0)) := by
  rw [take_drop_get h (by rw [w32s_len]; exact hi), w32s_get hi]
theorem intCells_get {s : List Nat} {i : Nat} (h : i < s.length) : (intCells s)[i]? = some (.int .i64 ((s.getD i 0 : Nat) : Int)) := by
  simp [intCells, h]
theorem lane_lt {i : Nat} (h : i < 8) : (lane i).1 < 16 ∧ (lane i).2.1 < 16 ∧ (lane i).2.2.1 < 16 ∧ (lane i).2.2.2 < 16 := by
  unfold lane; split <;> simp only <;> omega
theorem shr32_i {t : Nat} : shrK .i64 (t : Int) 32 = ((t / 4294967296 : Nat) : Int) := shrK_nat (k := .i64) (a := t) (n := 32) (by decide)

theorem rcompress_ct {m : Mem} (hw : WF m) {hv bv : Value} {H : List UInt32} {l : List UInt8} (hH : Sl m hv (w32s H)) (lH : H.length = 8) (hb : Bs m bv l) (lB : l.length = 64) {t : Nat} (ht : t < 4611686018427387904) {last : Bool} :
    Ct Tryz.prog S0 104 [hv, bv, .int .i64 (t : Int), .bool last] m [] (Rv fun v m' => Aw m' m.next v (compressW H l t last)) := by
  refine ct_x (spec0 _) (by rfl) Tryz.func104 rfl ?_
  simp (maxSteps := 2000000) (disch := first | assumption | omega | (simp only [nx_push, nx_set, ne_eq] <;> omega) | (simp only [XSide, F104]; done) | decide) only [XWalk, XSl, ↓XPre, reduceIte, Nat.reduceEqDiff, Nat.reduceLT, Nat.reduceAdd, Nat.reduceSub, Nat.reduceMul, Nat.reduceBEq, reduceCtorEq, Int.reduceAdd, Int.reduceSub, Int.reduceMul, Int.reduceLT, Int.reduceLE, Int.reduceGT, Int.reduceGE, Int.reduceEq, Int.reduceNe, Int.reduceBEq, Int.reduceBNe, Int.reduceTMod, Int.reduceTDiv, ↓if_true, ↓if_false, F104, A104, Tryz.ntmps104]
  refine x_loop (fun k e m1 => ∃ i mv, i + k = 16 ∧ e.n = 140 ∧ e.get 0 = hv ∧ e.get 1 = bv ∧ e.get 2 = .int .i64 (t : Int) ∧ e.get 3 = .bool last ∧ e.get 9 = mv ∧ e.get 10 = .int .i64 ((i : Nat) : Int) ∧ WF m1 ∧ m.next ≤ m1.next ∧ (∀ b, b < m.next → m1.get b = m.get b) ∧
    Aw m1 m.next mv ((List.range i).map (blkWord l))) 16 ⟨0, .slice none 0 0, by omega, by simp (maxSteps := 2000000) (disch := first | assumption | omega | (simp only [nx_push, nx_set, ne_eq] <;> omega) | (simp only [XSide]; done) | decide) only [XWalk, XSl, ↓XPre, reduceIte, Nat.reduceEqDiff, Nat.reduceLT, Nat.reduceAdd, Nat.reduceSub, Nat.reduceMul, Nat.reduceBEq, reduceCtorEq, Int.reduceAdd, Int.reduceSub, Int.reduceMul, Int.reduceLT, Int.reduceLE, Int.reduceGT, Int.reduceGE, Int.reduceEq, Int.reduceNe, Int.reduceBEq, Int.reduceBNe, Int.reduceTMod, Int.reduceTDiv, ↓if_true, ↓if_false], by simp (maxSteps := 2000000) (disch := first | assumption | omega | (simp only [nx_push, nx_set, ne_eq] <;> omega) | (simp only [XSide]; done) | decide) only [XWalk, XSl, ↓XPre, reduceIte, Nat.reduceEqDiff, Nat.reduceLT, Nat.reduceAdd, Nat.reduceSub, Nat.reduceMul, Nat.reduceBEq, reduceCtorEq, Int.reduceAdd, Int.reduceSub, Int.reduceMul, Int.reduceLT, Int.reduceLE, Int.reduceGT, Int.reduceGE, Int.reduceEq, Int.reduceNe, Int.reduceBEq, Int.reduceBNe, Int.reduceTMod, Int.reduceTDiv, ↓if_true, ↓if_false], by simp (maxSteps := 2000000) (disch := first | assumption | omega | (simp only [nx_push, nx_set, ne_eq] <;> omega) | (simp only [XSide]; done) | decide) only [XWalk, XSl, ↓XPre, reduceIte, Nat.reduceEqDiff, Nat.reduceLT, Nat.reduceAdd, Nat.reduceSub, Nat.reduceMul, Nat.reduceBEq, reduceCtorEq, Int.reduceAdd, Int.reduceSub, Int.reduceMul, Int.reduceLT, Int.reduceLE, Int.reduceGT, Int.reduceGE, Int.reduceEq, Int.reduceNe, Int.reduceBEq, Int.reduceBNe, Int.reduceTMod, Int.reduceTDiv, ↓if_true, ↓if_false], by simp (maxSteps := 2000000) (disch := first | assumption | omega | (simp only [nx_push, nx_set, ne_eq] <;> omega) | (simp only [XSide]; done) | decide) only [XWalk, XSl, ↓XPre, reduceIte, Nat.reduceEqDiff, Nat.reduceLT, Nat.reduceAdd, Nat.reduceSub, Nat.reduceMul, Nat.reduceBEq, reduceCtorEq, Int.reduceAdd, Int.reduceSub, Int.reduceMul, Int.reduceLT, Int.reduceLE, Int.reduceGT, Int.reduceGE, Int.reduceEq, Int.reduceNe, Int.reduceBEq, Int.reduceBNe, Int.reduceTMod, Int.reduceTDiv, ↓if_true, ↓if_false], by simp (maxSteps := 2000000) (disch := first | assumption | omega | (simp only [nx_push, nx_set, ne_eq] <;> omega) | (simp only [XSide]; done) | decide) only [XWalk, XSl, ↓XPre, reduceIte, Nat.reduceEqDiff, Nat.reduceLT, Nat.reduceAdd, Nat.reduceSub, Nat.reduceMul, Nat.reduceBEq, reduceCtorEq, Int.reduceAdd, Int.reduceSub, Int.reduceMul, Int.reduceLT, Int.reduceLE, Int.reduceGT, Int.reduceGE, Int.reduceEq, Int.reduceNe, Int.reduceBEq, Int.reduceBNe, Int.reduceTMod, Int.reduceTDiv, ↓if_true, ↓if_false], by simp (maxSteps := 2000000) (disch := first | assumption | omega | (simp only [nx_push, nx_set, ne_eq] <;> omega) | (simp only [XSide]; done) | decide) only [XWalk, XSl, ↓XPre, reduceIte, Nat.reduceEqDiff, Nat.reduceLT, Nat.reduceAdd, Nat.reduceSub, Nat.reduceMul, Nat.reduceBEq, reduceCtorEq, Int.reduceAdd, Int.reduceSub, Int.reduceMul, Int.reduceLT, Int.reduceLE, Int.reduceGT, Int.reduceGE, Int.reduceEq, Int.reduceNe, Int.reduceBEq, Int.reduceBNe, Int.reduceTMod, Int.reduceTDiv, ↓if_true, ↓if_false], by simp (maxSteps := 2000000) (disch := first | assumption | omega | (simp only [nx_push, nx_set, ne_eq] <;> omega) | (simp only [XSide]; done) | decide) only [XWalk, XSl, ↓XPre, reduceIte, Nat.reduceEqDiff, Nat.reduceLT, Nat.reduceAdd, Nat.reduceSub, Nat.reduceMul, Nat.reduceBEq, reduceCtorEq, Int.reduceAdd, Int.reduceSub, Int.reduceMul, Int.reduceLT, Int.reduceLE, Int.reduceGT, Int.reduceGE, Int.reduceEq, Int.reduceNe, Int.reduceBEq, Int.reduceBNe, Int.reduceTMod, Int.reduceTDiv, ↓if_true, ↓if_false]; rfl, hw, Nat.le_refl _, fun _ _ => rfl, .nil⟩ ?_
  rintro k e m1 ⟨i, mv, hi, he, q0, q1, q2, q3, q9, q10, hw1, hn1, f1, hM⟩
  simp (maxSteps := 2000000) (disch := first | assumption | omega | (simp only [nx_push, nx_set, ne_eq] <;> omega) | (simp only [XSide, F104]; done) | decide) only [XWalk, XSl, ↓XPre, reduceIte, Nat.reduceEqDiff, Nat.reduceLT, Nat.reduceAdd, Nat.reduceSub, Nat.reduceMul, Nat.reduceBEq, reduceCtorEq, Int.reduceAdd, Int.reduceSub, Int.reduceMul, Int.reduceLT, Int.reduceLE, Int.reduceGT, Int.reduceGE, Int.reduceEq, Int.reduceNe, Int.reduceBEq, Int.reduceBNe, Int.reduceTMod, Int.reduceTDiv, ↓if_true, ↓if_false, F104, A104, he, q10]
  refine x_if (fun hx => ?_) (fun hx => ?_)
  · have hk : i < 16 := by have := of_decide_eq_true hx; omega
    have hb1 : Bs m1 bv l := hb.frame_at fun c hc => f1 c (hb.blk_lt hw hc)
    obtain ⟨bb, off, c, rs, kd, hbv, hbm, hbr, hbc, hbk⟩ := hb1.inv (by intro e; have := congrArg List.length e; rw [u8s_length, lB] at this; simp at this)
    rw [u8s_length, lB] at hbv hbr
    have g0 : IntKind.wrap .i64 (4 * (i : Int)) = ((4 * i : Nat) : Int) := by rw [wrap_i64 (by omega) (by omega)]; omega
    have g1 : IntKind.wrap .i64 (((4 * i : Nat) : Int) + 1) = ((4 * i + 1 : Nat) : Int) := by rw [wrap_i64 (by omega) (by omega)]; omega
    have g2 : IntKind.wrap .i64 (((4 * i : Nat) : Int) + 2) = ((4 * i + 2 : Nat) : Int) := by rw [wrap_i64 (by omega) (by omega)]; omega
    have g3 : IntKind.wrap .i64 (((4 * i : Nat) : Int) + 3) = ((4 * i + 3 : Nat) : Int) := by rw [wrap_i64 (by omega) (by omega)]; omega
    have e2 : IntKind.wrap .i64 ((i : Int) + 1) = ((i + 1 : Nat) : Int) := by rw [wrap_i64 (by omega) (by omega)]; omega
    have x0 : rs[off + 4 * i]? = some (.int .u8 ((l.getD (4 * i) 0).toNat : Int)) := u8_at hbr (by omega)
    have x1 : rs[off + (4 * i + 1)]? = some (.int .u8 ((l.getD (4 * i + 1) 0).toNat : Int)) := u8_at hbr (by omega)
    have x2 : rs[off + (4 * i + 2)]? = some (.int .u8 ((l.getD (4 * i + 2) 0).toNat : Int)) := u8_at hbr (by omega)
    have x3 : rs[off + (4 * i + 3)]? = some (.int .u8 ((l.getD (4 * i + 3) 0).toNat : Int)) := u8_at hbr (by omega)
    have k0 : 4 * i < 64 := by omega
    have k1 : 4 * i + 1 < 64 := by omega
    have k2 : 4 * i + 2 < 64 := by omega
    have k3 : 4 * i + 3 < 64 := by omega
    simp (maxSteps := 2000000) (disch := first | assumption | omega | (simp only [nx_push, nx_set, ne_eq] <;> omega) | (simp only [XSide, F104]; done) | decide) only [XWalk, XSl, ↓XPre, reduceIte, Nat.reduceEqDiff, Nat.reduceLT, Nat.reduceAdd, Nat.reduceSub, Nat.reduceMul, Nat.reduceBEq, reduceCtorEq, Int.reduceAdd, Int.reduceSub, Int.reduceMul, Int.reduceLT, Int.reduceLE, Int.reduceGT, Int.reduceGE, Int.reduceEq, Int.reduceNe, Int.reduceBEq, Int.reduceBNe, Int.reduceTMod, Int.reduceTDiv, ↓if_true, ↓if_false, F104, A104, he, q1, q9, q10, hbv]
    refine x_draw [0, 0, 0, 4, 14, 30, 62, 0, 0, 256, 768, 1920, 3968, 8064, 16256, 32766, 0, 0, 131072, 393216, 983040, 2031616, 4128768, 8323072, 16777214, 0, 0, 67108864, 201326592, 503316480, 1040187392, 2113929216, 4261412864, 8589934590, 17179869182, 34359738367, 68719476735] (by kernel_rfl) ?_
    simp (maxSteps := 2000000) (disch := first | assumption | omega | (simp only [nx_push, nx_set, ne_eq] <;> omega) | (simp only [XSide, F104]; done) | decide) only [XWalk, XSl, ↓XPre, reduceIte, Nat.reduceEqDiff, Nat.reduceLT, Nat.reduceAdd, Nat.reduceSub, Nat.reduceMul, Nat.reduceBEq, reduceCtorEq, Int.reduceAdd, Int.reduceSub, Int.reduceMul, Int.reduceLT, Int.reduceLE, Int.reduceGT, Int.reduceGE, Int.reduceEq, Int.reduceNe, Int.reduceBEq, Int.reduceBNe, Int.reduceTMod, Int.reduceTDiv, ↓if_true, ↓if_false, F104, A104, he, q1, q9, q10, hbv, hbm, g0, g1, g2, g3, x0, x1, x2, x3, k0, k1, k2, k3, u8_u32, shl8, shl16, shl24, orI_32]
    refine wappendW (bytes := 4) (b := [blkWord l i]) (by simp only [F104]) (hM.keep (Keep.push hw1)) (Sl.of_row get_push_self rfl rfl (Nat.le_refl _)) (by simp; omega) (by simp; omega) hw1.push fun v' m' w ha ok => ?_
    simp (maxSteps := 2000000) (disch := first | assumption | omega | (simp only [nx_push, nx_set, ne_eq] <;> omega) | (simp only [XSide, F104]; done) | decide) only [XWalk, XSl, ↓XPre, reduceIte, Nat.reduceEqDiff, Nat.reduceLT, Nat.reduceAdd, Nat.reduceSub, Nat.reduceMul, Nat.reduceBEq, reduceCtorEq, Int.reduceAdd, Int.reduceSub, Int.reduceMul, Int.reduceLT, Int.reduceLE, Int.reduceGT, Int.reduceGE, Int.reduceEq, Int.reduceNe, Int.reduceBEq, Int.reduceBNe, Int.reduceTMod, Int.reduceTDiv, ↓if_true, ↓if_false, F104, A104, ok m.next [] (Nat.le_refl _), he, q0, q1, q2, q3, q10, e2]
    refine ⟨k - 1, by omega, i + 1, v', by omega, hbv, rfl, rfl, ha.wf, by have := ha.next; simp only [Mem.next_push] at this; omega, fun b hb => ?_, ?_⟩
    · rw [ha.old (fun b hb => hM.blk_ge hb) b hb (by simp; omega), get_push_ne (by omega)]; exact f1 b hb
    · rw [List.range_succ, List.map_append]; exact ha.app
  · have hk : i = 16 := by have := of_decide_eq_false hx; omega
    subst hk
    have lM : (blkWords l).length = 16 := by simp [blkWords]
    change Aw m1 m.next mv (blkWords l) at hM
    obtain ⟨mb, mo, mc, mrs, mk, hmv, hmm, hmr, _, _⟩ := hM.sl.inv (by intro e; have := congrArg List.length e; rw [w32s_len, lM] at this; simp at this)
    rw [w32s_len, lM] at hmv hmr
    have hmlt : mb < m1.next := hw1.lt (by rw [hmm]; simp)
    obtain ⟨hb', ho, hc, hrs, hkd, hhv, hhm, hhr, _, _⟩ := hH.inv (by intro e; have := congrArg List.length e; rw [w32s_len, lH] at this; simp at this)
    rw [w32s_len, lH] at hhv hhr
    have hhlt : hb' < m.next := hw.lt (by rw [hhm]; simp)
    have hH1 : Sl m1 hv (w32s H) := hH.frame_at fun c hc => f1 c (hH.blk_lt hw hc)
    generalize hMe : blkWords l = M at *
    simp (maxSteps := 2000000) (disch := first | assumption | omega | (simp only [nx_push, nx_set, ne_eq] <;> omega) | (simp only [XSide, F104]; done) | decide) only [XWalk, XSl, ↓XPre, reduceIte, Nat.reduceEqDiff, Nat.reduceLT, Nat.reduceAdd, Nat.reduceSub, Nat.reduceMul, Nat.reduceBEq, reduceCtorEq, Int.reduceAdd, Int.reduceSub, Int.reduceMul, Int.reduceLT, Int.reduceLE, Int.reduceGT, Int.reduceGE, Int.reduceEq, Int.reduceNe, Int.reduceBEq, Int.reduceBNe, Int.reduceTMod, Int.reduceTDiv, ↓if_true, ↓if_false, F104, A104, he, q0, q1, q2, q3, q9]
    refine wappendO (bytes := 4) (by simp only [F104]) (.nil (n0 := m.next)) hH1 w32s_one (by rw [w32s_len]; simp; omega) hn1 hw1 fun v2 m2 w2 hv2 ok2 hw2 hn2 f2 b2 => ?_
    simp only [slBlk, reduceCtorEq, ne_eq, not_false_eq_true, forall_const, List.nil_append, false_or] at f2 b2 hv2
    simp (maxSteps := 2000000) (disch := first | assumption | omega | (simp only [nx_push, nx_set, ne_eq] <;> omega) | (simp only [XSide, F104]; done) | decide) only [XWalk, XSl, ↓XPre, reduceIte, Nat.reduceEqDiff, Nat.reduceLT, Nat.reduceAdd, Nat.reduceSub, Nat.reduceMul, Nat.reduceBEq, reduceCtorEq, Int.reduceAdd, Int.reduceSub, Int.reduceMul, Int.reduceLT, Int.reduceLE, Int.reduceGT, Int.reduceGE, Int.reduceEq, Int.reduceNe, Int.reduceBEq, Int.reduceBNe, Int.reduceTMod, Int.reduceTDiv, ↓if_true, ↓if_false, F104, A104, he, q0, q1, q2, q3, q9, ok2 m.next [] (Nat.le_refl _)]
    refine wcall_x specLoc (ct_nil rwords_ct rfl) hw2 ?_
    rintro out m3 hw3 hn3 f3 ⟨rfl, rfl⟩
    simp (maxSteps := 2000000) (disch := first | assumption | omega | (simp only [nx_push, nx_set, ne_eq] <;> omega) | (simp only [XSide, F104]; done) | decide) only [XWalk, XSl, ↓XPre, reduceIte, Nat.reduceEqDiff, Nat.reduceLT, Nat.reduceAdd, Nat.reduceSub, Nat.reduceMul, Nat.reduceBEq, reduceCtorEq, Int.reduceAdd, Int.reduceSub, Int.reduceMul, Int.reduceLT, Int.reduceLE, Int.reduceGT, Int.reduceGE, Int.reduceEq, Int.reduceNe, Int.reduceBEq, Int.reduceBNe, Int.reduceTMod, Int.reduceTDiv, ↓if_true, ↓if_false, F104, A104, he, ok2 m.next [] (Nat.le_refl _)]
    refine wappendO (bytes := 4) (by simp only [F104]) (hv2.frame (push_keep hw2)) (Sl.of_row (rs := w32s ivW) (cs := w32s ivW) get_push_self rfl rfl (Nat.le_refl _)) w32s_one (by rw [w32s_len, w32s_len]; simp [ivW]; omega) (by simp only [Mem.next_push]; omega) hw2.push fun v4 m4 w4 hv4 ok4 hw4 hn4 f4 b4 => ?_
    rw [← w32s_app] at hv4
    have lv : (H ++ ivW).length = 16 := by simp [lH, ivW]
    have lw16 : (w32s (H ++ ivW)).length = 16 := by rw [w32s_len]; exact lv
    obtain ⟨vb, hvb, rfl, hm4⟩ := hv4.inv (by intro e; have := congrArg List.length e; rw [lw16] at this; simp at this)
    simp only [Mem.next_push] at hn4 f4 b4
    have hvbge : m1.next ≤ vb := by
      rcases b4 vb rfl with h | h
      · exact b2 vb h
      · omega
    have hmb4 : m4.get mb = some (.row mrs mk) := by
      rw [f4 mb (by omega) (fun e => by have := b2 mb e; omega), get_push_ne (by omega), f2 mb hmlt]; exact hmm
    have fr4 : ∀ b, b < m.next → m4.get b = m.get b := fun b hb => by
      rw [f4 b (by omega) (fun e => by have := b2 b e; omega), get_push_ne (by omega), f2 b (by omega)]; exact f1 b hb
    have v12 : (w32s (H ++ ivW))[12]? = some (w32 0x510e527f) := by simp only [w32s, List.map_append]; rw [List.getElem?_append_right (by simp [lH])]; simp [lH, ivW]
    have v13 : (w32s (H ++ ivW))[13]? = some (w32 0x9b05688c) := by simp only [w32s, List.map_append]; rw [List.getElem?_append_right (by simp [lH])]; simp [lH, ivW]
    have v14 : (w32s (H ++ ivW))[14]? = some (w32 0x1f83d9ab) := by simp only [w32s, List.map_append]; rw [List.getElem?_append_right (by simp [lH])]; simp [lH, ivW]
    have hT : w32s (initV H t true) = w32s ((((H ++ ivW).set 12 (0x510e527f ^^^ UInt32.ofNat t)).set 13 (0x9b05688c ^^^ UInt32.ofNat (t / 4294967296))).set 14 (0x1f83d9ab ^^^ 0xffffffff)) := by
      match H, lH with
      | [h0, h1, h2, h3, h4, h5, h6, h7], _ => rfl
    have hF : w32s (initV H t false) = w32s (((H ++ ivW).set 12 (0x510e527f ^^^ UInt32.ofNat t)).set 13 (0x9b05688c ^^^ UInt32.ofNat (t / 4294967296))) := by
      match H, lH with
      | [h0, h1, h2, h3, h4, h5, h6, h7], _ => rfl
    have e14 : xorI .u32 ((UInt32.toNat 528734635 : Nat) : Int) 4294967295 = ((UInt32.toNat (528734635 ^^^ 0xffffffff) : Nat) : Int) := xorI_32 _ 0xffffffff
    have hvlt : vb < m4.next := hw4.lt (by rw [hm4]; simp)
    rw [lw16]
    simp (maxSteps := 2000000) (disch := first | assumption | omega | (simp only [nx_push, nx_set, ne_eq] <;> omega) | (simp only [XSide, F104]; done) | decide) only [XWalk, XSl, ↓XPre, reduceIte, Nat.reduceEqDiff, Nat.reduceLT, Nat.reduceAdd, Nat.reduceSub, Nat.reduceMul, Nat.reduceBEq, reduceCtorEq, Int.reduceAdd, Int.reduceSub, Int.reduceMul, Int.reduceLT, Int.reduceLE, Int.reduceGT, Int.reduceGE, Int.reduceEq, Int.reduceNe, Int.reduceBEq, Int.reduceBNe, Int.reduceTMod, Int.reduceTDiv, ↓if_true, ↓if_false, F104, A104, he, q0, q1, q2, q3, q9, ok4 m.next [] (Nat.le_refl _), hm4, v12, v13, lw16, mod32_of, shr32_i, xorI_32]
    refine x_join (fun e m5 => e.n = 140 ∧ e.get 0 = hv ∧ e.get 9 = mv ∧ e.get 11 = .slice (some ⟨vb, 0, none⟩) 16 16 ∧ WF m5 ∧ m5.next = m4.next ∧ (∀ b, b < m.next → m5.get b = m.get b) ∧ m5.get mb = some (.row mrs mk) ∧ m5.get vb = some (.row (w32s (initV H t last)) (.slack 1))) (fun hl => ?_) (fun hl => ?_) ?_
    · subst hl
      simp (maxSteps := 2000000) (disch := first | assumption | omega | (simp only [nx_push, nx_set, ne_eq] <;> omega) | (simp only [XSide, F104]; done) | decide) only [XWalk, XSl, ↓XPre, reduceIte, Nat.reduceEqDiff, Nat.reduceLT, Nat.reduceAdd, Nat.reduceSub, Nat.reduceMul, Nat.reduceBEq, reduceCtorEq, Int.reduceAdd, Int.reduceSub, Int.reduceMul, Int.reduceLT, Int.reduceLE, Int.reduceGT, Int.reduceGE, Int.reduceEq, Int.reduceNe, Int.reduceBEq, Int.reduceBNe, Int.reduceTMod, Int.reduceTDiv, ↓if_true, ↓if_false, F104, A104, he, q0, q1, q2, q3, q9, v14, lw16, e14]
      refine ⟨?_, fun b hb => ?_, hmb4, ?_⟩
      · (repeat (first | exact hw4 | apply WF.push | (refine WF.set ?_ (by first | omega | (simp only [Mem.next_set, Mem.next_push]; omega)))))
      · simp (maxSteps := 2000000) (disch := first | assumption | omega | (simp only [nx_push, nx_set, ne_eq] <;> omega) | (simp only [XSide]; done) | decide) only [XWalk, XSl, ↓XPre, reduceIte, Nat.reduceEqDiff, Nat.reduceLT, Nat.reduceAdd, Nat.reduceSub, Nat.reduceMul, Nat.reduceBEq, reduceCtorEq, Int.reduceAdd, Int.reduceSub, Int.reduceMul, Int.reduceLT, Int.reduceLE, Int.reduceGT, Int.reduceGE, Int.reduceEq, Int.reduceNe, Int.reduceBEq, Int.reduceBNe, Int.reduceTMod, Int.reduceTDiv, ↓if_true, ↓if_false, fr4 b hb]
      · rw [hT]
        simp only [w32s_set]
    · subst hl
      simp (maxSteps := 2000000) (disch := first | assumption | omega | (simp only [nx_push, nx_set, ne_eq] <;> omega) | (simp only [XSide, F104]; done) | decide) only [XWalk, XSl, ↓XPre, reduceIte, Nat.reduceEqDiff, Nat.reduceLT, Nat.reduceAdd, Nat.reduceSub, Nat.reduceMul, Nat.reduceBEq, reduceCtorEq, Int.reduceAdd, Int.reduceSub, Int.reduceMul, Int.reduceLT, Int.reduceLE, Int.reduceGT, Int.reduceGE, Int.reduceEq, Int.reduceNe, Int.reduceBEq, Int.reduceBNe, Int.reduceTMod, Int.reduceTDiv, ↓if_true, ↓if_false, F104, A104, he, q0, q1, q2, q3, q9]
      refine ⟨?_, fun b hb => ?_, hmb4, ?_⟩
      · (repeat (first | exact hw4 | apply WF.push | (refine WF.set ?_ (by first | omega | (simp only [Mem.next_set, Mem.next_push]; omega)))))
      · simp (maxSteps := 2000000) (disch := first | assumption | omega | (simp only [nx_push, nx_set, ne_eq] <;> omega) | (simp only [XSide]; done) | decide) only [XWalk, XSl, ↓XPre, reduceIte, Nat.reduceEqDiff, Nat.reduceLT, Nat.reduceAdd, Nat.reduceSub, Nat.reduceMul, Nat.reduceBEq, reduceCtorEq, Int.reduceAdd, Int.reduceSub, Int.reduceMul, Int.reduceLT, Int.reduceLE, Int.reduceGT, Int.reduceGE, Int.reduceEq, Int.reduceNe, Int.reduceBEq, Int.reduceBNe, Int.reduceTMod, Int.reduceTDiv, ↓if_true, ↓if_false, fr4 b hb]
      · rw [hF]
        simp only [w32s_set]
    clear q0 q1 q2 q3 q9 q10 hx he e
    rintro e m5 ⟨he, q0, q9, q11, hw5, hn5, fr5, hmb5, hv5⟩
    simp (maxSteps := 2000000) (disch := first | assumption | omega | (simp only [nx_push, nx_set, ne_eq] <;> omega) | (simp only [XSide, F104]; done) | decide) only [XWalk, XSl, ↓XPre, reduceIte, Nat.reduceEqDiff, Nat.reduceLT, Nat.reduceAdd, Nat.reduceSub, Nat.reduceMul, Nat.reduceBEq, reduceCtorEq, Int.reduceAdd, Int.reduceSub, Int.reduceMul, Int.reduceLT, Int.reduceLE, Int.reduceGT, Int.reduceGE, Int.reduceEq, Int.reduceNe, Int.reduceBEq, Int.reduceBNe, Int.reduceTMod, Int.reduceTDiv, ↓if_true, ↓if_false, F104, A104, he, q0, q9, q11]
    have lV : (initV H t last).length = 16 := by simp [initV, lH]
    generalize hVe : initV H t last = V at *
    refine x_loop (fun k e m6 => ∃ r, r + k = 10 ∧ e.n = 140 ∧ e.get 0 = hv ∧ e.get 9 = mv ∧ e.get 11 = .slice (some ⟨vb, 0, none⟩) 16 16 ∧ e.get 12 = .int .i64 ((r : Nat) : Int) ∧ WF m6 ∧ m5.next ≤ m6.next ∧ (∀ b, b < m.next → m6.get b = m.get b) ∧ m6.get mb = some (.row mrs mk) ∧
      m6.get vb = some (.row (w32s ((sigma.take r).foldl (roundW M) V)) (.slack 1))) 10 ⟨0, by omega, by simp (maxSteps := 2000000) (disch := first | assumption | omega | (simp only [nx_push, nx_set, ne_eq] <;> omega) | (simp only [XSide]; done) | decide) only [XWalk, XSl, ↓XPre, reduceIte, Nat.reduceEqDiff, Nat.reduceLT, Nat.reduceAdd, Nat.reduceSub, Nat.reduceMul, Nat.reduceBEq, reduceCtorEq, Int.reduceAdd, Int.reduceSub, Int.reduceMul, Int.reduceLT, Int.reduceLE, Int.reduceGT, Int.reduceGE, Int.reduceEq, Int.reduceNe, Int.reduceBEq, Int.reduceBNe, Int.reduceTMod, Int.reduceTDiv, ↓if_true, ↓if_false, he], by simp (maxSteps := 2000000) (disch := first | assumption | omega | (simp only [nx_push, nx_set, ne_eq] <;> omega) | (simp only [XSide]; done) | decide) only [XWalk, XSl, ↓XPre, reduceIte, Nat.reduceEqDiff, Nat.reduceLT, Nat.reduceAdd, Nat.reduceSub, Nat.reduceMul, Nat.reduceBEq, reduceCtorEq, Int.reduceAdd, Int.reduceSub, Int.reduceMul, Int.reduceLT, Int.reduceLE, Int.reduceGT, Int.reduceGE, Int.reduceEq, Int.reduceNe, Int.reduceBEq, Int.reduceBNe, Int.reduceTMod, Int.reduceTDiv, ↓if_true, ↓if_false, q0], by simp (maxSteps := 2000000) (disch := first | assumption | omega | (simp only [nx_push, nx_set, ne_eq] <;> omega) | (simp only [XSide]; done) | decide) only [XWalk, XSl, ↓XPre, reduceIte, Nat.reduceEqDiff, Nat.reduceLT, Nat.reduceAdd, Nat.reduceSub, Nat.reduceMul, Nat.reduceBEq, reduceCtorEq, Int.reduceAdd, Int.reduceSub, Int.reduceMul, Int.reduceLT, Int.reduceLE, Int.reduceGT, Int.reduceGE, Int.reduceEq, Int.reduceNe, Int.reduceBEq, Int.reduceBNe, Int.reduceTMod, Int.reduceTDiv, ↓if_true, ↓if_false, q9], by simp (maxSteps := 2000000) (disch := first | assumption | omega | (simp only [nx_push, nx_set, ne_eq] <;> omega) | (simp only [XSide]; done) | decide) only [XWalk, XSl, ↓XPre, reduceIte, Nat.reduceEqDiff, Nat.reduceLT, Nat.reduceAdd, Nat.reduceSub, Nat.reduceMul, Nat.reduceBEq, reduceCtorEq, Int.reduceAdd, Int.reduceSub, Int.reduceMul, Int.reduceLT, Int.reduceLE, Int.reduceGT, Int.reduceGE, Int.reduceEq, Int.reduceNe, Int.reduceBEq, Int.reduceBNe, Int.reduceTMod, Int.reduceTDiv, ↓if_true, ↓if_false, q11], by simp (maxSteps := 2000000) (disch := first | assumption | omega | (simp only [nx_push, nx_set, ne_eq] <;> omega) | (simp only [XSide]; done) | decide) only [XWalk, XSl, ↓XPre, reduceIte, Nat.reduceEqDiff, Nat.reduceLT, Nat.reduceAdd, Nat.reduceSub, Nat.reduceMul, Nat.reduceBEq, reduceCtorEq, Int.reduceAdd, Int.reduceSub, Int.reduceMul, Int.reduceLT, Int.reduceLE, Int.reduceGT, Int.reduceGE, Int.reduceEq, Int.reduceNe, Int.reduceBEq, Int.reduceBNe, Int.reduceTMod, Int.reduceTDiv, ↓if_true, ↓if_false]; rfl, hw5, Nat.le_refl _, fr5, hmb5, hv5⟩ ?_
    clear q0 q9 q11 he e
    rintro k6 e m6 ⟨r, hr, he, q0, q9, q11, q12, hw6, hn6, fr6, hmb6, hv6⟩
    simp (maxSteps := 2000000) (disch := first | assumption | omega | (simp only [nx_push, nx_set, ne_eq] <;> omega) | (simp only [XSide, F104]; done) | decide) only [XWalk, XSl, ↓XPre, reduceIte, Nat.reduceEqDiff, Nat.reduceLT, Nat.reduceAdd, Nat.reduceSub, Nat.reduceMul, Nat.reduceBEq, reduceCtorEq, Int.reduceAdd, Int.reduceSub, Int.reduceMul, Int.reduceLT, Int.reduceLE, Int.reduceGT, Int.reduceGE, Int.reduceEq, Int.reduceNe, Int.reduceBEq, Int.reduceBNe, Int.reduceTMod, Int.reduceTDiv, ↓if_true, ↓if_false, F104, A104, he, q12]
    refine x_if (fun hx => ?_) (fun hx => ?_)
    · have hr10 : r < 10 := by have := of_decide_eq_true hx; omega
      have e6 : IntKind.wrap .i64 ((r : Int) + 1) = ((r + 1 : Nat) : Int) := by rw [wrap_i64 (by omega) (by omega)]; omega
      simp (maxSteps := 2000000) (disch := first | assumption | omega | (simp only [nx_push, nx_set, ne_eq] <;> omega) | (simp only [XSide, F104]; done) | decide) only [XWalk, XSl, ↓XPre, reduceIte, Nat.reduceEqDiff, Nat.reduceLT, Nat.reduceAdd, Nat.reduceSub, Nat.reduceMul, Nat.reduceBEq, reduceCtorEq, Int.reduceAdd, Int.reduceSub, Int.reduceMul, Int.reduceLT, Int.reduceLE, Int.reduceGT, Int.reduceGE, Int.reduceEq, Int.reduceNe, Int.reduceBEq, Int.reduceBNe, Int.reduceTMod, Int.reduceTDiv, ↓if_true, ↓if_false, F104, A104, he, q12]
      refine wcall_v specLoc (rrow_ct hr10) hw6 ?_
      rintro v m7 hw7 hn7 f7 ⟨rfl, hs7⟩
      have ls := sigma_ok hr10
      generalize hsg : sigma.getD r [] = sg at ls hs7
      simp (maxSteps := 2000000) (disch := first | assumption | omega | (simp only [nx_push, nx_set, ne_eq] <;> omega) | (simp only [XSide, F104]; done) | decide) only [XWalk, XSl, ↓XPre, reduceIte, Nat.reduceEqDiff, Nat.reduceLT, Nat.reduceAdd, Nat.reduceSub, Nat.reduceMul, Nat.reduceBEq, reduceCtorEq, Int.reduceAdd, Int.reduceSub, Int.reduceMul, Int.reduceLT, Int.reduceLE, Int.reduceGT, Int.reduceGE, Int.reduceEq, Int.reduceNe, Int.reduceBEq, Int.reduceBNe, Int.reduceTMod, Int.reduceTDiv, ↓if_true, ↓if_false, F104, A104, he, q12]
      have hvlt6 : vb < m6.next := hw6.lt (by rw [hv6]; simp)
      have hslt : m6.next + r < m7.next := hw7.lt (by rw [hs7]; simp)
      have hmb7 : m7.get mb = some (.row mrs mk) := by rw [f7 mb (by omega)]; exact hmb6
      have hv7 : m7.get vb = _ := (f7 vb hvlt6).trans hv6
      have lV1 : ((sigma.take r).foldl (roundW M) V).length = 16 := by rw [foldl_length (fun _ _ => roundW_length)]; exact lV
      have hV1 : roundW M ((sigma.take r).foldl (roundW M) V) sg = (sigma.take (r + 1)).foldl (roundW M) V := by
        have hlt : r < sigma.length := hr10
        have h1 : sg = sigma[r] := by rw [← hsg, List.getD_eq_getElem?_getD, List.getElem?_eq_getElem hlt]; exact Option.getD_some
        rw [List.take_succ_eq_append_getElem hlt, List.foldl_append, h1, List.foldl_cons, List.foldl_nil]
      generalize (sigma.take r).foldl (roundW M) V = V1 at *
      refine x_loop (fun k e m8 => ∃ i, i + k = 8 ∧ e.n = 140 ∧ e.get 0 = hv ∧ e.get 9 = mv ∧ e.get 11 = .slice (some ⟨vb, 0, none⟩) 16 16 ∧ e.get 12 = .int .i64 ((r : Nat) : Int) ∧ e.get 13 = .slice (some ⟨m6.next + r, 0, none⟩) 16 16 ∧ e.get 14 = .int .i64 ((i : Nat) : Int) ∧ WF m8 ∧ m7.next ≤ m8.next ∧
        (∀ b, b < m7.next → b ≠ vb → m8.get b = m7.get b) ∧ m8.get vb = some (.row (w32s ((List.range i).foldl (stepW M sg) V1)) (.slack 1))) 8 ⟨0, by omega, by simp (maxSteps := 2000000) (disch := first | assumption | omega | (simp only [nx_push, nx_set, ne_eq] <;> omega) | (simp only [XSide]; done) | decide) only [XWalk, XSl, ↓XPre, reduceIte, Nat.reduceEqDiff, Nat.reduceLT, Nat.reduceAdd, Nat.reduceSub, Nat.reduceMul, Nat.reduceBEq, reduceCtorEq, Int.reduceAdd, Int.reduceSub, Int.reduceMul, Int.reduceLT, Int.reduceLE, Int.reduceGT, Int.reduceGE, Int.reduceEq, Int.reduceNe, Int.reduceBEq, Int.reduceBNe, Int.reduceTMod, Int.reduceTDiv, ↓if_true, ↓if_false, he], by simp (maxSteps := 2000000) (disch := first | assumption | omega | (simp only [nx_push, nx_set, ne_eq] <;> omega) | (simp only [XSide]; done) | decide) only [XWalk, XSl, ↓XPre, reduceIte, Nat.reduceEqDiff, Nat.reduceLT, Nat.reduceAdd, Nat.reduceSub, Nat.reduceMul, Nat.reduceBEq, reduceCtorEq, Int.reduceAdd, Int.reduceSub, Int.reduceMul, Int.reduceLT, Int.reduceLE, Int.reduceGT, Int.reduceGE, Int.reduceEq, Int.reduceNe, Int.reduceBEq, Int.reduceBNe, Int.reduceTMod, Int.reduceTDiv, ↓if_true, ↓if_false, q0], by simp (maxSteps := 2000000) (disch := first | assumption | omega | (simp only [nx_push, nx_set, ne_eq] <;> omega) | (simp only [XSide]; done) | decide) only [XWalk, XSl, ↓XPre, reduceIte, Nat.reduceEqDiff, Nat.reduceLT, Nat.reduceAdd, Nat.reduceSub, Nat.reduceMul, Nat.reduceBEq, reduceCtorEq, Int.reduceAdd, Int.reduceSub, Int.reduceMul, Int.reduceLT, Int.reduceLE, Int.reduceGT, Int.reduceGE, Int.reduceEq, Int.reduceNe, Int.reduceBEq, Int.reduceBNe, Int.reduceTMod, Int.reduceTDiv, ↓if_true, ↓if_false, q9], by simp (maxSteps := 2000000) (disch := first | assumption | omega | (simp only [nx_push, nx_set, ne_eq] <;> omega) | (simp only [XSide]; done) | decide) only [XWalk, XSl, ↓XPre, reduceIte, Nat.reduceEqDiff, Nat.reduceLT, Nat.reduceAdd, Nat.reduceSub, Nat.reduceMul, Nat.reduceBEq, reduceCtorEq, Int.reduceAdd, Int.reduceSub, Int.reduceMul, Int.reduceLT, Int.reduceLE, Int.reduceGT, Int.reduceGE, Int.reduceEq, Int.reduceNe, Int.reduceBEq, Int.reduceBNe, Int.reduceTMod, Int.reduceTDiv, ↓if_true, ↓if_false, q11], by simp (maxSteps := 2000000) (disch := first | assumption | omega | (simp only [nx_push, nx_set, ne_eq] <;> omega) | (simp only [XSide]; done) | decide) only [XWalk, XSl, ↓XPre, reduceIte, Nat.reduceEqDiff, Nat.reduceLT, Nat.reduceAdd, Nat.reduceSub, Nat.reduceMul, Nat.reduceBEq, reduceCtorEq, Int.reduceAdd, Int.reduceSub, Int.reduceMul, Int.reduceLT, Int.reduceLE, Int.reduceGT, Int.reduceGE, Int.reduceEq, Int.reduceNe, Int.reduceBEq, Int.reduceBNe, Int.reduceTMod, Int.reduceTDiv, ↓if_true, ↓if_false, q12], by simp (maxSteps := 2000000) (disch := first | assumption | omega | (simp only [nx_push, nx_set, ne_eq] <;> omega) | (simp only [XSide]; done) | decide) only [XWalk, XSl, ↓XPre, reduceIte, Nat.reduceEqDiff, Nat.reduceLT, Nat.reduceAdd, Nat.reduceSub, Nat.reduceMul, Nat.reduceBEq, reduceCtorEq, Int.reduceAdd, Int.reduceSub, Int.reduceMul, Int.reduceLT, Int.reduceLE, Int.reduceGT, Int.reduceGE, Int.reduceEq, Int.reduceNe, Int.reduceBEq, Int.reduceBNe, Int.reduceTMod, Int.reduceTDiv, ↓if_true, ↓if_false], by simp (maxSteps := 2000000) (disch := first | assumption | omega | (simp only [nx_push, nx_set, ne_eq] <;> omega) | (simp only [XSide]; done) | decide) only [XWalk, XSl, ↓XPre, reduceIte, Nat.reduceEqDiff, Nat.reduceLT, Nat.reduceAdd, Nat.reduceSub, Nat.reduceMul, Nat.reduceBEq, reduceCtorEq, Int.reduceAdd, Int.reduceSub, Int.reduceMul, Int.reduceLT, Int.reduceLE, Int.reduceGT, Int.reduceGE, Int.reduceEq, Int.reduceNe, Int.reduceBEq, Int.reduceBNe, Int.reduceTMod, Int.reduceTDiv, ↓if_true, ↓if_false]; rfl, hw7, Nat.le_refl _, fun _ _ _ => rfl, hv7⟩ ?_
      clear q0 q9 q11 q12 he hx e
      rintro k8 e m8 ⟨i, hi8, he, q0, q9, q11, q12, q13, q14, hw8, hn8, f8, hv8⟩
      simp (maxSteps := 2000000) (disch := first | assumption | omega | (simp only [nx_push, nx_set, ne_eq] <;> omega) | (simp only [XSide, F104]; done) | decide) only [XWalk, XSl, ↓XPre, reduceIte, Nat.reduceEqDiff, Nat.reduceLT, Nat.reduceAdd, Nat.reduceSub, Nat.reduceMul, Nat.reduceBEq, reduceCtorEq, Int.reduceAdd, Int.reduceSub, Int.reduceMul, Int.reduceLT, Int.reduceLE, Int.reduceGT, Int.reduceGE, Int.reduceEq, Int.reduceNe, Int.reduceBEq, Int.reduceBNe, Int.reduceTMod, Int.reduceTDiv, ↓if_true, ↓if_false, F104, A104, he, q14]
      refine x_if (fun hx => ?_) (fun hx => ?_)
      · have hi : i < 8 := by have := of_decide_eq_true hx; omega
        have g2 : IntKind.wrap .i64 (2 * (i : Int)) = ((2 * i : Nat) : Int) := by rw [wrap_i64 (by omega) (by omega)]; omega
        have g3 : IntKind.wrap .i64 (((2 * i : Nat) : Int) + 1) = ((2 * i + 1 : Nat) : Int) := by rw [wrap_i64 (by omega) (by omega)]; omega
        have g4 : IntKind.wrap .i64 ((i : Int) + 1) = ((i + 1 : Nat) : Int) := by rw [wrap_i64 (by omega) (by omega)]; omega
        simp (maxSteps := 2000000) (disch := first | assumption | omega | (simp only [nx_push, nx_set, ne_eq] <;> omega) | (simp only [XSide, F104]; done) | decide) only [XWalk, XSl, ↓XPre, reduceIte, Nat.reduceEqDiff, Nat.reduceLT, Nat.reduceAdd, Nat.reduceSub, Nat.reduceMul, Nat.reduceBEq, reduceCtorEq, Int.reduceAdd, Int.reduceSub, Int.reduceMul, Int.reduceLT, Int.reduceLE, Int.reduceGT, Int.reduceGE, Int.reduceEq, Int.reduceNe, Int.reduceBEq, Int.reduceBNe, Int.reduceTMod, Int.reduceTDiv, ↓if_true, ↓if_false, F104, A104, he, q14]
        refine x_draw [0, 0, 2, 0, 0, 0, 32, 112, 240, 504, 1016, 0, 0, 0, 8192, 24576, 61440, 126976, 260096, 522240, 1048575] (by kernel_rfl) ?_
        simp (maxSteps := 2000000) (disch := first | assumption | omega | (simp only [nx_push, nx_set, ne_eq] <;> omega) | (simp only [XSide, F104]; done) | decide) only [XWalk, XSl, ↓XPre, reduceIte, Nat.reduceEqDiff, Nat.reduceLT, Nat.reduceAdd, Nat.reduceSub, Nat.reduceMul, Nat.reduceBEq, reduceCtorEq, Int.reduceAdd, Int.reduceSub, Int.reduceMul, Int.reduceLT, Int.reduceLE, Int.reduceGT, Int.reduceGE, Int.reduceEq, Int.reduceNe, Int.reduceBEq, Int.reduceBNe, Int.reduceTMod, Int.reduceTDiv, ↓if_true, ↓if_false, F104, A104, he, q14, q11]
        refine wcall_x specLoc (ct_nil (rlane_ct hi) rfl) hw8 ?_
        rintro out m9 hw9 hn9 f9 ⟨rfl, rfl⟩
        have hs8 : m8.get (m6.next + r) = some (.row (intCells sg) .rw) := by rw [f8 _ hslt (by omega)]; exact hs7
        have hmb8 : m8.get mb = some (.row mrs mk) := by rw [f8 _ (by omega) (by omega)]; exact hmb7
        have s0 : (intCells sg)[2 * i]? = _ := intCells_get (by omega)
        have s1 : (intCells sg)[2 * i + 1]? = _ := intCells_get (by omega)
        have b0 := ls.2 (2 * i) (by omega)
        have b1 := ls.2 (2 * i + 1) (by omega)
        have k0 : 2 * i < 16 := by omega
        have k1 : 2 * i + 1 < 16 := by omega
        have x0 : mrs[mo + sg.getD (2 * i) 0]? = _ := w32_at hmr (by omega)
        have x1 : mrs[mo + sg.getD (2 * i + 1) 0]? = _ := w32_at hmr (by omega)
        have hne1 : m8.next ≠ m6.next + r := by omega
        have hne2 : m8.next ≠ mb := by omega
        simp (maxSteps := 2000000) (disch := first | assumption | omega | (simp only [nx_push, nx_set, ne_eq] <;> omega) | (simp only [XSide, F104]; done) | decide) only [XWalk, XSl, ↓XPre, reduceIte, Nat.reduceEqDiff, Nat.reduceLT, Nat.reduceAdd, Nat.reduceSub, Nat.reduceMul, Nat.reduceBEq, reduceCtorEq, Int.reduceAdd, Int.reduceSub, Int.reduceMul, Int.reduceLT, Int.reduceLE, Int.reduceGT, Int.reduceGE, Int.reduceEq, Int.reduceNe, Int.reduceBEq, Int.reduceBNe, Int.reduceTMod, Int.reduceTDiv, ↓if_true, ↓if_false, F104, A104, he, q9, q11, q13, q14, hmv, hmb8, hs8, g2, g3, s0, s1, b0, b1, k0, k1, x0, x1]
        obtain ⟨l0, l1, l2, l3⟩ := lane_lt hi
        have lV8 : ((List.range i).foldl (stepW M sg) V1).length = 16 := by rw [foldl_length (fun _ _ => stepW_length)]; exact lV1
        refine wcall_of specLoc (rG_ct (kd := .slack 1) rfl (by rw [get_push_ne (by omega)]; exact hv8) lV8 get_push_self (by omega) (Nat.le_refl _) l0 l1 l2 l3) hw8.push (fun b hb hlt => by simp at hb; omega) ?_
        rintro out m10 wr hwr hw10 hn10 f10 _ ⟨rfl, hn10', hv10⟩
        have okw : OkW m.next [] wr := fun b hb hlt => by have := hwr b hb; simp at this; omega
        simp only [Mem.next_push] at hn10 f10
        simp (maxSteps := 2000000) (disch := first | assumption | omega | (simp only [nx_push, nx_set, ne_eq] <;> omega) | (simp only [XSide, F104]; done) | decide) only [XWalk, XSl, ↓XPre, reduceIte, Nat.reduceEqDiff, Nat.reduceLT, Nat.reduceAdd, Nat.reduceSub, Nat.reduceMul, Nat.reduceBEq, reduceCtorEq, Int.reduceAdd, Int.reduceSub, Int.reduceMul, Int.reduceLT, Int.reduceLE, Int.reduceGT, Int.reduceGE, Int.reduceEq, Int.reduceNe, Int.reduceBEq, Int.reduceBNe, Int.reduceTMod, Int.reduceTDiv, ↓if_true, ↓if_false, F104, A104, he, q0, q9, q11, q12, q13, q14, g4, okw, hmv]
        refine ⟨k8 - 1, by omega, i + 1, by omega, rfl, hw10, by omega, fun b hb hne => ?_, ?_⟩
        · rw [f10 b (by omega) (by simpa using hne), get_push_ne (by omega)]; exact f8 b hb hne
        · rw [foldl_range_succ]; exact hv10
      · have hk : i = 8 := by have := of_decide_eq_false hx; omega
        subst hk
        simp (maxSteps := 2000000) (disch := first | assumption | omega | (simp only [nx_push, nx_set, ne_eq] <;> omega) | (simp only [XSide, F104]; done) | decide) only [XWalk, XSl, ↓XPre, reduceIte, Nat.reduceEqDiff, Nat.reduceLT, Nat.reduceAdd, Nat.reduceSub, Nat.reduceMul, Nat.reduceBEq, reduceCtorEq, Int.reduceAdd, Int.reduceSub, Int.reduceMul, Int.reduceLT, Int.reduceLE, Int.reduceGT, Int.reduceGE, Int.reduceEq, Int.reduceNe, Int.reduceBEq, Int.reduceBNe, Int.reduceTMod, Int.reduceTDiv, ↓if_true, ↓if_false, F104, A104, he, q0, q9, q11, q12, e6]
        refine ⟨k6 - 1, by omega, r + 1, by omega, rfl, hw8, by omega, fun b hb => ?_, ?_, ?_⟩
        · rw [f8 b (by omega) (by omega), f7 b (by omega)]; exact fr6 b hb
        · rw [f8 mb (by omega) (by omega)]; exact hmb7
        · rw [hv8, ← hV1]; rfl
    · have hk : r = 10 := by have := of_decide_eq_false hx; omega
      subst hk
      simp (maxSteps := 2000000) (disch := first | assumption | omega | (simp only [nx_push, nx_set, ne_eq] <;> omega) | (simp only [XSide, F104]; done) | decide) only [XWalk, XSl, ↓XPre, reduceIte, Nat.reduceEqDiff, Nat.reduceLT, Nat.reduceAdd, Nat.reduceSub, Nat.reduceMul, Nat.reduceBEq, reduceCtorEq, Int.reduceAdd, Int.reduceSub, Int.reduceMul, Int.reduceLT, Int.reduceLE, Int.reduceGT, Int.reduceGE, Int.reduceEq, Int.reduceNe, Int.reduceBEq, Int.reduceBNe, Int.reduceTMod, Int.reduceTDiv, ↓if_true, ↓if_false, F104, A104, he, q0, q9, q11]
      have hVF : (sigma.take 10).foldl (roundW M) V = sigma.foldl (roundW M) V := rfl
      rw [hVF] at hv6
      have lVF : (sigma.foldl (roundW M) V).length = 16 := by rw [foldl_length (fun _ _ => roundW_length)]; exact lV
      generalize hW : sigma.foldl (roundW M) V = VF at *
      have hh6 : m6.get hb' = some (.row hrs hkd) := by rw [fr6 _ hhlt]; exact hhm
      refine x_loop (fun k e m8 => ∃ i ov, i + k = 8 ∧ e.n = 140 ∧ e.get 0 = hv ∧ e.get 11 = .slice (some ⟨vb, 0, none⟩) 16 16 ∧ e.get 15 = ov ∧ e.get 16 = .int .i64 ((i : Nat) : Int) ∧ WF m8 ∧ m6.next ≤ m8.next ∧ (∀ b, b < m6.next → m8.get b = m6.get b) ∧
        Aw m8 m6.next ov ((List.range i).map fun i => H.getD i 0 ^^^ (VF.getD i 0 ^^^ VF.getD (8 + i) 0))) 8 ⟨0, .slice none 0 0, by omega, by simp (maxSteps := 2000000) (disch := first | assumption | omega | (simp only [nx_push, nx_set, ne_eq] <;> omega) | (simp only [XSide]; done) | decide) only [XWalk, XSl, ↓XPre, reduceIte, Nat.reduceEqDiff, Nat.reduceLT, Nat.reduceAdd, Nat.reduceSub, Nat.reduceMul, Nat.reduceBEq, reduceCtorEq, Int.reduceAdd, Int.reduceSub, Int.reduceMul, Int.reduceLT, Int.reduceLE, Int.reduceGT, Int.reduceGE, Int.reduceEq, Int.reduceNe, Int.reduceBEq, Int.reduceBNe, Int.reduceTMod, Int.reduceTDiv, ↓if_true, ↓if_false, he], by simp (maxSteps := 2000000) (disch := first | assumption | omega | (simp only [nx_push, nx_set, ne_eq] <;> omega) | (simp only [XSide]; done) | decide) only [XWalk, XSl, ↓XPre, reduceIte, Nat.reduceEqDiff, Nat.reduceLT, Nat.reduceAdd, Nat.reduceSub, Nat.reduceMul, Nat.reduceBEq, reduceCtorEq, Int.reduceAdd, Int.reduceSub, Int.reduceMul, Int.reduceLT, Int.reduceLE, Int.reduceGT, Int.reduceGE, Int.reduceEq, Int.reduceNe, Int.reduceBEq, Int.reduceBNe, Int.reduceTMod, Int.reduceTDiv, ↓if_true, ↓if_false, q0], by simp (maxSteps := 2000000) (disch := first | assumption | omega | (simp only [nx_push, nx_set, ne_eq] <;> omega) | (simp only [XSide]; done) | decide) only [XWalk, XSl, ↓XPre, reduceIte, Nat.reduceEqDiff, Nat.reduceLT, Nat.reduceAdd, Nat.reduceSub, Nat.reduceMul, Nat.reduceBEq, reduceCtorEq, Int.reduceAdd, Int.reduceSub, Int.reduceMul, Int.reduceLT, Int.reduceLE, Int.reduceGT, Int.reduceGE, Int.reduceEq, Int.reduceNe, Int.reduceBEq, Int.reduceBNe, Int.reduceTMod, Int.reduceTDiv, ↓if_true, ↓if_false, q11], by simp (maxSteps := 2000000) (disch := first | assumption | omega | (simp only [nx_push, nx_set, ne_eq] <;> omega) | (simp only [XSide]; done) | decide) only [XWalk, XSl, ↓XPre, reduceIte, Nat.reduceEqDiff, Nat.reduceLT, Nat.reduceAdd, Nat.reduceSub, Nat.reduceMul, Nat.reduceBEq, reduceCtorEq, Int.reduceAdd, Int.reduceSub, Int.reduceMul, Int.reduceLT, Int.reduceLE, Int.reduceGT, Int.reduceGE, Int.reduceEq, Int.reduceNe, Int.reduceBEq, Int.reduceBNe, Int.reduceTMod, Int.reduceTDiv, ↓if_true, ↓if_false], by simp (maxSteps := 2000000) (disch := first | assumption | omega | (simp only [nx_push, nx_set, ne_eq] <;> omega) | (simp only [XSide]; done) | decide) only [XWalk, XSl, ↓XPre, reduceIte, Nat.reduceEqDiff, Nat.reduceLT, Nat.reduceAdd, Nat.reduceSub, Nat.reduceMul, Nat.reduceBEq, reduceCtorEq, Int.reduceAdd, Int.reduceSub, Int.reduceMul, Int.reduceLT, Int.reduceLE, Int.reduceGT, Int.reduceGE, Int.reduceEq, Int.reduceNe, Int.reduceBEq, Int.reduceBNe, Int.reduceTMod, Int.reduceTDiv, ↓if_true, ↓if_false]; rfl, hw6, Nat.le_refl _, fun _ _ => rfl, .nil⟩ ?_
      clear q0 q9 q11 q12 he hx e
      rintro k8 e m8 ⟨i, ov, hi8, he, q0, q11, q15, q16, hw8, hn8, f8, hov⟩
      simp (maxSteps := 2000000) (disch := first | assumption | omega | (simp only [nx_push, nx_set, ne_eq] <;> omega) | (simp only [XSide, F104]; done) | decide) only [XWalk, XSl, ↓XPre, reduceIte, Nat.reduceEqDiff, Nat.reduceLT, Nat.reduceAdd, Nat.reduceSub, Nat.reduceMul, Nat.reduceBEq, reduceCtorEq, Int.reduceAdd, Int.reduceSub, Int.reduceMul, Int.reduceLT, Int.reduceLE, Int.reduceGT, Int.reduceGE, Int.reduceEq, Int.reduceNe, Int.reduceBEq, Int.reduceBNe, Int.reduceTMod, Int.reduceTDiv, ↓if_true, ↓if_false, F104, A104, he, q16]
      refine x_if (fun hx => ?_) (fun hx => ?_)
      · have hi : i < 8 := by have := of_decide_eq_true hx; omega
        have hvlt6 : vb < m6.next := hw6.lt (by rw [hv6]; simp)
        have hhlt6 : hb' < m6.next := hw6.lt (by rw [hh6]; simp)
        have hv8 : m8.get vb = _ := (f8 vb hvlt6).trans hv6
        have hh8 : m8.get hb' = _ := (f8 hb' hhlt6).trans hh6
        have g2 : IntKind.wrap .i64 ((i : Int) + 8) = ((8 + i : Nat) : Int) := by rw [wrap_i64 (by omega) (by omega)]; omega
        have g4 : IntKind.wrap .i64 ((i : Int) + 1) = ((i + 1 : Nat) : Int) := by rw [wrap_i64 (by omega) (by omega)]; omega
        have x0 : hrs[ho + i]? = _ := w32_at hhr (by omega)
        have x1 : (w32s VF)[i]? = some (w32 (VF.getD i 0)) := w32s_get (by omega)
        have x2 : (w32s VF)[8 + i]? = some (w32 (VF.getD (8 + i) 0)) := w32s_get (by omega)
        have b1 : i < 16 := by omega
        have b2 : 8 + i < 16 := by omega
        simp (maxSteps := 2000000) (disch := first | assumption | omega | (simp only [nx_push, nx_set, ne_eq] <;> omega) | (simp only [XSide, F104]; done) | decide) only [XWalk, XSl, ↓XPre, reduceIte, Nat.reduceEqDiff, Nat.reduceLT, Nat.reduceAdd, Nat.reduceSub, Nat.reduceMul, Nat.reduceBEq, reduceCtorEq, Int.reduceAdd, Int.reduceSub, Int.reduceMul, Int.reduceLT, Int.reduceLE, Int.reduceGT, Int.reduceGE, Int.reduceEq, Int.reduceNe, Int.reduceBEq, Int.reduceBNe, Int.reduceTMod, Int.reduceTDiv, ↓if_true, ↓if_false, F104, A104, he, q16]
        refine x_draw [0, 0, 0, 6, 14, 0, 0, 96, 224, 510, 0, 0, 2048, 7168, 15360, 32766, 65534, 131071, 262143] (by kernel_rfl) ?_
        simp (maxSteps := 2000000) (disch := first | assumption | omega | (simp only [nx_push, nx_set, ne_eq] <;> omega) | (simp only [XSide, F104]; done) | decide) only [XWalk, XSl, ↓XPre, reduceIte, Nat.reduceEqDiff, Nat.reduceLT, Nat.reduceAdd, Nat.reduceSub, Nat.reduceMul, Nat.reduceBEq, reduceCtorEq, Int.reduceAdd, Int.reduceSub, Int.reduceMul, Int.reduceLT, Int.reduceLE, Int.reduceGT, Int.reduceGE, Int.reduceEq, Int.reduceNe, Int.reduceBEq, Int.reduceBNe, Int.reduceTMod, Int.reduceTDiv, ↓if_true, ↓if_false, F104, A104, he, q0, q11, q15, q16, hhv, hv8, hh8, g2, x0, x1, x2, b1, b2, hi, xorI_32]
        refine wappendW (bytes := 4) (b := [H.getD i 0 ^^^ VF.getD i 0 ^^^ VF.getD (8 + i) 0]) (by simp only [F104]) (hov.keep (Keep.push hw8)) (Sl.of_row get_push_self rfl rfl (Nat.le_refl _)) (by simp; omega) (by simp; omega) hw8.push fun v' m' w ha ok => ?_
        simp (maxSteps := 2000000) (disch := first | assumption | omega | (simp only [nx_push, nx_set, ne_eq] <;> omega) | (simp only [XSide, F104]; done) | decide) only [XWalk, XSl, ↓XPre, reduceIte, Nat.reduceEqDiff, Nat.reduceLT, Nat.reduceAdd, Nat.reduceSub, Nat.reduceMul, Nat.reduceBEq, reduceCtorEq, Int.reduceAdd, Int.reduceSub, Int.reduceMul, Int.reduceLT, Int.reduceLE, Int.reduceGT, Int.reduceGE, Int.reduceEq, Int.reduceNe, Int.reduceBEq, Int.reduceBNe, Int.reduceTMod, Int.reduceTDiv, ↓if_true, ↓if_false, F104, A104, ok m.next [] (by omega), he, q0, q11, q15, q16, g4, hhv]
        refine ⟨k8 - 1, by omega, i + 1, v', by omega, rfl, rfl, ha.wf, by have := ha.next; simp only [Mem.next_push] at this; omega, fun b hb => ?_, ?_⟩
        · rw [ha.old (fun b hb => hov.blk_ge hb) b hb (by simp; omega), get_push_ne (by omega)]; exact f8 b hb
        · have := ha.app
          rw [UInt32.xor_assoc] at this
          rw [List.range_succ, List.map_append]
          exact this
      · have hk : i = 8 := by have := of_decide_eq_false hx; omega
        subst hk
        simp (maxSteps := 2000000) (disch := first | assumption | omega | (simp only [nx_push, nx_set, ne_eq] <;> omega) | (simp only [XSide, F104]; done) | decide) only [XWalk, XSl, ↓XPre, reduceIte, Nat.reduceEqDiff, Nat.reduceLT, Nat.reduceAdd, Nat.reduceSub, Nat.reduceMul, Nat.reduceBEq, reduceCtorEq, Int.reduceAdd, Int.reduceSub, Int.reduceMul, Int.reduceLT, Int.reduceLE, Int.reduceGT, Int.reduceGE, Int.reduceEq, Int.reduceNe, Int.reduceBEq, Int.reduceBNe, Int.reduceTMod, Int.reduceTDiv, ↓if_true, ↓if_false, F104, A104, he, q15]
        refine ⟨_, rfl, ?_⟩
        rw [compressW, hMe, hVe, hW]
        exact hov.mono (by omega)
end Go.Big
