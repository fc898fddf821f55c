/- Sealing a bid. -/
import Derived.Test.YtobhnnbdobphfaaGreatDoorJoined10
set_option linter.unusedSimpArgs false
set_option linter.unusedVariables false
set_option linter.unusedSimpArgs false
set_option linter.unusedVariables false
set_option maxRecDepth 100000
set_option maxHeartbeats 4000000
namespace Go.Big
open Go.Proofs

def rangeB (r s : Int) : Bool := (decide (r ≥ 0) && decide (r ≤ 1048576)) && (decide (s ≥ 0) && decide (s ≤ 1073741824))
def lensB (kl nl : Nat) : Bool := ((kl : Int) == 32) && ((nl : Int) == 16)
/-- The error of sealing; 'p' and 'q' speak of the book and of the account. -/
def sealErr (p q : Int) (r s : Int) (kl nl bl : Nat) : Int := firstE [p, if rangeB r s = true then 0 else 2, if lensB kl nl = true then 0 else 2, if decide ((bl : Int) ≤ 4096) = true then 0 else 5, q]
def gotErr (n : List UInt8) : Int := match acctOf n with | some _ => 0 | none => 9

/-- What was sealed. -/
def sealedOf (n key nonce bid : List UInt8) : List UInt8 := sealB (blakeB key (bidL ++ n)) nonce bid
def tagOf (n : List UInt8) (r s : Nat) (S : List UInt8) : List UInt8 := match acctOf n with | some (key, _) => blakeB key (signedB n r s S) | none => []

abbrev env0 : Value := envV [] 0 0 (.slice none 0 0) (.slice none 0 0)
def SealR (n : List UInt8) (r s : Int) (key nonce bid : List UInt8) (e : Int) : Value → Mem → Prop := fun v m' =>
  if (e != 0) = true then v = .tuple #[env0, .int .i64 e] else
  ∃ sv tv, v = .tuple #[envV n r s sv tv, .int .i64 0] ∧ Bs m' sv (sealedOf n key nonce bid) ∧ Bs m' tv (tagOf n r.toNat s.toNat (sealedOf n key nonce bid))

theorem abuild24 : abuild Tryz.prog 24 [] = some env0 := by kernel_rfl
theorem build24 {n : ByteArray} {r s : Int} : abuild Tryz.prog 24 [(0, .string n), (1, .int .i64 r), (2, .int .i64 s)] = some (.agg #[.string n, .int .i64 r, .int .i64 s, .slice none 0 0, .slice none 0 0]) := by kernel_rfl

theorem firstE_q {a b c d q : Int} (h : firstE [a, b, c, d, q] = 0) : a = 0 ∧ b = 0 ∧ c = 0 ∧ d = 0 ∧ q = 0 := by
  simp only [firstE] at h
  by_cases h1 : a = 0
  · by_cases h2 : b = 0
    · by_cases h3 : c = 0
      · by_cases h4 : d = 0
        · by_cases h5 : q = 0
          · exact ⟨h1, h2, h3, h4, h5⟩
          · simp [h1, h2, h3, h4, h5] at h
        · simp [h1, h2, h3, h4] at h
      · simp [h1, h2, h3] at h
    · simp [h1, h2] at h
  · simp [h1] at h

theorem Sl.not_blk {m : Mem} {v : Value} {cs rs : List Value} {b : Nat} {k : Kind} (h : Sl m v cs) (hm : m.get b = some (.row rs k)) (hl : rs.length < cs.length) : slBlk v ≠ some b := by
  intro e
  cases h with
  | nil => cases e
  | spot h => simp at hl
  | row h1 h2 h3 h4 h5 =>
    cases e
    rw [hm] at h1
    cases h1
    rw [← h2, List.length_take, List.length_drop] at hl
    omega

theorem sealed_len {n key nonce bid : List UInt8} (h : nonce.length = 16) : (sealedOf n key nonce bid).length = bid.length + 32 := by
  rw [sealedOf, sealB, List.length_append, cipherB, List.length_append, xorB_length streamB_length, List.length_take, blakeB_length, h]; omega

theorem eseal_ct {m : Mem} (hw : WF m) {x : Value} {n key nonce bid : List UInt8} {r s : Int} {kv nv bv : Value} (hx : BookAt m x) (hk : Bs m kv key) (hn : Bs m nv nonce) (hb : Bs m bv bid) (hnl : n.length ≤ 100) (hbl : bid.length ≤ 60000) (hkl : key.length < 2147483648) (hnnl : nonce.length < 2147483648) :
    Ct Tryz.prog S0 17 [x, str n, .int .i64 r, .int .i64 s, kv, nv, bv] m [] (Rv (SealR n r s key nonce bid (sealErr 0 (gotErr n) r s key.length nonce.length bid.length))) := by
  have hx0 := hx
  obtain ⟨xb, nmv, mb, pv, k1, k2, rfl, h2, h3, h4, h5⟩ := hx
  refine ct_x (spec0 _) (by rfl) Tryz.func17 rfl ?_
  simp (maxSteps := 2000000) (disch := first | assumption | omega | (simp only [nx_push, nx_set, ne_eq] <;> omega) | (simp only [XSide, F17]; done) | decide) only [XWalk, XSl, ↓XPre, reduceIte, Nat.reduceEqDiff, Nat.reduceLT, Nat.reduceAdd, Nat.reduceSub, Nat.reduceMul, Nat.reduceBEq, reduceCtorEq, Int.reduceAdd, Int.reduceSub, Int.reduceMul, Int.reduceLT, Int.reduceLE, Int.reduceGT, Int.reduceGE, Int.reduceEq, Int.reduceNe, Int.reduceBEq, Int.reduceBNe, Int.reduceTMod, Int.reduceTDiv, ↓if_true, ↓if_false, F17, A17, Tryz.ntmps17, XAcc]
  refine wcall_v specLoc (get_ct hw.push (hx0.keep (Keep.push hw))) hw.push ?_
  intro gv m1 hw1 hn1 f1 hg
  obtain ⟨av, rfl, hgv⟩ : ∃ av : List Value, gv = .tuple #[.agg av.toArray, .int .i64 (gotErr n)] ∧ av.length = 5 ∧ av.all oneCell = true := by
    unfold GotR at hg
    unfold gotErr
    cases ho : acctOf n with
    | none => rw [ho] at hg; exact ⟨_, hg, rfl, rfl⟩
    | some kn =>
      obtain ⟨ky, num⟩ := kn
      rw [ho] at hg
      obtain ⟨kv', rfl, hkv'⟩ := hg
      obtain ⟨a, l, c, rfl⟩ := sl_shape hkv'
      exact ⟨_, rfl, rfl, rfl⟩
  obtain ⟨hal, hao⟩ := hgv
  have row1 : m1.get m.next = some (.row [str [], .int .i64 0, .int .i64 0, .slice none 0 0, .slice none 0 0] .rw) := by rw [f1 _ (by simp), get_push_self]
  have hk1 : Bs m1 kv key := (hk.keep (Keep.push hw)).keep (keep_of hw.push f1)
  have hno1 : Bs m1 nv nonce := (hn.keep (Keep.push hw)).keep (keep_of hw.push f1)
  have hb1 : Bs m1 bv bid := (hb.keep (Keep.push hw)).keep (keep_of hw.push f1)
  have hx1 : BookAt m1 (.pointer (some ⟨xb, 0, none⟩)) := (hx0.keep (Keep.push hw)).keep (keep_of hw.push f1)
  simp only [Mem.next_push] at hn1
  clear f1 hg
  have b5 : Nat.beq av.length 5 = true := by rw [hal]; rfl
  have l5 : ∀ a b c d f : Value, av.length = [a, b, c, d, f].length := fun _ _ _ _ _ => by rw [hal]; rfl
  have l5' : av.length = [Value.string ⟨#[]⟩, .int .i64 0, .slice none 0 0, .int .i64 0, .int .i64 0].length := l5 _ _ _ _ _
  simp (maxSteps := 2000000) (disch := first | assumption | omega | (simp only [nx_push, nx_set, ne_eq] <;> omega) | (simp only [XSide, F17]; done) | decide) only [XWalk, XSl, ↓XPre, reduceIte, Nat.reduceEqDiff, Nat.reduceLT, Nat.reduceAdd, Nat.reduceSub, Nat.reduceMul, Nat.reduceBEq, reduceCtorEq, Int.reduceAdd, Int.reduceSub, Int.reduceMul, Int.reduceLT, Int.reduceLE, Int.reduceGT, Int.reduceGE, Int.reduceEq, Int.reduceNe, Int.reduceBEq, Int.reduceBNe, Int.reduceTMod, Int.reduceTDiv, ↓if_true, ↓if_false, F17, A17, b5]
  have hw2 : ∀ o o', WF ((m1.push o).set m1.next o') := fun o o' => by (repeat (first | exact hw1 | apply WF.push | (refine WF.set ?_ (by first | omega | (simp only [Mem.next_set, Mem.next_push]; omega)))))
  have row2 : ∀ o o', ((m1.push o).set m1.next o').get m.next = some (.row [str [], .int .i64 0, .int .i64 0, .slice none 0 0, .slice none 0 0] .rw) := fun o o' => by rw [get_set_ne (by omega), get_push_ne (by omega)]; exact row1
  have bs2 : ∀ (v : Value) (l : List UInt8), Bs m1 v l → ∀ o o', Bs ((m1.push o).set m1.next o') v l := fun v l h o o' => (h.keep (Keep.push hw1)).frame_at fun c hc => by rw [get_set_ne]; have := h.blk_lt hw1 hc; omega
  have bk2 : ∀ o o', BookAt ((m1.push o).set m1.next o') (.pointer (some ⟨xb, 0, none⟩)) := fun o o' => hx1.keep fun c hc => by
    have := hw1.lt hc
    rw [get_set_ne (by omega), get_push_ne (by omega)]
  have nx2 : ∀ o o', ((m1.push o).set m1.next o').next = m1.next + 1 := fun o o' => rfl
  obtain ⟨m2, hm2⟩ : ∃ m2, m2 = (m1.push (.row [.string ⟨#[]⟩, .int .i64 0, .slice none 0 0, .int .i64 0, .int .i64 0] .rw)).set m1.next (.row av .rw) := ⟨_, rfl⟩
  have hw2' : WF m2 := by rw [hm2]; exact hw2 _ _
  have row2' : m2.get m.next = some (.row [str [], .int .i64 0, .int .i64 0, .slice none 0 0, .slice none 0 0] .rw) := by rw [hm2]; exact row2 _ _
  have hk2 : Bs m2 kv key := by rw [hm2]; exact bs2 _ _ hk1 _ _
  have hno2 : Bs m2 nv nonce := by rw [hm2]; exact bs2 _ _ hno1 _ _
  have hb2 : Bs m2 bv bid := by rw [hm2]; exact bs2 _ _ hb1 _ _
  have hx2 : BookAt m2 (.pointer (some ⟨xb, 0, none⟩)) := by rw [hm2]; exact bk2 _ _
  have hn2 : m2.next = m1.next + 1 := by rw [hm2]; rfl
  rw [← hm2]
  clear hm2 bs2 bk2 row2 hw2 nx2 hk1 hno1 hb1 hx1 row1 hk hn hb hx0 h2 h3 h4 h5 b5 l5 l5'
  cases h1 : (decide (r ≥ 0) && decide (r ≤ 1048576)) with
  | false =>
    cases h2 : ((key.length : Int) == 32) with
    | false =>
      refine wcall_pu (pu_of unless_ct) ?_
      simp (maxSteps := 2000000) (disch := first | assumption | omega | (simp only [nx_push, nx_set, ne_eq] <;> omega) | (simp only [XSide, F17]; done) | decide) only [XWalk, XSl, ↓XPre, reduceIte, Nat.reduceEqDiff, Nat.reduceLT, Nat.reduceAdd, Nat.reduceSub, Nat.reduceMul, Nat.reduceBEq, reduceCtorEq, Int.reduceAdd, Int.reduceSub, Int.reduceMul, Int.reduceLT, Int.reduceLE, Int.reduceGT, Int.reduceGE, Int.reduceEq, Int.reduceNe, Int.reduceBEq, Int.reduceBNe, Int.reduceTMod, Int.reduceTDiv, ↓if_true, ↓if_false, F17, A17]
      refine wcall_pu (pu_of within_ct) ?_
      simp (maxSteps := 2000000) (disch := first | assumption | omega | (simp only [nx_push, nx_set, ne_eq] <;> omega) | (simp only [XSide, F17]; done) | decide) only [XWalk, XSl, ↓XPre, reduceIte, Nat.reduceEqDiff, Nat.reduceLT, Nat.reduceAdd, Nat.reduceSub, Nat.reduceMul, Nat.reduceBEq, reduceCtorEq, Int.reduceAdd, Int.reduceSub, Int.reduceMul, Int.reduceLT, Int.reduceLE, Int.reduceGT, Int.reduceGE, Int.reduceEq, Int.reduceNe, Int.reduceBEq, Int.reduceBNe, Int.reduceTMod, Int.reduceTDiv, ↓if_true, ↓if_false, F17, A17, h1]
      refine wcall_pu (pu_of unless_ct) ?_
      simp (maxSteps := 2000000) (disch := first | assumption | omega | (simp only [nx_push, nx_set, ne_eq] <;> omega) | (simp only [XSide, F17]; done) | decide) only [XWalk, XSl, ↓XPre, reduceIte, Nat.reduceEqDiff, Nat.reduceLT, Nat.reduceAdd, Nat.reduceSub, Nat.reduceMul, Nat.reduceBEq, reduceCtorEq, Int.reduceAdd, Int.reduceSub, Int.reduceMul, Int.reduceLT, Int.reduceLE, Int.reduceGT, Int.reduceGE, Int.reduceEq, Int.reduceNe, Int.reduceBEq, Int.reduceBNe, Int.reduceTMod, Int.reduceTDiv, ↓if_true, ↓if_false, F17, A17, alen_bs hk2, h2, alen_bs hno2]
      refine wcall_pu (pu_of unless_ct) ?_
      simp (maxSteps := 2000000) (disch := first | assumption | omega | (simp only [nx_push, nx_set, ne_eq] <;> omega) | (simp only [XSide, F17]; done) | decide) only [XWalk, XSl, ↓XPre, reduceIte, Nat.reduceEqDiff, Nat.reduceLT, Nat.reduceAdd, Nat.reduceSub, Nat.reduceMul, Nat.reduceBEq, reduceCtorEq, Int.reduceAdd, Int.reduceSub, Int.reduceMul, Int.reduceLT, Int.reduceLE, Int.reduceGT, Int.reduceGE, Int.reduceEq, Int.reduceNe, Int.reduceBEq, Int.reduceBNe, Int.reduceTMod, Int.reduceTDiv, ↓if_true, ↓if_false, F17, A17, alen_bs hb2]
      refine wcall_pu (pu_of unless_ct) ?_
      simp (maxSteps := 2000000) (disch := first | assumption | omega | (simp only [nx_push, nx_set, ne_eq] <;> omega) | (simp only [XSide, F17]; done) | decide) only [XWalk, XSl, ↓XPre, reduceIte, Nat.reduceEqDiff, Nat.reduceLT, Nat.reduceAdd, Nat.reduceSub, Nat.reduceMul, Nat.reduceBEq, reduceCtorEq, Int.reduceAdd, Int.reduceSub, Int.reduceMul, Int.reduceLT, Int.reduceLE, Int.reduceGT, Int.reduceGE, Int.reduceEq, Int.reduceNe, Int.reduceBEq, Int.reduceBNe, Int.reduceTMod, Int.reduceTDiv, ↓if_true, ↓if_false, F17, A17]
      have hse : sealErr 0 (gotErr n) r s key.length nonce.length bid.length = firstE [0, 2, 2, (if decide ((bid.length : Int) ≤ 4096) = true then 0 else 5), gotErr n] := by
        unfold sealErr rangeB lensB
        rw [h1, h2]
        simp
      rw [hse]
      refine wcall_pu (pu_of (first_ct hw2'.push (l := [0, 2, 2, (if decide ((bid.length : Int) ≤ 4096) = true then 0 else 5), gotErr n]) (kd := .rw) get_push_self (by simp))) ?_
      have hne : (firstE [0, 2, 2, (if decide ((bid.length : Int) ≤ 4096) = true then 0 else 5), gotErr n] != 0) = true := by
        rw [bne_iff_ne]; intro h0; have := firstE_q h0; omega
      generalize firstE [0, 2, 2, (if decide ((bid.length : Int) ≤ 4096) = true then 0 else 5), gotErr n] = e0 at *
      have row3 : ∀ o, (m2.push o).get m.next = some (.row [str [], .int .i64 0, .int .i64 0, .slice none 0 0, .slice none 0 0] .rw) := fun o => by rw [get_push_ne (by omega)]; exact row2'
      simp (maxSteps := 2000000) (disch := first | assumption | omega | (simp only [nx_push, nx_set, ne_eq] <;> omega) | (simp only [XSide, F17]; done) | decide) only [XWalk, XSl, ↓XPre, reduceIte, Nat.reduceEqDiff, Nat.reduceLT, Nat.reduceAdd, Nat.reduceSub, Nat.reduceMul, Nat.reduceBEq, reduceCtorEq, Int.reduceAdd, Int.reduceSub, Int.reduceMul, Int.reduceLT, Int.reduceLE, Int.reduceGT, Int.reduceGE, Int.reduceEq, Int.reduceNe, Int.reduceBEq, Int.reduceBNe, Int.reduceTMod, Int.reduceTDiv, ↓if_true, ↓if_false, F17, A17, hne, abuild24, row3, XAcc]
      exact ⟨_, rfl, by rw [SealR, if_pos hne]⟩
    | true =>
      refine wcall_pu (pu_of unless_ct) ?_
      simp (maxSteps := 2000000) (disch := first | assumption | omega | (simp only [nx_push, nx_set, ne_eq] <;> omega) | (simp only [XSide, F17]; done) | decide) only [XWalk, XSl, ↓XPre, reduceIte, Nat.reduceEqDiff, Nat.reduceLT, Nat.reduceAdd, Nat.reduceSub, Nat.reduceMul, Nat.reduceBEq, reduceCtorEq, Int.reduceAdd, Int.reduceSub, Int.reduceMul, Int.reduceLT, Int.reduceLE, Int.reduceGT, Int.reduceGE, Int.reduceEq, Int.reduceNe, Int.reduceBEq, Int.reduceBNe, Int.reduceTMod, Int.reduceTDiv, ↓if_true, ↓if_false, F17, A17]
      refine wcall_pu (pu_of within_ct) ?_
      simp (maxSteps := 2000000) (disch := first | assumption | omega | (simp only [nx_push, nx_set, ne_eq] <;> omega) | (simp only [XSide, F17]; done) | decide) only [XWalk, XSl, ↓XPre, reduceIte, Nat.reduceEqDiff, Nat.reduceLT, Nat.reduceAdd, Nat.reduceSub, Nat.reduceMul, Nat.reduceBEq, reduceCtorEq, Int.reduceAdd, Int.reduceSub, Int.reduceMul, Int.reduceLT, Int.reduceLE, Int.reduceGT, Int.reduceGE, Int.reduceEq, Int.reduceNe, Int.reduceBEq, Int.reduceBNe, Int.reduceTMod, Int.reduceTDiv, ↓if_true, ↓if_false, F17, A17, h1]
      refine wcall_pu (pu_of unless_ct) ?_
      simp (maxSteps := 2000000) (disch := first | assumption | omega | (simp only [nx_push, nx_set, ne_eq] <;> omega) | (simp only [XSide, F17]; done) | decide) only [XWalk, XSl, ↓XPre, reduceIte, Nat.reduceEqDiff, Nat.reduceLT, Nat.reduceAdd, Nat.reduceSub, Nat.reduceMul, Nat.reduceBEq, reduceCtorEq, Int.reduceAdd, Int.reduceSub, Int.reduceMul, Int.reduceLT, Int.reduceLE, Int.reduceGT, Int.reduceGE, Int.reduceEq, Int.reduceNe, Int.reduceBEq, Int.reduceBNe, Int.reduceTMod, Int.reduceTDiv, ↓if_true, ↓if_false, F17, A17, alen_bs hk2, h2, alen_bs hno2]
      refine wcall_pu (pu_of unless_ct) ?_
      simp (maxSteps := 2000000) (disch := first | assumption | omega | (simp only [nx_push, nx_set, ne_eq] <;> omega) | (simp only [XSide, F17]; done) | decide) only [XWalk, XSl, ↓XPre, reduceIte, Nat.reduceEqDiff, Nat.reduceLT, Nat.reduceAdd, Nat.reduceSub, Nat.reduceMul, Nat.reduceBEq, reduceCtorEq, Int.reduceAdd, Int.reduceSub, Int.reduceMul, Int.reduceLT, Int.reduceLE, Int.reduceGT, Int.reduceGE, Int.reduceEq, Int.reduceNe, Int.reduceBEq, Int.reduceBNe, Int.reduceTMod, Int.reduceTDiv, ↓if_true, ↓if_false, F17, A17, alen_bs hb2]
      refine wcall_pu (pu_of unless_ct) ?_
      simp (maxSteps := 2000000) (disch := first | assumption | omega | (simp only [nx_push, nx_set, ne_eq] <;> omega) | (simp only [XSide, F17]; done) | decide) only [XWalk, XSl, ↓XPre, reduceIte, Nat.reduceEqDiff, Nat.reduceLT, Nat.reduceAdd, Nat.reduceSub, Nat.reduceMul, Nat.reduceBEq, reduceCtorEq, Int.reduceAdd, Int.reduceSub, Int.reduceMul, Int.reduceLT, Int.reduceLE, Int.reduceGT, Int.reduceGE, Int.reduceEq, Int.reduceNe, Int.reduceBEq, Int.reduceBNe, Int.reduceTMod, Int.reduceTDiv, ↓if_true, ↓if_false, F17, A17]
      have hse : sealErr 0 (gotErr n) r s key.length nonce.length bid.length = firstE [0, 2, (if ((nonce.length : Int) == 16) = true then 0 else 2), (if decide ((bid.length : Int) ≤ 4096) = true then 0 else 5), gotErr n] := by
        unfold sealErr rangeB lensB
        rw [h1, h2]
        simp
      rw [hse]
      refine wcall_pu (pu_of (first_ct hw2'.push (l := [0, 2, (if ((nonce.length : Int) == 16) = true then 0 else 2), (if decide ((bid.length : Int) ≤ 4096) = true then 0 else 5), gotErr n]) (kd := .rw) get_push_self (by simp))) ?_
      have hne : (firstE [0, 2, (if ((nonce.length : Int) == 16) = true then 0 else 2), (if decide ((bid.length : Int) ≤ 4096) = true then 0 else 5), gotErr n] != 0) = true := by
        rw [bne_iff_ne]; intro h0; have := firstE_q h0; omega
      generalize firstE [0, 2, (if ((nonce.length : Int) == 16) = true then 0 else 2), (if decide ((bid.length : Int) ≤ 4096) = true then 0 else 5), gotErr n] = e0 at *
      have row3 : ∀ o, (m2.push o).get m.next = some (.row [str [], .int .i64 0, .int .i64 0, .slice none 0 0, .slice none 0 0] .rw) := fun o => by rw [get_push_ne (by omega)]; exact row2'
      simp (maxSteps := 2000000) (disch := first | assumption | omega | (simp only [nx_push, nx_set, ne_eq] <;> omega) | (simp only [XSide, F17]; done) | decide) only [XWalk, XSl, ↓XPre, reduceIte, Nat.reduceEqDiff, Nat.reduceLT, Nat.reduceAdd, Nat.reduceSub, Nat.reduceMul, Nat.reduceBEq, reduceCtorEq, Int.reduceAdd, Int.reduceSub, Int.reduceMul, Int.reduceLT, Int.reduceLE, Int.reduceGT, Int.reduceGE, Int.reduceEq, Int.reduceNe, Int.reduceBEq, Int.reduceBNe, Int.reduceTMod, Int.reduceTDiv, ↓if_true, ↓if_false, F17, A17, hne, abuild24, row3, XAcc]
      exact ⟨_, rfl, by rw [SealR, if_pos hne]⟩
  | true =>
    cases h2 : ((key.length : Int) == 32) with
    | false =>
      refine wcall_pu (pu_of unless_ct) ?_
      simp (maxSteps := 2000000) (disch := first | assumption | omega | (simp only [nx_push, nx_set, ne_eq] <;> omega) | (simp only [XSide, F17]; done) | decide) only [XWalk, XSl, ↓XPre, reduceIte, Nat.reduceEqDiff, Nat.reduceLT, Nat.reduceAdd, Nat.reduceSub, Nat.reduceMul, Nat.reduceBEq, reduceCtorEq, Int.reduceAdd, Int.reduceSub, Int.reduceMul, Int.reduceLT, Int.reduceLE, Int.reduceGT, Int.reduceGE, Int.reduceEq, Int.reduceNe, Int.reduceBEq, Int.reduceBNe, Int.reduceTMod, Int.reduceTDiv, ↓if_true, ↓if_false, F17, A17]
      refine wcall_pu (pu_of within_ct) ?_
      simp (maxSteps := 2000000) (disch := first | assumption | omega | (simp only [nx_push, nx_set, ne_eq] <;> omega) | (simp only [XSide, F17]; done) | decide) only [XWalk, XSl, ↓XPre, reduceIte, Nat.reduceEqDiff, Nat.reduceLT, Nat.reduceAdd, Nat.reduceSub, Nat.reduceMul, Nat.reduceBEq, reduceCtorEq, Int.reduceAdd, Int.reduceSub, Int.reduceMul, Int.reduceLT, Int.reduceLE, Int.reduceGT, Int.reduceGE, Int.reduceEq, Int.reduceNe, Int.reduceBEq, Int.reduceBNe, Int.reduceTMod, Int.reduceTDiv, ↓if_true, ↓if_false, F17, A17, h1]
      refine wcall_pu (pu_of within_ct) ?_
      simp (maxSteps := 2000000) (disch := first | assumption | omega | (simp only [nx_push, nx_set, ne_eq] <;> omega) | (simp only [XSide, F17]; done) | decide) only [XWalk, XSl, ↓XPre, reduceIte, Nat.reduceEqDiff, Nat.reduceLT, Nat.reduceAdd, Nat.reduceSub, Nat.reduceMul, Nat.reduceBEq, reduceCtorEq, Int.reduceAdd, Int.reduceSub, Int.reduceMul, Int.reduceLT, Int.reduceLE, Int.reduceGT, Int.reduceGE, Int.reduceEq, Int.reduceNe, Int.reduceBEq, Int.reduceBNe, Int.reduceTMod, Int.reduceTDiv, ↓if_true, ↓if_false, F17, A17]
      refine wcall_pu (pu_of unless_ct) ?_
      simp (maxSteps := 2000000) (disch := first | assumption | omega | (simp only [nx_push, nx_set, ne_eq] <;> omega) | (simp only [XSide, F17]; done) | decide) only [XWalk, XSl, ↓XPre, reduceIte, Nat.reduceEqDiff, Nat.reduceLT, Nat.reduceAdd, Nat.reduceSub, Nat.reduceMul, Nat.reduceBEq, reduceCtorEq, Int.reduceAdd, Int.reduceSub, Int.reduceMul, Int.reduceLT, Int.reduceLE, Int.reduceGT, Int.reduceGE, Int.reduceEq, Int.reduceNe, Int.reduceBEq, Int.reduceBNe, Int.reduceTMod, Int.reduceTDiv, ↓if_true, ↓if_false, F17, A17, alen_bs hk2, h2, alen_bs hno2]
      refine wcall_pu (pu_of unless_ct) ?_
      simp (maxSteps := 2000000) (disch := first | assumption | omega | (simp only [nx_push, nx_set, ne_eq] <;> omega) | (simp only [XSide, F17]; done) | decide) only [XWalk, XSl, ↓XPre, reduceIte, Nat.reduceEqDiff, Nat.reduceLT, Nat.reduceAdd, Nat.reduceSub, Nat.reduceMul, Nat.reduceBEq, reduceCtorEq, Int.reduceAdd, Int.reduceSub, Int.reduceMul, Int.reduceLT, Int.reduceLE, Int.reduceGT, Int.reduceGE, Int.reduceEq, Int.reduceNe, Int.reduceBEq, Int.reduceBNe, Int.reduceTMod, Int.reduceTDiv, ↓if_true, ↓if_false, F17, A17, alen_bs hb2]
      refine wcall_pu (pu_of unless_ct) ?_
      simp (maxSteps := 2000000) (disch := first | assumption | omega | (simp only [nx_push, nx_set, ne_eq] <;> omega) | (simp only [XSide, F17]; done) | decide) only [XWalk, XSl, ↓XPre, reduceIte, Nat.reduceEqDiff, Nat.reduceLT, Nat.reduceAdd, Nat.reduceSub, Nat.reduceMul, Nat.reduceBEq, reduceCtorEq, Int.reduceAdd, Int.reduceSub, Int.reduceMul, Int.reduceLT, Int.reduceLE, Int.reduceGT, Int.reduceGE, Int.reduceEq, Int.reduceNe, Int.reduceBEq, Int.reduceBNe, Int.reduceTMod, Int.reduceTDiv, ↓if_true, ↓if_false, F17, A17]
      have hse : sealErr 0 (gotErr n) r s key.length nonce.length bid.length = firstE [0, (if (decide (s ≥ 0) && decide (s ≤ 1073741824)) = true then 0 else 2), 2, (if decide ((bid.length : Int) ≤ 4096) = true then 0 else 5), gotErr n] := by
        unfold sealErr rangeB lensB
        rw [h1, h2]
        simp
      rw [hse]
      refine wcall_pu (pu_of (first_ct hw2'.push (l := [0, (if (decide (s ≥ 0) && decide (s ≤ 1073741824)) = true then 0 else 2), 2, (if decide ((bid.length : Int) ≤ 4096) = true then 0 else 5), gotErr n]) (kd := .rw) get_push_self (by simp))) ?_
      have hne : (firstE [0, (if (decide (s ≥ 0) && decide (s ≤ 1073741824)) = true then 0 else 2), 2, (if decide ((bid.length : Int) ≤ 4096) = true then 0 else 5), gotErr n] != 0) = true := by
        rw [bne_iff_ne]; intro h0; have := firstE_q h0; omega
      generalize firstE [0, (if (decide (s ≥ 0) && decide (s ≤ 1073741824)) = true then 0 else 2), 2, (if decide ((bid.length : Int) ≤ 4096) = true then 0 else 5), gotErr n] = e0 at *
      have row3 : ∀ o, (m2.push o).get m.next = some (.row [str [], .int .i64 0, .int .i64 0, .slice none 0 0, .slice none 0 0] .rw) := fun o => by rw [get_push_ne (by omega)]; exact row2'
      simp (maxSteps := 2000000) (disch := first | assumption | omega | (simp only [nx_push, nx_set, ne_eq] <;> omega) | (simp only [XSide, F17]; done) | decide) only [XWalk, XSl, ↓XPre, reduceIte, Nat.reduceEqDiff, Nat.reduceLT, Nat.reduceAdd, Nat.reduceSub, Nat.reduceMul, Nat.reduceBEq, reduceCtorEq, Int.reduceAdd, Int.reduceSub, Int.reduceMul, Int.reduceLT, Int.reduceLE, Int.reduceGT, Int.reduceGE, Int.reduceEq, Int.reduceNe, Int.reduceBEq, Int.reduceBNe, Int.reduceTMod, Int.reduceTDiv, ↓if_true, ↓if_false, F17, A17, hne, abuild24, row3, XAcc]
      exact ⟨_, rfl, by rw [SealR, if_pos hne]⟩
    | true =>
      refine wcall_pu (pu_of unless_ct) ?_
      simp (maxSteps := 2000000) (disch := first | assumption | omega | (simp only [nx_push, nx_set, ne_eq] <;> omega) | (simp only [XSide, F17]; done) | decide) only [XWalk, XSl, ↓XPre, reduceIte, Nat.reduceEqDiff, Nat.reduceLT, Nat.reduceAdd, Nat.reduceSub, Nat.reduceMul, Nat.reduceBEq, reduceCtorEq, Int.reduceAdd, Int.reduceSub, Int.reduceMul, Int.reduceLT, Int.reduceLE, Int.reduceGT, Int.reduceGE, Int.reduceEq, Int.reduceNe, Int.reduceBEq, Int.reduceBNe, Int.reduceTMod, Int.reduceTDiv, ↓if_true, ↓if_false, F17, A17]
      refine wcall_pu (pu_of within_ct) ?_
      simp (maxSteps := 2000000) (disch := first | assumption | omega | (simp only [nx_push, nx_set, ne_eq] <;> omega) | (simp only [XSide, F17]; done) | decide) only [XWalk, XSl, ↓XPre, reduceIte, Nat.reduceEqDiff, Nat.reduceLT, Nat.reduceAdd, Nat.reduceSub, Nat.reduceMul, Nat.reduceBEq, reduceCtorEq, Int.reduceAdd, Int.reduceSub, Int.reduceMul, Int.reduceLT, Int.reduceLE, Int.reduceGT, Int.reduceGE, Int.reduceEq, Int.reduceNe, Int.reduceBEq, Int.reduceBNe, Int.reduceTMod, Int.reduceTDiv, ↓if_true, ↓if_false, F17, A17, h1]
      refine wcall_pu (pu_of within_ct) ?_
      simp (maxSteps := 2000000) (disch := first | assumption | omega | (simp only [nx_push, nx_set, ne_eq] <;> omega) | (simp only [XSide, F17]; done) | decide) only [XWalk, XSl, ↓XPre, reduceIte, Nat.reduceEqDiff, Nat.reduceLT, Nat.reduceAdd, Nat.reduceSub, Nat.reduceMul, Nat.reduceBEq, reduceCtorEq, Int.reduceAdd, Int.reduceSub, Int.reduceMul, Int.reduceLT, Int.reduceLE, Int.reduceGT, Int.reduceGE, Int.reduceEq, Int.reduceNe, Int.reduceBEq, Int.reduceBNe, Int.reduceTMod, Int.reduceTDiv, ↓if_true, ↓if_false, F17, A17]
      refine wcall_pu (pu_of unless_ct) ?_
      simp (maxSteps := 2000000) (disch := first | assumption | omega | (simp only [nx_push, nx_set, ne_eq] <;> omega) | (simp only [XSide, F17]; done) | decide) only [XWalk, XSl, ↓XPre, reduceIte, Nat.reduceEqDiff, Nat.reduceLT, Nat.reduceAdd, Nat.reduceSub, Nat.reduceMul, Nat.reduceBEq, reduceCtorEq, Int.reduceAdd, Int.reduceSub, Int.reduceMul, Int.reduceLT, Int.reduceLE, Int.reduceGT, Int.reduceGE, Int.reduceEq, Int.reduceNe, Int.reduceBEq, Int.reduceBNe, Int.reduceTMod, Int.reduceTDiv, ↓if_true, ↓if_false, F17, A17, alen_bs hk2, h2, alen_bs hno2]
      refine wcall_pu (pu_of unless_ct) ?_
      simp (maxSteps := 2000000) (disch := first | assumption | omega | (simp only [nx_push, nx_set, ne_eq] <;> omega) | (simp only [XSide, F17]; done) | decide) only [XWalk, XSl, ↓XPre, reduceIte, Nat.reduceEqDiff, Nat.reduceLT, Nat.reduceAdd, Nat.reduceSub, Nat.reduceMul, Nat.reduceBEq, reduceCtorEq, Int.reduceAdd, Int.reduceSub, Int.reduceMul, Int.reduceLT, Int.reduceLE, Int.reduceGT, Int.reduceGE, Int.reduceEq, Int.reduceNe, Int.reduceBEq, Int.reduceBNe, Int.reduceTMod, Int.reduceTDiv, ↓if_true, ↓if_false, F17, A17, alen_bs hb2]
      refine wcall_pu (pu_of unless_ct) ?_
      simp (maxSteps := 2000000) (disch := first | assumption | omega | (simp only [nx_push, nx_set, ne_eq] <;> omega) | (simp only [XSide, F17]; done) | decide) only [XWalk, XSl, ↓XPre, reduceIte, Nat.reduceEqDiff, Nat.reduceLT, Nat.reduceAdd, Nat.reduceSub, Nat.reduceMul, Nat.reduceBEq, reduceCtorEq, Int.reduceAdd, Int.reduceSub, Int.reduceMul, Int.reduceLT, Int.reduceLE, Int.reduceGT, Int.reduceGE, Int.reduceEq, Int.reduceNe, Int.reduceBEq, Int.reduceBNe, Int.reduceTMod, Int.reduceTDiv, ↓if_true, ↓if_false, F17, A17]
      have hse : sealErr 0 (gotErr n) r s key.length nonce.length bid.length = firstE [0, (if (decide (s ≥ 0) && decide (s ≤ 1073741824)) = true then 0 else 2), (if ((nonce.length : Int) == 16) = true then 0 else 2), (if decide ((bid.length : Int) ≤ 4096) = true then 0 else 5), gotErr n] := by
        unfold sealErr rangeB lensB
        rw [h1, h2]
        simp
      rw [hse]
      refine wcall_pu (pu_of (first_ct hw2'.push (l := [0, (if (decide (s ≥ 0) && decide (s ≤ 1073741824)) = true then 0 else 2), (if ((nonce.length : Int) == 16) = true then 0 else 2), (if decide ((bid.length : Int) ≤ 4096) = true then 0 else 5), gotErr n]) (kd := .rw) get_push_self (by simp))) ?_
      generalize hl : firstE [0, (if (decide (s ≥ 0) && decide (s ≤ 1073741824)) = true then 0 else 2), (if ((nonce.length : Int) == 16) = true then 0 else 2), (if decide ((bid.length : Int) ≤ 4096) = true then 0 else 5), gotErr n] = e0 at *
      have row3 : ∀ o, (m2.push o).get m.next = some (.row [str [], .int .i64 0, .int .i64 0, .slice none 0 0, .slice none 0 0] .rw) := fun o => by rw [get_push_ne (by omega)]; exact row2'
      cases hne : (e0 != 0) with
      | true =>
        simp (maxSteps := 2000000) (disch := first | assumption | omega | (simp only [nx_push, nx_set, ne_eq] <;> omega) | (simp only [XSide, F17]; done) | decide) only [XWalk, XSl, ↓XPre, reduceIte, Nat.reduceEqDiff, Nat.reduceLT, Nat.reduceAdd, Nat.reduceSub, Nat.reduceMul, Nat.reduceBEq, reduceCtorEq, Int.reduceAdd, Int.reduceSub, Int.reduceMul, Int.reduceLT, Int.reduceLE, Int.reduceGT, Int.reduceGE, Int.reduceEq, Int.reduceNe, Int.reduceBEq, Int.reduceBNe, Int.reduceTMod, Int.reduceTDiv, ↓if_true, ↓if_false, F17, A17, hne, abuild24, row3, XAcc]
        exact ⟨_, rfl, by rw [SealR, if_pos hne]⟩
      | false =>
        have he0 : e0 = 0 := by simpa using hne
        subst he0
        obtain ⟨_, g1, g2, g3, g4⟩ := firstE_q hl
        have hcat : ∀ (x y : Operand) (m' : Mem) (t : TypeId), abin Tryz.prog .add t x y (.string ⟨#[98, 105, 100, 45]⟩) (str n) m' = some (str (bidL ++ n), m', [], .no) := fun x y m' t => abin_str_add (a := bidL) (by simp [bidL]; omega)
        simp (maxSteps := 2000000) (disch := first | assumption | omega | (simp only [nx_push, nx_set, ne_eq] <;> omega) | (simp only [XSide, F17]; done) | decide) only [XWalk, XSl, ↓XPre, reduceIte, Nat.reduceEqDiff, Nat.reduceLT, Nat.reduceAdd, Nat.reduceSub, Nat.reduceMul, Nat.reduceBEq, reduceCtorEq, Int.reduceAdd, Int.reduceSub, Int.reduceMul, Int.reduceLT, Int.reduceLE, Int.reduceGT, Int.reduceGE, Int.reduceEq, Int.reduceNe, Int.reduceBEq, Int.reduceBNe, Int.reduceTMod, Int.reduceTDiv, ↓if_true, ↓if_false, F17, A17, hne, build24, row3, XAcc, hcat]
        obtain ⟨m3, hm3⟩ : ∃ m3, m3 = ((m2.push (.row [.int .i64 0, .int .i64 (if (decide (s ≥ 0) && decide (s ≤ 1073741824)) = true then 0 else 2), .int .i64 (if ((nonce.length : Int) == 16) = true then 0 else 2), .int .i64 (if decide ((bid.length : Int) ≤ 4096) = true then 0 else 5), .int .i64 (gotErr n)] .rw)).push (.row [.string ⟨#[]⟩, .int .i64 0, .int .i64 0, .slice none 0 0, .slice none 0 0] .rw)).set (m2.next + 1) (.row [.string ⟨n.toArray⟩, .int .i64 r, .int .i64 s, .slice none 0 0, .slice none 0 0] .rw) := ⟨_, rfl⟩
        rw [← hm3]
        have bs3 : ∀ (v : Value) (l : List UInt8), Bs m2 v l → Bs m3 v l := fun v l h => by
          rw [hm3]
          exact ((h.keep (Keep.push hw2')).keep (Keep.push hw2'.push)).frame_at fun c hc => by rw [get_set_ne]; have := h.blk_lt hw2' hc; omega
        have hw3 : WF m3 := by rw [hm3]; (repeat (first | exact hw2' | apply WF.push | (refine WF.set ?_ (by first | omega | (simp only [Mem.next_set, Mem.next_push]; omega)))))
        have hx3 : BookAt m3 (.pointer (some ⟨xb, 0, none⟩)) := hx2.keep fun c hc => by
          have := hw2'.lt hc
          rw [hm3, get_set_ne (by omega), get_push_ne (by simp; omega), get_push_ne (by omega)]
        have rowz : m3.get m.next = some (.row [str [], .int .i64 0, .int .i64 0, .slice none 0 0, .slice none 0 0] .rw) := by rw [hm3, get_set_ne (by omega), get_push_ne (by simp; omega), get_push_ne (by omega)]; exact row2'
        have rowx : m3.get (m2.next + 1) = some (.row [str n, .int .i64 r, .int .i64 s, .slice none 0 0, .slice none 0 0] .rw) := by rw [hm3, get_set_self]
        have hk3 := bs3 _ _ hk2
        have hno3 := bs3 _ _ hno2
        have hb3 := bs3 _ _ hb2
        have hn3 : m3.next = m2.next + 2 := by rw [hm3]; rfl
        have k23 : ∀ c, c < m2.next → m3.get c = m2.get c := fun c hc => by rw [hm3, get_set_ne (by omega), get_push_ne (by simp; omega), get_push_ne (by omega)]
        clear hm3 bs3
        have hkl32 : key.length = 32 := by simp at h2; omega
        have hnl16 : nonce.length = 16 := by
          by_cases hq : ((nonce.length : Int) == 16) = true
          · simp at hq; omega
          · rw [if_neg hq] at g2; omega
        have hbl4 : bid.length ≤ 4096 := by
          by_cases hq : decide ((bid.length : Int) ≤ 4096) = true
          · have := of_decide_eq_true hq; omega
          · rw [if_neg hq] at g3; omega
        have hrs : 0 ≤ r ∧ r ≤ 1048576 ∧ 0 ≤ s ∧ s ≤ 1073741824 := by
          by_cases hq : (decide (s ≥ 0) && decide (s ≤ 1073741824)) = true
          · simp only [Bool.and_eq_true, decide_eq_true_eq] at hq h1
            omega
          · rw [if_neg hq] at g1; omega
        obtain ⟨hr0, hr1, hs0, hs1⟩ := hrs
        obtain ⟨r', rfl⟩ : ∃ r' : Nat, r = (r' : Int) := ⟨r.toNat, by omega⟩
        obtain ⟨s', rfl⟩ : ∃ s' : Nat, s = (s' : Int) := ⟨s.toNat, by omega⟩
        obtain ⟨aky, anum, hao'⟩ : ∃ aky anum, acctOf n = some (aky, anum) := by
          unfold gotErr at g4
          cases ho : acctOf n with
          | none => rw [ho] at g4; simp at g4
          | some kn => exact ⟨kn.1, kn.2, rfl⟩
        refine wcall_v specLoc (derive_ct (label := bidL ++ n) hw3 hk3 hkl32 (by rw [List.length_append]; simp only [bidL, List.length_cons, List.length_nil]; omega) (by
          have : n.length ≤ 4 := by
            unfold acctOf at hao'
            by_cases ha : n = acmeN
            · subst ha; decide
            · by_cases hb : n = bellN
              · subst hb; decide
              · rw [if_neg ha, if_neg hb] at hao'; cases hao'
          rw [List.length_append]; simp only [bidL, List.length_cons, List.length_nil]; omega)) hw3 ?_
        rintro v m4 hw4 hn4 f4 ⟨d, rfl, hd⟩
        have hno4 := hno3.keep (keep_of hw3 f4)
        have hb4 := hb3.keep (keep_of hw3 f4)
        have hx4 := hx3.keep (keep_of hw3 f4)
        simp (maxSteps := 2000000) (disch := first | assumption | omega | (simp only [nx_push, nx_set, ne_eq] <;> omega) | (simp only [XSide, F17]; done) | decide) only [XWalk, XSl, ↓XPre, reduceIte, Nat.reduceEqDiff, Nat.reduceLT, Nat.reduceAdd, Nat.reduceSub, Nat.reduceMul, Nat.reduceBEq, reduceCtorEq, Int.reduceAdd, Int.reduceSub, Int.reduceMul, Int.reduceLT, Int.reduceLE, Int.reduceGT, Int.reduceGE, Int.reduceEq, Int.reduceNe, Int.reduceBEq, Int.reduceBNe, Int.reduceTMod, Int.reduceTDiv, ↓if_true, ↓if_false, F17, A17]
        refine wcall_v specLoc (sseal_ct hw4 hd blakeB_length hno4 hnl16 hb4 (by omega)) hw4 ?_
        rintro v m5 hw5 hn5 f5 ⟨sv, rfl, hsv⟩
        have hx5 := hx4.keep (keep_of hw4 f5)
        have rowz5 : m5.get m.next = some (.row [str [], .int .i64 0, .int .i64 0, .slice none 0 0, .slice none 0 0] .rw) := by rw [f5 _ (by omega), f4 _ (by omega)]; exact rowz
        have rowx5 : m5.get (m2.next + 1) = some (.row [str n, .int .i64 (r' : Int), .int .i64 (s' : Int), .slice none 0 0, .slice none 0 0] .rw) := by rw [f5 _ (by omega), f4 _ (by omega)]; exact rowx
        have lS : (sealB (blakeB key (bidL ++ n)) nonce bid).length = bid.length + 32 := sealed_len (n := n) (key := key) (bid := bid) hnl16
        have hsx : slBlk sv ≠ some (m2.next + 1) := Sl.not_blk hsv rowx5 (by rw [u8s_length, lS]; simp <;> omega)
        have hsz : slBlk sv ≠ some m.next := Sl.not_blk hsv rowz5 (by rw [u8s_length, lS]; simp <;> omega)
        obtain ⟨a, l, c, rfl⟩ := sl_shape hsv
        simp (maxSteps := 2000000) (disch := first | assumption | omega | (simp only [nx_push, nx_set, ne_eq] <;> omega) | (simp only [XSide, F17]; done) | decide) only [XWalk, XSl, ↓XPre, reduceIte, Nat.reduceEqDiff, Nat.reduceLT, Nat.reduceAdd, Nat.reduceSub, Nat.reduceMul, Nat.reduceBEq, reduceCtorEq, Int.reduceAdd, Int.reduceSub, Int.reduceMul, Int.reduceLT, Int.reduceLE, Int.reduceGT, Int.reduceGE, Int.reduceEq, Int.reduceNe, Int.reduceBEq, Int.reduceBNe, Int.reduceTMod, Int.reduceTDiv, ↓if_true, ↓if_false, F17, A17, rowx5, XAcc]
        have hlt5 : m2.next + 1 < m5.next := by omega
        have hw6 : ∀ o, WF (m5.set (m2.next + 1) o) := fun o => hw5.set hlt5
        have hsv6 : ∀ o, Bs (m5.set (m2.next + 1) o) (.slice a l c) (sealB (blakeB key (bidL ++ n)) nonce bid) := fun o => hsv.frame_at fun d hd => by rw [get_set_ne]; rintro rfl; exact hsx hd
        have hnl4 : n.length ≤ 4 := by
          unfold acctOf at hao'
          by_cases ha : n = acmeN
          · subst ha; decide
          · by_cases hb : n = bellN
            · subst hb; decide
            · rw [if_neg ha, if_neg hb] at hao'; cases hao'
        have hsl := signed_len (n := n) (S := sealB (blakeB key (bidL ++ n)) nonce bid) (r := r') (s := s') (by omega) (by omega) (by omega) (by omega)
        refine wcall_v specLoc (signed_ct (n := n) (r := r') (s := s') (tv := .slice none 0 0) (hw6 _) (hsv6 _) rfl (by omega) (by omega) (by omega)) (hw6 _) ?_
        intro q m7 hw7 hn7 f7 hq
        simp only [Mem.next_set] at hn7 f7
        have rowz7 : m7.get m.next = some (.row [str [], .int .i64 0, .int .i64 0, .slice none 0 0, .slice none 0 0] .rw) := by rw [f7 _ (by omega), get_set_ne (by omega)]; exact rowz5
        have rowx7 : m7.get (m2.next + 1) = some (.row [str n, .int .i64 (r' : Int), .int .i64 (s' : Int), .slice a l c, .slice none 0 0] .rw) := by rw [f7 _ (by omega), get_set_self]
        have hsv7 : Bs m7 (.slice a l c) (sealB (blakeB key (bidL ++ n)) nonce bid) := (hsv6 _).frame_at fun d hd => f7 d (hsv.blk_lt hw5 hd)
        have hx7 : BookAt m7 (.pointer (some ⟨xb, 0, none⟩)) := hx2.keep fun d hd => by
          have := hw2'.lt hd
          rw [f7 _ (by omega), get_set_ne (by omega), f5 _ (by omega), f4 _ (by omega), k23 _ this]
        simp (maxSteps := 2000000) (disch := first | assumption | omega | (simp only [nx_push, nx_set, ne_eq] <;> omega) | (simp only [XSide, F17]; done) | decide) only [XWalk, XSl, ↓XPre, reduceIte, Nat.reduceEqDiff, Nat.reduceLT, Nat.reduceAdd, Nat.reduceSub, Nat.reduceMul, Nat.reduceBEq, reduceCtorEq, Int.reduceAdd, Int.reduceSub, Int.reduceMul, Int.reduceLT, Int.reduceLE, Int.reduceGT, Int.reduceGE, Int.reduceEq, Int.reduceNe, Int.reduceBEq, Int.reduceBNe, Int.reduceTMod, Int.reduceTDiv, ↓if_true, ↓if_false, F17, A17]
        refine wcall_v specLoc (tag_ct (n := n) hw7 hx7 hq.sl (by omega)) hw7 ?_
        rintro v m8 hw8 hn8 f8 htr
        unfold TagR at htr
        rw [hao', ] at htr
        simp only at htr
        rw [if_neg (by omega)] at htr
        obtain ⟨tv, rfl, ht⟩ := htr
        have rowz8 : m8.get m.next = some (.row [str [], .int .i64 0, .int .i64 0, .slice none 0 0, .slice none 0 0] .rw) := by rw [f8 _ (by omega)]; exact rowz7
        have rowx8 : m8.get (m2.next + 1) = some (.row [str n, .int .i64 (r' : Int), .int .i64 (s' : Int), .slice a l c, .slice none 0 0] .rw) := by rw [f8 _ (by omega)]; exact rowx7
        have hsv8 := hsv7.keep (keep_of hw7 f8)
        have htx : slBlk tv ≠ some (m2.next + 1) := Sl.not_blk ht rowx8 (by rw [u8s_length, blakeB_length]; simp)
        have htz : slBlk tv ≠ some m.next := Sl.not_blk ht rowz8 (by rw [u8s_length, blakeB_length]; simp)
        obtain ⟨a', l', c', rfl⟩ := sl_shape ht
        simp (maxSteps := 2000000) (disch := first | assumption | omega | (simp only [nx_push, nx_set, ne_eq] <;> omega) | (simp only [XSide, F17]; done) | decide) only [XWalk, XSl, ↓XPre, reduceIte, Nat.reduceEqDiff, Nat.reduceLT, Nat.reduceAdd, Nat.reduceSub, Nat.reduceMul, Nat.reduceBEq, reduceCtorEq, Int.reduceAdd, Int.reduceSub, Int.reduceMul, Int.reduceLT, Int.reduceLE, Int.reduceGT, Int.reduceGE, Int.reduceEq, Int.reduceNe, Int.reduceBEq, Int.reduceBNe, Int.reduceTMod, Int.reduceTDiv, ↓if_true, ↓if_false, F17, A17, rowx8, rowz8, XAcc]
        refine ⟨_, rfl, ?_⟩
        rw [SealR, if_neg (by simp)]
        have hz1 : m.next ≠ m2.next + 1 := by omega
        refine ⟨_, _, rfl, hsv8.frame_at fun d hd => ?_, ?_⟩
        · rw [get_set_ne (fun e => hsz (by rw [← e]; exact hd)), get_set_ne (fun e => hsx (by rw [← e]; exact hd))]
        · have ht' : tagOf n (r' : Int).toNat (s' : Int).toNat (sealedOf n key nonce bid) = blakeB aky (signedB n r' s' (sealB (blakeB key (bidL ++ n)) nonce bid)) := by
            rw [tagOf, hao']; rfl
          rw [ht']
          exact ht.frame_at fun d hd => by rw [get_set_ne (fun e => htz (by rw [← e]; exact hd)), get_set_ne (fun e => htx (by rw [← e]; exact hd))]

end Go.Big

/- Rows of bytes; the statements' small functions; the reference's validity. -/
set_option linter.unusedSimpArgs false
set_option linter.unusedVariables false
set_option maxRecDepth 100000
set_option maxHeartbeats 4000000
namespace Go.Big
open Go.Proofs

theorem row_ct {m : Mem} (hw : WF m) {b : UInt8} {n : Nat} (hn : n ≤ 1073741824) : Ct Tryz.prog S0 14 [.int .u8 (b.toNat : Int), .int .i64 (n : Int)] m [] (Rv fun v m' => Bs m' v (List.replicate n b) ∧ v ≠ .slice none 0 0) := by
  have hmk : amkS Tryz.prog 22 (.int .i64 (n : Int)) (.int .i64 (n : Int)) m = _ := amkS_bytes (l := n) (c := n) (show mkK Tryz.prog 22 = true by kernel_rfl) (Nat.le_refl _) hn
  refine ct_x (spec0 _) (by rfl) Tryz.func14 rfl ?_
  simp (maxSteps := 2000000) (disch := first | assumption | omega | (simp only [nx_push, nx_set, ne_eq] <;> omega) | (simp only [XSide, F14]; done) | decide) only [XWalk, XSl, ↓XPre, reduceIte, Nat.reduceEqDiff, Nat.reduceLT, Nat.reduceAdd, Nat.reduceSub, Nat.reduceMul, Nat.reduceBEq, reduceCtorEq, Int.reduceAdd, Int.reduceSub, Int.reduceMul, Int.reduceLT, Int.reduceLE, Int.reduceGT, Int.reduceGE, Int.reduceEq, Int.reduceNe, Int.reduceBEq, Int.reduceBNe, Int.reduceTMod, Int.reduceTDiv, ↓if_true, ↓if_false, F14, A14, Tryz.ntmps14, hmk]
  refine x_loop (fun k e m1 => ∃ i, i + k = n ∧ e.n = 19 ∧ e.get 0 = .int .u8 (b.toNat : Int) ∧ e.get 1 = .int .i64 (n : Int) ∧ e.get 5 = .slice (some ⟨m.next, 0, none⟩) n n ∧ e.get 6 = .int .i64 ((i : Nat) : Int) ∧ WF m1 ∧ m1.next = m.next + 1 ∧
    m1.get m.next = some (.row (u8s (List.replicate i b ++ List.replicate (n - i) 0)) .rw)) n ⟨0, by omega, by simp (maxSteps := 2000000) (disch := first | assumption | omega | (simp only [nx_push, nx_set, ne_eq] <;> omega) | (simp only [XSide]; done) | decide) only [XWalk, XSl, ↓XPre, reduceIte, Nat.reduceEqDiff, Nat.reduceLT, Nat.reduceAdd, Nat.reduceSub, Nat.reduceMul, Nat.reduceBEq, reduceCtorEq, Int.reduceAdd, Int.reduceSub, Int.reduceMul, Int.reduceLT, Int.reduceLE, Int.reduceGT, Int.reduceGE, Int.reduceEq, Int.reduceNe, Int.reduceBEq, Int.reduceBNe, Int.reduceTMod, Int.reduceTDiv, ↓if_true, ↓if_false], by simp (maxSteps := 2000000) (disch := first | assumption | omega | (simp only [nx_push, nx_set, ne_eq] <;> omega) | (simp only [XSide]; done) | decide) only [XWalk, XSl, ↓XPre, reduceIte, Nat.reduceEqDiff, Nat.reduceLT, Nat.reduceAdd, Nat.reduceSub, Nat.reduceMul, Nat.reduceBEq, reduceCtorEq, Int.reduceAdd, Int.reduceSub, Int.reduceMul, Int.reduceLT, Int.reduceLE, Int.reduceGT, Int.reduceGE, Int.reduceEq, Int.reduceNe, Int.reduceBEq, Int.reduceBNe, Int.reduceTMod, Int.reduceTDiv, ↓if_true, ↓if_false], by simp (maxSteps := 2000000) (disch := first | assumption | omega | (simp only [nx_push, nx_set, ne_eq] <;> omega) | (simp only [XSide]; done) | decide) only [XWalk, XSl, ↓XPre, reduceIte, Nat.reduceEqDiff, Nat.reduceLT, Nat.reduceAdd, Nat.reduceSub, Nat.reduceMul, Nat.reduceBEq, reduceCtorEq, Int.reduceAdd, Int.reduceSub, Int.reduceMul, Int.reduceLT, Int.reduceLE, Int.reduceGT, Int.reduceGE, Int.reduceEq, Int.reduceNe, Int.reduceBEq, Int.reduceBNe, Int.reduceTMod, Int.reduceTDiv, ↓if_true, ↓if_false], by simp (maxSteps := 2000000) (disch := first | assumption | omega | (simp only [nx_push, nx_set, ne_eq] <;> omega) | (simp only [XSide]; done) | decide) only [XWalk, XSl, ↓XPre, reduceIte, Nat.reduceEqDiff, Nat.reduceLT, Nat.reduceAdd, Nat.reduceSub, Nat.reduceMul, Nat.reduceBEq, reduceCtorEq, Int.reduceAdd, Int.reduceSub, Int.reduceMul, Int.reduceLT, Int.reduceLE, Int.reduceGT, Int.reduceGE, Int.reduceEq, Int.reduceNe, Int.reduceBEq, Int.reduceBNe, Int.reduceTMod, Int.reduceTDiv, ↓if_true, ↓if_false], by simp (maxSteps := 2000000) (disch := first | assumption | omega | (simp only [nx_push, nx_set, ne_eq] <;> omega) | (simp only [XSide]; done) | decide) only [XWalk, XSl, ↓XPre, reduceIte, Nat.reduceEqDiff, Nat.reduceLT, Nat.reduceAdd, Nat.reduceSub, Nat.reduceMul, Nat.reduceBEq, reduceCtorEq, Int.reduceAdd, Int.reduceSub, Int.reduceMul, Int.reduceLT, Int.reduceLE, Int.reduceGT, Int.reduceGE, Int.reduceEq, Int.reduceNe, Int.reduceBEq, Int.reduceBNe, Int.reduceTMod, Int.reduceTDiv, ↓if_true, ↓if_false]; rfl, hw.push, rfl, by rw [get_push_self]; simp⟩ ?_
  rintro k e m1 ⟨i, hi, he, q0, q1, q5, q6, hw1, hn1, hm1⟩
  simp (maxSteps := 2000000) (disch := first | assumption | omega | (simp only [nx_push, nx_set, ne_eq] <;> omega) | (simp only [XSide, F14]; done) | decide) only [XWalk, XSl, ↓XPre, reduceIte, Nat.reduceEqDiff, Nat.reduceLT, Nat.reduceAdd, Nat.reduceSub, Nat.reduceMul, Nat.reduceBEq, reduceCtorEq, Int.reduceAdd, Int.reduceSub, Int.reduceMul, Int.reduceLT, Int.reduceLE, Int.reduceGT, Int.reduceGE, Int.reduceEq, Int.reduceNe, Int.reduceBEq, Int.reduceBNe, Int.reduceTMod, Int.reduceTDiv, ↓if_true, ↓if_false, F14, A14, he, q1, q6]
  refine x_if (fun ht => ?_) (fun ht => ?_)
  · have hk : i < n := by have := of_decide_eq_true ht; omega
    have e2 : IntKind.wrap .i64 ((i : Int) + 1) = ((i + 1 : Nat) : Int) := by rw [wrap_i64 (by omega) (by omega)]; omega
    have hl : (u8s (List.replicate i b ++ List.replicate (n - i) 0)).length = n := by rw [u8s_length]; simp; omega
    simp (maxSteps := 2000000) (disch := first | assumption | omega | (simp only [nx_push, nx_set, ne_eq] <;> omega) | (simp only [XSide, F14]; done) | decide) only [XWalk, XSl, ↓XPre, reduceIte, Nat.reduceEqDiff, Nat.reduceLT, Nat.reduceAdd, Nat.reduceSub, Nat.reduceMul, Nat.reduceBEq, reduceCtorEq, Int.reduceAdd, Int.reduceSub, Int.reduceMul, Int.reduceLT, Int.reduceLE, Int.reduceGT, Int.reduceGE, Int.reduceEq, Int.reduceNe, Int.reduceBEq, Int.reduceBNe, Int.reduceTMod, Int.reduceTDiv, ↓if_true, ↓if_false, F14, A14, he, q0, q1, q5, q6, hm1, hl, e2, u8s_set]
    refine ⟨k - 1, by omega, i + 1, by omega, rfl, hw1.set (by omega), hn1, ?_⟩
    congr 3
    rw [List.set_append_right _ _ (by simp), List.length_replicate, Nat.sub_self, show n - i = (n - (i + 1)) + 1 from by omega, List.replicate_succ, List.set_cons_zero, List.replicate_succ', List.append_assoc]
    rfl
  · have hk : i = n := by have := of_decide_eq_false ht; omega
    subst hk
    rw [Nat.sub_self, List.replicate_zero, List.append_nil] at hm1
    simp (maxSteps := 2000000) (disch := first | assumption | omega | (simp only [nx_push, nx_set, ne_eq] <;> omega) | (simp only [XSide, F14]; done) | decide) only [XWalk, XSl, ↓XPre, reduceIte, Nat.reduceEqDiff, Nat.reduceLT, Nat.reduceAdd, Nat.reduceSub, Nat.reduceMul, Nat.reduceBEq, reduceCtorEq, Int.reduceAdd, Int.reduceSub, Int.reduceMul, Int.reduceLT, Int.reduceLE, Int.reduceGT, Int.reduceGE, Int.reduceEq, Int.reduceNe, Int.reduceBEq, Int.reduceBNe, Int.reduceTMod, Int.reduceTDiv, ↓if_true, ↓if_false, F14, A14, he, q5]
    exact ⟨_, rfl, Sl.of_row hm1 (by rw [List.drop_zero, List.take_of_length_le (by rw [u8s_length]; simp)]) (by rw [u8s_length]; simp) (Nat.le_refl _), by simp⟩

def shortB (n : List UInt8) (ls lt : Nat) : Bool := decide ((n.length : Int) ≤ 100) && (decide ((ls : Int) ≤ 400) && decide ((lt : Int) ≤ 100))
def sameB (n n' : List UInt8) (r r' s s' : Int) (S S' T T' : List UInt8) : Bool := (n == n') && ((r == r') && ((s == s') && ((S == S') && (T == T'))))
theorem same_ct {m : Mem} (hw : WF m) {n n' S S' T T' : List UInt8} {r r' s s' : Int} {sv sv' tv tv' : Value} (hs : Bs m sv S) (ht : Bs m tv T) (hs' : Bs m sv' S') (ht' : Bs m tv' T') :
    Ct Tryz.prog S0 19 [envV n r s sv tv, envV n' r' s' sv' tv'] m [] (fun out m' => out = .ret (.bool (sameB n n' r r' s s' S S' T T'))) := by
  have hone : [str n, .int .i64 r, .int .i64 s, sv, tv].all oneCell = true := by
    simp only [List.all_cons, List.all_nil, one_sl hs, one_sl ht, one_str, one_int, Bool.and_self]
  have hone' : [str n', .int .i64 r', .int .i64 s', sv', tv'].all oneCell = true := by
    simp only [List.all_cons, List.all_nil, one_sl hs', one_sl ht', one_str, one_int, Bool.and_self]
  have kp : ∀ (v : Value) (l : List UInt8) o o', Bs m v l → Bs ((m.push o).push o') v l := fun v l o o' h => (h.keep (Keep.push hw)).keep (Keep.push hw.push)
  refine ct_x (spec0 _) (by rfl) Tryz.func19 rfl ?_
  unfold sameB
  simp (maxSteps := 2000000) (disch := first | assumption | omega | (simp only [nx_push, nx_set, ne_eq] <;> omega) | (simp only [XSide, F19]; done) | decide) only [XWalk, XSl, ↓XPre, reduceIte, Nat.reduceEqDiff, Nat.reduceLT, Nat.reduceAdd, Nat.reduceSub, Nat.reduceMul, Nat.reduceBEq, reduceCtorEq, Int.reduceAdd, Int.reduceSub, Int.reduceMul, Int.reduceLT, Int.reduceLE, Int.reduceGT, Int.reduceGE, Int.reduceEq, Int.reduceNe, Int.reduceBEq, Int.reduceBNe, Int.reduceTMod, Int.reduceTDiv, ↓if_true, ↓if_false, F19, A19, Tryz.ntmps19]
  cases h1 : (n == n') with
  | false => simp (maxSteps := 2000000) (disch := first | assumption | omega | (simp only [nx_push, nx_set, ne_eq] <;> omega) | (simp only [XSide, F19]; done) | decide) only [XWalk, XSl, ↓XPre, reduceIte, Nat.reduceEqDiff, Nat.reduceLT, Nat.reduceAdd, Nat.reduceSub, Nat.reduceMul, Nat.reduceBEq, reduceCtorEq, Int.reduceAdd, Int.reduceSub, Int.reduceMul, Int.reduceLT, Int.reduceLE, Int.reduceGT, Int.reduceGE, Int.reduceEq, Int.reduceNe, Int.reduceBEq, Int.reduceBNe, Int.reduceTMod, Int.reduceTDiv, ↓if_true, ↓if_false, F19, A19, h1] <;> rfl
  | true =>
    simp (maxSteps := 2000000) (disch := first | assumption | omega | (simp only [nx_push, nx_set, ne_eq] <;> omega) | (simp only [XSide, F19]; done) | decide) only [XWalk, XSl, ↓XPre, reduceIte, Nat.reduceEqDiff, Nat.reduceLT, Nat.reduceAdd, Nat.reduceSub, Nat.reduceMul, Nat.reduceBEq, reduceCtorEq, Int.reduceAdd, Int.reduceSub, Int.reduceMul, Int.reduceLT, Int.reduceLE, Int.reduceGT, Int.reduceGE, Int.reduceEq, Int.reduceNe, Int.reduceBEq, Int.reduceBNe, Int.reduceTMod, Int.reduceTDiv, ↓if_true, ↓if_false, F19, A19, h1]
    cases h2 : (r == r') with
    | false => simp (maxSteps := 2000000) (disch := first | assumption | omega | (simp only [nx_push, nx_set, ne_eq] <;> omega) | (simp only [XSide, F19]; done) | decide) only [XWalk, XSl, ↓XPre, reduceIte, Nat.reduceEqDiff, Nat.reduceLT, Nat.reduceAdd, Nat.reduceSub, Nat.reduceMul, Nat.reduceBEq, reduceCtorEq, Int.reduceAdd, Int.reduceSub, Int.reduceMul, Int.reduceLT, Int.reduceLE, Int.reduceGT, Int.reduceGE, Int.reduceEq, Int.reduceNe, Int.reduceBEq, Int.reduceBNe, Int.reduceTMod, Int.reduceTDiv, ↓if_true, ↓if_false, F19, A19, h1, h2] <;> rfl
    | true =>
      simp (maxSteps := 2000000) (disch := first | assumption | omega | (simp only [nx_push, nx_set, ne_eq] <;> omega) | (simp only [XSide, F19]; done) | decide) only [XWalk, XSl, ↓XPre, reduceIte, Nat.reduceEqDiff, Nat.reduceLT, Nat.reduceAdd, Nat.reduceSub, Nat.reduceMul, Nat.reduceBEq, reduceCtorEq, Int.reduceAdd, Int.reduceSub, Int.reduceMul, Int.reduceLT, Int.reduceLE, Int.reduceGT, Int.reduceGE, Int.reduceEq, Int.reduceNe, Int.reduceBEq, Int.reduceBNe, Int.reduceTMod, Int.reduceTDiv, ↓if_true, ↓if_false, F19, A19, h1, h2]
      cases h3 : (s == s') with
      | false => simp (maxSteps := 2000000) (disch := first | assumption | omega | (simp only [nx_push, nx_set, ne_eq] <;> omega) | (simp only [XSide, F19]; done) | decide) only [XWalk, XSl, ↓XPre, reduceIte, Nat.reduceEqDiff, Nat.reduceLT, Nat.reduceAdd, Nat.reduceSub, Nat.reduceMul, Nat.reduceBEq, reduceCtorEq, Int.reduceAdd, Int.reduceSub, Int.reduceMul, Int.reduceLT, Int.reduceLE, Int.reduceGT, Int.reduceGE, Int.reduceEq, Int.reduceNe, Int.reduceBEq, Int.reduceBNe, Int.reduceTMod, Int.reduceTDiv, ↓if_true, ↓if_false, F19, A19, h1, h2, h3] <;> rfl
      | true =>
        simp (maxSteps := 2000000) (disch := first | assumption | omega | (simp only [nx_push, nx_set, ne_eq] <;> omega) | (simp only [XSide, F19]; done) | decide) only [XWalk, XSl, ↓XPre, reduceIte, Nat.reduceEqDiff, Nat.reduceLT, Nat.reduceAdd, Nat.reduceSub, Nat.reduceMul, Nat.reduceBEq, reduceCtorEq, Int.reduceAdd, Int.reduceSub, Int.reduceMul, Int.reduceLT, Int.reduceLE, Int.reduceGT, Int.reduceGE, Int.reduceEq, Int.reduceNe, Int.reduceBEq, Int.reduceBNe, Int.reduceTMod, Int.reduceTDiv, ↓if_true, ↓if_false, F19, A19, h1, h2, h3]
        refine (kp _ _ _ _ hs).wconv (by simp only [F19]) (by simp only [F19]) fun q hq => ?_
        simp (maxSteps := 2000000) (disch := first | assumption | omega | (simp only [nx_push, nx_set, ne_eq] <;> omega) | (simp only [XSide, F19]; done) | decide) only [XWalk, XSl, ↓XPre, reduceIte, Nat.reduceEqDiff, Nat.reduceLT, Nat.reduceAdd, Nat.reduceSub, Nat.reduceMul, Nat.reduceBEq, reduceCtorEq, Int.reduceAdd, Int.reduceSub, Int.reduceMul, Int.reduceLT, Int.reduceLE, Int.reduceGT, Int.reduceGE, Int.reduceEq, Int.reduceNe, Int.reduceBEq, Int.reduceBNe, Int.reduceTMod, Int.reduceTDiv, ↓if_true, ↓if_false, F19, A19]
        refine (kp _ _ _ _ hs').wconv (by simp only [F19]) (by simp only [F19]) fun q hq => ?_
        simp (maxSteps := 2000000) (disch := first | assumption | omega | (simp only [nx_push, nx_set, ne_eq] <;> omega) | (simp only [XSide, F19]; done) | decide) only [XWalk, XSl, ↓XPre, reduceIte, Nat.reduceEqDiff, Nat.reduceLT, Nat.reduceAdd, Nat.reduceSub, Nat.reduceMul, Nat.reduceBEq, reduceCtorEq, Int.reduceAdd, Int.reduceSub, Int.reduceMul, Int.reduceLT, Int.reduceLE, Int.reduceGT, Int.reduceGE, Int.reduceEq, Int.reduceNe, Int.reduceBEq, Int.reduceBNe, Int.reduceTMod, Int.reduceTDiv, ↓if_true, ↓if_false, F19, A19]
        cases h4 : (S == S') with
        | false => simp (maxSteps := 2000000) (disch := first | assumption | omega | (simp only [nx_push, nx_set, ne_eq] <;> omega) | (simp only [XSide, F19]; done) | decide) only [XWalk, XSl, ↓XPre, reduceIte, Nat.reduceEqDiff, Nat.reduceLT, Nat.reduceAdd, Nat.reduceSub, Nat.reduceMul, Nat.reduceBEq, reduceCtorEq, Int.reduceAdd, Int.reduceSub, Int.reduceMul, Int.reduceLT, Int.reduceLE, Int.reduceGT, Int.reduceGE, Int.reduceEq, Int.reduceNe, Int.reduceBEq, Int.reduceBNe, Int.reduceTMod, Int.reduceTDiv, ↓if_true, ↓if_false, F19, A19, h4] <;> rfl
        | true =>
          simp (maxSteps := 2000000) (disch := first | assumption | omega | (simp only [nx_push, nx_set, ne_eq] <;> omega) | (simp only [XSide, F19]; done) | decide) only [XWalk, XSl, ↓XPre, reduceIte, Nat.reduceEqDiff, Nat.reduceLT, Nat.reduceAdd, Nat.reduceSub, Nat.reduceMul, Nat.reduceBEq, reduceCtorEq, Int.reduceAdd, Int.reduceSub, Int.reduceMul, Int.reduceLT, Int.reduceLE, Int.reduceGT, Int.reduceGE, Int.reduceEq, Int.reduceNe, Int.reduceBEq, Int.reduceBNe, Int.reduceTMod, Int.reduceTDiv, ↓if_true, ↓if_false, F19, A19, h4]
          refine (kp _ _ _ _ ht).wconv (by simp only [F19]) (by simp only [F19]) fun q hq => ?_
          simp (maxSteps := 2000000) (disch := first | assumption | omega | (simp only [nx_push, nx_set, ne_eq] <;> omega) | (simp only [XSide, F19]; done) | decide) only [XWalk, XSl, ↓XPre, reduceIte, Nat.reduceEqDiff, Nat.reduceLT, Nat.reduceAdd, Nat.reduceSub, Nat.reduceMul, Nat.reduceBEq, reduceCtorEq, Int.reduceAdd, Int.reduceSub, Int.reduceMul, Int.reduceLT, Int.reduceLE, Int.reduceGT, Int.reduceGE, Int.reduceEq, Int.reduceNe, Int.reduceBEq, Int.reduceBNe, Int.reduceTMod, Int.reduceTDiv, ↓if_true, ↓if_false, F19, A19]
          refine (kp _ _ _ _ ht').wconv (by simp only [F19]) (by simp only [F19]) fun q hq => ?_
          simp (maxSteps := 2000000) (disch := first | assumption | omega | (simp only [nx_push, nx_set, ne_eq] <;> omega) | (simp only [XSide, F19]; done) | decide) only [XWalk, XSl, ↓XPre, reduceIte, Nat.reduceEqDiff, Nat.reduceLT, Nat.reduceAdd, Nat.reduceSub, Nat.reduceMul, Nat.reduceBEq, reduceCtorEq, Int.reduceAdd, Int.reduceSub, Int.reduceMul, Int.reduceLT, Int.reduceLE, Int.reduceGT, Int.reduceGE, Int.reduceEq, Int.reduceNe, Int.reduceBEq, Int.reduceBNe, Int.reduceTMod, Int.reduceTDiv, ↓if_true, ↓if_false, F19, A19] <;> rfl

end Go.Big

/- The reference's names and validity; sealing without a book. -/
set_option linter.unusedSimpArgs false
set_option linter.unusedVariables false
set_option maxRecDepth 100000
set_option maxHeartbeats 4000000
namespace Go.Big
open Go.Proofs

def nameC (c : UInt8) : Bool := ((decide ((c.toNat : Int) ≥ 97) && decide ((c.toNat : Int) ≤ 122)) || (decide ((c.toNat : Int) ≥ 48) && decide ((c.toNat : Int) ≤ 57))) || ((c.toNat : Int) == 45)
end Go.Big

/- The books of the laws. -/
set_option linter.unusedSimpArgs false
set_option linter.unusedVariables false
set_option maxRecDepth 100000
set_option maxHeartbeats 4000000
namespace Go.Big
open Go.Proofs

theorem given_ok : okRes givenR = true := by kernel_rfl
theorem given_run : givenR.map (fun r => ((match r.1 with | .ret v => some v | .panic _ => none), r.2.1.next, [r.2.1.get 1, r.2.1.get 15, r.2.1.get 22, r.2.1.get 43, r.2.1.get 52, r.2.1.get 3, r.2.1.get 4])) =
    some (some (.tuple #[.pointer (some ⟨1, 0, none⟩), .agg #[.slice (some ⟨52, 0, none⟩) 2 2]]), 53, [some (.row [.slice (some ⟨39, 0, none⟩) 2 2, .map (some 15), .map (some 16)] .rw), some (.map [⟨.string ⟨#[97, 99, 109, 101]⟩, .agg #[.string ⟨#[97, 99, 109, 101]⟩, .int .i64 2, .slice (some ⟨22, 0, none⟩) 32 32, .int .i64 0, .int .i64 0], 0⟩, ⟨.string ⟨#[98, 101, 108, 108]⟩, .agg #[.string ⟨#[98, 101, 108, 108]⟩, .int .i64 2, .slice (some ⟨43, 0, none⟩) 32 32, .int .i64 0, .int .i64 1], 1⟩] 2), some (.row [.int .u8 8, .int .u8 8, .int .u8 8, .int .u8 8, .int .u8 8, .int .u8 8, .int .u8 8, .int .u8 8, .int .u8 8, .int .u8 8, .int .u8 8, .int .u8 8, .int .u8 8, .int .u8 8, .int .u8 8, .int .u8 8, .int .u8 8, .int .u8 8, .int .u8 8, .int .u8 8, .int .u8 8, .int .u8 8, .int .u8 8, .int .u8 8, .int .u8 8, .int .u8 8, .int .u8 8, .int .u8 8, .int .u8 8, .int .u8 8, .int .u8 8, .int .u8 8] (.slack 1)), some (.row [.int .u8 9, .int .u8 9, .int .u8 9, .int .u8 9, .int .u8 9, .int .u8 9, .int .u8 9, .int .u8 9, .int .u8 9, .int .u8 9, .int .u8 9, .int .u8 9, .int .u8 9, .int .u8 9, .int .u8 9, .int .u8 9, .int .u8 9, .int .u8 9, .int .u8 9, .int .u8 9, .int .u8 9, .int .u8 9, .int .u8 9, .int .u8 9, .int .u8 9, .int .u8 9, .int .u8 9, .int .u8 9, .int .u8 9, .int .u8 9, .int .u8 9, .int .u8 9] (.slack 1)), some (.row [.string ⟨#[97, 99, 109, 101]⟩, .int .i64 2, .slice (some ⟨3, 0, none⟩) 32 32, .int .i64 0, .int .i64 0, .string ⟨#[98, 101, 108, 108]⟩, .int .i64 2, .slice (some ⟨4, 0, none⟩) 32 32, .int .i64 0, .int .i64 1] (.slack 5)), some (.row [.int .u8 8, .int .u8 8, .int .u8 8, .int .u8 8, .int .u8 8, .int .u8 8, .int .u8 8, .int .u8 8, .int .u8 8, .int .u8 8, .int .u8 8, .int .u8 8, .int .u8 8, .int .u8 8, .int .u8 8, .int .u8 8, .int .u8 8, .int .u8 8, .int .u8 8, .int .u8 8, .int .u8 8, .int .u8 8, .int .u8 8, .int .u8 8, .int .u8 8, .int .u8 8, .int .u8 8, .int .u8 8, .int .u8 8, .int .u8 8, .int .u8 8, .int .u8 8] .rw), some (.row [.int .u8 9, .int .u8 9, .int .u8 9, .int .u8 9, .int .u8 9, .int .u8 9, .int .u8 9, .int .u8 9, .int .u8 9, .int .u8 9, .int .u8 9, .int .u8 9, .int .u8 9, .int .u8 9, .int .u8 9, .int .u8 9, .int .u8 9, .int .u8 9, .int .u8 9, .int .u8 9, .int .u8 9, .int .u8 9, .int .u8 9, .int .u8 9, .int .u8 9, .int .u8 9, .int .u8 9, .int .u8 9, .int .u8 9, .int .u8 9, .int .u8 9, .int .u8 9] .rw)]) := by kernel_rfl

theorem specSim (H : Nat) : SpecSim Tryz.prog H S0.spec := oneSpec_sim mixed (fun _ => rfl) funcsOkIn Tryz.func9 (by rfl) (by kernel_rfl) given_ok

/-- The book of the reference. -/
def RefBook (m : Mem) (w : Value) : Prop := ∃ rb k1 k2, w = .agg #[.slice (some ⟨rb, 0, none⟩) 2 2] ∧ m.get rb = some (.row [str acmeN, .int .i64 2, k1, .int .i64 0, .int .i64 0, str bellN, .int .i64 2, k2, .int .i64 0, .int .i64 1] (.slack 5)) ∧
  Bs m k1 (List.replicate 32 8) ∧ Bs m k2 (List.replicate 32 9)
theorem RefBook.keep {m m' : Mem} {w : Value} (h : RefBook m w) (k : Keep m m') : RefBook m' w := by
  obtain ⟨rb, k1, k2, h1, h2, h3, h4⟩ := h
  exact ⟨rb, k1, k2, h1, by rw [k rb (by rw [h2]; simp)]; exact h2, h3.keep k, h4.keep k⟩

theorem given_ct {m : Mem} (hw : WF m) : Ct Tryz.prog S0 9 [] m [] (Rv fun v m' => ∃ x w, v = .tuple #[x, w] ∧ BookAt m' x ∧ RefBook m' w) := by
  have hrun := given_run
  cases hg : givenR with
  | none => rw [hg] at hrun; cases hrun
  | some r =>
    rw [hg] at hrun
    obtain ⟨out, m1, w1⟩ := r
    simp only [Option.map_some, Option.some.injEq, Prod.mk.injEq, List.cons.injEq, and_true] at hrun
    obtain ⟨h0, hn, g1, g15, g22, g43, g52, g3, g4⟩ := hrun
    cases out with
    | panic v => cases h0
    | ret v =>
      simp only [Option.some.injEq] at h0
      subst h0
      have hlen : ((objsOf m1).map (shO m.next)).length = 53 := by rw [List.length_map, objsOf_len, hn]
      have hget : ∀ i o, i < 53 → m1.get i = some o → (pushAll m ((objsOf m1).map (shO m.next))).get (i + m.next) = some (shO m.next o) := fun i o hi ho => by
        rw [pushAll_get, hlen, if_pos (by omega), Nat.add_sub_cancel, List.getElem?_map]
        have : (objsOf m1)[i]? = some o := by
          unfold objsOf
          rw [List.getElem?_map, List.getElem?_range (by omega)]
          simp [ho]
        rw [this]; rfl
      have hcall : acall Tryz.prog S0 9 [] m = some (.ret (sh3 m.next (.tuple #[.pointer (some ⟨1, 0, none⟩), .agg #[.slice (some ⟨52, 0, none⟩) 2 2]])), pushAll m ((objsOf m1).map (shO m.next)), []) := by
        rw [acall_eq]
        unfold callStep
        rw [show S0.spec 9 = some (closedG givenR) from by
          show (if 9 = 9 then some (closedG givenR) else none) = _
          rw [if_pos rfl]]
        simp only [hg, closedG]
      have hv : sh3 m.next (.tuple #[.pointer (some ⟨1, 0, none⟩), .agg #[.slice (some ⟨52, 0, none⟩) 2 2]]) = .tuple #[.pointer (some ⟨1 + m.next, 0, none⟩), .agg #[.slice (some ⟨52 + m.next, 0, none⟩) 2 2]] := by simp only [sh3, sh2, sh1, List.map_cons, List.map_nil, List.map_toArray]
      rw [hv] at hcall
      refine ⟨_, _, [], hcall, by simp, ?_⟩
      · refine ⟨_, rfl, _, _, rfl, ⟨1 + m.next, .slice (some ⟨39 + m.next, 0, none⟩) 2 2, 15 + m.next, .map (some (16 + m.next)), .slice (some ⟨22 + m.next, 0, none⟩) 32 32, .slice (some ⟨43 + m.next, 0, none⟩) 32 32, rfl, hget 1 _ (by omega) g1, (hget 15 _ (by omega) g15).trans (by simp only [shO, List.map_cons, List.map_nil, sh2, sh1, List.map_toArray]; rfl), ?_, ?_⟩,
          ⟨52 + m.next, .slice (some ⟨3 + m.next, 0, none⟩) 32 32, .slice (some ⟨4 + m.next, 0, none⟩) 32 32, rfl, hget 52 _ (by omega) g52, ?_, ?_⟩⟩
        · exact .row (hget 22 _ (by omega) g22) rfl rfl (Nat.le_refl _) (fun s hs => by cases hs; exact ⟨rfl, Nat.le_refl _⟩)
        · exact .row (hget 43 _ (by omega) g43) rfl rfl (Nat.le_refl _) (fun s hs => by cases hs; exact ⟨rfl, Nat.le_refl _⟩)
        · exact .row (hget 3 _ (by omega) g3) rfl rfl (Nat.le_refl _) (fun s hs => by cases hs)
        · exact .row (hget 4 _ (by omega) g4) rfl rfl (Nat.le_refl _) (fun s hs => by cases hs)

end Go.Big

/- The hash, as the kernel reckons it; what was sealed is opened; the examples of the chapter. -/
set_option linter.unusedSimpArgs false
set_option linter.unusedVariables false
set_option maxRecDepth 100000
namespace Go.Big
open Go.Proofs

def hashF : Nat → List UInt32 → Nat → List UInt8 → List UInt32
  | 0, H, t, d => compressW H (pad64 d) (t + d.length) true
  | n + 1, H, t, d => if d.length ≤ 64 then compressW H (pad64 d) (t + d.length) true else hashF n (compressW H (d.take 64) (t + 64) false) (t + 64) (d.drop 64)
theorem hashF_eq : ∀ (n : Nat) (H : List UInt32) (t : Nat) (d : List UInt8), d.length ≤ 64 * n + 64 → hashFin H t d = hashF n H t d
  | 0, H, t, d, h => by rw [hashFin, if_pos (by omega)]; rfl
  | n + 1, H, t, d, h => by
    rw [hashFin, hashF]
    split
    · rfl
    · exact hashF_eq n _ _ _ (by simp; omega)
def blakeF (key d : List UInt8) : List UInt8 :=
  let m := (if key = [] then [] else pad64 key) ++ d
  wordsB (hashF (m.length / 64) (key0 key.length) 0 m)
theorem blakeF_eq : blakeB = blakeF := by
  funext key d
  unfold blakeB blakeF
  rw [hashF_eq _ _ _ _ (show ((if key = [] then [] else pad64 key) ++ d).length ≤ 64 * (((if key = [] then [] else pad64 key) ++ d).length / 64) + 64 by omega)]

theorem xor_xor {a b : UInt8} : a ^^^ (a ^^^ b) = b := by
  rw [← UInt8.xor_assoc, UInt8.xor_self, UInt8.zero_xor]
theorem xorB_xorB : ∀ {s b : List UInt8}, s.length = b.length → xorB s (xorB s b) = b
  | [], [], _ => rfl
  | x :: s, y :: b, h => by
    simp only [xorB, List.zipWith_cons_cons] at *
    rw [xor_xor]
    congr 1
    exact xorB_xorB (by simpa using h)
  | [], y :: b, h => by simp at h
  | x :: s, [], h => by simp at h

theorem open_seal {key nonce bid : List UInt8} (h : nonce.length = 16) : openB key (sealB key nonce bid) = some bid := by
  have lx : (xorB (streamB (blakeB key streamL) nonce bid.length) bid).length = bid.length := xorB_length streamB_length
  have lc : (cipherB key nonce bid).length = bid.length + 16 := by rw [cipherB, List.length_append, lx, h]; omega
  have lt : ((blakeB (blakeB key tagL) (cipherB key nonce bid)).take 16).length = 16 := by rw [List.length_take, blakeB_length]; rfl
  have ls : (sealB key nonce bid).length = bid.length + 32 := by rw [sealB, List.length_append, lc, lt]
  have e1 : (sealB key nonce bid).take ((sealB key nonce bid).length - 16) = cipherB key nonce bid := by
    rw [ls, show bid.length + 32 - 16 = (cipherB key nonce bid).length from by omega, sealB, List.take_left]
  have e2 : (sealB key nonce bid).drop ((sealB key nonce bid).length - 16) = (blakeB (blakeB key tagL) (cipherB key nonce bid)).take 16 := by
    rw [ls, show bid.length + 32 - 16 = (cipherB key nonce bid).length from by omega, sealB, List.drop_left]
  have e3 : (sealB key nonce bid).take 16 = nonce := by
    rw [sealB, cipherB, List.append_assoc, ← h, List.take_left]
  have e4 : ((sealB key nonce bid).drop 16).take ((sealB key nonce bid).length - 32) = xorB (streamB (blakeB key streamL) nonce bid.length) bid := by
    rw [ls, show bid.length + 32 - 32 = bid.length from by omega, sealB, cipherB, List.append_assoc, ← h, List.drop_left]
    rw [List.take_append_of_le_length (by omega), List.take_of_length_le (by omega)]
  unfold openB
  rw [e1, e2, e3, e4, beq_self_eq_true, if_pos rfl, ls, show bid.length + 32 - 32 = bid.length from by omega, xorB_xorB streamB_length]

/-! ### The examples -/

def kKey : List UInt8 := List.replicate 32 1
def kNonce : List UInt8 := List.replicate 16 2
def kHello : List UInt8 := [104, 101, 108, 108, 111]
def kSealed : List UInt8 := sealedOf acmeN kKey kNonce kHello
def kTag : List UInt8 := tagOf acmeN 3 1 kSealed

theorem kSealed_len : kSealed.length = 37 := by rw [kSealed, sealed_len rfl]; rfl
theorem kTag_len : kTag.length = 32 := by
  show (blakeB (List.replicate 32 8) _).length = 32
  exact blakeB_length

theorem k_wrong : openB (blakeB (List.replicate 32 9) (bidL ++ acmeN)) kSealed = none := by
  have h : (openB (blakeB (List.replicate 32 9) (bidL ++ acmeN)) kSealed).isNone = true := by
    unfold kSealed sealedOf openB sealB cipherB streamB streamN
    rw [blakeF_eq]
    kernel_rfl
  exact Option.isNone_iff_eq_none.1 h

theorem groupB1 {n : Nat} (h : n < 128) : groupB n = [UInt8.ofNat n] := by rw [groupB, if_pos h]

theorem k_other : (blakeB (List.replicate 32 8) (signedB acmeN 3 2 kSealed) == kTag) = false := by
  have h1 : kTag = blakeB (List.replicate 32 8) (signedB acmeN 3 1 kSealed) := rfl
  rw [h1]
  unfold signedB strB
  rw [groupB1 (show acmeN.length < 128 by decide), groupB1 (show 3 < 128 by decide), groupB1 (show 2 < 128 by decide), groupB1 (show 1 < 128 by decide), groupB1 (show kSealed.length < 128 by rw [kSealed_len]; decide), kSealed_len]
  unfold kSealed sealedOf sealB cipherB streamB streamN
  rw [blakeF_eq]
  show (_ : Bool) = _
  kernel_rfl

theorem k_name : nameB acmeN = true := by decide
theorem k_valid : validB acmeN 3 1 kSealed.length kTag.length = true := by
  rw [kSealed_len, kTag_len, validB, k_name]; decide
theorem k_valid2 : validB acmeN 3 2 kSealed.length kTag.length = true := by
  rw [kSealed_len, kTag_len, validB, k_name]; decide
theorem k_check : checkI acmeN 3 1 kSealed kTag = 0 := by
  rw [checkI, if_pos k_valid]
  have h1 : kTag = blakeB (List.replicate 32 8) (signedB acmeN 3 1 kSealed) := rfl
  unfold verifyI
  rw [show acctOf acmeN = some (List.replicate 32 8, 0) from rfl]
  simp only
  rw [if_neg, if_pos]
  · rw [h1]; exact beq_self_eq_true _
  · have := signed_len (n := acmeN) (S := kSealed) (r := 3) (s := 1) (by decide) (by omega) (by omega) (by rw [kSealed_len]; omega)
    show ¬ 65536 < (signedB acmeN 3 1 kSealed).length
    omega
theorem k_check2 : checkI acmeN 3 2 kSealed kTag = 10 := by
  rw [checkI, if_pos k_valid2]
  unfold verifyI
  rw [show acctOf acmeN = some (List.replicate 32 8, 0) from rfl]
  simp only
  rw [if_neg, if_neg]
  · rw [show ((3 : Int).toNat) = 3 from rfl, show ((2 : Int).toNat) = 2 from rfl, k_other]; simp
  · have := signed_len (n := acmeN) (S := kSealed) (r := 3) (s := 2) (by decide) (by omega) (by omega) (by rw [kSealed_len]; omega)
    show ¬ 65536 < (signedB acmeN 3 2 kSealed).length
    omega
theorem k_open : openE acmeN 3 1 kSealed kTag kKey = (some kHello, 0) := by
  unfold openE
  rw [k_check]
  have h : openB (blakeB kKey (bidL ++ acmeN)) kSealed = some kHello := open_seal rfl
  rw [h]
  rfl
theorem k_open2 : openE acmeN 3 1 kSealed kTag (List.replicate 32 9) = (none, 10) := by
  unfold openE
  rw [k_check, k_wrong]
  rfl
theorem k_open3 : openE acmeN 3 1 kSealed kTag [] = (none, 2) := by
  unfold openE
  rw [k_check]
  rfl

end Go.Big
