/- The signed bytes of an envelope; its encoding. -/
import Derived.Test.YtobhnnbdobphfaaGreatDoorJoined9
set_option linter.unusedSimpArgs false
set_option linter.unusedVariables false
set_option linter.unusedSimpArgs false
set_option linter.unusedVariables false
set_option maxRecDepth 100000
set_option maxHeartbeats 2000000
namespace Go.Big
open Go.Proofs

def signedB (n : List UInt8) (r s : Nat) (S : List UInt8) : List UInt8 := ((strB n ++ groupB r) ++ groupB s) ++ strB S

theorem write_ct {m : Mem} (hw : WF m) {wb : Nat} {n S : List UInt8} {r s : Nat} {sv tv : Value} (h : m.get wb = some (.row [.int .i64 0, .slice none 0 0] .rw)) (hs : Bs m sv S) (hsw : slBlk sv ≠ some wb) (ht : oneCell tv = true) (hr : r < 9223372036854775808) (hs' : s < 9223372036854775808) (hl : (signedB n r s S).length ≤ 65536) :
    Ct Tryz.prog S0 56 [.pointer (some ⟨wb, 0, none⟩), envV n r s sv tv] m [wb] (Wrote m.next m wb (.slice none 0 0) (signedB n r s S)) := by
  have hwl : wb < m.next := hw.lt (by rw [h]; simp)
  have hone : [str n, .int .i64 (r : Int), .int .i64 (s : Int), sv, tv].all oneCell = true := by
    simp only [List.all_cons, List.all_nil, one_sl hs, ht, one_str, one_int, Bool.and_self]
  have hll := hl
  simp only [signedB, List.length_append] at hll
  refine ct_x (spec0 _) (by rfl) Tryz.func56 rfl ?_
  simp (maxSteps := 2000000) (disch := first | assumption | omega | (simp only [nx_push, nx_set, ne_eq] <;> omega) | (simp only [XSide, F56]; done) | decide) only [XWalk, XSl, ↓XPre, reduceIte, Nat.reduceEqDiff, Nat.reduceLT, Nat.reduceAdd, Nat.reduceSub, Nat.reduceMul, Nat.reduceBEq, reduceCtorEq, Int.reduceAdd, Int.reduceSub, Int.reduceMul, Int.reduceLT, Int.reduceLE, Int.reduceGT, Int.reduceGE, Int.reduceEq, Int.reduceNe, Int.reduceBEq, Int.reduceBNe, Int.reduceTMod, Int.reduceTDiv, ↓if_true, ↓if_false, F56, A56, Tryz.ntmps56, List.map_toArray, List.toList_toArray, List.singleton_append]
  have step : ∀ (ov : Value) (wr : List Nat), (∀ b ∈ wr, b ∈ wb :: (slBlk ov).toList) → (∀ b, slBlk ov = some b → m.next + 1 ≤ b) → OkW m.next [wb] wr := fun ov wr h1 h2 b hb hlt => by
    have := h1 b hb
    rw [List.mem_cons] at this
    rcases this with rfl | h3
    · simp
    · rw [Option.mem_toList] at h3
      have := h2 b h3
      omega
  have row0 : (m.push (.row [str n, .int .i64 (r : Int), .int .i64 (s : Int), sv, tv] .rw)).get m.next = some (.row [str n, .int .i64 (r : Int), .int .i64 (s : Int), sv, tv] .rw) := get_push_self
  have hw0 : WF (m.push (.row [str n, .int .i64 (r : Int), .int .i64 (s : Int), sv, tv] .rw)) := hw.push
  have hs0 : Bs (m.push (.row [str n, .int .i64 (r : Int), .int .i64 (s : Int), sv, tv] .rw)) sv S := hs.keep (Keep.push hw)
  have hr0 : WrAt (m.next + 1) (m.push (.row [str n, .int .i64 (r : Int), .int .i64 (s : Int), sv, tv] .rw)) wb (.slice none 0 0) [] := ⟨by rw [get_push_ne (by omega)]; exact h, .nil, by simp [slBlk]⟩
  have hx0 : m.next + 1 ≤ (m.push (.row [str n, .int .i64 (r : Int), .int .i64 (s : Int), sv, tv] .rw)).next := Nat.le_refl _
  have hb0 : ∀ b, slBlk (.slice none 0 0) = some b → m.next + 1 ≤ b := fun b hb => by simp [slBlk] at hb
  generalize hm0 : m.push (.row [str n, .int .i64 (r : Int), .int .i64 (s : Int), sv, tv] .rw) = m0 at *
  have keepS : ∀ (ma mb : Mem) (ov : Value), Bs ma sv S → WF ma → (∀ b, b < ma.next → b ∉ wb :: (slBlk ov).toList → mb.get b = ma.get b) → (∀ b, slBlk ov = some b → m.next + 1 ≤ b) → Bs mb sv S := fun ma mb ov h1 h2 h3 h4 =>
    h1.frame_at fun b hb => h3 b (h1.blk_lt h2 hb) (by
      rw [List.mem_cons, Option.mem_toList]
      rintro (rfl | h5)
      · exact hsw hb
      · have := h4 b h5; have := hs.blk_lt hw hb; omega)
  have keepR : ∀ (ma mb : Mem) (ov : Value), ma.get m.next = some (.row [str n, .int .i64 (r : Int), .int .i64 (s : Int), sv, tv] .rw) → WF ma → (∀ b, b < ma.next → b ∉ wb :: (slBlk ov).toList → mb.get b = ma.get b) → (∀ b, slBlk ov = some b → m.next + 1 ≤ b) → mb.get m.next = some (.row [str n, .int .i64 (r : Int), .int .i64 (s : Int), sv, tv] .rw) := fun ma mb ov h1 h2 h3 h4 => by
    rw [h3 m.next (h2.lt (by rw [h1]; simp)) (by
      rw [List.mem_cons, Option.mem_toList]
      rintro (rfl | h5)
      · omega
      · have := h4 _ h5; omega)]
    exact h1
  refine wcall_of specLoc (wstring_ct hw0 (b := n) hr0 hx0 (by rw [List.length_nil]; omega)) hw0 (fun b hb hlt => step (.slice none 0 0) [b] (fun c hc => by simp at hc; subst hc; exact hb) hb0 b (by simp) hlt) ?_
  rintro out m1 wr1 hwr1 hw1 hn1 hf1 _ ⟨rfl, ov1, hr1, hk1⟩
  have hb1 : ∀ b, slBlk ov1 = some b → m.next + 1 ≤ b := fun b hb => by
    rcases hk1 b hb with h1 | h1
    · exact hb0 b h1
    · omega
  have hs1 := keepS _ _ _ hs0 hw0 hf1 hb0
  have row1 := keepR _ _ _ row0 hw0 hf1 hb0
  have hx1 : m.next + 1 ≤ m1.next := by omega
  have ok1 := step _ _ hwr1 hb0
  simp (maxSteps := 2000000) (disch := first | assumption | omega | (simp only [nx_push, nx_set, ne_eq] <;> omega) | (simp only [XSide, F56]; done) | decide) only [XWalk, XSl, ↓XPre, reduceIte, Nat.reduceEqDiff, Nat.reduceLT, Nat.reduceAdd, Nat.reduceSub, Nat.reduceMul, Nat.reduceBEq, reduceCtorEq, Int.reduceAdd, Int.reduceSub, Int.reduceMul, Int.reduceLT, Int.reduceLE, Int.reduceGT, Int.reduceGE, Int.reduceEq, Int.reduceNe, Int.reduceBEq, Int.reduceBNe, Int.reduceTMod, Int.reduceTDiv, ↓if_true, ↓if_false, F56, A56, ok1, row1, List.map_toArray, List.toList_toArray, List.singleton_append]
  refine wcall_of specLoc (wuint_ct hw1 (n := r) hr1 hx1 hr (by rw [List.nil_append]; omega)) hw1 (fun b hb hlt => step ov1 [b] (fun c hc => by simp at hc; subst hc; exact hb) hb1 b (by simp) hlt) ?_
  rintro out m2 wr2 hwr2 hw2 hn2 hf2 _ ⟨rfl, ov2, hr2, hk2⟩
  have hb2 : ∀ b, slBlk ov2 = some b → m.next + 1 ≤ b := fun b hb => by
    rcases hk2 b hb with h1 | h1
    · exact hb1 b h1
    · omega
  have hs2 := keepS _ _ _ hs1 hw1 hf2 hb1
  have row2 := keepR _ _ _ row1 hw1 hf2 hb1
  have hx2 : m.next + 1 ≤ m2.next := by omega
  have ok2 := step _ _ hwr2 hb1
  simp (maxSteps := 2000000) (disch := first | assumption | omega | (simp only [nx_push, nx_set, ne_eq] <;> omega) | (simp only [XSide, F56]; done) | decide) only [XWalk, XSl, ↓XPre, reduceIte, Nat.reduceEqDiff, Nat.reduceLT, Nat.reduceAdd, Nat.reduceSub, Nat.reduceMul, Nat.reduceBEq, reduceCtorEq, Int.reduceAdd, Int.reduceSub, Int.reduceMul, Int.reduceLT, Int.reduceLE, Int.reduceGT, Int.reduceGE, Int.reduceEq, Int.reduceNe, Int.reduceBEq, Int.reduceBNe, Int.reduceTMod, Int.reduceTDiv, ↓if_true, ↓if_false, F56, A56, ok2, row2, List.map_toArray, List.toList_toArray, List.singleton_append]
  refine wcall_of specLoc (wuint_ct hw2 (n := s) hr2 hx2 hs' (by simp only [List.nil_append, List.length_append]; omega)) hw2 (fun b hb hlt => step ov2 [b] (fun c hc => by simp at hc; subst hc; exact hb) hb2 b (by simp) hlt) ?_
  rintro out m3 wr3 hwr3 hw3 hn3 hf3 _ ⟨rfl, ov3, hr3, hk3⟩
  have hb3 : ∀ b, slBlk ov3 = some b → m.next + 1 ≤ b := fun b hb => by
    rcases hk3 b hb with h1 | h1
    · exact hb2 b h1
    · omega
  have hs3 := keepS _ _ _ hs2 hw2 hf3 hb2
  have row3 := keepR _ _ _ row2 hw2 hf3 hb2
  have hx3 : m.next + 1 ≤ m3.next := by omega
  have ok3 := step _ _ hwr3 hb2
  simp (maxSteps := 2000000) (disch := first | assumption | omega | (simp only [nx_push, nx_set, ne_eq] <;> omega) | (simp only [XSide, F56]; done) | decide) only [XWalk, XSl, ↓XPre, reduceIte, Nat.reduceEqDiff, Nat.reduceLT, Nat.reduceAdd, Nat.reduceSub, Nat.reduceMul, Nat.reduceBEq, reduceCtorEq, Int.reduceAdd, Int.reduceSub, Int.reduceMul, Int.reduceLT, Int.reduceLE, Int.reduceGT, Int.reduceGE, Int.reduceEq, Int.reduceNe, Int.reduceBEq, Int.reduceBNe, Int.reduceTMod, Int.reduceTDiv, ↓if_true, ↓if_false, F56, A56, ok3, row3, List.map_toArray, List.toList_toArray, List.singleton_append]
  refine wcall_of specLoc (wbytes_ct hw3 hr3 hs3 hx3 (by simp only [List.nil_append, List.length_append]; omega)) hw3 (fun b hb hlt => step ov3 [b] (fun c hc => by simp at hc; subst hc; exact hb) hb3 b (by simp) hlt) ?_
  rintro out m4 wr4 hwr4 hw4 hn4 hf4 _ ⟨rfl, ov4, hr4, hk4⟩
  have hb4 : ∀ b, slBlk ov4 = some b → m.next + 1 ≤ b := fun b hb => by
    rcases hk4 b hb with h1 | h1
    · exact hb3 b h1
    · omega
  have hs4 := keepS _ _ _ hs3 hw3 hf4 hb3
  have row4 := keepR _ _ _ row3 hw3 hf4 hb3
  have hx4 : m.next + 1 ≤ m4.next := by omega
  have ok4 := step _ _ hwr4 hb3
  simp (maxSteps := 2000000) (disch := first | assumption | omega | (simp only [nx_push, nx_set, ne_eq] <;> omega) | (simp only [XSide, F56]; done) | decide) only [XWalk, XSl, ↓XPre, reduceIte, Nat.reduceEqDiff, Nat.reduceLT, Nat.reduceAdd, Nat.reduceSub, Nat.reduceMul, Nat.reduceBEq, reduceCtorEq, Int.reduceAdd, Int.reduceSub, Int.reduceMul, Int.reduceLT, Int.reduceLE, Int.reduceGT, Int.reduceGE, Int.reduceEq, Int.reduceNe, Int.reduceBEq, Int.reduceBNe, Int.reduceTMod, Int.reduceTDiv, ↓if_true, ↓if_false, F56, A56, ok4, row4, List.map_toArray, List.toList_toArray, List.singleton_append]
  refine ⟨rfl, ov4, ⟨hr4.row, ?_, hr4.ne⟩, fun b hb => .inr (by have := hb4 b hb; omega)⟩
  have := hr4.app.mono (Nat.le_succ m.next)
  rw [List.nil_append] at this
  exact this

theorem signed_ct {m : Mem} (hw : WF m) {n S : List UInt8} {r s : Nat} {sv tv : Value} (hs : Bs m sv S) (ht : oneCell tv = true) (hr : r < 9223372036854775808) (hs' : s < 9223372036854775808) (hl : (signedB n r s S).length ≤ 65536) :
    Ct Tryz.prog S0 36 [envV n r s sv tv] m [] (Rv fun v m' => Ab m' m.next v (signedB n r s S)) := by
  have hone : [str n, .int .i64 (r : Int), .int .i64 (s : Int), sv, tv].all oneCell = true := by
    simp only [List.all_cons, List.all_nil, one_sl hs, ht, one_str, one_int, Bool.and_self]
  refine ct_x (spec0 _) (by rfl) Tryz.func36 rfl ?_
  simp (maxSteps := 2000000) (disch := first | assumption | omega | (simp only [nx_push, nx_set, ne_eq] <;> omega) | (simp only [XSide, F36]; done) | decide) only [XWalk, XSl, ↓XPre, reduceIte, Nat.reduceEqDiff, Nat.reduceLT, Nat.reduceAdd, Nat.reduceSub, Nat.reduceMul, Nat.reduceBEq, reduceCtorEq, Int.reduceAdd, Int.reduceSub, Int.reduceMul, Int.reduceLT, Int.reduceLE, Int.reduceGT, Int.reduceGE, Int.reduceEq, Int.reduceNe, Int.reduceBEq, Int.reduceBNe, Int.reduceTMod, Int.reduceTDiv, ↓if_true, ↓if_false, F36, A36, Tryz.ntmps36, XAcc]
  have hsl := fun b hb => hs.blk_lt (b := b) hw hb
  refine wcall_of specLoc (write_ct (n := n) (S := S) (r := r) (s := s) (sv := sv) (tv := tv) (by (repeat (first | exact hw | apply WF.push | (refine WF.set ?_ (by first | omega | (simp only [Mem.next_set, Mem.next_push]; omega)))))) (by rw [get_push_eq (by simp)]) ((hs.keep (Keep.push hw)).keep (Keep.push hw.push)) (fun e => by have := hsl _ e; omega) ht hr hs' hl) (by (repeat (first | exact hw | apply WF.push | (refine WF.set ?_ (by first | omega | (simp only [Mem.next_set, Mem.next_push]; omega)))))) (fun b hb hlt => by simp at hb; omega) ?_
  rintro out m1 wr hwr hw1 hn1 hf1 _ ⟨rfl, ov, hr1, hk1⟩
  simp only [Mem.next_push] at hn1 hf1
  have ok1 : OkW m.next [] wr := fun b hb hlt => by have := hwr b hb; simp at this; omega
  simp (maxSteps := 2000000) (disch := first | assumption | omega | (simp only [nx_push, nx_set, ne_eq] <;> omega) | (simp only [XSide, F36]; done) | decide) only [XWalk, XSl, ↓XPre, reduceIte, Nat.reduceEqDiff, Nat.reduceLT, Nat.reduceAdd, Nat.reduceSub, Nat.reduceMul, Nat.reduceBEq, reduceCtorEq, Int.reduceAdd, Int.reduceSub, Int.reduceMul, Int.reduceLT, Int.reduceLE, Int.reduceGT, Int.reduceGE, Int.reduceEq, Int.reduceNe, Int.reduceBEq, Int.reduceBNe, Int.reduceTMod, Int.reduceTDiv, ↓if_true, ↓if_false, F36, A36, ok1]
  refine wcall_v specLoc (wend_ct hw1 hr1 hl) hw1 ?_
  rintro v m2 hw2 hn2 f2 ⟨v', rfl, hv⟩
  simp (maxSteps := 2000000) (disch := first | assumption | omega | (simp only [nx_push, nx_set, ne_eq] <;> omega) | (simp only [XSide, F36]; done) | decide) only [XWalk, XSl, ↓XPre, reduceIte, Nat.reduceEqDiff, Nat.reduceLT, Nat.reduceAdd, Nat.reduceSub, Nat.reduceMul, Nat.reduceBEq, reduceCtorEq, Int.reduceAdd, Int.reduceSub, Int.reduceMul, Int.reduceLT, Int.reduceLE, Int.reduceGT, Int.reduceGE, Int.reduceEq, Int.reduceNe, Int.reduceBEq, Int.reduceBNe, Int.reduceTMod, Int.reduceTDiv, ↓if_true, ↓if_false, F36, A36]
  exact ⟨_, rfl, hv.mono (by omega)⟩

end Go.Big

/- Sealing: keys, streams. -/
set_option linter.unusedSimpArgs false
set_option linter.unusedVariables false
set_option maxRecDepth 100000
set_option maxHeartbeats 2000000
namespace Go.Big
open Go.Proofs

theorem derive_ct {m : Mem} (hw : WF m) {kv : Value} {key label : List UInt8} (hk : Bs m kv key) (lk : key.length = 32) (l1 : 1 ≤ label.length) (l2 : label.length ≤ 64) :
    Ct Tryz.prog S0 30 [kv, str label] m [] (Rv fun v m' => ∃ d, v = .tuple #[d, .int .i64 0] ∧ Bs m' d (blakeB key label)) := by
  refine ct_x (spec0 _) (by rfl) Tryz.func30 rfl ?_
  have e1 : ((label.length : Int) < 1) = False := by simp; omega
  have e2 : ((label.length : Int) > 64) = False := by simp; omega
  simp (maxSteps := 2000000) (disch := first | assumption | omega | (simp only [nx_push, nx_set, ne_eq] <;> omega) | (simp only [XSide, F30]; done) | decide) only [XWalk, XSl, ↓XPre, reduceIte, Nat.reduceEqDiff, Nat.reduceLT, Nat.reduceAdd, Nat.reduceSub, Nat.reduceMul, Nat.reduceBEq, reduceCtorEq, Int.reduceAdd, Int.reduceSub, Int.reduceMul, Int.reduceLT, Int.reduceLE, Int.reduceGT, Int.reduceGE, Int.reduceEq, Int.reduceNe, Int.reduceBEq, Int.reduceBNe, Int.reduceTMod, Int.reduceTDiv, ↓if_true, ↓if_false, F30, A30, Tryz.ntmps30, alen_bs hk, lk, cast_lit, e1, e2, aconv_str2]
  have hl : Bs (m.push (.row (u8s label) (.slack 1))) (.slice (some ⟨m.next, 0, none⟩) label.length label.length) label := .row get_push_self (by rw [List.drop_zero, List.take_of_length_le (by rw [u8s_length]; omega)]) (by rw [u8s_length]) (Nat.le_refl _) (fun s hs => by cases hs; exact ⟨rfl, by rw [u8s_length]; omega⟩)
  refine wcall_x specLoc (keyed_ct hw.push (hk.keep (Keep.push hw)) hl (by omega) (by omega)) hw.push ?_
  rintro out m1 hw1 hn1 f1 rfl
  rw [if_neg (show ¬ (key.length = 0 ∨ 32 < key.length) by omega)]
  have lb := blakeB_length (key := key) (d := label)
  have bq : Nat.beq (u8s (blakeB key label)).length 32 = true := by rw [u8s_length, lb]; rfl
  have hob : (u8s (blakeB key label)).all oneCell = true := u8s_one
  have sb : (u8s (blakeB key label)).length = 32 := by rw [u8s_length]; exact lb
  simp only [Mem.next_push] at hn1
  simp (maxSteps := 2000000) (disch := first | assumption | omega | (simp only [nx_push, nx_set, ne_eq] <;> omega) | (simp only [XSide, F30]; done) | decide) only [XWalk, XSl, ↓XPre, reduceIte, Nat.reduceEqDiff, Nat.reduceLT, Nat.reduceAdd, Nat.reduceSub, Nat.reduceMul, Nat.reduceBEq, reduceCtorEq, Int.reduceAdd, Int.reduceSub, Int.reduceMul, Int.reduceLT, Int.reduceLE, Int.reduceGT, Int.reduceGE, Int.reduceEq, Int.reduceNe, Int.reduceBEq, Int.reduceBNe, Int.reduceTMod, Int.reduceTDiv, ↓if_true, ↓if_false, F30, A30, XAcc, bq]
  exact ⟨_, rfl, _, rfl, agg_row get_set_self lb⟩

def be64 (i : Nat) : List UInt8 := [UInt8.ofNat (i / 72057594037927936), UInt8.ofNat (i / 281474976710656), UInt8.ofNat (i / 1099511627776), UInt8.ofNat (i / 4294967296), UInt8.ofNat (i / 16777216), UInt8.ofNat (i / 65536), UInt8.ofNat (i / 256), UInt8.ofNat i]
def streamN (own nonce : List UInt8) (k : Nat) : List UInt8 := (List.range k).flatMap fun i => blakeB own (nonce ++ be64 i)
def streamB (own nonce : List UInt8) (n : Nat) : List UInt8 := (streamN own nonce (n / 32 + 1)).take n

theorem streamN_succ {own nonce : List UInt8} {k : Nat} : streamN own nonce (k + 1) = streamN own nonce k ++ blakeB own (nonce ++ be64 k) := by
  simp [streamN, List.range_succ, List.flatMap_append]
theorem streamN_length {own nonce : List UInt8} {k : Nat} : (streamN own nonce k).length = 32 * k := by
  induction k with
  | zero => rfl
  | succ k ih => rw [streamN_succ, List.length_append, ih, blakeB_length]; omega
theorem streamN_take {own nonce : List UInt8} {n : Nat} : ∀ {k j : Nat}, n ≤ 32 * k → (streamN own nonce (k + j)).take n = (streamN own nonce k).take n
  | k, 0, h => rfl
  | k, j + 1, h => by
    rw [← Nat.add_assoc, streamN_succ, List.take_append_of_le_length (by rw [streamN_length]; omega)]
    exact streamN_take h

/-- Appending where there is room. -/
theorem append_buf {P : Program} {m : Mem} {aT : Array TypeId} {bytes : Nat} (h : appK P aT = some bytes) {b n c : Nat} {R new : List UInt8} {x : Value} (hm : m.get b = some (.row (u8s R) .rw)) (hx : Bs m x new) (hc : n + new.length ≤ c) (hR : c ≤ R.length) :
    aappend P aT (.slice (some ⟨b, 0, none⟩) n c) x m = some (.slice (some ⟨b, 0, none⟩) (n + new.length) c, (if new = [] then m else m.set b (.row (u8s (R.take n ++ new ++ R.drop (n + new.length))) .rw)), (if new = [] then [] else [b]), .all) := by
  have he := hx.elems
  rw [u8s_length] at he
  rw [aappend_of h he]
  by_cases hn : new = []
  · subst hn
    have e1 : Nat.ble n c = true := by rw [ble_dec]; simp at hc; simpa using hc
    simp [appendTo, e1]
  · have hnl : new.length ≠ 0 := by simpa using hn
    have hst : storeN (u8s R) (0 + n * 1) (u8s new) = some (u8s (R.take n ++ new ++ R.drop (n + new.length))) := by
      unfold storeN
      rw [show 0 + n * 1 = n from by omega, u8s_length, u8s_length, ble_dec, decide_eq_true (by omega), cond_true]
      simp only [u8s_append, u8s_take, u8s_drop]
    have e3 : Nat.ble (n + new.length) c = true := by rw [ble_dec]; simpa using hc
    simp only [appendTo, beq_dec, decide_eq_false hnl, Bool.false_and, cond_false, e3, cond_true, putCells, hm, writable_rw, u8s_one, Bool.and_self, hst, Option.map_some, if_neg hn]

/-- A slice of bytes of the call's own that can be written. -/
def Wb (m : Mem) (n0 : Nat) (v : Value) (l : List UInt8) : Prop := ∃ b c R, v = .slice (some ⟨b, 0, none⟩) l.length c ∧ n0 ≤ b ∧ m.get b = some (.row (u8s R) .rw) ∧ R.take l.length = l ∧ l.length ≤ c ∧ c ≤ R.length
theorem Wb.bs {m : Mem} {n0 : Nat} {v : Value} {l : List UInt8} (h : Wb m n0 v l) : Bs m v l := by
  obtain ⟨b, c, R, rfl, h1, h2, h3, h4, h5⟩ := h
  exact Sl.of_row h2 (by rw [List.drop_zero, u8s_take, h3]) (by rw [u8s_length]) h4

end Go.Big

/- Sealing: the key stream. -/
set_option linter.unusedSimpArgs false
set_option linter.unusedVariables false
set_option maxRecDepth 100000
set_option maxHeartbeats 4000000
namespace Go.Big
open Go.Proofs

def streamL : List UInt8 := [115, 116, 114, 101, 97, 109]
def tagL : List UInt8 := [116, 97, 103]

theorem be64_at {i : Nat} (n : Nat) (h : n ≤ 64) : shrK .u64 (i : Int) (n : Int) = ((i / 2 ^ n : Nat) : Int) := shrK_nat (k := .u64) (a := i) (n := n) h

theorem be64_row {k : Nat} : [Value.int .u8 (shrK .u64 (k : Int) 56 % 256), Value.int .u8 (shrK .u64 (k : Int) 48 % 256), Value.int .u8 (shrK .u64 (k : Int) 40 % 256), Value.int .u8 (shrK .u64 (k : Int) 32 % 256), Value.int .u8 (shrK .u64 (k : Int) 24 % 256), Value.int .u8 (shrK .u64 (k : Int) 16 % 256), Value.int .u8 (shrK .u64 (k : Int) 8 % 256), Value.int .u8 ((k : Int) % 256)] = u8s (be64 k) := by
  have h56 : shrK .u64 (k : Int) 56 = ((k / 72057594037927936 : Nat) : Int) := be64_at 56 (by omega)
  have h48 : shrK .u64 (k : Int) 48 = ((k / 281474976710656 : Nat) : Int) := be64_at 48 (by omega)
  have h40 : shrK .u64 (k : Int) 40 = ((k / 1099511627776 : Nat) : Int) := be64_at 40 (by omega)
  have h32 : shrK .u64 (k : Int) 32 = ((k / 4294967296 : Nat) : Int) := be64_at 32 (by omega)
  have h24 : shrK .u64 (k : Int) 24 = ((k / 16777216 : Nat) : Int) := be64_at 24 (by omega)
  have h16 : shrK .u64 (k : Int) 16 = ((k / 65536 : Nat) : Int) := be64_at 16 (by omega)
  have h8 : shrK .u64 (k : Int) 8 = ((k / 256 : Nat) : Int) := be64_at 8 (by omega)
  rw [h56, h48, h40, h32, h24, h16, h8]
  simp only [u8_mod]
  rfl

theorem aslice_hi_rw {P : Program} {m : Mem} {t : TypeId} {b off len cap h : Nat} {rs : List Value} {k : IntKind} (hm : m.get b = some (.row rs .rw)) (ht : idxSl P t = some 1) (hh : h ≤ cap) :
    aslice P t (.slice (some ⟨b, off, none⟩) len cap) none (some (.int k (h : Int))) none m = some (.slice (some ⟨b, off, none⟩) h cap) := by
  unfold idxSl at ht
  split at ht
  case h_2 => cases ht
  rename_i elem hu
  have hb : bounds len cap none (some (.int k (h : Int))) none = some (0, h, cap) := bounds_of rfl rfl (Nat.zero_le _) hh
  by_cases h0 : cap = 0
  · subst h0
    simp [aslice, hu, hb, ht, hm, isOpen, closedS]
  · have e4 : Nat.beq cap 0 = false := by rw [beq_dec]; simp [h0]
    simp [aslice, hu, hb, ht, hm, isOpen, closedS, e4, addr_add]

theorem stream_ct {m : Mem} (hw : WF m) {kv nv : Value} {key nonce : List UInt8} {n : Nat} (hk : Bs m kv key) (lk : key.length = 32) (hn : Bs m nv nonce) (ln : nonce.length = 16) (hnn : n ≤ 65504) :
    Ct Tryz.prog S0 102 [kv, nv, .int .i64 (n : Int)] m [] (Rv fun v m' => ∃ s, v = .tuple #[s, .int .i64 0] ∧ Wb m' m.next s (streamB (blakeB key streamL) nonce n)) := by
  refine ct_x (spec0 _) (by rfl) Tryz.func102 rfl ?_
  simp (maxSteps := 2000000) (disch := first | assumption | omega | (simp only [nx_push, nx_set, ne_eq] <;> omega) | (simp only [XSide, F102]; done) | decide) only [XWalk, XSl, ↓XPre, reduceIte, Nat.reduceEqDiff, Nat.reduceLT, Nat.reduceAdd, Nat.reduceSub, Nat.reduceMul, Nat.reduceBEq, reduceCtorEq, Int.reduceAdd, Int.reduceSub, Int.reduceMul, Int.reduceLT, Int.reduceLE, Int.reduceGT, Int.reduceGE, Int.reduceEq, Int.reduceNe, Int.reduceBEq, Int.reduceBNe, Int.reduceTMod, Int.reduceTDiv, ↓if_true, ↓if_false, F102, A102, Tryz.ntmps102]
  refine wcall_v specLoc (derive_ct (label := streamL) hw hk lk (by decide) (by decide)) hw ?_
  rintro v m1 hw1 hn1 f1 ⟨d, rfl, hd⟩
  have hno1 : Bs m1 nv nonce := hn.keep (keep_of hw f1)
  have e1 : ((n : Int) < 0) = False := by simp
  have e2 : ((n : Int) > 65504) = False := by simp; omega
  simp (maxSteps := 2000000) (disch := first | assumption | omega | (simp only [nx_push, nx_set, ne_eq] <;> omega) | (simp only [XSide, F102]; done) | decide) only [XWalk, XSl, ↓XPre, reduceIte, Nat.reduceEqDiff, Nat.reduceLT, Nat.reduceAdd, Nat.reduceSub, Nat.reduceMul, Nat.reduceBEq, reduceCtorEq, Int.reduceAdd, Int.reduceSub, Int.reduceMul, Int.reduceLT, Int.reduceLE, Int.reduceGT, Int.reduceGE, Int.reduceEq, Int.reduceNe, Int.reduceBEq, Int.reduceBNe, Int.reduceTMod, Int.reduceTDiv, ↓if_true, ↓if_false, F102, A102, alen_bs hno1, ln, cast_lit, e1, e2]
  refine wcall_x specLoc (hnew_ct hw1 hd (by rw [blakeB_length]; omega)) hw1 ?_
  intro out m2 hw2 hn2 f2 hr
  rw [if_neg (by rw [blakeB_length]; omega)] at hr
  obtain ⟨hp, rfl, hb, rfl, hbn, hh⟩ := hr
  rw [blakeB_length] at hh
  have hno2 : Bs m2 nv nonce := hno1.keep (keep_of hw1 f2)
  have hkb : keyBlock (blakeB key streamL) = pad64 (blakeB key streamL) := by
    rw [keyBlock, if_neg]
    intro e
    have := congrArg List.length e
    rw [blakeB_length] at this
    simp at this
  have lkb : (keyBlock (blakeB key streamL)).length = 64 := by rw [hkb, pad64, List.length_append, List.length_replicate, blakeB_length]
  have hblt := hh.lt hw2
  simp (maxSteps := 2000000) (disch := first | assumption | omega | (simp only [nx_push, nx_set, ne_eq] <;> omega) | (simp only [XSide, F102]; done) | decide) only [XWalk, XSl, ↓XPre, reduceIte, Nat.reduceEqDiff, Nat.reduceLT, Nat.reduceAdd, Nat.reduceSub, Nat.reduceMul, Nat.reduceBEq, reduceCtorEq, Int.reduceAdd, Int.reduceSub, Int.reduceMul, Int.reduceLT, Int.reduceLE, Int.reduceGT, Int.reduceGE, Int.reduceEq, Int.reduceNe, Int.reduceBEq, Int.reduceBNe, Int.reduceTMod, Int.reduceTDiv, ↓if_true, ↓if_false, F102, A102]
  refine wcall_of specLoc (hwrite_ct hw2 hh hno2 (fun e => by have := hno1.blk_lt hw1 e; omega) (by omega)) hw2 (fun b hb' hlt => by simp at hb'; omega) ?_
  rintro out m3 wr hwr hw3 hn3 hf3 _ ⟨rfl, hh3⟩
  have ok3 : OkW m.next [] wr := fun b hb' hlt => by have := hwr b hb'; simp at this; omega
  have e3 : IntKind.wrap .i64 ((n : Int) + 32) = ((n + 32 : Nat) : Int) := by rw [wrap_i64 (by omega) (by omega)]; omega
  have hmk : ∀ m' : Mem, amkS Tryz.prog 22 (.int .i64 0) (.int .i64 ((n + 32 : Nat) : Int)) m' = _ := fun m' => amkS_bytes (l := 0) (c := n + 32) (show mkK Tryz.prog 22 = true by kernel_rfl) (by omega) (by omega)
  simp (maxSteps := 2000000) (disch := first | assumption | omega | (simp only [nx_push, nx_set, ne_eq] <;> omega) | (simp only [XSide, F102]; done) | decide) only [XWalk, XSl, ↓XPre, reduceIte, Nat.reduceEqDiff, Nat.reduceLT, Nat.reduceAdd, Nat.reduceSub, Nat.reduceMul, Nat.reduceBEq, reduceCtorEq, Int.reduceAdd, Int.reduceSub, Int.reduceMul, Int.reduceLT, Int.reduceLE, Int.reduceGT, Int.reduceGE, Int.reduceEq, Int.reduceNe, Int.reduceBEq, Int.reduceBNe, Int.reduceTMod, Int.reduceTDiv, ↓if_true, ↓if_false, F102, A102, ok3, e3, hmk]
  refine x_loop (fun q e m4 => ∃ k R, 32 * k ≤ n + 31 ∧ q + 32 * k = n + 31 ∧ e.n = 95 ∧ e.get 2 = .int .i64 (n : Int) ∧ e.get 10 = .pointer (some ⟨hb, 0, none⟩) ∧ e.get 11 = .slice (some ⟨m3.next, 0, none⟩) (32 * k) (n + 32) ∧ e.get 12 = .int .u64 ((k : Nat) : Int) ∧ WF m4 ∧ m3.next < m4.next ∧
    HashAt m4 hb (key0 32) (keyBlock (blakeB key streamL) ++ nonce) ∧ m4.get m3.next = some (.row (u8s R) .rw) ∧ R.length = n + 32 ∧ R.take (32 * k) = streamN (blakeB key streamL) nonce k) (n + 31)
    ⟨0, List.replicate (n + 32) 0, by omega, by omega, by simp (maxSteps := 2000000) (disch := first | assumption | omega | (simp only [nx_push, nx_set, ne_eq] <;> omega) | (simp only [XSide]; done) | decide) only [XWalk, XSl, ↓XPre, reduceIte, Nat.reduceEqDiff, Nat.reduceLT, Nat.reduceAdd, Nat.reduceSub, Nat.reduceMul, Nat.reduceBEq, reduceCtorEq, Int.reduceAdd, Int.reduceSub, Int.reduceMul, Int.reduceLT, Int.reduceLE, Int.reduceGT, Int.reduceGE, Int.reduceEq, Int.reduceNe, Int.reduceBEq, Int.reduceBNe, Int.reduceTMod, Int.reduceTDiv, ↓if_true, ↓if_false], by simp (maxSteps := 2000000) (disch := first | assumption | omega | (simp only [nx_push, nx_set, ne_eq] <;> omega) | (simp only [XSide]; done) | decide) only [XWalk, XSl, ↓XPre, reduceIte, Nat.reduceEqDiff, Nat.reduceLT, Nat.reduceAdd, Nat.reduceSub, Nat.reduceMul, Nat.reduceBEq, reduceCtorEq, Int.reduceAdd, Int.reduceSub, Int.reduceMul, Int.reduceLT, Int.reduceLE, Int.reduceGT, Int.reduceGE, Int.reduceEq, Int.reduceNe, Int.reduceBEq, Int.reduceBNe, Int.reduceTMod, Int.reduceTDiv, ↓if_true, ↓if_false], by simp (maxSteps := 2000000) (disch := first | assumption | omega | (simp only [nx_push, nx_set, ne_eq] <;> omega) | (simp only [XSide]; done) | decide) only [XWalk, XSl, ↓XPre, reduceIte, Nat.reduceEqDiff, Nat.reduceLT, Nat.reduceAdd, Nat.reduceSub, Nat.reduceMul, Nat.reduceBEq, reduceCtorEq, Int.reduceAdd, Int.reduceSub, Int.reduceMul, Int.reduceLT, Int.reduceLE, Int.reduceGT, Int.reduceGE, Int.reduceEq, Int.reduceNe, Int.reduceBEq, Int.reduceBNe, Int.reduceTMod, Int.reduceTDiv, ↓if_true, ↓if_false], by simp (maxSteps := 2000000) (disch := first | assumption | omega | (simp only [nx_push, nx_set, ne_eq] <;> omega) | (simp only [XSide]; done) | decide) only [XWalk, XSl, ↓XPre, reduceIte, Nat.reduceEqDiff, Nat.reduceLT, Nat.reduceAdd, Nat.reduceSub, Nat.reduceMul, Nat.reduceBEq, reduceCtorEq, Int.reduceAdd, Int.reduceSub, Int.reduceMul, Int.reduceLT, Int.reduceLE, Int.reduceGT, Int.reduceGE, Int.reduceEq, Int.reduceNe, Int.reduceBEq, Int.reduceBNe, Int.reduceTMod, Int.reduceTDiv, ↓if_true, ↓if_false], by simp (maxSteps := 2000000) (disch := first | assumption | omega | (simp only [nx_push, nx_set, ne_eq] <;> omega) | (simp only [XSide]; done) | decide) only [XWalk, XSl, ↓XPre, reduceIte, Nat.reduceEqDiff, Nat.reduceLT, Nat.reduceAdd, Nat.reduceSub, Nat.reduceMul, Nat.reduceBEq, reduceCtorEq, Int.reduceAdd, Int.reduceSub, Int.reduceMul, Int.reduceLT, Int.reduceLE, Int.reduceGT, Int.reduceGE, Int.reduceEq, Int.reduceNe, Int.reduceBEq, Int.reduceBNe, Int.reduceTMod, Int.reduceTDiv, ↓if_true, ↓if_false]; rfl, hw3.push, by simp, hh3.frame (by rw [get_push_ne (by omega)]), get_push_self, by simp, by simp [streamN]⟩ ?_
  rintro q e m4 ⟨k, R, hkn, hq, he, q2, q10, q11, q12, hw4, hn4, hh4, hm4, lR, hR⟩
  have hb3 : hb < m3.next := by omega
  simp (maxSteps := 2000000) (disch := first | assumption | omega | (simp only [nx_push, nx_set, ne_eq] <;> omega) | (simp only [XSide, F102]; done) | decide) only [XWalk, XSl, ↓XPre, reduceIte, Nat.reduceEqDiff, Nat.reduceLT, Nat.reduceAdd, Nat.reduceSub, Nat.reduceMul, Nat.reduceBEq, reduceCtorEq, Int.reduceAdd, Int.reduceSub, Int.reduceMul, Int.reduceLT, Int.reduceLE, Int.reduceGT, Int.reduceGE, Int.reduceEq, Int.reduceNe, Int.reduceBEq, Int.reduceBNe, Int.reduceTMod, Int.reduceTDiv, ↓if_true, ↓if_false, F102, A102, he, q2, q11]
  refine x_if (fun ht => ?_) (fun ht => ?_)
  · have hlt : 32 * k < n := by have := of_decide_eq_true ht; omega
    simp (maxSteps := 2000000) (disch := first | assumption | omega | (simp only [nx_push, nx_set, ne_eq] <;> omega) | (simp only [XSide, F102]; done) | decide) only [XWalk, XSl, ↓XPre, reduceIte, Nat.reduceEqDiff, Nat.reduceLT, Nat.reduceAdd, Nat.reduceSub, Nat.reduceMul, Nat.reduceBEq, reduceCtorEq, Int.reduceAdd, Int.reduceSub, Int.reduceMul, Int.reduceLT, Int.reduceLE, Int.reduceGT, Int.reduceGE, Int.reduceEq, Int.reduceNe, Int.reduceBEq, Int.reduceBNe, Int.reduceTMod, Int.reduceTDiv, ↓if_true, ↓if_false, F102, A102, he, q10]
    refine wcall_v specLoc (hcopy_ct hw4 hh4) hw4 ?_
    rintro v m5 hw5 hn5 f5 ⟨hc, rfl, hcn, hh5⟩
    have hclt := hh5.lt hw5
    simp (maxSteps := 2000000) (disch := first | assumption | omega | (simp only [nx_push, nx_set, ne_eq] <;> omega) | (simp only [XSide, F102]; done) | decide) only [XWalk, XSl, ↓XPre, reduceIte, Nat.reduceEqDiff, Nat.reduceLT, Nat.reduceAdd, Nat.reduceSub, Nat.reduceMul, Nat.reduceBEq, reduceCtorEq, Int.reduceAdd, Int.reduceSub, Int.reduceMul, Int.reduceLT, Int.reduceLE, Int.reduceGT, Int.reduceGE, Int.reduceEq, Int.reduceNe, Int.reduceBEq, Int.reduceBNe, Int.reduceTMod, Int.reduceTDiv, ↓if_true, ↓if_false, F102, A102, he, q12]
    rw [be64_row]
    have hb8 : Bs (m5.push (.row (u8s (be64 k)) .rw)) (.slice (some ⟨m5.next, 0, none⟩) 8 8) (be64 k) := Sl.of_row get_push_self rfl rfl (Nat.le_refl _)
    refine wcall_of specLoc (hwrite_ct (k := key0 32) (p := keyBlock (blakeB key streamL) ++ nonce) (l := be64 k) hw5.push (hh5.frame (by rw [get_push_ne (by omega)])) hb8 (by simp [slBlk]; omega) (by rw [List.length_append, lkb, ln]; simp [be64])) hw5.push (fun b hb' hlt => by simp at hb'; omega) ?_
    rintro out m6 wr6 hwr6 hw6 hn6 hf6 _ ⟨rfl, hh6⟩
    simp only [Mem.next_push] at hn6 hf6
    have ok6 : OkW m.next [] wr6 := fun b hb' hlt => by have := hwr6 b hb'; simp at this; omega
    simp (maxSteps := 2000000) (disch := first | assumption | omega | (simp only [nx_push, nx_set, ne_eq] <;> omega) | (simp only [XSide, F102]; done) | decide) only [XWalk, XSl, ↓XPre, reduceIte, Nat.reduceEqDiff, Nat.reduceLT, Nat.reduceAdd, Nat.reduceSub, Nat.reduceMul, Nat.reduceBEq, reduceCtorEq, Int.reduceAdd, Int.reduceSub, Int.reduceMul, Int.reduceLT, Int.reduceLE, Int.reduceGT, Int.reduceGE, Int.reduceEq, Int.reduceNe, Int.reduceBEq, Int.reduceBNe, Int.reduceTMod, Int.reduceTDiv, ↓if_true, ↓if_false, F102, A102, ok6, he]
    refine wcall_x specLoc (hsum_ct hw6 hh6 (by rw [List.length_append, List.length_append, lkb, ln]; simp [be64])) hw6 ?_
    rintro out m7 hw7 hn7 f7 rfl
    have hbl : wordsB (hashFin (key0 32) 0 (keyBlock (blakeB key streamL) ++ nonce ++ be64 k)) = blakeB (blakeB key streamL) (nonce ++ be64 k) := by
      rw [List.append_assoc]
      show _ = wordsB (hashFin (key0 (blakeB key streamL).length) 0 (keyBlock (blakeB key streamL) ++ (nonce ++ be64 k)))
      rw [blakeB_length]
    rw [hbl]
    have lbl : (blakeB (blakeB key streamL) (nonce ++ be64 k)).length = 32 := blakeB_length
    generalize hB : blakeB (blakeB key streamL) (nonce ++ be64 k) = B at *
    have bq : Nat.beq (u8s B).length 32 = true := by rw [u8s_length, lbl]; rfl
    have hob : (u8s B).all oneCell = true := u8s_one
    have sb : (u8s B).length = 32 := by rw [u8s_length]; exact lbl
    have hm7 : m7.get m3.next = some (.row (u8s R) .rw) := by rw [f7 _ (by omega), hf6 _ (by omega) (by simp; omega), get_push_ne (by omega), f5 _ (by omega)]; exact hm4
    have hh7 : HashAt m7 hb (key0 32) (keyBlock (blakeB key streamL) ++ nonce) := hh4.frame (by rw [f7 _ (by omega), hf6 _ (by omega) (by simp; omega), get_push_ne (by omega), f5 _ (by omega)])
    simp (maxSteps := 2000000) (disch := first | assumption | omega | (simp only [nx_push, nx_set, ne_eq] <;> omega) | (simp only [XSide, F102]; done) | decide) only [XWalk, XSl, ↓XPre, reduceIte, Nat.reduceEqDiff, Nat.reduceLT, Nat.reduceAdd, Nat.reduceSub, Nat.reduceMul, Nat.reduceBEq, reduceCtorEq, Int.reduceAdd, Int.reduceSub, Int.reduceMul, Int.reduceLT, Int.reduceLE, Int.reduceGT, Int.reduceGE, Int.reduceEq, Int.reduceNe, Int.reduceBEq, Int.reduceBNe, Int.reduceTMod, Int.reduceTDiv, ↓if_true, ↓if_false, F102, A102, he, bq, q11]
    have hsl : Bs ((m7.push (.row (u8s (List.replicate 32 0)) .rw)).set m7.next (.row (u8s B) .rw)) (.slice (some ⟨m7.next, 0, none⟩) 32 32) B := agg_row get_set_self lbl
    have hBn : B ≠ [] := by rintro rfl; simp at lbl
    have hap := append_buf (P := Tryz.prog) (aT := #[22, 22]) (bytes := 1) (b := m3.next) (n := 32 * k) (c := n + 32) (R := R) (by simp only [F102]) (by rw [get_set_ne (by omega), get_push_ne (by omega)]; exact hm7) hsl (by rw [lbl]; omega) (by omega)
    rw [if_neg hBn, if_neg hBn, lbl] at hap
    have hzl : u8s (List.replicate 32 0) = [Value.int .u8 0, Value.int .u8 0, Value.int .u8 0, Value.int .u8 0, Value.int .u8 0, Value.int .u8 0, Value.int .u8 0, Value.int .u8 0, Value.int .u8 0, Value.int .u8 0, Value.int .u8 0, Value.int .u8 0, Value.int .u8 0, Value.int .u8 0, Value.int .u8 0, Value.int .u8 0, Value.int .u8 0, Value.int .u8 0, Value.int .u8 0, Value.int .u8 0, Value.int .u8 0, Value.int .u8 0, Value.int .u8 0, Value.int .u8 0, Value.int .u8 0, Value.int .u8 0, Value.int .u8 0, Value.int .u8 0, Value.int .u8 0, Value.int .u8 0, Value.int .u8 0, Value.int .u8 0] := rfl
    rw [hzl] at hap
    have e4 : IntKind.wrap .u64 ((k : Int) + 1) = ((k + 1 : Nat) : Int) := by rw [wrap_u64 (by omega) (by omega)]; omega
    have ok7 : OkW m.next [] [m3.next] := OkW.fresh (by omega)
    simp (maxSteps := 2000000) (disch := first | assumption | omega | (simp only [nx_push, nx_set, ne_eq] <;> omega) | (simp only [XSide, F102]; done) | decide) only [XWalk, XSl, ↓XPre, reduceIte, Nat.reduceEqDiff, Nat.reduceLT, Nat.reduceAdd, Nat.reduceSub, Nat.reduceMul, Nat.reduceBEq, reduceCtorEq, Int.reduceAdd, Int.reduceSub, Int.reduceMul, Int.reduceLT, Int.reduceLE, Int.reduceGT, Int.reduceGE, Int.reduceEq, Int.reduceNe, Int.reduceBEq, Int.reduceBNe, Int.reduceTMod, Int.reduceTDiv, ↓if_true, ↓if_false, F102, A102, hap, he, q2, q10, q12, e4, ok7]
    refine ⟨q - 32, by omega, k + 1, R.take (32 * k) ++ B ++ R.drop (32 * k + 32), by omega, by omega, by rw [show 32 * (k + 1) = 32 * k + 32 from by omega], rfl, by (repeat (first | exact hw7 | apply WF.push | (refine WF.set ?_ (by first | omega | (simp only [Mem.next_set, Mem.next_push]; omega))))), by omega, hh7.frame (by rw [get_set_ne (by omega), get_set_ne (by omega), get_push_ne (by omega)]), rfl, ?_, ?_⟩
    · rw [List.length_append, List.length_append, List.length_take, List.length_drop, lbl, lR]; omega
    · rw [streamN_succ, hB, ← hR, List.take_left' (by rw [List.length_append, List.length_take, lbl, lR]; omega)]
  · have hge : n ≤ 32 * k := by have := of_decide_eq_false ht; omega
    simp (maxSteps := 2000000) (disch := first | assumption | omega | (simp only [nx_push, nx_set, ne_eq] <;> omega) | (simp only [XSide, F102]; done) | decide) only [XWalk, XSl, ↓XPre, reduceIte, Nat.reduceEqDiff, Nat.reduceLT, Nat.reduceAdd, Nat.reduceSub, Nat.reduceMul, Nat.reduceBEq, reduceCtorEq, Int.reduceAdd, Int.reduceSub, Int.reduceMul, Int.reduceLT, Int.reduceLE, Int.reduceGT, Int.reduceGE, Int.reduceEq, Int.reduceNe, Int.reduceBEq, Int.reduceBNe, Int.reduceTMod, Int.reduceTDiv, ↓if_true, ↓if_false, F102, A102, he, q2, q11, aslice_hi_rw hm4 (show idxSl Tryz.prog 22 = some 1 by simp only [F102]) (show n ≤ n + 32 by omega)]
    refine ⟨_, rfl, _, rfl, ?_⟩
    have hS : streamB (blakeB key streamL) nonce n = R.take n := by
      have h1 : (streamN (blakeB key streamL) nonce (n / 32 + 1)).take n = (streamN (blakeB key streamL) nonce k).take n := by
        obtain ⟨j, hj⟩ : ∃ j, n / 32 + 1 = k + j := ⟨n / 32 + 1 - k, by omega⟩
        rw [hj]
        exact streamN_take hge
      rw [streamB, h1, ← hR, List.take_take, Nat.min_eq_left hge]
    have hSl : (R.take n).length = n := by rw [List.length_take, lR]; omega
    rw [hS]
    refine ⟨m3.next, n + 32, R, by rw [hSl], by omega, hm4, by rw [hSl], by rw [hSl]; omega, by omega⟩

end Go.Big

/- Sealing: with the stream; tags. -/
set_option linter.unusedSimpArgs false
set_option linter.unusedVariables false
set_option maxRecDepth 100000
set_option maxHeartbeats 4000000
namespace Go.Big
open Go.Proofs

theorem u8s_ne {l : List UInt8} (h : 0 < l.length) : u8s l ≠ [] := fun e => by
  have := congrArg List.length e
  rw [u8s_length] at this
  have h0 : l.length = 0 := this
  omega
def xorB (s b : List UInt8) : List UInt8 := List.zipWith (fun x y => x ^^^ y) s b

theorem u8s_at {l : List UInt8} {i : Nat} (h : i < l.length) : (u8s l)[i]? = some (.int .u8 ((l[i]).toNat : Int)) := u8s_get (List.getElem?_eq_getElem h)
theorem u8s_set {l : List UInt8} {i : Nat} {x : UInt8} : (u8s l).set i (.int .u8 (x.toNat : Int)) = u8s (l.set i x) := by simp [u8s, List.map_set]

theorem streamB_length {own nonce : List UInt8} {n : Nat} : (streamB own nonce n).length = n := by
  rw [streamB, List.length_take, streamN_length]; omega

theorem xored_ct {m : Mem} (hw : WF m) {kv nv bv : Value} {key nonce b : List UInt8} (hk : Bs m kv key) (lk : key.length = 32) (hn : Bs m nv nonce) (ln : nonce.length = 16) (hb : Bs m bv b) (hbl : b.length ≤ 65504) :
    Ct Tryz.prog S0 70 [kv, nv, bv] m [] (Rv fun v m' => ∃ s, v = .tuple #[s, .int .i64 0] ∧ Wb m' m.next s (xorB (streamB (blakeB key streamL) nonce b.length) b)) := by
  refine ct_x (spec0 _) (by rfl) Tryz.func70 rfl ?_
  simp (maxSteps := 2000000) (disch := first | assumption | omega | (simp only [nx_push, nx_set, ne_eq] <;> omega) | (simp only [XSide, F70]; done) | decide) only [XWalk, XSl, ↓XPre, reduceIte, Nat.reduceEqDiff, Nat.reduceLT, Nat.reduceAdd, Nat.reduceSub, Nat.reduceMul, Nat.reduceBEq, reduceCtorEq, Int.reduceAdd, Int.reduceSub, Int.reduceMul, Int.reduceLT, Int.reduceLE, Int.reduceGT, Int.reduceGE, Int.reduceEq, Int.reduceNe, Int.reduceBEq, Int.reduceBNe, Int.reduceTMod, Int.reduceTDiv, ↓if_true, ↓if_false, F70, A70, Tryz.ntmps70, alen_bs hb]
  refine wcall_v specLoc (stream_ct hw hk lk hn ln hbl) hw ?_
  rintro v m1 hw1 hn1 f1 ⟨sv, rfl, hs⟩
  have hb1 : Bs m1 bv b := hb.keep (keep_of hw f1)
  have ls : (streamB (blakeB key streamL) nonce b.length).length = b.length := streamB_length
  generalize streamB (blakeB key streamL) nonce b.length = S at *
  obtain ⟨sb, sc, R, rfl, hsb, hm1, hR, hc1, hc2⟩ := hs
  have hsl : sb < m1.next := hw1.lt (by rw [hm1]; simp)
  rw [ls] at hR hc1
  simp (maxSteps := 2000000) (disch := first | assumption | omega | (simp only [nx_push, nx_set, ne_eq] <;> omega) | (simp only [XSide, F70]; done) | decide) only [XWalk, XSl, ↓XPre, reduceIte, Nat.reduceEqDiff, Nat.reduceLT, Nat.reduceAdd, Nat.reduceSub, Nat.reduceMul, Nat.reduceBEq, reduceCtorEq, Int.reduceAdd, Int.reduceSub, Int.reduceMul, Int.reduceLT, Int.reduceLE, Int.reduceGT, Int.reduceGE, Int.reduceEq, Int.reduceNe, Int.reduceBEq, Int.reduceBNe, Int.reduceTMod, Int.reduceTDiv, ↓if_true, ↓if_false, F70, A70, ls]
  refine x_loop (fun q e m4 => ∃ i Ri, i + q = b.length ∧ e.n = 37 ∧ e.get 2 = bv ∧ e.get 8 = .slice (some ⟨sb, 0, none⟩) b.length sc ∧ e.get 9 = .int .i64 0 ∧ e.get 20 = .int .i64 (b.length : Int) ∧ e.get 21 = .int .i64 ((i : Nat) : Int) ∧ WF m4 ∧ m4.next = m1.next ∧ (∀ c, c ≠ sb → m4.get c = m1.get c) ∧
    m4.get sb = some (.row (u8s Ri) .rw) ∧ Ri.length = R.length ∧ ∀ j (hj : j < b.length), Ri[j]? = some (if j < i then S[j]'(by omega) ^^^ b[j] else S[j]'(by omega))) b.length
    ⟨0, R, by omega, by simp (maxSteps := 2000000) (disch := first | assumption | omega | (simp only [nx_push, nx_set, ne_eq] <;> omega) | (simp only [XSide]; done) | decide) only [XWalk, XSl, ↓XPre, reduceIte, Nat.reduceEqDiff, Nat.reduceLT, Nat.reduceAdd, Nat.reduceSub, Nat.reduceMul, Nat.reduceBEq, reduceCtorEq, Int.reduceAdd, Int.reduceSub, Int.reduceMul, Int.reduceLT, Int.reduceLE, Int.reduceGT, Int.reduceGE, Int.reduceEq, Int.reduceNe, Int.reduceBEq, Int.reduceBNe, Int.reduceTMod, Int.reduceTDiv, ↓if_true, ↓if_false], by simp (maxSteps := 2000000) (disch := first | assumption | omega | (simp only [nx_push, nx_set, ne_eq] <;> omega) | (simp only [XSide]; done) | decide) only [XWalk, XSl, ↓XPre, reduceIte, Nat.reduceEqDiff, Nat.reduceLT, Nat.reduceAdd, Nat.reduceSub, Nat.reduceMul, Nat.reduceBEq, reduceCtorEq, Int.reduceAdd, Int.reduceSub, Int.reduceMul, Int.reduceLT, Int.reduceLE, Int.reduceGT, Int.reduceGE, Int.reduceEq, Int.reduceNe, Int.reduceBEq, Int.reduceBNe, Int.reduceTMod, Int.reduceTDiv, ↓if_true, ↓if_false], by simp (maxSteps := 2000000) (disch := first | assumption | omega | (simp only [nx_push, nx_set, ne_eq] <;> omega) | (simp only [XSide]; done) | decide) only [XWalk, XSl, ↓XPre, reduceIte, Nat.reduceEqDiff, Nat.reduceLT, Nat.reduceAdd, Nat.reduceSub, Nat.reduceMul, Nat.reduceBEq, reduceCtorEq, Int.reduceAdd, Int.reduceSub, Int.reduceMul, Int.reduceLT, Int.reduceLE, Int.reduceGT, Int.reduceGE, Int.reduceEq, Int.reduceNe, Int.reduceBEq, Int.reduceBNe, Int.reduceTMod, Int.reduceTDiv, ↓if_true, ↓if_false], by simp (maxSteps := 2000000) (disch := first | assumption | omega | (simp only [nx_push, nx_set, ne_eq] <;> omega) | (simp only [XSide]; done) | decide) only [XWalk, XSl, ↓XPre, reduceIte, Nat.reduceEqDiff, Nat.reduceLT, Nat.reduceAdd, Nat.reduceSub, Nat.reduceMul, Nat.reduceBEq, reduceCtorEq, Int.reduceAdd, Int.reduceSub, Int.reduceMul, Int.reduceLT, Int.reduceLE, Int.reduceGT, Int.reduceGE, Int.reduceEq, Int.reduceNe, Int.reduceBEq, Int.reduceBNe, Int.reduceTMod, Int.reduceTDiv, ↓if_true, ↓if_false], by simp (maxSteps := 2000000) (disch := first | assumption | omega | (simp only [nx_push, nx_set, ne_eq] <;> omega) | (simp only [XSide]; done) | decide) only [XWalk, XSl, ↓XPre, reduceIte, Nat.reduceEqDiff, Nat.reduceLT, Nat.reduceAdd, Nat.reduceSub, Nat.reduceMul, Nat.reduceBEq, reduceCtorEq, Int.reduceAdd, Int.reduceSub, Int.reduceMul, Int.reduceLT, Int.reduceLE, Int.reduceGT, Int.reduceGE, Int.reduceEq, Int.reduceNe, Int.reduceBEq, Int.reduceBNe, Int.reduceTMod, Int.reduceTDiv, ↓if_true, ↓if_false], by simp (maxSteps := 2000000) (disch := first | assumption | omega | (simp only [nx_push, nx_set, ne_eq] <;> omega) | (simp only [XSide]; done) | decide) only [XWalk, XSl, ↓XPre, reduceIte, Nat.reduceEqDiff, Nat.reduceLT, Nat.reduceAdd, Nat.reduceSub, Nat.reduceMul, Nat.reduceBEq, reduceCtorEq, Int.reduceAdd, Int.reduceSub, Int.reduceMul, Int.reduceLT, Int.reduceLE, Int.reduceGT, Int.reduceGE, Int.reduceEq, Int.reduceNe, Int.reduceBEq, Int.reduceBNe, Int.reduceTMod, Int.reduceTDiv, ↓if_true, ↓if_false]; rfl, hw1, rfl, fun _ _ => rfl, hm1, rfl, fun j hj => ?_⟩ ?_
  · rw [if_neg (by omega)]
    have : R[j]? = (R.take b.length)[j]? := by rw [List.getElem?_take, if_pos hj]
    rw [this, hR]
    exact List.getElem?_eq_getElem _
  rintro q e m4 ⟨i, Ri, hi, he, q2, q8, q9, q20, q21, hw4, hn4, hf4, hm4, lRi, hRi⟩
  simp (maxSteps := 2000000) (disch := first | assumption | omega | (simp only [nx_push, nx_set, ne_eq] <;> omega) | (simp only [XSide, F70]; done) | decide) only [XWalk, XSl, ↓XPre, reduceIte, Nat.reduceEqDiff, Nat.reduceLT, Nat.reduceAdd, Nat.reduceSub, Nat.reduceMul, Nat.reduceBEq, reduceCtorEq, Int.reduceAdd, Int.reduceSub, Int.reduceMul, Int.reduceLT, Int.reduceLE, Int.reduceGT, Int.reduceGE, Int.reduceEq, Int.reduceNe, Int.reduceBEq, Int.reduceBNe, Int.reduceTMod, Int.reduceTDiv, ↓if_true, ↓if_false, F70, A70, he, q20, q21]
  refine x_if (fun ht => ?_) (fun ht => ?_)
  · have hk' : i < b.length := by have := of_decide_eq_true ht; omega
    have hb4 : Bs m4 bv b := hb1.frame_at fun c hc => hf4 c (by have := hb.blk_lt hw hc; omega)
    obtain ⟨bb, off, c, rs, k, hbv, hbm, hbr, hbc, hbk⟩ := hb4.inv (by intro e; have := congrArg List.length e; rw [u8s_length] at this; simp at this; subst this; simp at hk')
    rw [u8s_length] at hbv hbr
    have hbi : rs[off + i]? = some (.int .u8 ((b[i]).toNat : Int)) := by rw [take_drop_get hbr (by rw [u8s_length]; exact hk')]; exact u8s_at hk'
    have hRi' : i < Ri.length := by omega
    have hri := hRi i hk'
    rw [if_neg (by omega)] at hri
    have hsi : (u8s Ri)[i]? = some (.int .u8 ((S[i]'(by omega)).toNat : Int)) := u8s_get hri
    have e2 : IntKind.wrap .i64 ((i : Int) + 1) = ((i + 1 : Nat) : Int) := by rw [wrap_i64 (by omega) (by omega)]; omega
    simp (maxSteps := 2000000) (disch := first | assumption | omega | (simp only [nx_push, nx_set, ne_eq] <;> omega) | (simp only [XSide, F70]; done) | decide) only [XWalk, XSl, ↓XPre, reduceIte, Nat.reduceEqDiff, Nat.reduceLT, Nat.reduceAdd, Nat.reduceSub, Nat.reduceMul, Nat.reduceBEq, reduceCtorEq, Int.reduceAdd, Int.reduceSub, Int.reduceMul, Int.reduceLT, Int.reduceLE, Int.reduceGT, Int.reduceGE, Int.reduceEq, Int.reduceNe, Int.reduceBEq, Int.reduceBNe, Int.reduceTMod, Int.reduceTDiv, ↓if_true, ↓if_false, F70, A70, he, q2, q8, q9, q20, q21]
    refine x_draw [0, 0, 3, 7, 0, 0, 48, 112, 255, 511, 1023] (by kernel_rfl) ?_
    simp (maxSteps := 2000000) (disch := first | assumption | omega | (simp only [nx_push, nx_set, ne_eq] <;> omega) | (simp only [XSide, F70]; done) | decide) only [XWalk, XSl, ↓XPre, reduceIte, Nat.reduceEqDiff, Nat.reduceLT, Nat.reduceAdd, Nat.reduceSub, Nat.reduceMul, Nat.reduceBEq, reduceCtorEq, Int.reduceAdd, Int.reduceSub, Int.reduceMul, Int.reduceLT, Int.reduceLE, Int.reduceGT, Int.reduceGE, Int.reduceEq, Int.reduceNe, Int.reduceBEq, Int.reduceBNe, Int.reduceTMod, Int.reduceTDiv, ↓if_true, ↓if_false, F70, A70, he, q2, q8, q9, q20, q21, hbv, hbm, hbi, hm4, hsi, xorI_8, u8s_length, u8s_set, e2, OkW.fresh hsb]
    refine ⟨q - 1, by omega, i + 1, Ri.set i (S[i]'(by omega) ^^^ b[i]), by omega, rfl, hw4.set (by omega), hn4, fun c hc => by rw [get_set_ne hc]; exact hf4 c hc, rfl, by rw [List.length_set]; exact lRi, fun j hj => ?_⟩
    by_cases hji : j = i
    · subst hji
      rw [set_self, if_pos hRi', if_pos (by omega)]
    · rw [List.getElem?_set_ne (Ne.symm hji), hRi j hj]
      by_cases h2 : j < i
      · rw [if_pos h2, if_pos (by omega)]
      · rw [if_neg h2, if_neg (by omega)]
  · have hk' : i = b.length := by have := of_decide_eq_false ht; omega
    subst hk'
    simp (maxSteps := 2000000) (disch := first | assumption | omega | (simp only [nx_push, nx_set, ne_eq] <;> omega) | (simp only [XSide, F70]; done) | decide) only [XWalk, XSl, ↓XPre, reduceIte, Nat.reduceEqDiff, Nat.reduceLT, Nat.reduceAdd, Nat.reduceSub, Nat.reduceMul, Nat.reduceBEq, reduceCtorEq, Int.reduceAdd, Int.reduceSub, Int.reduceMul, Int.reduceLT, Int.reduceLE, Int.reduceGT, Int.reduceGE, Int.reduceEq, Int.reduceNe, Int.reduceBEq, Int.reduceBNe, Int.reduceTMod, Int.reduceTDiv, ↓if_true, ↓if_false, F70, A70, he, q8, q9]
    refine ⟨_, rfl, _, rfl, ?_⟩
    have lx : (xorB S b).length = b.length := by rw [xorB, List.length_zipWith, ls]; simp
    refine ⟨sb, sc, Ri, by rw [lx], hsb, hm4, ?_, by rw [lx]; exact hc1, by omega⟩
    rw [lx]
    apply List.ext_getElem?
    intro j
    by_cases hj : j < b.length
    · rw [List.getElem?_take, if_pos hj, hRi j hj, if_pos hj, xorB, List.getElem?_zipWith]
      have e1 : S[j]? = some (S[j]'(by omega)) := List.getElem?_eq_getElem _
      have e2 : b[j]? = some b[j] := List.getElem?_eq_getElem hj
      rw [e1, e2]
    · rw [List.getElem?_eq_none (by rw [List.length_take]; omega), List.getElem?_eq_none (by omega)]

theorem stag_ct {m : Mem} (hw : WF m) {kv bv : Value} {key b : List UInt8} (hk : Bs m kv key) (lk : key.length = 32) (hb : Bs m bv b) (hbl : b.length ≤ 1099511627000) :
    Ct Tryz.prog S0 68 [kv, bv] m [] (Rv fun v m' => ∃ s, v = .tuple #[s, .int .i64 0] ∧ Bs m' s ((blakeB (blakeB key tagL) b).take 16)) := by
  refine ct_x (spec0 _) (by rfl) Tryz.func68 rfl ?_
  simp (maxSteps := 2000000) (disch := first | assumption | omega | (simp only [nx_push, nx_set, ne_eq] <;> omega) | (simp only [XSide, F68]; done) | decide) only [XWalk, XSl, ↓XPre, reduceIte, Nat.reduceEqDiff, Nat.reduceLT, Nat.reduceAdd, Nat.reduceSub, Nat.reduceMul, Nat.reduceBEq, reduceCtorEq, Int.reduceAdd, Int.reduceSub, Int.reduceMul, Int.reduceLT, Int.reduceLE, Int.reduceGT, Int.reduceGE, Int.reduceEq, Int.reduceNe, Int.reduceBEq, Int.reduceBNe, Int.reduceTMod, Int.reduceTDiv, ↓if_true, ↓if_false, F68, A68, Tryz.ntmps68]
  refine wcall_v specLoc (derive_ct (label := tagL) hw hk lk (by decide) (by decide)) hw ?_
  rintro v m1 hw1 hn1 f1 ⟨d, rfl, hd⟩
  have hb1 : Bs m1 bv b := hb.keep (keep_of hw f1)
  simp (maxSteps := 2000000) (disch := first | assumption | omega | (simp only [nx_push, nx_set, ne_eq] <;> omega) | (simp only [XSide, F68]; done) | decide) only [XWalk, XSl, ↓XPre, reduceIte, Nat.reduceEqDiff, Nat.reduceLT, Nat.reduceAdd, Nat.reduceSub, Nat.reduceMul, Nat.reduceBEq, reduceCtorEq, Int.reduceAdd, Int.reduceSub, Int.reduceMul, Int.reduceLT, Int.reduceLE, Int.reduceGT, Int.reduceGE, Int.reduceEq, Int.reduceNe, Int.reduceBEq, Int.reduceBNe, Int.reduceTMod, Int.reduceTDiv, ↓if_true, ↓if_false, F68, A68]
  have ld := blakeB_length (key := key) (d := tagL)
  refine wcall_x specLoc (keyed_ct hw1 hd hb1 (by omega) (by omega)) hw1 ?_
  rintro out m2 hw2 hn2 f2 rfl
  rw [if_neg (show ¬ ((blakeB key tagL).length = 0 ∨ 32 < (blakeB key tagL).length) by omega)]
  have lb := blakeB_length (key := blakeB key tagL) (d := b)
  have bq : Nat.beq (u8s (blakeB (blakeB key tagL) b)).length 32 = true := by rw [u8s_length, lb]; rfl
  have hob : (u8s (blakeB (blakeB key tagL) b)).all oneCell = true := u8s_one
  have sb : (u8s (blakeB (blakeB key tagL) b)).length = 32 := by rw [u8s_length]; exact lb
  simp (maxSteps := 2000000) (disch := first | assumption | omega | (simp only [nx_push, nx_set, ne_eq] <;> omega) | (simp only [XSide, F68]; done) | decide) only [XWalk, XSl, ↓XPre, reduceIte, Nat.reduceEqDiff, Nat.reduceLT, Nat.reduceAdd, Nat.reduceSub, Nat.reduceMul, Nat.reduceBEq, reduceCtorEq, Int.reduceAdd, Int.reduceSub, Int.reduceMul, Int.reduceLT, Int.reduceLE, Int.reduceGT, Int.reduceGE, Int.reduceEq, Int.reduceNe, Int.reduceBEq, Int.reduceBNe, Int.reduceTMod, Int.reduceTDiv, ↓if_true, ↓if_false, F68, A68, XAcc, bq]
  exact ⟨_, rfl, _, rfl, Sl.of_row get_set_self (by rw [List.drop_zero, u8s_take]) (by rw [u8s_length, List.length_take, lb]; rfl) (by omega)⟩

def cipherB (key nonce plain : List UInt8) : List UInt8 := nonce ++ xorB (streamB (blakeB key streamL) nonce plain.length) plain
def sealB (key nonce plain : List UInt8) : List UInt8 := cipherB key nonce plain ++ (blakeB (blakeB key tagL) (cipherB key nonce plain)).take 16

theorem xorB_length {s b : List UInt8} (h : s.length = b.length) : (xorB s b).length = b.length := by rw [xorB, List.length_zipWith, h]; simp

theorem sseal_ct {m : Mem} (hw : WF m) {kv nv bv : Value} {key nonce b : List UInt8} (hk : Bs m kv key) (lk : key.length = 32) (hn : Bs m nv nonce) (ln : nonce.length = 16) (hb : Bs m bv b) (hbl : b.length ≤ 65504) :
    Ct Tryz.prog S0 44 [kv, nv, bv] m [] (Rv fun v m' => ∃ s, v = .tuple #[s, .int .i64 0] ∧ Bs m' s (sealB key nonce b)) := by
  refine ct_x (spec0 _) (by rfl) Tryz.func44 rfl ?_
  simp (maxSteps := 2000000) (disch := first | assumption | omega | (simp only [nx_push, nx_set, ne_eq] <;> omega) | (simp only [XSide, F44]; done) | decide) only [XWalk, XSl, ↓XPre, reduceIte, Nat.reduceEqDiff, Nat.reduceLT, Nat.reduceAdd, Nat.reduceSub, Nat.reduceMul, Nat.reduceBEq, reduceCtorEq, Int.reduceAdd, Int.reduceSub, Int.reduceMul, Int.reduceLT, Int.reduceLE, Int.reduceGT, Int.reduceGE, Int.reduceEq, Int.reduceNe, Int.reduceBEq, Int.reduceBNe, Int.reduceTMod, Int.reduceTDiv, ↓if_true, ↓if_false, F44, A44, Tryz.ntmps44]
  refine wcall_v specLoc (xored_ct hw hk lk hn ln hb hbl) hw ?_
  rintro v m1 hw1 hn1 f1 ⟨cv, rfl, hc⟩
  have hk1 : Bs m1 kv key := hk.keep (keep_of hw f1)
  have hno1 : Bs m1 nv nonce := hn.keep (keep_of hw f1)
  have lx : (xorB (streamB (blakeB key streamL) nonce b.length) b).length = b.length := xorB_length streamB_length
  simp (maxSteps := 2000000) (disch := first | assumption | omega | (simp only [nx_push, nx_set, ne_eq] <;> omega) | (simp only [XSide, F44]; done) | decide) only [XWalk, XSl, ↓XPre, reduceIte, Nat.reduceEqDiff, Nat.reduceLT, Nat.reduceAdd, Nat.reduceSub, Nat.reduceMul, Nat.reduceBEq, reduceCtorEq, Int.reduceAdd, Int.reduceSub, Int.reduceMul, Int.reduceLT, Int.reduceLE, Int.reduceGT, Int.reduceGE, Int.reduceEq, Int.reduceNe, Int.reduceBEq, Int.reduceBNe, Int.reduceTMod, Int.reduceTDiv, ↓if_true, ↓if_false, F44, A44]
  refine wcall_v specLoc (clone_ct hw1 hno1 (by omega)) hw1 ?_
  intro ov m2 hw2 hn2 f2 ho
  have hk2 : Bs m2 kv key := hk1.keep (keep_of hw1 f2)
  have hc2 : Bs m2 cv _ := hc.bs.keep (keep_of hw1 f2)
  simp (maxSteps := 2000000) (disch := first | assumption | omega | (simp only [nx_push, nx_set, ne_eq] <;> omega) | (simp only [XSide, F44]; done) | decide) only [XWalk, XSl, ↓XPre, reduceIte, Nat.reduceEqDiff, Nat.reduceLT, Nat.reduceAdd, Nat.reduceSub, Nat.reduceMul, Nat.reduceBEq, reduceCtorEq, Int.reduceAdd, Int.reduceSub, Int.reduceMul, Int.reduceLT, Int.reduceLE, Int.reduceGT, Int.reduceGE, Int.reduceEq, Int.reduceNe, Int.reduceBEq, Int.reduceBNe, Int.reduceTMod, Int.reduceTDiv, ↓if_true, ↓if_false, F44, A44]
  refine wappend (bytes := 1) (by simp only [F44]) ho hc2 (by rw [lx]; omega) (by omega) hw2 fun v3 m3 w hd ok => ?_
  have hk3 : Bs m3 kv key := hd.keep hw2 hk2 fun c hc' e => by have := ho.blk_ge hc'; have := hk.blk_lt hw e; omega
  have lc : (cipherB key nonce b).length = 16 + b.length := by rw [cipherB, List.length_append, lx, ln]
  have hn3 := hd.next
  simp (maxSteps := 2000000) (disch := first | assumption | omega | (simp only [nx_push, nx_set, ne_eq] <;> omega) | (simp only [XSide, F44]; done) | decide) only [XWalk, XSl, ↓XPre, reduceIte, Nat.reduceEqDiff, Nat.reduceLT, Nat.reduceAdd, Nat.reduceSub, Nat.reduceMul, Nat.reduceBEq, reduceCtorEq, Int.reduceAdd, Int.reduceSub, Int.reduceMul, Int.reduceLT, Int.reduceLE, Int.reduceGT, Int.reduceGE, Int.reduceEq, Int.reduceNe, Int.reduceBEq, Int.reduceBNe, Int.reduceTMod, Int.reduceTDiv, ↓if_true, ↓if_false, F44, A44, ok m.next _ (by omega)]
  refine wcall_v specLoc (stag_ct (b := cipherB key nonce b) hd.wf hk3 lk hd.app.sl (by rw [lc]; omega)) hd.wf ?_
  rintro v m4 hw4 hn4 f4 ⟨tv, rfl, ht⟩
  have hd4 : Ab m4 m1.next v3 (cipherB key nonce b) := hd.app.keep (keep_of hd.wf f4)
  have lt : ((blakeB (blakeB key tagL) (cipherB key nonce b)).take 16).length = 16 := by rw [List.length_take, blakeB_length]; rfl
  simp (maxSteps := 2000000) (disch := first | assumption | omega | (simp only [nx_push, nx_set, ne_eq] <;> omega) | (simp only [XSide, F44]; done) | decide) only [XWalk, XSl, ↓XPre, reduceIte, Nat.reduceEqDiff, Nat.reduceLT, Nat.reduceAdd, Nat.reduceSub, Nat.reduceMul, Nat.reduceBEq, reduceCtorEq, Int.reduceAdd, Int.reduceSub, Int.reduceMul, Int.reduceLT, Int.reduceLE, Int.reduceGT, Int.reduceGE, Int.reduceEq, Int.reduceNe, Int.reduceBEq, Int.reduceBNe, Int.reduceTMod, Int.reduceTDiv, ↓if_true, ↓if_false, F44, A44]
  refine wappend (bytes := 1) (by simp only [F44]) hd4 ht (by rw [lt, lc]; omega) (by omega) hw4 fun v5 m5 w5 hd5 ok5 => ?_
  simp (maxSteps := 2000000) (disch := first | assumption | omega | (simp only [nx_push, nx_set, ne_eq] <;> omega) | (simp only [XSide, F44]; done) | decide) only [XWalk, XSl, ↓XPre, reduceIte, Nat.reduceEqDiff, Nat.reduceLT, Nat.reduceAdd, Nat.reduceSub, Nat.reduceMul, Nat.reduceBEq, reduceCtorEq, Int.reduceAdd, Int.reduceSub, Int.reduceMul, Int.reduceLT, Int.reduceLE, Int.reduceGT, Int.reduceGE, Int.reduceEq, Int.reduceNe, Int.reduceBEq, Int.reduceBNe, Int.reduceTMod, Int.reduceTDiv, ↓if_true, ↓if_false, F44, A44, ok5 m.next _ (by omega)]
  exact ⟨_, rfl, _, rfl, hd5.app.sl⟩

def openB (key sealed : List UInt8) : Option (List UInt8) :=
  if (blakeB (blakeB key tagL) (sealed.take (sealed.length - 16))).take 16 == sealed.drop (sealed.length - 16) then
    some (xorB (streamB (blakeB key streamL) (sealed.take 16) (sealed.length - 32)) ((sealed.drop 16).take (sealed.length - 32)))
  else none

theorem sopen_ct {m : Mem} (hw : WF m) {kv sv : Value} {key S : List UInt8} (hk : Bs m kv key) (lk : key.length = 32) (hs : Bs m sv S) (l1 : 32 ≤ S.length) (l2 : S.length ≤ 65536) :
    Ct Tryz.prog S0 31 [kv, sv] m [] (Rv fun v m' => match openB key S with | some p => ∃ s, v = .tuple #[s, .int .i64 0] ∧ Bs m' s p | none => v = .tuple #[.slice none 0 0, .int .i64 10]) := by
  refine ct_x (spec0 _) (by rfl) Tryz.func31 rfl ?_
  have e1 : ((S.length : Int) < 32) = False := by simp; omega
  have e2 : ((S.length : Int) > 65536) = False := by simp; omega
  have e3 : IntKind.wrap .i64 ((S.length : Int) - 16) = ((S.length - 16 : Nat) : Int) := by rw [wrap_i64 (by omega) (by omega)]; omega
  simp (maxSteps := 2000000) (disch := first | assumption | omega | (simp only [nx_push, nx_set, ne_eq] <;> omega) | (simp only [XSide, F31]; done) | decide) only [XWalk, XSl, ↓XPre, reduceIte, Nat.reduceEqDiff, Nat.reduceLT, Nat.reduceAdd, Nat.reduceSub, Nat.reduceMul, Nat.reduceBEq, reduceCtorEq, Int.reduceAdd, Int.reduceSub, Int.reduceMul, Int.reduceLT, Int.reduceLE, Int.reduceGT, Int.reduceGE, Int.reduceEq, Int.reduceNe, Int.reduceBEq, Int.reduceBNe, Int.reduceTMod, Int.reduceTDiv, ↓if_true, ↓if_false, F31, A31, Tryz.ntmps31, alen_bs hk, lk, cast_lit, alen_bs hs, e1, e2, e3]
  refine hs.wslice (a := 0) (b := S.length - 16) (by simp only [F31]) (hs.not_nil (by omega)) rfl rfl (by omega) (by omega) fun v1 hv1 hb1 => ?_
  rw [List.drop_zero, Nat.sub_zero] at hv1
  simp (maxSteps := 2000000) (disch := first | assumption | omega | (simp only [nx_push, nx_set, ne_eq] <;> omega) | (simp only [XSide, F31]; done) | decide) only [XWalk, XSl, ↓XPre, reduceIte, Nat.reduceEqDiff, Nat.reduceLT, Nat.reduceAdd, Nat.reduceSub, Nat.reduceMul, Nat.reduceBEq, reduceCtorEq, Int.reduceAdd, Int.reduceSub, Int.reduceMul, Int.reduceLT, Int.reduceLE, Int.reduceGT, Int.reduceGE, Int.reduceEq, Int.reduceNe, Int.reduceBEq, Int.reduceBNe, Int.reduceTMod, Int.reduceTDiv, ↓if_true, ↓if_false, F31, A31]
  refine wcall_v specLoc (stag_ct hw hk lk hv1 (by rw [List.length_take]; omega)) hw ?_
  rintro v m1 hw1 hn1 f1 ⟨tv, rfl, ht⟩
  have hs1 : Bs m1 sv S := hs.keep (keep_of hw f1)
  have hk1 : Bs m1 kv key := hk.keep (keep_of hw f1)
  simp (maxSteps := 2000000) (disch := first | assumption | omega | (simp only [nx_push, nx_set, ne_eq] <;> omega) | (simp only [XSide, F31]; done) | decide) only [XWalk, XSl, ↓XPre, reduceIte, Nat.reduceEqDiff, Nat.reduceLT, Nat.reduceAdd, Nat.reduceSub, Nat.reduceMul, Nat.reduceBEq, reduceCtorEq, Int.reduceAdd, Int.reduceSub, Int.reduceMul, Int.reduceLT, Int.reduceLE, Int.reduceGT, Int.reduceGE, Int.reduceEq, Int.reduceNe, Int.reduceBEq, Int.reduceBNe, Int.reduceTMod, Int.reduceTDiv, ↓if_true, ↓if_false, F31, A31]
  refine hs1.wslice (a := S.length - 16) (b := S.length) (by simp only [F31]) (hs.not_nil (by omega)) rfl rfl (by omega) (by omega) fun v2 hv2 hb2 => ?_
  rw [List.take_of_length_le (by rw [List.length_drop]; omega)] at hv2
  simp (maxSteps := 2000000) (disch := first | assumption | omega | (simp only [nx_push, nx_set, ne_eq] <;> omega) | (simp only [XSide, F31]; done) | decide) only [XWalk, XSl, ↓XPre, reduceIte, Nat.reduceEqDiff, Nat.reduceLT, Nat.reduceAdd, Nat.reduceSub, Nat.reduceMul, Nat.reduceBEq, reduceCtorEq, Int.reduceAdd, Int.reduceSub, Int.reduceMul, Int.reduceLT, Int.reduceLE, Int.reduceGT, Int.reduceGE, Int.reduceEq, Int.reduceNe, Int.reduceBEq, Int.reduceBNe, Int.reduceTMod, Int.reduceTDiv, ↓if_true, ↓if_false, F31, A31]
  refine wcall_pu (pu_of (equal_ct ht hv2)) ?_
  unfold openB
  cases ((blakeB (blakeB key tagL) (S.take (S.length - 16))).take 16 == S.drop (S.length - 16)) with
  | false =>
    simp (maxSteps := 2000000) (disch := first | assumption | omega | (simp only [nx_push, nx_set, ne_eq] <;> omega) | (simp only [XSide, F31]; done) | decide) only [XWalk, XSl, ↓XPre, reduceIte, Nat.reduceEqDiff, Nat.reduceLT, Nat.reduceAdd, Nat.reduceSub, Nat.reduceMul, Nat.reduceBEq, reduceCtorEq, Int.reduceAdd, Int.reduceSub, Int.reduceMul, Int.reduceLT, Int.reduceLE, Int.reduceGT, Int.reduceGE, Int.reduceEq, Int.reduceNe, Int.reduceBEq, Int.reduceBNe, Int.reduceTMod, Int.reduceTDiv, ↓if_true, ↓if_false, F31, A31]
    exact ⟨_, rfl, rfl⟩
  | true =>
    simp (maxSteps := 2000000) (disch := first | assumption | omega | (simp only [nx_push, nx_set, ne_eq] <;> omega) | (simp only [XSide, F31]; done) | decide) only [XWalk, XSl, ↓XPre, reduceIte, Nat.reduceEqDiff, Nat.reduceLT, Nat.reduceAdd, Nat.reduceSub, Nat.reduceMul, Nat.reduceBEq, reduceCtorEq, Int.reduceAdd, Int.reduceSub, Int.reduceMul, Int.reduceLT, Int.reduceLE, Int.reduceGT, Int.reduceGE, Int.reduceEq, Int.reduceNe, Int.reduceBEq, Int.reduceBNe, Int.reduceTMod, Int.reduceTDiv, ↓if_true, ↓if_false, F31, A31]
    obtain ⟨sb, so, sc, srs, sk, hsv, hsm, -, -, -⟩ := hs1.inv (u8s_ne (by omega))
    have hrd : rdV sv = .one sb := by rw [hsv]; rfl
    have hsl : sb < m1.next := hw1.lt (by rw [hsm]; simp)
    refine x_draw [0, 0, 2, 0, 0, 24, 63, 127, 127, 511, 1023] (by kernel_rfl) ?_
    simp (maxSteps := 2000000) (disch := first | assumption | omega | (simp only [nx_push, nx_set, ne_eq] <;> omega) | (simp only [XSide, F31]; done) | decide) only [XWalk, XSl, ↓XPre, reduceIte, Nat.reduceEqDiff, Nat.reduceLT, Nat.reduceAdd, Nat.reduceSub, Nat.reduceMul, Nat.reduceBEq, reduceCtorEq, Int.reduceAdd, Int.reduceSub, Int.reduceMul, Int.reduceLT, Int.reduceLE, Int.reduceGT, Int.reduceGE, Int.reduceEq, Int.reduceNe, Int.reduceBEq, Int.reduceBNe, Int.reduceTMod, Int.reduceTDiv, ↓if_true, ↓if_false, F31, A31]
    refine hs1.wslice (a := 0) (b := 16) (by simp only [F31]) (hs.not_nil (by omega)) rfl rfl (by omega) (by omega) fun v3 hv3 hb3 => ?_
    rw [List.drop_zero, Nat.sub_zero] at hv3
    simp (maxSteps := 2000000) (disch := first | assumption | omega | (simp only [nx_push, nx_set, ne_eq] <;> omega) | (simp only [XSide, F31]; done) | decide) only [XWalk, XSl, ↓XPre, reduceIte, Nat.reduceEqDiff, Nat.reduceLT, Nat.reduceAdd, Nat.reduceSub, Nat.reduceMul, Nat.reduceBEq, reduceCtorEq, Int.reduceAdd, Int.reduceSub, Int.reduceMul, Int.reduceLT, Int.reduceLE, Int.reduceGT, Int.reduceGE, Int.reduceEq, Int.reduceNe, Int.reduceBEq, Int.reduceBNe, Int.reduceTMod, Int.reduceTDiv, ↓if_true, ↓if_false, F31, A31, hrd]
    refine hs1.wslice (a := 16) (b := S.length - 16) (by simp only [F31]) (hs.not_nil (by omega)) rfl rfl (by omega) (by omega) fun v4 hv4 hb4 => ?_
    rw [show S.length - 16 - 16 = S.length - 32 from by omega] at hv4
    have l4 : ((S.drop 16).take (S.length - 32)).length = S.length - 32 := by rw [List.length_take, List.length_drop]; omega
    simp (maxSteps := 2000000) (disch := first | assumption | omega | (simp only [nx_push, nx_set, ne_eq] <;> omega) | (simp only [XSide, F31]; done) | decide) only [XWalk, XSl, ↓XPre, reduceIte, Nat.reduceEqDiff, Nat.reduceLT, Nat.reduceAdd, Nat.reduceSub, Nat.reduceMul, Nat.reduceBEq, reduceCtorEq, Int.reduceAdd, Int.reduceSub, Int.reduceMul, Int.reduceLT, Int.reduceLE, Int.reduceGT, Int.reduceGE, Int.reduceEq, Int.reduceNe, Int.reduceBEq, Int.reduceBNe, Int.reduceTMod, Int.reduceTDiv, ↓if_true, ↓if_false, F31, A31, hrd]
    refine wcall_v specLoc (xored_ct hw1 hk1 lk hv3 (by rw [List.length_take]; omega) hv4 (by omega)) hw1 ?_
    rintro v m2 hw2 hn2 f2 ⟨s, rfl, hx⟩
    rw [l4] at hx
    simp (maxSteps := 2000000) (disch := first | assumption | omega | (simp only [nx_push, nx_set, ne_eq] <;> omega) | (simp only [XSide, F31]; done) | decide) only [XWalk, XSl, ↓XPre, reduceIte, Nat.reduceEqDiff, Nat.reduceLT, Nat.reduceAdd, Nat.reduceSub, Nat.reduceMul, Nat.reduceBEq, reduceCtorEq, Int.reduceAdd, Int.reduceSub, Int.reduceMul, Int.reduceLT, Int.reduceLE, Int.reduceGT, Int.reduceGE, Int.reduceEq, Int.reduceNe, Int.reduceBEq, Int.reduceBNe, Int.reduceTMod, Int.reduceTDiv, ↓if_true, ↓if_false, F31, A31]
    exact ⟨_, rfl, s, rfl, hx.bs⟩

end Go.Big

/- Envelopes: whether they are authentic, how long their bids are; opening. -/
set_option linter.unusedSimpArgs false
set_option linter.unusedVariables false
set_option maxRecDepth 100000
set_option maxHeartbeats 4000000
namespace Go.Big
open Go.Proofs

def checkI (n : List UInt8) (r s : Int) (S T : List UInt8) : Int := if validB n r s S.length T.length = true then verifyI n (signedB n r.toNat s.toNat S) T else 2

theorem valid_parts {n : List UInt8} {r s : Int} {ls lt : Nat} (h : validB n r s ls lt = true) : n.length ≤ 32 ∧ 0 ≤ r ∧ r ≤ 1048576 ∧ 0 ≤ s ∧ s ≤ 1073741824 ∧ 32 ≤ ls ∧ ls ≤ 4128 ∧ lt = 32 := by
  simp only [validB, nameB, Bool.and_eq_true, decide_eq_true_eq, beq_iff_eq] at h
  obtain ⟨⟨hn1', hn2', _⟩, ⟨hr1, hr2⟩, ⟨hs1', hs2'⟩, ⟨hS1, hS2⟩, hT⟩ := h
  refine ⟨hn2', ?_, ?_, ?_, ?_, ?_, ?_, ?_⟩ <;> omega
theorem signed_len {n S : List UInt8} {r s : Nat} (h1 : n.length ≤ 100) (h2 : r ≤ 1048576) (h3 : s ≤ 1073741824) (h4 : S.length ≤ 4128) : (signedB n r s S).length ≤ 60000 := by
  have g1 := groupB_len 3 r (by omega) (by omega)
  have g2 := groupB_len 5 s (by omega) (by omega)
  have g3 := groupB_len 2 n.length (by omega) (by omega)
  have g4 := groupB_len 2 S.length (by omega) (by omega)
  simp only [signedB, strB, List.length_append]; omega

theorem check_ct {m : Mem} (hw : WF m) {x : Value} {n S T : List UInt8} {r s : Int} {sv tv : Value} (hx : BookAt m x) (hs : Bs m sv S) (ht : Bs m tv T) (hn : n.length ≤ 1073741824) :
    Ct Tryz.prog S0 12 [x, envV n r s sv tv] m [] (fun out m' => out = .ret (.int .i64 (checkI n r s S T))) := by
  have hone : [str n, .int .i64 r, .int .i64 s, sv, tv].all oneCell = true := by
    simp only [List.all_cons, List.all_nil, one_sl hs, one_sl ht, one_str, one_int, Bool.and_self]
  have hx0 := hx
  obtain ⟨xb, nv, mb, pv, k1, k2, rfl, h2, h3, h4, h5⟩ := hx
  refine ct_x (spec0 _) (by rfl) Tryz.func12 rfl ?_
  simp (maxSteps := 2000000) (disch := first | assumption | omega | (simp only [nx_push, nx_set, ne_eq] <;> omega) | (simp only [XSide, F12]; done) | decide) only [XWalk, XSl, ↓XPre, reduceIte, Nat.reduceEqDiff, Nat.reduceLT, Nat.reduceAdd, Nat.reduceSub, Nat.reduceMul, Nat.reduceBEq, reduceCtorEq, Int.reduceAdd, Int.reduceSub, Int.reduceMul, Int.reduceLT, Int.reduceLE, Int.reduceGT, Int.reduceGE, Int.reduceEq, Int.reduceNe, Int.reduceBEq, Int.reduceBNe, Int.reduceTMod, Int.reduceTDiv, ↓if_true, ↓if_false, F12, A12, Tryz.ntmps12, XAcc]
  refine x_draw [0, 1, 3, 0, 15, 31, 63, 127, 255] (by kernel_rfl) ?_
  simp (maxSteps := 2000000) (disch := first | assumption | omega | (simp only [nx_push, nx_set, ne_eq] <;> omega) | (simp only [XSide, F12]; done) | decide) only [XWalk, XSl, ↓XPre, reduceIte, Nat.reduceEqDiff, Nat.reduceLT, Nat.reduceAdd, Nat.reduceSub, Nat.reduceMul, Nat.reduceBEq, reduceCtorEq, Int.reduceAdd, Int.reduceSub, Int.reduceMul, Int.reduceLT, Int.reduceLE, Int.reduceGT, Int.reduceGE, Int.reduceEq, Int.reduceNe, Int.reduceBEq, Int.reduceBNe, Int.reduceTMod, Int.reduceTDiv, ↓if_true, ↓if_false, F12, A12, XAcc]
  refine wcall_pu (pu_of unless_ct) ?_
  have hs1 : Bs (m.push (.row [str n, .int .i64 r, .int .i64 s, sv, tv] .rw)) sv S := hs.keep (Keep.push hw)
  have ht1 : Bs (m.push (.row [str n, .int .i64 r, .int .i64 s, sv, tv] .rw)) tv T := ht.keep (Keep.push hw)
  have hx1 : BookAt (m.push (.row [str n, .int .i64 r, .int .i64 s, sv, tv] .rw)) (.pointer (some ⟨xb, 0, none⟩)) := hx0.keep (Keep.push hw)
  simp (maxSteps := 2000000) (disch := first | assumption | omega | (simp only [nx_push, nx_set, ne_eq] <;> omega) | (simp only [XSide, F12]; done) | decide) only [XWalk, XSl, ↓XPre, reduceIte, Nat.reduceEqDiff, Nat.reduceLT, Nat.reduceAdd, Nat.reduceSub, Nat.reduceMul, Nat.reduceBEq, reduceCtorEq, Int.reduceAdd, Int.reduceSub, Int.reduceMul, Int.reduceLT, Int.reduceLE, Int.reduceGT, Int.reduceGE, Int.reduceEq, Int.reduceNe, Int.reduceBEq, Int.reduceBNe, Int.reduceTMod, Int.reduceTDiv, ↓if_true, ↓if_false, F12, A12, XAcc]
  refine wcall_x specLoc (valid_ct hw.push hs1 ht1 hn) hw.push ?_
  rintro out m1 hw1 hn1 f1 rfl
  have row1 : m1.get m.next = some (.row [str n, .int .i64 r, .int .i64 s, sv, tv] .rw) := by rw [f1 _ (by simp), get_push_self]
  have hs2 := hs1.keep (keep_of hw.push f1)
  have ht2 := ht1.keep (keep_of hw.push f1)
  have hx2 := hx1.keep (keep_of hw.push f1)
  simp only [Mem.next_push] at hn1
  simp (maxSteps := 2000000) (disch := first | assumption | omega | (simp only [nx_push, nx_set, ne_eq] <;> omega) | (simp only [XSide, F12]; done) | decide) only [XWalk, XSl, ↓XPre, reduceIte, Nat.reduceEqDiff, Nat.reduceLT, Nat.reduceAdd, Nat.reduceSub, Nat.reduceMul, Nat.reduceBEq, reduceCtorEq, Int.reduceAdd, Int.reduceSub, Int.reduceMul, Int.reduceLT, Int.reduceLE, Int.reduceGT, Int.reduceGE, Int.reduceEq, Int.reduceNe, Int.reduceBEq, Int.reduceBNe, Int.reduceTMod, Int.reduceTDiv, ↓if_true, ↓if_false, F12, A12, XAcc]
  refine wcall_pu (pu_of unless_ct) ?_
  simp (maxSteps := 2000000) (disch := first | assumption | omega | (simp only [nx_push, nx_set, ne_eq] <;> omega) | (simp only [XSide, F12]; done) | decide) only [XWalk, XSl, ↓XPre, reduceIte, Nat.reduceEqDiff, Nat.reduceLT, Nat.reduceAdd, Nat.reduceSub, Nat.reduceMul, Nat.reduceBEq, reduceCtorEq, Int.reduceAdd, Int.reduceSub, Int.reduceMul, Int.reduceLT, Int.reduceLE, Int.reduceGT, Int.reduceGE, Int.reduceEq, Int.reduceNe, Int.reduceBEq, Int.reduceBNe, Int.reduceTMod, Int.reduceTDiv, ↓if_true, ↓if_false, F12, A12, XAcc]
  have hw2 : ∀ o, WF (m1.push o) := fun o => hw1.push
  refine wcall_pu (pu_of (first_ct (hw2 _) (l := [0, if validB n r s S.length T.length = true then 0 else 2]) (kd := .rw) get_push_self (by simp))) ?_
  have row2 : ∀ o, (m1.push o).get m.next = some (.row [str n, .int .i64 r, .int .i64 s, sv, tv] .rw) := fun o => by rw [get_push_ne (by omega)]; exact row1
  unfold checkI
  cases hvb : validB n r s S.length T.length with
  | false => simp (maxSteps := 2000000) (disch := first | assumption | omega | (simp only [nx_push, nx_set, ne_eq] <;> omega) | (simp only [XSide, F12]; done) | decide) only [XWalk, XSl, ↓XPre, reduceIte, Nat.reduceEqDiff, Nat.reduceLT, Nat.reduceAdd, Nat.reduceSub, Nat.reduceMul, Nat.reduceBEq, reduceCtorEq, Int.reduceAdd, Int.reduceSub, Int.reduceMul, Int.reduceLT, Int.reduceLE, Int.reduceGT, Int.reduceGE, Int.reduceEq, Int.reduceNe, Int.reduceBEq, Int.reduceBNe, Int.reduceTMod, Int.reduceTDiv, ↓if_true, ↓if_false, F12, A12, firstE]
  | true =>
    obtain ⟨p1, p2, p3, p4, p5, p6, p7, p8⟩ := valid_parts hvb
    obtain ⟨r', rfl⟩ : ∃ r' : Nat, r = (r' : Int) := ⟨r.toNat, by omega⟩
    obtain ⟨s', rfl⟩ : ∃ s' : Nat, s = (s' : Int) := ⟨s.toNat, by omega⟩
    have hlen := signed_len (n := n) (S := S) (r := r') (s := s') (by omega) (by omega) (by omega) p7
    simp (maxSteps := 2000000) (disch := first | assumption | omega | (simp only [nx_push, nx_set, ne_eq] <;> omega) | (simp only [XSide, F12]; done) | decide) only [XWalk, XSl, ↓XPre, reduceIte, Nat.reduceEqDiff, Nat.reduceLT, Nat.reduceAdd, Nat.reduceSub, Nat.reduceMul, Nat.reduceBEq, reduceCtorEq, Int.reduceAdd, Int.reduceSub, Int.reduceMul, Int.reduceLT, Int.reduceLE, Int.reduceGT, Int.reduceGE, Int.reduceEq, Int.reduceNe, Int.reduceBEq, Int.reduceBNe, Int.reduceTMod, Int.reduceTDiv, ↓if_true, ↓if_false, F12, A12, firstE, show ((0 : Int) != 0) = false from rfl]
    refine x_draw [0, 0, 2, 0, 8, 0, 32, 127, 255] (by kernel_rfl) ?_
    simp (maxSteps := 2000000) (disch := first | assumption | omega | (simp only [nx_push, nx_set, ne_eq] <;> omega) | (simp only [XSide, F12]; done) | decide) only [XWalk, XSl, ↓XPre, reduceIte, Nat.reduceEqDiff, Nat.reduceLT, Nat.reduceAdd, Nat.reduceSub, Nat.reduceMul, Nat.reduceBEq, reduceCtorEq, Int.reduceAdd, Int.reduceSub, Int.reduceMul, Int.reduceLT, Int.reduceLE, Int.reduceGT, Int.reduceGE, Int.reduceEq, Int.reduceNe, Int.reduceBEq, Int.reduceBNe, Int.reduceTMod, Int.reduceTDiv, ↓if_true, ↓if_false, F12, A12, row2, XAcc]
    have hs3 : ∀ o, Bs (m1.push o) sv S := fun o => hs2.keep (Keep.push hw1)
    have ht3 : ∀ o, Bs (m1.push o) tv T := fun o => ht2.keep (Keep.push hw1)
    have hx3 : ∀ o, BookAt (m1.push o) (.pointer (some ⟨xb, 0, none⟩)) := fun o => hx2.keep (Keep.push hw1)
    refine wcall_v specLoc (signed_ct (n := n) (r := r') (s := s') (hw2 _) (hs3 _) (one_sl ht) (by omega) (by omega) (by omega)) (hw2 _) ?_
    intro q m2 hw3 hn3 f3 hq
    have row3 : m2.get m.next = some (.row [str n, .int .i64 (r' : Int), .int .i64 (s' : Int), sv, tv] .rw) := by rw [f3 _ (by simp; omega)]; exact row2 _
    have ht4 := (ht3 _).keep (keep_of (hw2 _) f3)
    have hx4 := (hx3 _).keep (keep_of (hw2 _) f3)
    simp only [Mem.next_push] at hn3
    simp (maxSteps := 2000000) (disch := first | assumption | omega | (simp only [nx_push, nx_set, ne_eq] <;> omega) | (simp only [XSide, F12]; done) | decide) only [XWalk, XSl, ↓XPre, reduceIte, Nat.reduceEqDiff, Nat.reduceLT, Nat.reduceAdd, Nat.reduceSub, Nat.reduceMul, Nat.reduceBEq, reduceCtorEq, Int.reduceAdd, Int.reduceSub, Int.reduceMul, Int.reduceLT, Int.reduceLE, Int.reduceGT, Int.reduceGE, Int.reduceEq, Int.reduceNe, Int.reduceBEq, Int.reduceBNe, Int.reduceTMod, Int.reduceTDiv, ↓if_true, ↓if_false, F12, A12, row3, XAcc]
    refine wcall_x specLoc (verify_ct hw3 hx4 hq.sl ht4 (by omega)) hw3 ?_
    rintro out m4 hw4 hn4 f4 rfl
    simp (maxSteps := 2000000) (disch := first | assumption | omega | (simp only [nx_push, nx_set, ne_eq] <;> omega) | (simp only [XSide, F12]; done) | decide) only [XWalk, XSl, ↓XPre, reduceIte, Nat.reduceEqDiff, Nat.reduceLT, Nat.reduceAdd, Nat.reduceSub, Nat.reduceMul, Nat.reduceBEq, reduceCtorEq, Int.reduceAdd, Int.reduceSub, Int.reduceMul, Int.reduceLT, Int.reduceLE, Int.reduceGT, Int.reduceGE, Int.reduceEq, Int.reduceNe, Int.reduceBEq, Int.reduceBNe, Int.reduceTMod, Int.reduceTDiv, ↓if_true, ↓if_false, F12, A12]
    rfl

theorem size_ct {m : Mem} (hw : WF m) {n S T : List UInt8} {r s : Int} {sv tv : Value} (hs : Bs m sv S) (ht : Bs m tv T) (hn : n.length ≤ 1073741824) :
    Ct Tryz.prog S0 25 [envV n r s sv tv] m [] (fun out m' => out = .ret (.int .i64 (if validB n r s S.length T.length = true then (S.length : Int) - 32 else -1))) := by
  have hone : [str n, .int .i64 r, .int .i64 s, sv, tv].all oneCell = true := by
    simp only [List.all_cons, List.all_nil, one_sl hs, one_sl ht, one_str, one_int, Bool.and_self]
  refine ct_x (spec0 _) (by rfl) Tryz.func25 rfl ?_
  simp (maxSteps := 2000000) (disch := first | assumption | omega | (simp only [nx_push, nx_set, ne_eq] <;> omega) | (simp only [XSide, F25]; done) | decide) only [XWalk, XSl, ↓XPre, reduceIte, Nat.reduceEqDiff, Nat.reduceLT, Nat.reduceAdd, Nat.reduceSub, Nat.reduceMul, Nat.reduceBEq, reduceCtorEq, Int.reduceAdd, Int.reduceSub, Int.reduceMul, Int.reduceLT, Int.reduceLE, Int.reduceGT, Int.reduceGE, Int.reduceEq, Int.reduceNe, Int.reduceBEq, Int.reduceBNe, Int.reduceTMod, Int.reduceTDiv, ↓if_true, ↓if_false, F25, A25, Tryz.ntmps25, XAcc]
  have hs1 : Bs (m.push (.row [str n, .int .i64 r, .int .i64 s, sv, tv] .rw)) sv S := hs.keep (Keep.push hw)
  have ht1 : Bs (m.push (.row [str n, .int .i64 r, .int .i64 s, sv, tv] .rw)) tv T := ht.keep (Keep.push hw)
  refine wcall_x specLoc (valid_ct hw.push hs1 ht1 hn) hw.push ?_
  rintro out m1 hw1 hn1 f1 rfl
  have row1 : m1.get m.next = some (.row [str n, .int .i64 r, .int .i64 s, sv, tv] .rw) := by rw [f1 _ (by simp), get_push_self]
  have hs2 := hs1.keep (keep_of hw.push f1)
  cases hvb : validB n r s S.length T.length with
  | false => simp (maxSteps := 2000000) (disch := first | assumption | omega | (simp only [nx_push, nx_set, ne_eq] <;> omega) | (simp only [XSide, F25]; done) | decide) only [XWalk, XSl, ↓XPre, reduceIte, Nat.reduceEqDiff, Nat.reduceLT, Nat.reduceAdd, Nat.reduceSub, Nat.reduceMul, Nat.reduceBEq, reduceCtorEq, Int.reduceAdd, Int.reduceSub, Int.reduceMul, Int.reduceLT, Int.reduceLE, Int.reduceGT, Int.reduceGE, Int.reduceEq, Int.reduceNe, Int.reduceBEq, Int.reduceBNe, Int.reduceTMod, Int.reduceTDiv, ↓if_true, ↓if_false, F25, A25]
  | true =>
    obtain ⟨p1, p2, p3, p4, p5, p6, p7, p8⟩ := valid_parts hvb
    have e1 : IntKind.wrap .i64 ((S.length : Int) - 32) = (S.length : Int) - 32 := wrap_i64 (by omega) (by omega)
    simp (maxSteps := 2000000) (disch := first | assumption | omega | (simp only [nx_push, nx_set, ne_eq] <;> omega) | (simp only [XSide, F25]; done) | decide) only [XWalk, XSl, ↓XPre, reduceIte, Nat.reduceEqDiff, Nat.reduceLT, Nat.reduceAdd, Nat.reduceSub, Nat.reduceMul, Nat.reduceBEq, reduceCtorEq, Int.reduceAdd, Int.reduceSub, Int.reduceMul, Int.reduceLT, Int.reduceLE, Int.reduceGT, Int.reduceGE, Int.reduceEq, Int.reduceNe, Int.reduceBEq, Int.reduceBNe, Int.reduceTMod, Int.reduceTDiv, ↓if_true, ↓if_false, F25, A25, row1, alen_bs hs2, e1]

end Go.Big

/- Opening an envelope. -/
set_option linter.unusedSimpArgs false
set_option linter.unusedVariables false
set_option maxRecDepth 100000
set_option maxHeartbeats 4000000
namespace Go.Big
open Go.Proofs

def bidL : List UInt8 := [98, 105, 100, 45]

def openE (n : List UInt8) (r s : Int) (S T key : List UInt8) : Option (List UInt8) × Int :=
  let e := firstE [0, if ((key.length : Int) == 32) = true then 0 else 2, checkI n r s S T]
  if (e != 0) = true then (none, e) else match openB (blakeB key (bidL ++ n)) S with | some p => (some p, 0) | none => (none, 10)

def OpenR (q : Option (List UInt8) × Int) : Value → Mem → Prop := fun v m' => match q with | (some p, e) => ∃ s, v = .tuple #[s, .int .i64 e] ∧ Bs m' s p | (none, e) => v = .tuple #[.slice none 0 0, .int .i64 e]

theorem eopen_ct {m : Mem} (hw : WF m) {x : Value} {n S T key : List UInt8} {r s : Int} {sv tv kv : Value} (hx : BookAt m x) (hs : Bs m sv S) (ht : Bs m tv T) (hk : Bs m kv key) (hn : n.length ≤ 1073741824) (hkl : key.length < 2147483648) :
    Ct Tryz.prog S0 10 [x, envV n r s sv tv, kv] m [] (Rv (OpenR (openE n r s S T key))) := by
  have hone : [str n, .int .i64 r, .int .i64 s, sv, tv].all oneCell = true := by
    simp only [List.all_cons, List.all_nil, one_sl hs, one_sl ht, one_str, one_int, Bool.and_self]
  have hx0 := hx
  obtain ⟨xb, nv, mb, pv, k1, k2, rfl, h2, h3, h4, h5⟩ := hx
  refine ct_x (spec0 _) (by rfl) Tryz.func10 rfl ?_
  simp (maxSteps := 2000000) (disch := first | assumption | omega | (simp only [nx_push, nx_set, ne_eq] <;> omega) | (simp only [XSide, F10]; done) | decide) only [XWalk, XSl, ↓XPre, reduceIte, Nat.reduceEqDiff, Nat.reduceLT, Nat.reduceAdd, Nat.reduceSub, Nat.reduceMul, Nat.reduceBEq, reduceCtorEq, Int.reduceAdd, Int.reduceSub, Int.reduceMul, Int.reduceLT, Int.reduceLE, Int.reduceGT, Int.reduceGE, Int.reduceEq, Int.reduceNe, Int.reduceBEq, Int.reduceBNe, Int.reduceTMod, Int.reduceTDiv, ↓if_true, ↓if_false, F10, A10, Tryz.ntmps10, XAcc]
  refine x_draw [0, 1, 3, 0, 8, 24, 63, 0, 0, 511, 1023, 2047, 4095] (by kernel_rfl) ?_
  simp (maxSteps := 2000000) (disch := first | assumption | omega | (simp only [nx_push, nx_set, ne_eq] <;> omega) | (simp only [XSide, F10]; done) | decide) only [XWalk, XSl, ↓XPre, reduceIte, Nat.reduceEqDiff, Nat.reduceLT, Nat.reduceAdd, Nat.reduceSub, Nat.reduceMul, Nat.reduceBEq, reduceCtorEq, Int.reduceAdd, Int.reduceSub, Int.reduceMul, Int.reduceLT, Int.reduceLE, Int.reduceGT, Int.reduceGE, Int.reduceEq, Int.reduceNe, Int.reduceBEq, Int.reduceBNe, Int.reduceTMod, Int.reduceTDiv, ↓if_true, ↓if_false, F10, A10, XAcc]
  refine wcall_pu (pu_of unless_ct) ?_
  have hs1 : Bs (m.push (.row [str n, .int .i64 r, .int .i64 s, sv, tv] .rw)) sv S := hs.keep (Keep.push hw)
  have ht1 : Bs (m.push (.row [str n, .int .i64 r, .int .i64 s, sv, tv] .rw)) tv T := ht.keep (Keep.push hw)
  have hk1 : Bs (m.push (.row [str n, .int .i64 r, .int .i64 s, sv, tv] .rw)) kv key := hk.keep (Keep.push hw)
  have hx1 : BookAt (m.push (.row [str n, .int .i64 r, .int .i64 s, sv, tv] .rw)) (.pointer (some ⟨xb, 0, none⟩)) := hx0.keep (Keep.push hw)
  simp (maxSteps := 2000000) (disch := first | assumption | omega | (simp only [nx_push, nx_set, ne_eq] <;> omega) | (simp only [XSide, F10]; done) | decide) only [XWalk, XSl, ↓XPre, reduceIte, Nat.reduceEqDiff, Nat.reduceLT, Nat.reduceAdd, Nat.reduceSub, Nat.reduceMul, Nat.reduceBEq, reduceCtorEq, Int.reduceAdd, Int.reduceSub, Int.reduceMul, Int.reduceLT, Int.reduceLE, Int.reduceGT, Int.reduceGE, Int.reduceEq, Int.reduceNe, Int.reduceBEq, Int.reduceBNe, Int.reduceTMod, Int.reduceTDiv, ↓if_true, ↓if_false, F10, A10, XAcc, alen_bs hk1]
  refine wcall_pu (pu_of unless_ct) ?_
  simp (maxSteps := 2000000) (disch := first | assumption | omega | (simp only [nx_push, nx_set, ne_eq] <;> omega) | (simp only [XSide, F10]; done) | decide) only [XWalk, XSl, ↓XPre, reduceIte, Nat.reduceEqDiff, Nat.reduceLT, Nat.reduceAdd, Nat.reduceSub, Nat.reduceMul, Nat.reduceBEq, reduceCtorEq, Int.reduceAdd, Int.reduceSub, Int.reduceMul, Int.reduceLT, Int.reduceLE, Int.reduceGT, Int.reduceGE, Int.reduceEq, Int.reduceNe, Int.reduceBEq, Int.reduceBNe, Int.reduceTMod, Int.reduceTDiv, ↓if_true, ↓if_false, F10, A10, XAcc]
  refine wcall_x specLoc (check_ct hw.push hx1 hs1 ht1 hn) hw.push ?_
  rintro out m1 hw1 hn1 f1 rfl
  have row1 : m1.get m.next = some (.row [str n, .int .i64 r, .int .i64 s, sv, tv] .rw) := by rw [f1 _ (by simp), get_push_self]
  have hs2 := hs1.keep (keep_of hw.push f1)
  have hk2 := hk1.keep (keep_of hw.push f1)
  simp only [Mem.next_push] at hn1
  simp (maxSteps := 2000000) (disch := first | assumption | omega | (simp only [nx_push, nx_set, ne_eq] <;> omega) | (simp only [XSide, F10]; done) | decide) only [XWalk, XSl, ↓XPre, reduceIte, Nat.reduceEqDiff, Nat.reduceLT, Nat.reduceAdd, Nat.reduceSub, Nat.reduceMul, Nat.reduceBEq, reduceCtorEq, Int.reduceAdd, Int.reduceSub, Int.reduceMul, Int.reduceLT, Int.reduceLE, Int.reduceGT, Int.reduceGE, Int.reduceEq, Int.reduceNe, Int.reduceBEq, Int.reduceBNe, Int.reduceTMod, Int.reduceTDiv, ↓if_true, ↓if_false, F10, A10, XAcc]
  refine wcall_pu (pu_of (first_ct (hw1.push) (l := [0, if ((key.length : Int) == 32) = true then 0 else 2, checkI n r s S T]) (kd := .rw) get_push_self (by simp))) ?_
  unfold openE
  generalize he : firstE [0, if ((key.length : Int) == 32) = true then 0 else 2, checkI n r s S T] = e0
  have row2 : ∀ o, (m1.push o).get m.next = some (.row [str n, .int .i64 r, .int .i64 s, sv, tv] .rw) := fun o => by rw [get_push_ne (by omega)]; exact row1
  have hs3 : ∀ o, Bs (m1.push o) sv S := fun o => hs2.keep (Keep.push hw1)
  have hk3 : ∀ o, Bs (m1.push o) kv key := fun o => hk2.keep (Keep.push hw1)
  cases hb : (e0 != 0) with
  | true =>
    simp (maxSteps := 2000000) (disch := first | assumption | omega | (simp only [nx_push, nx_set, ne_eq] <;> omega) | (simp only [XSide, F10]; done) | decide) only [XWalk, XSl, ↓XPre, reduceIte, Nat.reduceEqDiff, Nat.reduceLT, Nat.reduceAdd, Nat.reduceSub, Nat.reduceMul, Nat.reduceBEq, reduceCtorEq, Int.reduceAdd, Int.reduceSub, Int.reduceMul, Int.reduceLT, Int.reduceLE, Int.reduceGT, Int.reduceGE, Int.reduceEq, Int.reduceNe, Int.reduceBEq, Int.reduceBNe, Int.reduceTMod, Int.reduceTDiv, ↓if_true, ↓if_false, F10, A10, hb]
    exact ⟨_, rfl, rfl⟩
  | false =>
    have he0 : e0 = 0 := by simpa using hb
    subst he0
    have hkl32 : key.length = 32 := by
      by_cases hq : ((key.length : Int) == 32) = true
      · simp at hq; omega
      · rw [if_neg hq] at he
        simp [firstE] at he
    have hc0 : checkI n r s S T = 0 := by
      rw [if_pos (by rw [hkl32]; rfl)] at he
      by_cases hc : checkI n r s S T = 0
      · exact hc
      · simp [firstE, hc] at he
    have hvb : validB n r s S.length T.length = true := by
      unfold checkI at hc0
      by_cases hv : validB n r s S.length T.length = true
      · exact hv
      · rw [if_neg hv] at hc0; omega
    obtain ⟨p1, p2, p3, p4, p5, p6, p7, p8⟩ := valid_parts hvb
    have hcat : ∀ (x y : Operand) (m' : Mem) (t : TypeId), abin Tryz.prog .add t x y (.string ⟨#[98, 105, 100, 45]⟩) (str n) m' = some (str (bidL ++ n), m', [], .no) := fun x y m' t => abin_str_add (a := bidL) (by simp [bidL]; omega)
    simp (maxSteps := 2000000) (disch := first | assumption | omega | (simp only [nx_push, nx_set, ne_eq] <;> omega) | (simp only [XSide, F10]; done) | decide) only [XWalk, XSl, ↓XPre, reduceIte, Nat.reduceEqDiff, Nat.reduceLT, Nat.reduceAdd, Nat.reduceSub, Nat.reduceMul, Nat.reduceBEq, reduceCtorEq, Int.reduceAdd, Int.reduceSub, Int.reduceMul, Int.reduceLT, Int.reduceLE, Int.reduceGT, Int.reduceGE, Int.reduceEq, Int.reduceNe, Int.reduceBEq, Int.reduceBNe, Int.reduceTMod, Int.reduceTDiv, ↓if_true, ↓if_false, F10, A10, hb, row2, hcat]
    refine wcall_v specLoc (derive_ct (label := bidL ++ n) (by (repeat (first | exact hw1 | apply WF.push | (refine WF.set ?_ (by first | omega | (simp only [Mem.next_set, Mem.next_push]; omega)))))) (hk3 _) hkl32 (by rw [List.length_append]; simp only [bidL, List.length_cons, List.length_nil]; omega) (by rw [List.length_append]; simp only [bidL, List.length_cons, List.length_nil]; omega)) (by (repeat (first | exact hw1 | apply WF.push | (refine WF.set ?_ (by first | omega | (simp only [Mem.next_set, Mem.next_push]; omega)))))) ?_
    rintro v m2 hw2 hn2 f2 ⟨d, rfl, hd⟩
    have row4 : m2.get m.next = some (.row [str n, .int .i64 r, .int .i64 s, sv, tv] .rw) := by rw [f2 _ (by simp; omega)]; exact row2 _
    have hs4 : Bs m2 sv S := (hs3 _).keep (keep_of (by (repeat (first | exact hw1 | apply WF.push | (refine WF.set ?_ (by first | omega | (simp only [Mem.next_set, Mem.next_push]; omega)))))) f2)
    simp (maxSteps := 2000000) (disch := first | assumption | omega | (simp only [nx_push, nx_set, ne_eq] <;> omega) | (simp only [XSide, F10]; done) | decide) only [XWalk, XSl, ↓XPre, reduceIte, Nat.reduceEqDiff, Nat.reduceLT, Nat.reduceAdd, Nat.reduceSub, Nat.reduceMul, Nat.reduceBEq, reduceCtorEq, Int.reduceAdd, Int.reduceSub, Int.reduceMul, Int.reduceLT, Int.reduceLE, Int.reduceGT, Int.reduceGE, Int.reduceEq, Int.reduceNe, Int.reduceBEq, Int.reduceBNe, Int.reduceTMod, Int.reduceTDiv, ↓if_true, ↓if_false, F10, A10, row4]
    refine wcall_v specLoc (sopen_ct hw2 hd blakeB_length hs4 p6 (by omega)) hw2 ?_
    intro v m3 hw3 hn3 f3 hr
    cases ho : openB (blakeB key (bidL ++ n)) S with
    | none =>
      rw [ho] at hr
      subst hr
      simp (maxSteps := 2000000) (disch := first | assumption | omega | (simp only [nx_push, nx_set, ne_eq] <;> omega) | (simp only [XSide, F10]; done) | decide) only [XWalk, XSl, ↓XPre, reduceIte, Nat.reduceEqDiff, Nat.reduceLT, Nat.reduceAdd, Nat.reduceSub, Nat.reduceMul, Nat.reduceBEq, reduceCtorEq, Int.reduceAdd, Int.reduceSub, Int.reduceMul, Int.reduceLT, Int.reduceLE, Int.reduceGT, Int.reduceGE, Int.reduceEq, Int.reduceNe, Int.reduceBEq, Int.reduceBNe, Int.reduceTMod, Int.reduceTDiv, ↓if_true, ↓if_false, F10, A10]
      exact ⟨_, rfl, rfl⟩
    | some p =>
      rw [ho] at hr
      obtain ⟨sv', rfl, hsv⟩ := hr
      simp (maxSteps := 2000000) (disch := first | assumption | omega | (simp only [nx_push, nx_set, ne_eq] <;> omega) | (simp only [XSide, F10]; done) | decide) only [XWalk, XSl, ↓XPre, reduceIte, Nat.reduceEqDiff, Nat.reduceLT, Nat.reduceAdd, Nat.reduceSub, Nat.reduceMul, Nat.reduceBEq, reduceCtorEq, Int.reduceAdd, Int.reduceSub, Int.reduceMul, Int.reduceLT, Int.reduceLE, Int.reduceGT, Int.reduceGE, Int.reduceEq, Int.reduceNe, Int.reduceBEq, Int.reduceBNe, Int.reduceTMod, Int.reduceTDiv, ↓if_true, ↓if_false, F10, A10]
      exact ⟨_, rfl, sv', rfl, hsv⟩

end Go.Big
