/- The hash: the sum. -/
import Derived.Test.YtobhnnbdobphfaaDoorJoined7
set_option linter.unusedSimpArgs false
set_option linter.unusedVariables false
set_option maxRecDepth 100000
set_option maxHeartbeats 2000000
namespace Go.Big
open Go.Proofs

theorem HashAt.frame {m m' : Mem} {hb : Nat} {k : List UInt32} {p : List UInt8} (h : HashAt m hb k p) (hf : m'.get hb = m.get hb) : HashAt m' hb k p := by
  obtain ⟨H, R, used, done, cnt, hm, hs⟩ := h
  exact ⟨H, R, used, done, cnt, by rw [hf]; exact hm, hs⟩
theorem HashAt.lt {m : Mem} (hw : WF m) {hb : Nat} {k : List UInt32} {p : List UInt8} (h : HashAt m hb k p) : hb < m.next := by
  obtain ⟨H, R, used, done, cnt, hm, hs⟩ := h
  exact hw.lt (by rw [hm]; simp)

theorem u32_u8 (x : UInt32) : ((x.toNat : Int) % 256) = (x.toUInt8.toNat : Int) := by
  rw [UInt32.toNat_toUInt8]; omega
theorem shr8' (x : UInt32) : shrK .u32 (x.toNat : Int) 8 = ((x >>> 8).toNat : Int) := shrK_32 x 8 (by omega)
theorem shr16' (x : UInt32) : shrK .u32 (x.toNat : Int) 16 = ((x >>> 16).toNat : Int) := shrK_32 x 16 (by omega)
theorem shr24' (x : UInt32) : shrK .u32 (x.toNat : Int) 24 = ((x >>> 24).toNat : Int) := shrK_32 x 24 (by omega)

theorem aclear_row {P : Program} {m : Mem} {t : TypeId} {e : TypeId} (ht : P.underlying t = some (.slice e)) {z : Value} (hz : (P.info? e).bind (·.zero) = some z) (hs : z.cells.toList.all scalar = true) (hz1 : z.cells.toList = [z]) {b off n c : Nat} {rs : List Value} (hm : m.get b = some (.row rs .rw)) (hn : n ≠ 0)
    (hl : off + n ≤ rs.length) (hone : oneCell z = true) :
    aclear P #[t] (.slice (some ⟨b, off, none⟩) n c) m = some (.tuple #[], m.set b (.row (rs.take off ++ List.replicate n z ++ rs.drop (off + n)) .rw), [b], .all) := by
  have h1 : ∀ k, zeroCellsN [z] k = List.replicate k z := by
    intro k
    induction k with
    | zero => rfl
    | succ k ih => rw [zeroCellsN, ih, List.replicate_succ]; rfl
  have h2 : (List.replicate n z).all oneCell = true := by
    rw [List.all_eq_true]; intro x hx; rw [List.eq_of_mem_replicate hx]; exact hone
  have h3 : storeN rs off (List.replicate n z) = some (rs.take off ++ List.replicate n z ++ rs.drop (off + n)) := by
    unfold storeN
    rw [List.length_replicate, ble_dec, decide_eq_true hl, cond_true]
  have hn' : Nat.beq n 0 = false := by rw [beq_dec]; simpa using hn
  have e1 : ((#[t] : Array TypeId)[0]?).bind P.underlying = some (.slice e) := ht
  unfold aclear
  rw [e1]
  simp only [hz, hn', cond_false, hs, cond_true, putCells, hm, writable_rw, hz1, h1, h2, Bool.and_self, h3, Option.map_some]
  rw [hz1] at hs
  rw [hs]; rfl
theorem aop_clear {P : Program} {m : Mem} {ρ : Operand → Value} {d : Option Nat} {ty : TypeId} {ps : String} {af : Array Edge} {g : Option (Nat × Bool)} {x : Operand} {aT : Array TypeId} :
    aop P ρ ⟨d, .call { callee := .builtin .clear, args := #[x], argTypes := aT }, ty, ps, af, g⟩ m = aclear P aT (ρ x) m := id rfl
theorem aclear_nil {P : Program} {m : Mem} {t : TypeId} {e : TypeId} (ht : P.underlying t = some (.slice e)) {a : Addr} {c : Nat} : aclear P #[t] (.slice (some a) 0 c) m = some (.tuple #[], m, [], .all) := by
  have e1 : ((#[t] : Array TypeId)[0]?).bind P.underlying = some (.slice e) := ht
  unfold aclear
  rw [e1]
  rfl

theorem hsum_ct {m : Mem} (hw : WF m) {hb : Nat} {k : List UInt32} {p : List UInt8} (hh : HashAt m hb k p) (hp : p.length ≤ 1099511627776) : Ct Tryd.prog S0 59 [.pointer (some ⟨hb, 0, none⟩)] m []
    (fun out m' => out = .ret (.tuple #[.agg (u8s (wordsB (hashFin k 0 p))).toArray, .int .i64 0])) := by
  have hblt := hh.lt hw
  refine ct_x (spec0 _) (by rfl) Tryd.func59 rfl ?_
  simp (maxSteps := 2000000) (disch := first | assumption | omega | (simp only [nx_push, nx_set, ne_eq] <;> omega) | (simp only [XSide, F59]; done) | decide) only [XWalk, XSl, ↓XPre, reduceIte, Nat.reduceEqDiff, Nat.reduceLT, Nat.reduceAdd, Nat.reduceSub, Nat.reduceMul, Nat.reduceBEq, reduceCtorEq, Int.reduceAdd, Int.reduceSub, Int.reduceMul, Int.reduceLT, Int.reduceLE, Int.reduceGT, Int.reduceGE, Int.reduceEq, Int.reduceNe, Int.reduceBEq, Int.reduceBNe, Int.reduceTMod, Int.reduceTDiv, ↓if_true, ↓if_false, F59, A59, Tryd.ntmps59]
  have hh1 : HashAt (m.push (.row (u8s (List.replicate 32 0)) .rw)) hb k p := hh.frame (by rw [get_push_ne (by omega)])
  refine wcall_pu (pu_of (hnone_ct hh1)) ?_
  obtain ⟨H, R, used, done, cnt, hm, hs⟩ := hh
  have b8 : Nat.beq (w32s H).length 8 = true := by rw [w32s_len, hs.lH]; rfl
  have b64 : Nat.beq (u8s R).length 64 = true := by rw [u8s_length, hs.lR]; rfl
  have l0 : loadN (hashRow H R used done cnt) 0 8 = some (w32s H) := loadN_of (hr_words hs.lH) (by rw [w32s_len, hs.lH])
  have l8 : loadN (hashRow H R used done cnt) 8 64 = some (u8s R) := loadN_of (hr_rest hs.lH hs.lR) (by rw [u8s_length, hs.lR])
  have o8 : (w32s H).all oneCell = true := w32s_one'
  have o64 : (u8s R).all oneCell = true := u8s_one
  have s8 : (w32s H).length = 8 := by rw [w32s_len]; exact hs.lH
  have s64 : (u8s R).length = 64 := by rw [u8s_length]; exact hs.lR
  simp (maxSteps := 2000000) (disch := first | assumption | omega | (simp only [nx_push, nx_set, ne_eq] <;> omega) | (simp only [XSide, F59]; done) | decide) only [XWalk, XSl, ↓XPre, reduceIte, Nat.reduceEqDiff, Nat.reduceLT, Nat.reduceAdd, Nat.reduceSub, Nat.reduceMul, Nat.reduceBEq, reduceCtorEq, Int.reduceAdd, Int.reduceSub, Int.reduceMul, Int.reduceLT, Int.reduceLE, Int.reduceGT, Int.reduceGE, Int.reduceEq, Int.reduceNe, Int.reduceBEq, Int.reduceBNe, Int.reduceTMod, Int.reduceTDiv, ↓if_true, ↓if_false, F59, A59, hm, loadRow_agg, l0, l8, b8, b64]
  have tail : ∀ e m3, e.n = 60 ∧ e.get 0 = .pointer (some ⟨hb, 0, none⟩) ∧ e.get 2 = .pointer (some ⟨m.next, 0, none⟩) ∧ e.get 4 = .pointer (some ⟨m.next + 1, 0, none⟩) ∧ e.get 5 = .pointer (some ⟨m.next + 2, 0, none⟩) ∧ WF m3 ∧ m3.next = m.next + 3 ∧ m3.get hb = some (.row (hashRow H R used done cnt) .rw) ∧
      m3.get m.next = some (.row (u8s (List.replicate 32 0)) .rw) ∧ m3.get (m.next + 1) = some (.row (w32s H) .rw) ∧ m3.get (m.next + 2) = some (.row (u8s (pad64 (R.take used))) .rw) →
      WX Tryd.prog S0 m.next [] (sub (bodyOf Tryd.f59) [true, true, true, true, true, false]) e m3 (andX Tryd.prog S0 m.next [] (sub (bodyOf Tryd.f59) [true, true, true, true, true, true]) (bodyQ Tryd.prog Tryd.f59 fun out m' => out = .ret (.tuple #[.agg (u8s (wordsB (hashFin k 0 p))).toArray, .int .i64 0]))) := by
    rintro e m3 ⟨he, q0, q2, q4, q5, hw3, hn3, hh3, hr3, hH3, hR3⟩
    refine x_draw [0, 0, 2, 6, 14, 0, 32, 96, 224, 480, 1022, 2047] (by kernel_rfl) ?_
    have sm := hs.sum
    have hle := hs.le
    have e1 : IntKind.wrap .u64 (used : Int) = (used : Int) := wrap_u64 (by omega) (by omega)
    have e2 : IntKind.wrap .u64 ((done : Int) + (used : Int)) = ((done + used : Nat) : Int) := by rw [wrap_u64 (by omega) (by omega)]; omega
    simp (maxSteps := 2000000) (disch := first | assumption | omega | (simp only [nx_push, nx_set, ne_eq] <;> omega) | (simp only [XSide, F59]; done) | decide) only [XWalk, XSl, ↓XPre, reduceIte, Nat.reduceEqDiff, Nat.reduceLT, Nat.reduceAdd, Nat.reduceSub, Nat.reduceMul, Nat.reduceBEq, reduceCtorEq, Int.reduceAdd, Int.reduceSub, Int.reduceMul, Int.reduceLT, Int.reduceLE, Int.reduceGT, Int.reduceGE, Int.reduceEq, Int.reduceNe, Int.reduceBEq, Int.reduceBNe, Int.reduceTMod, Int.reduceTDiv, ↓if_true, ↓if_false, F59, A59, he, q0, q2, q4, q5, hh3, hr72 hs.lH hs.lR, hr73 hs.lH hs.lR, hR3, e1, e2]
    have lp : (pad64 (R.take used)).length = 64 := by rw [pad64, List.length_append, List.length_replicate, List.length_take, hs.lR]; omega
    refine wcall_of specLoc (compress_ct (ho := 0) (bo := 0) (hs := w32s H) (bs := u8s (pad64 (R.take used))) (H := H) (l := pad64 (R.take used)) hw3 hH3 (by rw [List.drop_zero, List.take_of_length_le (by rw [s8]; omega)]) hs.lH (by rw [s8]; omega) hR3 (by rw [List.drop_zero, List.take_of_length_le (by rw [u8s_length]; omega)]) lp (Nat.le_refl _) (by omega)) hw3 (fun b hb' hlt => ?_) ?_
    · simp at hb'; omega
    rintro out m4 wr hwr hw4 hn4 hf4 _ ⟨rfl, hh4⟩
    have hwin : win (w32s H) 0 (w32s (compressW H (pad64 (R.take used)) (done + used) true)) = w32s (hashFin k 0 p) := by
      have e5 : hashFin k 0 p = compressW H (pad64 (R.take used)) (done + used) true := by
        have := hs.fin []
        rw [List.append_nil, List.append_nil] at this
        rw [this, hashFin, if_pos (by rw [List.length_take]; omega), List.length_take, hs.lR, Nat.min_eq_left hle]
      rw [e5, win, List.take_zero, List.nil_append, List.drop_eq_nil_of_le (by rw [s8, w32s_len, compressW_length]; omega), List.append_nil]
    rw [hwin] at hh4
    have lW : (hashFin k 0 p).length = 8 := hashFin_length _ _ _ _ (Nat.le_refl _)
    generalize hashFin k 0 p = W at hh4 lW ⊢
    have okw : ∀ b ∈ wr, b = m.next + 1 := fun b hb' => by simpa using hwr b hb'
    have ow : OkW m.next [] wr := fun b hb' hlt => by have := okw b hb'; omega
    have l4 : loadN (w32s W) 0 8 = some (w32s W) := loadN_all (by rw [w32s_len]; exact lW)
    have hr4 : m4.get m.next = some (.row (u8s (List.replicate 32 0)) .rw) := by rw [hf4 _ (by omega) (by simp)]; exact hr3
    simp (maxSteps := 2000000) (disch := first | assumption | omega | (simp only [nx_push, nx_set, ne_eq] <;> omega) | (simp only [XSide, F59]; done) | decide) only [XWalk, XSl, ↓XPre, reduceIte, Nat.reduceEqDiff, Nat.reduceLT, Nat.reduceAdd, Nat.reduceSub, Nat.reduceMul, Nat.reduceBEq, reduceCtorEq, Int.reduceAdd, Int.reduceSub, Int.reduceMul, Int.reduceLT, Int.reduceLE, Int.reduceGT, Int.reduceGE, Int.reduceEq, Int.reduceNe, Int.reduceBEq, Int.reduceBNe, Int.reduceTMod, Int.reduceTDiv, ↓if_true, ↓if_false, F59, A59, he, q0, q2, q4, q5, hh4, loadRow_agg, l4, ow]
    refine x_keep (fun e => e.n = 60 ∧ e.get 2 = .pointer (some ⟨m.next, 0, none⟩) ∧ e.get 4 = .pointer (some ⟨m.next + 1, 0, none⟩)) ⟨by simp (maxSteps := 2000000) (disch := first | assumption | omega | (simp only [nx_push, nx_set, ne_eq] <;> omega) | (simp only [XSide]; done) | decide) only [XWalk, XSl, ↓XPre, reduceIte, Nat.reduceEqDiff, Nat.reduceLT, Nat.reduceAdd, Nat.reduceSub, Nat.reduceMul, Nat.reduceBEq, reduceCtorEq, Int.reduceAdd, Int.reduceSub, Int.reduceMul, Int.reduceLT, Int.reduceLE, Int.reduceGT, Int.reduceGE, Int.reduceEq, Int.reduceNe, Int.reduceBEq, Int.reduceBNe, Int.reduceTMod, Int.reduceTDiv, ↓if_true, ↓if_false, he], by simp (maxSteps := 2000000) (disch := first | assumption | omega | (simp only [nx_push, nx_set, ne_eq] <;> omega) | (simp only [XSide]; done) | decide) only [XWalk, XSl, ↓XPre, reduceIte, Nat.reduceEqDiff, Nat.reduceLT, Nat.reduceAdd, Nat.reduceSub, Nat.reduceMul, Nat.reduceBEq, reduceCtorEq, Int.reduceAdd, Int.reduceSub, Int.reduceMul, Int.reduceLT, Int.reduceLE, Int.reduceGT, Int.reduceGE, Int.reduceEq, Int.reduceNe, Int.reduceBEq, Int.reduceBNe, Int.reduceTMod, Int.reduceTDiv, ↓if_true, ↓if_false, q2], by simp (maxSteps := 2000000) (disch := first | assumption | omega | (simp only [nx_push, nx_set, ne_eq] <;> omega) | (simp only [XSide]; done) | decide) only [XWalk, XSl, ↓XPre, reduceIte, Nat.reduceEqDiff, Nat.reduceLT, Nat.reduceAdd, Nat.reduceSub, Nat.reduceMul, Nat.reduceBEq, reduceCtorEq, Int.reduceAdd, Int.reduceSub, Int.reduceMul, Int.reduceLT, Int.reduceLE, Int.reduceGT, Int.reduceGE, Int.reduceEq, Int.reduceNe, Int.reduceBEq, Int.reduceBNe, Int.reduceTMod, Int.reduceTDiv, ↓if_true, ↓if_false, q4]⟩ ?_
    clear q0 q2 q4 q5 he e
    rintro e ⟨he, q2, q4⟩
    simp only [sub, bodyOf, Tryd.f59, Option.getD_some]
    simp (maxSteps := 2000000) (disch := first | assumption | omega | (simp only [nx_push, nx_set, ne_eq] <;> omega) | (simp only [XSide, F59]; done) | decide) only [XWalk, XSl, ↓XPre, reduceIte, Nat.reduceEqDiff, Nat.reduceLT, Nat.reduceAdd, Nat.reduceSub, Nat.reduceMul, Nat.reduceBEq, reduceCtorEq, Int.reduceAdd, Int.reduceSub, Int.reduceMul, Int.reduceLT, Int.reduceLE, Int.reduceGT, Int.reduceGE, Int.reduceEq, Int.reduceNe, Int.reduceBEq, Int.reduceBNe, Int.reduceTMod, Int.reduceTDiv, ↓if_true, ↓if_false, F59, A59, he, q2, q4, hh4, loadRow_agg, l4]
    refine x_loop (fun q e m5 => ∃ i, i + q = 8 ∧ e.n = 60 ∧ e.get 2 = .pointer (some ⟨m.next, 0, none⟩) ∧ e.get 6 = .pointer (some ⟨m4.next, 0, none⟩) ∧ e.get 37 = .agg (w32s W).toArray ∧ e.get 38 = .int .i64 ((i : Nat) : Int) ∧ WF m5 ∧ m4.next < m5.next ∧ m5.get m.next = some (.row (u8s (List.replicate 32 0)) .rw) ∧
      m5.get m4.next = some (.row (u8s (wordsB (W.take i) ++ List.replicate (32 - 4 * i) 0)) .rw)) 8 ⟨0, by omega, by simp (maxSteps := 2000000) (disch := first | assumption | omega | (simp only [nx_push, nx_set, ne_eq] <;> omega) | (simp only [XSide]; done) | decide) only [XWalk, XSl, ↓XPre, reduceIte, Nat.reduceEqDiff, Nat.reduceLT, Nat.reduceAdd, Nat.reduceSub, Nat.reduceMul, Nat.reduceBEq, reduceCtorEq, Int.reduceAdd, Int.reduceSub, Int.reduceMul, Int.reduceLT, Int.reduceLE, Int.reduceGT, Int.reduceGE, Int.reduceEq, Int.reduceNe, Int.reduceBEq, Int.reduceBNe, Int.reduceTMod, Int.reduceTDiv, ↓if_true, ↓if_false, he], by simp (maxSteps := 2000000) (disch := first | assumption | omega | (simp only [nx_push, nx_set, ne_eq] <;> omega) | (simp only [XSide]; done) | decide) only [XWalk, XSl, ↓XPre, reduceIte, Nat.reduceEqDiff, Nat.reduceLT, Nat.reduceAdd, Nat.reduceSub, Nat.reduceMul, Nat.reduceBEq, reduceCtorEq, Int.reduceAdd, Int.reduceSub, Int.reduceMul, Int.reduceLT, Int.reduceLE, Int.reduceGT, Int.reduceGE, Int.reduceEq, Int.reduceNe, Int.reduceBEq, Int.reduceBNe, Int.reduceTMod, Int.reduceTDiv, ↓if_true, ↓if_false, q2], by simp (maxSteps := 2000000) (disch := first | assumption | omega | (simp only [nx_push, nx_set, ne_eq] <;> omega) | (simp only [XSide]; done) | decide) only [XWalk, XSl, ↓XPre, reduceIte, Nat.reduceEqDiff, Nat.reduceLT, Nat.reduceAdd, Nat.reduceSub, Nat.reduceMul, Nat.reduceBEq, reduceCtorEq, Int.reduceAdd, Int.reduceSub, Int.reduceMul, Int.reduceLT, Int.reduceLE, Int.reduceGT, Int.reduceGE, Int.reduceEq, Int.reduceNe, Int.reduceBEq, Int.reduceBNe, Int.reduceTMod, Int.reduceTDiv, ↓if_true, ↓if_false], by simp (maxSteps := 2000000) (disch := first | assumption | omega | (simp only [nx_push, nx_set, ne_eq] <;> omega) | (simp only [XSide]; done) | decide) only [XWalk, XSl, ↓XPre, reduceIte, Nat.reduceEqDiff, Nat.reduceLT, Nat.reduceAdd, Nat.reduceSub, Nat.reduceMul, Nat.reduceBEq, reduceCtorEq, Int.reduceAdd, Int.reduceSub, Int.reduceMul, Int.reduceLT, Int.reduceLE, Int.reduceGT, Int.reduceGE, Int.reduceEq, Int.reduceNe, Int.reduceBEq, Int.reduceBNe, Int.reduceTMod, Int.reduceTDiv, ↓if_true, ↓if_false], by simp (maxSteps := 2000000) (disch := first | assumption | omega | (simp only [nx_push, nx_set, ne_eq] <;> omega) | (simp only [XSide]; done) | decide) only [XWalk, XSl, ↓XPre, reduceIte, Nat.reduceEqDiff, Nat.reduceLT, Nat.reduceAdd, Nat.reduceSub, Nat.reduceMul, Nat.reduceBEq, reduceCtorEq, Int.reduceAdd, Int.reduceSub, Int.reduceMul, Int.reduceLT, Int.reduceLE, Int.reduceGT, Int.reduceGE, Int.reduceEq, Int.reduceNe, Int.reduceBEq, Int.reduceBNe, Int.reduceTMod, Int.reduceTDiv, ↓if_true, ↓if_false]; rfl, hw4.push, by simp (maxSteps := 2000000) (disch := first | assumption | omega | (simp only [nx_push, nx_set, ne_eq] <;> omega) | (simp only [XSide]; done) | decide) only [XWalk, XSl, ↓XPre, reduceIte, Nat.reduceEqDiff, Nat.reduceLT, Nat.reduceAdd, Nat.reduceSub, Nat.reduceMul, Nat.reduceBEq, reduceCtorEq, Int.reduceAdd, Int.reduceSub, Int.reduceMul, Int.reduceLT, Int.reduceLE, Int.reduceGT, Int.reduceGE, Int.reduceEq, Int.reduceNe, Int.reduceBEq, Int.reduceBNe, Int.reduceTMod, Int.reduceTDiv, ↓if_true, ↓if_false]; omega, by simp (maxSteps := 2000000) (disch := first | assumption | omega | (simp only [nx_push, nx_set, ne_eq] <;> omega) | (simp only [XSide]; done) | decide) only [XWalk, XSl, ↓XPre, reduceIte, Nat.reduceEqDiff, Nat.reduceLT, Nat.reduceAdd, Nat.reduceSub, Nat.reduceMul, Nat.reduceBEq, reduceCtorEq, Int.reduceAdd, Int.reduceSub, Int.reduceMul, Int.reduceLT, Int.reduceLE, Int.reduceGT, Int.reduceGE, Int.reduceEq, Int.reduceNe, Int.reduceBEq, Int.reduceBNe, Int.reduceTMod, Int.reduceTDiv, ↓if_true, ↓if_false, hr4], by simp (maxSteps := 2000000) (disch := first | assumption | omega | (simp only [nx_push, nx_set, ne_eq] <;> omega) | (simp only [XSide]; done) | decide) only [XWalk, XSl, ↓XPre, reduceIte, Nat.reduceEqDiff, Nat.reduceLT, Nat.reduceAdd, Nat.reduceSub, Nat.reduceMul, Nat.reduceBEq, reduceCtorEq, Int.reduceAdd, Int.reduceSub, Int.reduceMul, Int.reduceLT, Int.reduceLE, Int.reduceGT, Int.reduceGE, Int.reduceEq, Int.reduceNe, Int.reduceBEq, Int.reduceBNe, Int.reduceTMod, Int.reduceTDiv, ↓if_true, ↓if_false]; rfl⟩ ?_
    rintro q e m5 ⟨i, hi, he, q2, q6, q37, q38, hw5, hn5, hr5, ho5⟩
    simp (maxSteps := 2000000) (disch := first | assumption | omega | (simp only [nx_push, nx_set, ne_eq] <;> omega) | (simp only [XSide, F59]; done) | decide) only [XWalk, XSl, ↓XPre, reduceIte, Nat.reduceEqDiff, Nat.reduceLT, Nat.reduceAdd, Nat.reduceSub, Nat.reduceMul, Nat.reduceBEq, reduceCtorEq, Int.reduceAdd, Int.reduceSub, Int.reduceMul, Int.reduceLT, Int.reduceLE, Int.reduceGT, Int.reduceGE, Int.reduceEq, Int.reduceNe, Int.reduceBEq, Int.reduceBNe, Int.reduceTMod, Int.reduceTDiv, ↓if_true, ↓if_false, F59, A59, he, q38]
    refine x_if (fun ht => ?_) (fun ht => ?_)
    · have hk : i < 8 := by simp at ht; omega
      have hWi : (w32s W).toArray[i]? = some (w32 (W.getD i 0)) := by
        rw [List.getElem?_toArray]; exact w32s_get (by omega)
      have e1 : IntKind.wrap .i64 (4 * (i : Int)) = ((4 * i : Nat) : Int) := by rw [wrap_i64 (by omega) (by omega)]; omega
      have e2 : IntKind.wrap .i64 ((i : Int) + 1) = ((i + 1 : Nat) : Int) := by rw [wrap_i64 (by omega) (by omega)]; omega
      simp (maxSteps := 2000000) (disch := first | assumption | omega | (simp only [nx_push, nx_set, ne_eq] <;> omega) | (simp only [XSide, F59]; done) | decide) only [XWalk, XSl, ↓XPre, reduceIte, Nat.reduceEqDiff, Nat.reduceLT, Nat.reduceAdd, Nat.reduceSub, Nat.reduceMul, Nat.reduceBEq, reduceCtorEq, Int.reduceAdd, Int.reduceSub, Int.reduceMul, Int.reduceLT, Int.reduceLE, Int.reduceGT, Int.reduceGE, Int.reduceEq, Int.reduceNe, Int.reduceBEq, Int.reduceBNe, Int.reduceTMod, Int.reduceTDiv, ↓if_true, ↓if_false, F59, A59, he, q38, q37, aidx_arr (show Tryd.prog.underlying 123 = some (.array 8 121) by kernel_rfl) hk (by kernel_rfl) (by kernel_rfl) hWi, e1, e2, q6, ho5, u32_u8, shr8', shr16', shr24']
      generalize hwd : W.getD i 0 = w
      have lpre : (wordsB (W.take i)).length = 4 * i := by rw [wordsB_length, List.length_take]; omega
      rw [show [Value.int .u8 (w.toUInt8.toNat : Int), .int .u8 ((w >>> 8).toUInt8.toNat : Int), .int .u8 ((w >>> 16).toUInt8.toNat : Int), .int .u8 ((w >>> 24).toUInt8.toNat : Int)] = u8s (wordB w) from rfl]
      rw [acopy_sl (new := u8s (wordB w)) (rs := u8s (wordsB (W.take i) ++ List.replicate (32 - 4 * i) 0)) (by simp only [F59]) (Sl.of_row (m := m5.push (.row (u8s (wordB w)) .rw)) (b := m5.next) (off := 0) (n := 4) (c := 4) (rs := u8s (wordB w)) (by rw [get_push_self]) rfl rfl (Nat.le_refl _)) (by rw [get_push_ne (by omega)]; exact ho5) u8s_one (by rw [u8s_length]; simp [wordB]; omega) (by rw [u8s_length, u8s_length, List.length_append, lpre, List.length_replicate]; simp [wordB]; omega)]
      have hmin : min (u8s (wordB w)).length (32 - 4 * i) = 4 := by rw [u8s_length]; simp [wordB]; omega
      have hrow : (u8s (wordsB (W.take i) ++ List.replicate (32 - 4 * i) 0)).take (4 * i) ++ (u8s (wordB w)).take 4 ++ (u8s (wordsB (W.take i) ++ List.replicate (32 - 4 * i) 0)).drop (4 * i + 4) = u8s (wordsB (W.take (i + 1)) ++ List.replicate (32 - 4 * (i + 1)) 0) := by
        have hlt : i < W.length := by omega
        have e3 : wordsB (W.take (i + 1)) = wordsB (W.take i) ++ wordB w := by
          rw [List.take_succ_eq_append_getElem hlt, wordsB, List.flatMap_append]
          have : W[i] = w := by rw [← hwd, List.getD_eq_getElem?_getD, List.getElem?_eq_getElem hlt]; rfl
          rw [this]
          simp [wordsB]
        rw [e3, u8s_take, u8s_take, u8s_drop, List.take_append_of_le_length (by omega), List.take_of_length_le (l := wordsB (W.take i)) (by omega), List.take_of_length_le (l := wordB w) (by simp [wordB]), List.drop_append, List.drop_eq_nil_of_le (by omega), lpre, List.nil_append, ← u8s_append, ← u8s_append]
        congr 2
        rw [List.drop_replicate]
        congr 1
        omega
      rw [hmin, hrow]
      simp (maxSteps := 2000000) (disch := first | assumption | omega | (simp only [nx_push, nx_set, ne_eq] <;> omega) | (simp only [XSide, F59]; done) | decide) only [XWalk, XSl, ↓XPre, reduceIte, Nat.reduceEqDiff, Nat.reduceLT, Nat.reduceAdd, Nat.reduceSub, Nat.reduceMul, Nat.reduceBEq, reduceCtorEq, Int.reduceAdd, Int.reduceSub, Int.reduceMul, Int.reduceLT, Int.reduceLE, Int.reduceGT, Int.reduceGE, Int.reduceEq, Int.reduceNe, Int.reduceBEq, Int.reduceBNe, Int.reduceTMod, Int.reduceTDiv, ↓if_true, ↓if_false, F59, A59, he, q38, e2, q2, q6, q37]
      refine ⟨q - 1, by omega, i + 1, by omega, rfl, by (repeat (first | exact hw5 | apply WF.push | (refine WF.set ?_ (by first | omega | (simp only [Mem.next_set, Mem.next_push]; omega))))), by omega, hr5, rfl⟩
    · have hk : i = 8 := by simp at ht; omega
      subst hk
      have l32 : loadN (u8s (wordsB (W.take 8) ++ List.replicate (32 - 4 * 8) 0)) 0 32 = some (u8s (wordsB W)) := by
        rw [List.take_of_length_le (by omega), show 32 - 4 * 8 = 0 from rfl, List.replicate_zero, List.append_nil]
        exact loadN_all (by rw [u8s_length, wordsB_length]; omega)
      rw [show 32 - 4 * 8 = 0 from rfl] at ho5 l32
      have b32 : Nat.beq (u8s (wordsB W)).length 32 = true := by rw [u8s_length, wordsB_length, lW]; rfl
      have o32 : (u8s (wordsB W)).all oneCell = true := u8s_one
      have s32 : (u8s (wordsB W)).length = (u8s (List.replicate 32 0)).length := by rw [u8s_length, wordsB_length, lW]; rfl
      have l32' : loadN (u8s (wordsB W)) 0 32 = some (u8s (wordsB W)) := loadN_all (by rw [u8s_length, wordsB_length]; omega)
      simp (maxSteps := 2000000) (disch := first | assumption | omega | (simp only [nx_push, nx_set, ne_eq] <;> omega) | (simp only [XSide, F59]; done) | decide) only [XWalk, XSl, ↓XPre, reduceIte, Nat.reduceEqDiff, Nat.reduceLT, Nat.reduceAdd, Nat.reduceSub, Nat.reduceMul, Nat.reduceBEq, reduceCtorEq, Int.reduceAdd, Int.reduceSub, Int.reduceMul, Int.reduceLT, Int.reduceLE, Int.reduceGT, Int.reduceGE, Int.reduceEq, Int.reduceNe, Int.reduceBEq, Int.reduceBNe, Int.reduceTMod, Int.reduceTDiv, ↓if_true, ↓if_false, F59, A59, he, q2, q6, loadRow_agg, ho5, l32, b32, hr5]
      change WR (aresults Tryd.prog Tryd.f59 _ _) _ _
      simp (maxSteps := 2000000) (disch := first | assumption | omega | (simp only [nx_push, nx_set, ne_eq] <;> omega) | (simp only [XSide, F59]; done) | decide) only [XWalk, XSl, ↓XPre, reduceIte, Nat.reduceEqDiff, Nat.reduceLT, Nat.reduceAdd, Nat.reduceSub, Nat.reduceMul, Nat.reduceBEq, reduceCtorEq, Int.reduceAdd, Int.reduceSub, Int.reduceMul, Int.reduceLT, Int.reduceLE, Int.reduceGT, Int.reduceGE, Int.reduceEq, Int.reduceNe, Int.reduceBEq, Int.reduceBNe, Int.reduceTMod, Int.reduceTDiv, ↓if_true, ↓if_false, F59, A59, he, q2, loadRow_agg, l32']
  rcases Nat.lt_or_ge used 64 with hu | hu
  · simp (maxSteps := 2000000) (disch := first | assumption | omega | (simp only [nx_push, nx_set, ne_eq] <;> omega) | (simp only [XSide, F59]; done) | decide) only [XWalk, XSl, ↓XPre, reduceIte, Nat.reduceEqDiff, Nat.reduceLT, Nat.reduceAdd, Nat.reduceSub, Nat.reduceMul, Nat.reduceBEq, reduceCtorEq, Int.reduceAdd, Int.reduceSub, Int.reduceMul, Int.reduceLT, Int.reduceLE, Int.reduceGT, Int.reduceGE, Int.reduceEq, Int.reduceNe, Int.reduceBEq, Int.reduceBNe, Int.reduceTMod, Int.reduceTDiv, ↓if_true, ↓if_false, F59, A59, aop_clear, hr72 hs.lH hs.lR]
    rw [aclear_row (z := .int .u8 0) (show Tryd.prog.underlying 22 = some (.slice 5) by kernel_rfl) (by kernel_rfl) rfl rfl (rs := u8s R) (by simp (maxSteps := 2000000) (disch := first | assumption | omega | (simp only [nx_push, nx_set, ne_eq] <;> omega) | (simp only [XSide]; done) | decide) only [XWalk, XSl, ↓XPre, reduceIte, Nat.reduceEqDiff, Nat.reduceLT, Nat.reduceAdd, Nat.reduceSub, Nat.reduceMul, Nat.reduceBEq, reduceCtorEq, Int.reduceAdd, Int.reduceSub, Int.reduceMul, Int.reduceLT, Int.reduceLE, Int.reduceGT, Int.reduceGE, Int.reduceEq, Int.reduceNe, Int.reduceBEq, Int.reduceBNe, Int.reduceTMod, Int.reduceTDiv, ↓if_true, ↓if_false]) (by omega) (by rw [s64]; omega) rfl]
    have hc : (u8s R).take used ++ List.replicate (64 - used) (Value.int .u8 0) ++ (u8s R).drop (used + (64 - used)) = u8s (pad64 (R.take used)) := by
      rw [List.drop_eq_nil_of_le (by rw [s64]; omega), u8s_take, pad64, u8s_append, List.append_nil, List.length_take, Nat.min_eq_left (by rw [hs.lR]; omega)]
      congr 1
      simp [u8s]
    rw [hc]
    simp (maxSteps := 2000000) (disch := first | assumption | omega | (simp only [nx_push, nx_set, ne_eq] <;> omega) | (simp only [XSide, F59]; done) | decide) only [XWalk, XSl, ↓XPre, reduceIte, Nat.reduceEqDiff, Nat.reduceLT, Nat.reduceAdd, Nat.reduceSub, Nat.reduceMul, Nat.reduceBEq, reduceCtorEq, Int.reduceAdd, Int.reduceSub, Int.reduceMul, Int.reduceLT, Int.reduceLE, Int.reduceGT, Int.reduceGE, Int.reduceEq, Int.reduceNe, Int.reduceBEq, Int.reduceBNe, Int.reduceTMod, Int.reduceTDiv, ↓if_true, ↓if_false, F59, A59]
    refine tail _ _ ⟨?_, ?_, ?_, ?_, ?_, ?_, ?_, ?_, ?_, ?_, ?_⟩ <;> (try simp (maxSteps := 2000000) (disch := first | assumption | omega | (simp only [nx_push, nx_set, ne_eq] <;> omega) | (simp only [XSide]; done) | decide) only [XWalk, XSl, ↓XPre, reduceIte, Nat.reduceEqDiff, Nat.reduceLT, Nat.reduceAdd, Nat.reduceSub, Nat.reduceMul, Nat.reduceBEq, reduceCtorEq, Int.reduceAdd, Int.reduceSub, Int.reduceMul, Int.reduceLT, Int.reduceLE, Int.reduceGT, Int.reduceGE, Int.reduceEq, Int.reduceNe, Int.reduceBEq, Int.reduceBNe, Int.reduceTMod, Int.reduceTDiv, ↓if_true, ↓if_false, hm])
    · (repeat (first | exact hw | apply WF.push | (refine WF.set ?_ (by first | omega | (simp only [Mem.next_set, Mem.next_push]; omega)))))
    · rfl
  · have hu64 : used = 64 := by have := hs.le; omega
    subst hu64
    have he : ∀ b, aslA (some (64, 1)) (some (.row (u8s R) .rw)) b 0 (some (.int .i64 ((64 : Nat) : Int))) none = some (.slice (some ⟨b, 0, none⟩) 0 0) := fun b => aslA_end
    simp (maxSteps := 2000000) (disch := first | assumption | omega | (simp only [nx_push, nx_set, ne_eq] <;> omega) | (simp only [XSide, F59]; done) | decide) only [XWalk, XSl, ↓XPre, reduceIte, Nat.reduceEqDiff, Nat.reduceLT, Nat.reduceAdd, Nat.reduceSub, Nat.reduceMul, Nat.reduceBEq, reduceCtorEq, Int.reduceAdd, Int.reduceSub, Int.reduceMul, Int.reduceLT, Int.reduceLE, Int.reduceGT, Int.reduceGE, Int.reduceEq, Int.reduceNe, Int.reduceBEq, Int.reduceBNe, Int.reduceTMod, Int.reduceTDiv, ↓if_true, ↓if_false, F59, A59, aop_clear, he, hr72 hs.lH hs.lR]
    rw [aclear_nil (show Tryd.prog.underlying 22 = some (.slice 5) by kernel_rfl)]
    simp (maxSteps := 2000000) (disch := first | assumption | omega | (simp only [nx_push, nx_set, ne_eq] <;> omega) | (simp only [XSide, F59]; done) | decide) only [XWalk, XSl, ↓XPre, reduceIte, Nat.reduceEqDiff, Nat.reduceLT, Nat.reduceAdd, Nat.reduceSub, Nat.reduceMul, Nat.reduceBEq, reduceCtorEq, Int.reduceAdd, Int.reduceSub, Int.reduceMul, Int.reduceLT, Int.reduceLE, Int.reduceGT, Int.reduceGE, Int.reduceEq, Int.reduceNe, Int.reduceBEq, Int.reduceBNe, Int.reduceTMod, Int.reduceTDiv, ↓if_true, ↓if_false, F59, A59]
    refine tail _ _ ⟨?_, ?_, ?_, ?_, ?_, ?_, ?_, ?_, ?_, ?_, ?_⟩ <;> (try simp (maxSteps := 2000000) (disch := first | assumption | omega | (simp only [nx_push, nx_set, ne_eq] <;> omega) | (simp only [XSide]; done) | decide) only [XWalk, XSl, ↓XPre, reduceIte, Nat.reduceEqDiff, Nat.reduceLT, Nat.reduceAdd, Nat.reduceSub, Nat.reduceMul, Nat.reduceBEq, reduceCtorEq, Int.reduceAdd, Int.reduceSub, Int.reduceMul, Int.reduceLT, Int.reduceLE, Int.reduceGT, Int.reduceGE, Int.reduceEq, Int.reduceNe, Int.reduceBEq, Int.reduceBNe, Int.reduceTMod, Int.reduceTDiv, ↓if_true, ↓if_false, hm])
    · (repeat (first | exact hw | apply WF.push | (refine WF.set ?_ (by first | omega | (simp only [Mem.next_set, Mem.next_push]; omega)))))
    · rfl
    · rw [List.take_of_length_le (by rw [hs.lR]; omega), pad64, hs.lR]; simp

end Go.Big

/- The hash: new computations, and the exported functions. -/
set_option linter.unusedSimpArgs false
set_option linter.unusedVariables false
set_option maxRecDepth 100000
set_option maxHeartbeats 2000000
namespace Go.Big
open Go.Proofs

theorem build179 : abuild Tryd.prog 127 [(0, .agg (w32s ivW).toArray), (5, .bool true)] = some (.agg (hashRow ivW (List.replicate 64 0) 0 0 0).toArray) := by kernel_rfl

theorem hr_set0 {H : List UInt32} {R : List UInt8} {used done : Nat} {cnt : Int} (lH : H.length = 8) {x : UInt32} : (hashRow H R used done cnt).set 0 (w32 x) = hashRow (H.set 0 x) R used done cnt := by
  unfold hashRow
  rw [List.append_assoc, List.set_append_left _ _ (by rw [w32s_len]; omega), w32s_set, List.append_assoc]

def keyBlock (key : List UInt8) : List UInt8 := if key = [] then [] else pad64 key

/-- A pointer to a computation of its own. -/
def IsHash (n0 : Nat) (k : List UInt32) (p : List UInt8) (v : Value) (m : Mem) : Prop := ∃ hb, v = .pointer (some ⟨hb, 0, none⟩) ∧ n0 ≤ hb ∧ HashAt m hb k p

theorem hnew_ct {m : Mem} (hw : WF m) {v : Value} {key : List UInt8} (hv : Bs m v key) (hl : key.length < 2147483648) : Ct Tryd.prog S0 57 [v] m []
    (fun out m' => if 32 < key.length then out = .ret (.tuple #[.pointer none, .int .i64 2]) else ∃ hp, out = .ret (.tuple #[hp, .int .i64 0]) ∧ IsHash m.next (key0 key.length) (keyBlock key) hp m') := by
  refine ct_x (spec0 _) (by rfl) Tryd.func57 rfl ?_
  simp (maxSteps := 2000000) (disch := first | assumption | omega | (simp only [nx_push, nx_set, ne_eq] <;> omega) | (simp only [XSide, F57]; done) | decide) only [XWalk, XSl, ↓XPre, reduceIte, Nat.reduceEqDiff, Nat.reduceLT, Nat.reduceAdd, Nat.reduceSub, Nat.reduceMul, Nat.reduceBEq, reduceCtorEq, Int.reduceAdd, Int.reduceSub, Int.reduceMul, Int.reduceLT, Int.reduceLE, Int.reduceGT, Int.reduceGE, Int.reduceEq, Int.reduceNe, Int.reduceBEq, Int.reduceBNe, Int.reduceTMod, Int.reduceTDiv, ↓if_true, ↓if_false, F57, A57, Tryd.ntmps57, alen_bs hv]
  refine x_if (fun h => ?_) (fun h => ?_)
  · have h1 : 32 < key.length := by have := of_decide_eq_true h; omega
    simp (maxSteps := 2000000) (disch := first | assumption | omega | (simp only [nx_push, nx_set, ne_eq] <;> omega) | (simp only [XSide, F57]; done) | decide) only [XWalk, XSl, ↓XPre, reduceIte, Nat.reduceEqDiff, Nat.reduceLT, Nat.reduceAdd, Nat.reduceSub, Nat.reduceMul, Nat.reduceBEq, reduceCtorEq, Int.reduceAdd, Int.reduceSub, Int.reduceMul, Int.reduceLT, Int.reduceLE, Int.reduceGT, Int.reduceGE, Int.reduceEq, Int.reduceNe, Int.reduceBEq, Int.reduceBNe, Int.reduceTMod, Int.reduceTDiv, ↓if_true, ↓if_false, F57, A57, if_pos h1]
  · have h1 : ¬ 32 < key.length := by have := of_decide_eq_false h; omega
    simp (maxSteps := 2000000) (disch := first | assumption | omega | (simp only [nx_push, nx_set, ne_eq] <;> omega) | (simp only [XSide, F57]; done) | decide) only [XWalk, XSl, ↓XPre, reduceIte, Nat.reduceEqDiff, Nat.reduceLT, Nat.reduceAdd, Nat.reduceSub, Nat.reduceMul, Nat.reduceBEq, reduceCtorEq, Int.reduceAdd, Int.reduceSub, Int.reduceMul, Int.reduceLT, Int.reduceLE, Int.reduceGT, Int.reduceGE, Int.reduceEq, Int.reduceNe, Int.reduceBEq, Int.reduceBNe, Int.reduceTMod, Int.reduceTDiv, ↓if_true, ↓if_false, F57, A57]
    refine wcall_x specLoc start_ct hw ?_
    rintro out m1 hw1 hn1 f1 rfl
    have hone : (hashRow ivW (List.replicate 64 0) 0 0 0).all oneCell = true := by rfl
    have h0 : (hashRow ivW (List.replicate 64 0) 0 0 0)[0]? = some (w32 0x6a09e667) := rfl
    have hv1 : Bs m1 v key := hv.keep (keep_of hw f1)
    have hv2 : ∀ o, Bs (m1.push o) v key := fun o => hv1.keep (Keep.push hw1)
    have hv3 : ∀ o o', Bs ((m1.push o).set m1.next o') v key := fun o o' => (hv2 o).frame_at fun b hb => by rw [get_set_ne (by have := hv1.blk_lt hw1 hb; omega)]
    have e1 : ∀ y : UInt32, (16842784 + (y.toNat : Int)) % 4294967296 = (((0x01010020 : UInt32) + y).toNat : Int) := fun y => addI_32 0x01010020 y
    have e2 : ((hashRow ivW (List.replicate 64 0) 0 0 0).set 0 (w32 ((0x6a09e667 : UInt32) ^^^ ((0x01010020 : UInt32) + ((UInt32.ofNat key.length) <<< (8 : UInt32)))))) = hashRow (key0 key.length) (List.replicate 64 0) 0 0 0 := by rw [hr_set0 rfl]; rfl
    simp (maxSteps := 2000000) (disch := first | assumption | omega | (simp only [nx_push, nx_set, ne_eq] <;> omega) | (simp only [XSide, F57]; done) | decide) only [XWalk, XSl, ↓XPre, reduceIte, Nat.reduceEqDiff, Nat.reduceLT, Nat.reduceAdd, Nat.reduceSub, Nat.reduceMul, Nat.reduceBEq, reduceCtorEq, Int.reduceAdd, Int.reduceSub, Int.reduceMul, Int.reduceLT, Int.reduceLE, Int.reduceGT, Int.reduceGE, Int.reduceEq, Int.reduceNe, Int.reduceBEq, Int.reduceBNe, Int.reduceTMod, Int.reduceTDiv, ↓if_true, ↓if_false, F57, A57, build179, abox_row hone]
    refine x_draw [0, 1, 3, 7, 15, 0, 32, 96, 224, 480, 1023, 1, 2049, 8191, 16383] (by kernel_rfl) ?_
    simp (maxSteps := 2000000) (disch := first | assumption | omega | (simp only [nx_push, nx_set, ne_eq] <;> omega) | (simp only [XSide, F57]; done) | decide) only [XWalk, XSl, ↓XPre, reduceIte, Nat.reduceEqDiff, Nat.reduceLT, Nat.reduceAdd, Nat.reduceSub, Nat.reduceMul, Nat.reduceBEq, reduceCtorEq, Int.reduceAdd, Int.reduceSub, Int.reduceMul, Int.reduceLT, Int.reduceLE, Int.reduceGT, Int.reduceGE, Int.reduceEq, Int.reduceNe, Int.reduceBEq, Int.reduceBNe, Int.reduceTMod, Int.reduceTDiv, ↓if_true, ↓if_false, F57, A57, alen_bs (hv2 _), alen_bs (hv3 _ _), h0, mod32_of, shl8, e1, xorI_32, e2]
    have lk : (key0 key.length).length = 8 := rfl
    have lz : (List.replicate 64 (0 : UInt8)).length = 64 := List.length_replicate
    have hw3 : ∀ o o', WF ((m1.push o).set m1.next o') := fun o o' => by (repeat (first | exact hw1 | apply WF.push | (refine WF.set ?_ (by first | omega | (simp only [Mem.next_set, Mem.next_push]; omega)))))
    refine x_if (fun h => ?_) (fun h => ?_)
    · have h2 : 0 < key.length := by have := of_decide_eq_true h; omega
      simp (maxSteps := 2000000) (disch := first | assumption | omega | (simp only [nx_push, nx_set, ne_eq] <;> omega) | (simp only [XSide, F57]; done) | decide) only [XWalk, XSl, ↓XPre, reduceIte, Nat.reduceEqDiff, Nat.reduceLT, Nat.reduceAdd, Nat.reduceSub, Nat.reduceMul, Nat.reduceBEq, reduceCtorEq, Int.reduceAdd, Int.reduceSub, Int.reduceMul, Int.reduceLT, Int.reduceLE, Int.reduceGT, Int.reduceGE, Int.reduceEq, Int.reduceNe, Int.reduceBEq, Int.reduceBNe, Int.reduceTMod, Int.reduceTDiv, ↓if_true, ↓if_false, F57, A57]
      rw [acopy_sl (by simp only [F57]) (hv3 _ _) get_set_self u8s_one (by rw [u8s_length]; omega) (by rw [u8s_length, hr_len lk lz]; omega)]
      have hm : min (u8s key).length 64 = key.length := by rw [u8s_length]; omega
      have hc := hr_copy (used := 0) (done := 0) (cnt := 0) lk lz (x := key) (u := 0) (by omega)
      have hR : (List.replicate 64 0).take 0 ++ key ++ (List.replicate 64 0).drop (0 + key.length) = pad64 key := by rw [List.take_zero, List.nil_append, List.drop_replicate, pad64, Nat.zero_add]
      have lp : (pad64 key).length = 64 := by rw [pad64, List.length_append, List.length_replicate]; omega
      rw [hR] at hc
      rw [Nat.add_zero] at hc
      rw [hm, List.take_of_length_le (l := u8s key) (by rw [u8s_length]; omega), hc]
      simp (maxSteps := 2000000) (disch := first | assumption | omega | (simp only [nx_push, nx_set, ne_eq] <;> omega) | (simp only [XSide, F57]; done) | decide) only [XWalk, XSl, ↓XPre, reduceIte, Nat.reduceEqDiff, Nat.reduceLT, Nat.reduceAdd, Nat.reduceSub, Nat.reduceMul, Nat.reduceBEq, reduceCtorEq, Int.reduceAdd, Int.reduceSub, Int.reduceMul, Int.reduceLT, Int.reduceLE, Int.reduceGT, Int.reduceGE, Int.reduceEq, Int.reduceNe, Int.reduceBEq, Int.reduceBNe, Int.reduceTMod, Int.reduceTDiv, ↓if_true, ↓if_false, F57, A57, hr_len lk lp, if_neg h1]
      refine ⟨_, rfl, m1.next, rfl, by omega, key0 key.length, pad64 key, 64, 0, 0, ?_, lk, lp, Nat.le_refl _, ?_, fun more => ?_⟩
      · rw [get_set_self]
        congr 2
        exact hr_set72 (n := 64) lk lp
      · rw [keyBlock, if_neg (by rintro rfl; simp at h2), lp]
      · rw [keyBlock, if_neg (by rintro rfl; simp at h2), List.take_of_length_le (by omega)]
    · have h2 : key = [] := List.eq_nil_of_length_eq_zero (by have := of_decide_eq_false h; omega)
      simp (maxSteps := 2000000) (disch := first | assumption | omega | (simp only [nx_push, nx_set, ne_eq] <;> omega) | (simp only [XSide, F57]; done) | decide) only [XWalk, XSl, ↓XPre, reduceIte, Nat.reduceEqDiff, Nat.reduceLT, Nat.reduceAdd, Nat.reduceSub, Nat.reduceMul, Nat.reduceBEq, reduceCtorEq, Int.reduceAdd, Int.reduceSub, Int.reduceMul, Int.reduceLT, Int.reduceLE, Int.reduceGT, Int.reduceGE, Int.reduceEq, Int.reduceNe, Int.reduceBEq, Int.reduceBNe, Int.reduceTMod, Int.reduceTDiv, ↓if_true, ↓if_false, F57, A57, if_neg h1]
      refine ⟨_, rfl, m1.next, rfl, by omega, key0 key.length, List.replicate 64 0, 0, 0, 0, get_set_self, lk, lz, Nat.zero_le _, ?_, fun more => ?_⟩
      · rw [keyBlock, if_pos h2]; rfl
      · rw [keyBlock, if_pos h2]; rfl

theorem IsHash.frame {m m' : Mem} {n0 : Nat} {k : List UInt32} {p : List UInt8} {v : Value} (hw : WF m) (h : IsHash n0 k p v m) (hf : ∀ b, b < m.next → m'.get b = m.get b) : IsHash n0 k p v m' := by
  obtain ⟨hb, rfl, h1, h2⟩ := h
  exact ⟨hb, rfl, h1, h2.frame (hf _ (h2.lt hw))⟩

/-- Appending bytes. -/
theorem hwrite_ct {m : Mem} (hw : WF m) {hb : Nat} {v : Value} {k : List UInt32} {p l : List UInt8} (hh : HashAt m hb k p) (hv : Bs m v l) (hne : slBlk v ≠ some hb) (hlen : p.length + l.length ≤ 1099511627776) :
    Ct Tryd.prog S0 60 [.pointer (some ⟨hb, 0, none⟩), v] m [hb] (fun out m' => out = .ret (.int .i64 0) ∧ HashAt m' hb k (p ++ l)) := by
  have hblt := hh.lt hw
  refine ct_x (spec0 _) (by rfl) Tryd.func60 rfl ?_
  simp (maxSteps := 2000000) (disch := first | assumption | omega | (simp only [nx_push, nx_set, ne_eq] <;> omega) | (simp only [XSide, F60]; done) | decide) only [XWalk, XSl, ↓XPre, reduceIte, Nat.reduceEqDiff, Nat.reduceLT, Nat.reduceAdd, Nat.reduceSub, Nat.reduceMul, Nat.reduceBEq, reduceCtorEq, Int.reduceAdd, Int.reduceSub, Int.reduceMul, Int.reduceLT, Int.reduceLE, Int.reduceGT, Int.reduceGE, Int.reduceEq, Int.reduceNe, Int.reduceBEq, Int.reduceBNe, Int.reduceTMod, Int.reduceTDiv, ↓if_true, ↓if_false, F60, A60, Tryd.ntmps60]
  refine wcall_pu (pu_of (hnone_ct hh)) ?_
  have ho : oneCell v = true := by rcases hv.shape with ⟨rfl, _⟩ | ⟨a, c, rfl⟩ <;> rfl
  simp (maxSteps := 2000000) (disch := first | assumption | omega | (simp only [nx_push, nx_set, ne_eq] <;> omega) | (simp only [XSide, F60]; done) | decide) only [XWalk, XSl, ↓XPre, reduceIte, Nat.reduceEqDiff, Nat.reduceLT, Nat.reduceAdd, Nat.reduceSub, Nat.reduceMul, Nat.reduceBEq, reduceCtorEq, Int.reduceAdd, Int.reduceSub, Int.reduceMul, Int.reduceLT, Int.reduceLE, Int.reduceGT, Int.reduceGE, Int.reduceEq, Int.reduceNe, Int.reduceBEq, Int.reduceBNe, Int.reduceTMod, Int.reduceTDiv, ↓if_true, ↓if_false, F60, A60]
  have hv1 : ∀ o, Bs (m.push o) v l := fun o => hv.keep (Keep.push hw)
  refine wcall_of specLoc (absorb_ct (k := k) (p := p) (l := l) (v := v) (kd := .rw) hw.push (hh.frame (by rw [get_push_ne (by omega)])) get_push_self (hv1 _) hne (by omega) hlen) hw.push (fun b hb' hlt => hb') ?_
  rintro out m2 wr hwr hw2 hn2 hf2 _ ⟨rfl, hh2⟩
  obtain ⟨H, R, used, done, cnt, hm, hs⟩ := hh2
  have hv2 : Bs m2 v l := (hv1 _).frame_at fun b hb' => hf2 b (by have := (hv1 (.row [v] .rw)).blk_lt hw.push hb'; omega) (by rintro h; simp at h; exact hne (by rw [← h]; exact hb'))
  have owr : OkW m.next [hb] wr := fun b hb' hlt => hwr b hb'
  simp (maxSteps := 2000000) (disch := first | assumption | omega | (simp only [nx_push, nx_set, ne_eq] <;> omega) | (simp only [XSide, F60]; done) | decide) only [XWalk, XSl, ↓XPre, reduceIte, Nat.reduceEqDiff, Nat.reduceLT, Nat.reduceAdd, Nat.reduceSub, Nat.reduceMul, Nat.reduceBEq, reduceCtorEq, Int.reduceAdd, Int.reduceSub, Int.reduceMul, Int.reduceLT, Int.reduceLE, Int.reduceGT, Int.reduceGE, Int.reduceEq, Int.reduceNe, Int.reduceBEq, Int.reduceBNe, Int.reduceTMod, Int.reduceTDiv, ↓if_true, ↓if_false, F60, A60, owr, hm, hr74 hs.lH hs.lR, alen_bs hv2, hr_len hs.lH hs.lR]
  exact ⟨H, R, used, done, _, by rw [get_set_self, hr_set74 hs.lH hs.lR], hs⟩

/-- A copy. -/
theorem hcopy_ct {m : Mem} (hw : WF m) {hb : Nat} {k : List UInt32} {p : List UInt8} (hh : HashAt m hb k p) : Ct Tryd.prog S0 61 [.pointer (some ⟨hb, 0, none⟩)] m [] (Rv (IsHash m.next k p)) := by
  have hblt := hh.lt hw
  refine ct_x (spec0 _) (by rfl) Tryd.func61 rfl ?_
  simp (maxSteps := 2000000) (disch := first | assumption | omega | (simp only [nx_push, nx_set, ne_eq] <;> omega) | (simp only [XSide, F61]; done) | decide) only [XWalk, XSl, ↓XPre, reduceIte, Nat.reduceEqDiff, Nat.reduceLT, Nat.reduceAdd, Nat.reduceSub, Nat.reduceMul, Nat.reduceBEq, reduceCtorEq, Int.reduceAdd, Int.reduceSub, Int.reduceMul, Int.reduceLT, Int.reduceLE, Int.reduceGT, Int.reduceGE, Int.reduceEq, Int.reduceNe, Int.reduceBEq, Int.reduceBNe, Int.reduceTMod, Int.reduceTDiv, ↓if_true, ↓if_false, F61, A61, Tryd.ntmps61]
  refine wcall_pu (pu_of (hnone_ct hh)) ?_
  obtain ⟨H, R, used, done, cnt, hm, hs⟩ := hh
  have l76 : loadN (hashRow H R used done cnt) 0 76 = some (hashRow H R used done cnt) := loadN_all (hr_len hs.lH hs.lR)
  have b76 : Nat.beq (hashRow H R used done cnt).length 76 = true := by rw [hr_len hs.lH hs.lR]; rfl
  have hone : (hashRow H R used done cnt).all oneCell = true := by
    unfold hashRow
    rw [List.all_append, List.all_append, show (w32s H).all oneCell = true from w32s_one', u8s_one]; rfl
  have hlen := hr_len (used := used) (done := done) (cnt := cnt) hs.lH hs.lR
  simp (maxSteps := 2000000) (disch := first | assumption | omega | (simp only [nx_push, nx_set, ne_eq] <;> omega) | (simp only [XSide, F61]; done) | decide) only [XWalk, XSl, ↓XPre, reduceIte, Nat.reduceEqDiff, Nat.reduceLT, Nat.reduceAdd, Nat.reduceSub, Nat.reduceMul, Nat.reduceBEq, reduceCtorEq, Int.reduceAdd, Int.reduceSub, Int.reduceMul, Int.reduceLT, Int.reduceLE, Int.reduceGT, Int.reduceGE, Int.reduceEq, Int.reduceNe, Int.reduceBEq, Int.reduceBNe, Int.reduceTMod, Int.reduceTDiv, ↓if_true, ↓if_false, F61, A61, hm, loadRow_agg, l76, b76]
  exact ⟨_, rfl, m.next, rfl, Nat.le_refl _, H, R, used, done, cnt, get_set_self, hs⟩

theorem zload : loadN [Value.int .u8 0, Value.int .u8 0, Value.int .u8 0, Value.int .u8 0, Value.int .u8 0, Value.int .u8 0, Value.int .u8 0, Value.int .u8 0, Value.int .u8 0, Value.int .u8 0, Value.int .u8 0, Value.int .u8 0, Value.int .u8 0, Value.int .u8 0, Value.int .u8 0, Value.int .u8 0, Value.int .u8 0, Value.int .u8 0, Value.int .u8 0, Value.int .u8 0, Value.int .u8 0, Value.int .u8 0, Value.int .u8 0, Value.int .u8 0, Value.int .u8 0, Value.int .u8 0, Value.int .u8 0, Value.int .u8 0, Value.int .u8 0, Value.int .u8 0, Value.int .u8 0, Value.int .u8 0] 0 32 = some [Value.int .u8 0, Value.int .u8 0, Value.int .u8 0, Value.int .u8 0, Value.int .u8 0, Value.int .u8 0, Value.int .u8 0, Value.int .u8 0, Value.int .u8 0, Value.int .u8 0, Value.int .u8 0, Value.int .u8 0, Value.int .u8 0, Value.int .u8 0, Value.int .u8 0, Value.int .u8 0, Value.int .u8 0, Value.int .u8 0, Value.int .u8 0, Value.int .u8 0, Value.int .u8 0, Value.int .u8 0, Value.int .u8 0, Value.int .u8 0, Value.int .u8 0, Value.int .u8 0, Value.int .u8 0, Value.int .u8 0, Value.int .u8 0, Value.int .u8 0, Value.int .u8 0, Value.int .u8 0] := id rfl

theorem abuild77 : abuild Tryd.prog 73 [] = some (.agg (u8s (List.replicate 32 0)).toArray) := by kernel_rfl

theorem hash_ct {m : Mem} (hw : WF m) {kv v : Value} {key l : List UInt8} {pb pc : Nat} {kd : Kind} (hk : Bs m kv key) (hp : m.get pb = some (.row [v] kd)) (hv : Bs m v l) (hkl : key.length < 2147483648) (hlen : l.length ≤ 1099511627000) : Ct Tryd.prog S0 46 [kv, .slice (some ⟨pb, 0, none⟩) 1 pc] m []
    (fun out m' => out = .ret (if 32 < key.length then .tuple #[.agg (u8s (List.replicate 32 0)).toArray, .int .i64 2] else .tuple #[.agg (u8s (blakeB key l)).toArray, .int .i64 0])) := by
  have hpb : pb < m.next := hw.lt (by rw [hp]; simp)
  refine ct_x (spec0 _) (by rfl) Tryd.func46 rfl ?_
  simp (maxSteps := 2000000) (disch := first | assumption | omega | (simp only [nx_push, nx_set, ne_eq] <;> omega) | (simp only [XSide, F46]; done) | decide) only [XWalk, XSl, ↓XPre, reduceIte, Nat.reduceEqDiff, Nat.reduceLT, Nat.reduceAdd, Nat.reduceSub, Nat.reduceMul, Nat.reduceBEq, reduceCtorEq, Int.reduceAdd, Int.reduceSub, Int.reduceMul, Int.reduceLT, Int.reduceLE, Int.reduceGT, Int.reduceGE, Int.reduceEq, Int.reduceNe, Int.reduceBEq, Int.reduceBNe, Int.reduceTMod, Int.reduceTDiv, ↓if_true, ↓if_false, F46, A46, Tryd.ntmps46]
  refine wcall_x specLoc (hnew_ct hw.push (hk.keep (Keep.push hw)) hkl) hw.push ?_
  intro out m1 hw1 hn1 f1 hr
  simp only [Mem.next_push] at hn1 f1
  have hv1 : Bs m1 v l := hv.frame_at fun b hb => by have := hv.blk_lt hw hb; rw [f1 b (by omega), get_push_ne (by omega)]
  have hp1 : m1.get pb = some (.row [v] kd) := by rw [f1 pb (by omega), get_push_ne (by omega)]; exact hp
  have hz1 : m1.get m.next = some (.row (u8s (List.replicate 32 0)) .rw) := by rw [f1 _ (by omega), get_push_self]; rfl
  have l32 : ∀ x : List UInt8, x.length = 32 → loadN (u8s x) 0 32 = some (u8s x) := fun x hx => loadN_all (by rw [u8s_length]; exact hx)
  have b32 : ∀ x : List UInt8, x.length = 32 → Nat.beq (u8s x).length 32 = true := fun x hx => by rw [u8s_length, hx]; rfl
  have o32 : ∀ x : List UInt8, (u8s x).all oneCell = true := fun x => u8s_one
  have s32 : ∀ x : List UInt8, x.length = 32 → (u8s x).length = (u8s (List.replicate 32 0)).length := fun x hx => by rw [u8s_length, hx]; rfl
  have z32 : (List.replicate 32 (0 : UInt8)).length = 32 := List.length_replicate
  by_cases h1 : 32 < key.length
  · rw [if_pos h1] at hr
    subst hr
    have o := o32 (List.replicate 32 0)
    have s := s32 _ z32
    simp (maxSteps := 2000000) (disch := first | assumption | omega | (simp only [nx_push, nx_set, ne_eq] <;> omega) | (simp only [XSide, F46]; done) | decide) only [XWalk, XSl, ↓XPre, reduceIte, Nat.reduceEqDiff, Nat.reduceLT, Nat.reduceAdd, Nat.reduceSub, Nat.reduceMul, Nat.reduceBEq, reduceCtorEq, Int.reduceAdd, Int.reduceSub, Int.reduceMul, Int.reduceLT, Int.reduceLE, Int.reduceGT, Int.reduceGE, Int.reduceEq, Int.reduceNe, Int.reduceBEq, Int.reduceBNe, Int.reduceTMod, Int.reduceTDiv, ↓if_true, ↓if_false, F46, A46, abuild77, hz1, b32 _ z32, loadRow_agg, l32 _ z32, if_pos h1, zload]
    rfl
  · rw [if_neg h1] at hr
    obtain ⟨hp', rfl, hb, rfl, hbn, hh⟩ := hr
    simp (maxSteps := 2000000) (disch := first | assumption | omega | (simp only [nx_push, nx_set, ne_eq] <;> omega) | (simp only [XSide, F46]; done) | decide) only [XWalk, XSl, ↓XPre, reduceIte, Nat.reduceEqDiff, Nat.reduceLT, Nat.reduceAdd, Nat.reduceSub, Nat.reduceMul, Nat.reduceBEq, reduceCtorEq, Int.reduceAdd, Int.reduceSub, Int.reduceMul, Int.reduceLT, Int.reduceLE, Int.reduceGT, Int.reduceGE, Int.reduceEq, Int.reduceNe, Int.reduceBEq, Int.reduceBNe, Int.reduceTMod, Int.reduceTDiv, ↓if_true, ↓if_false, F46, A46]
    have hl0 : (keyBlock key).length ≤ 64 := by
      unfold keyBlock
      split
      · simp
      · rw [pad64, List.length_append, List.length_replicate]; omega
    simp only [Mem.next_push] at hbn
    refine wcall_of specLoc (absorb_ct (k := key0 key.length) (p := keyBlock key) (l := l) (v := v) (kd := kd) (pb := pb) hw1 hh hp1 hv1 (fun hc => by have := hv.blk_lt hw hc; omega) (by omega) (by omega)) hw1 (fun b hb' hlt => by simp at hb'; omega) ?_
    rintro out m2 wr hwr hw2 hn2 hf2 _ ⟨rfl, hh2⟩
    have owr : OkW m.next [] wr := fun b hb' hlt => by have := hwr b hb'; simp at this; omega
    simp (maxSteps := 2000000) (disch := first | assumption | omega | (simp only [nx_push, nx_set, ne_eq] <;> omega) | (simp only [XSide, F46]; done) | decide) only [XWalk, XSl, ↓XPre, reduceIte, Nat.reduceEqDiff, Nat.reduceLT, Nat.reduceAdd, Nat.reduceSub, Nat.reduceMul, Nat.reduceBEq, reduceCtorEq, Int.reduceAdd, Int.reduceSub, Int.reduceMul, Int.reduceLT, Int.reduceLE, Int.reduceGT, Int.reduceGE, Int.reduceEq, Int.reduceNe, Int.reduceBEq, Int.reduceBNe, Int.reduceTMod, Int.reduceTDiv, ↓if_true, ↓if_false, F46, A46, owr]
    refine wcall_x specLoc (hsum_ct hw2 hh2 (by rw [List.length_append]; omega)) hw2 ?_
    rintro out m3 hw3 hn3 f3 rfl
    have hz3 : m3.get m.next = some (.row (u8s (List.replicate 32 0)) .rw) := by rw [f3 _ (by omega), hf2 _ (by omega) (by simp; omega)]; exact hz1
    have e : wordsB (hashFin (key0 key.length) 0 (keyBlock key ++ l)) = blakeB key l := rfl
    have lb := blakeB_length (key := key) (d := l)
    have o := o32 (blakeB key l)
    have s := s32 _ lb
    simp (maxSteps := 2000000) (disch := first | assumption | omega | (simp only [nx_push, nx_set, ne_eq] <;> omega) | (simp only [XSide, F46]; done) | decide) only [XWalk, XSl, ↓XPre, reduceIte, Nat.reduceEqDiff, Nat.reduceLT, Nat.reduceAdd, Nat.reduceSub, Nat.reduceMul, Nat.reduceBEq, reduceCtorEq, Int.reduceAdd, Int.reduceSub, Int.reduceMul, Int.reduceLT, Int.reduceLE, Int.reduceGT, Int.reduceGE, Int.reduceEq, Int.reduceNe, Int.reduceBEq, Int.reduceBNe, Int.reduceTMod, Int.reduceTDiv, ↓if_true, ↓if_false, F46, A46, e, hz3, b32 _ lb, loadRow_agg, l32 _ lb, if_neg h1]

theorem keyed_ct {m : Mem} (hw : WF m) {kv v : Value} {key l : List UInt8} (hk : Bs m kv key) (hv : Bs m v l) (hkl : key.length < 2147483648) (hlen : l.length ≤ 1099511627000) : Ct Tryd.prog S0 34 [kv, v] m []
    (fun out m' => out = .ret (if key.length = 0 ∨ 32 < key.length then .tuple #[.agg (u8s (List.replicate 32 0)).toArray, .int .i64 2] else .tuple #[.agg (u8s (blakeB key l)).toArray, .int .i64 0])) := by
  refine ct_x (spec0 _) (by rfl) Tryd.func34 rfl ?_
  have ho : oneCell v = true := by rcases hv.shape with ⟨rfl, _⟩ | ⟨a, c, rfl⟩ <;> rfl
  have hk1 : ∀ o, Bs (m.push o) kv key := fun o => hk.keep (Keep.push hw)
  have l32 : ∀ x : List UInt8, x.length = 32 → loadN (u8s x) 0 32 = some (u8s x) := fun x hx => loadN_all (by rw [u8s_length]; exact hx)
  have b32 : ∀ x : List UInt8, x.length = 32 → Nat.beq (u8s x).length 32 = true := fun x hx => by rw [u8s_length, hx]; rfl
  have o32 : ∀ x : List UInt8, (u8s x).all oneCell = true := fun x => u8s_one
  have s32 : ∀ x : List UInt8, x.length = 32 → (u8s x).length = (u8s (List.replicate 32 0)).length := fun x hx => by rw [u8s_length, hx]; rfl
  have s32' : ∀ x : List UInt8, x.length = 32 → (u8s x).length = 32 := fun x hx => by rw [u8s_length, hx]
  have z32 : (List.replicate 32 (0 : UInt8)).length = 32 := List.length_replicate
  have oz := o32 (List.replicate 32 0)
  have sz := s32 _ z32
  have sz' := s32' _ z32
  simp (maxSteps := 2000000) (disch := first | assumption | omega | (simp only [nx_push, nx_set, ne_eq] <;> omega) | (simp only [XSide, F34]; done) | decide) only [XWalk, XSl, ↓XPre, reduceIte, Nat.reduceEqDiff, Nat.reduceLT, Nat.reduceAdd, Nat.reduceSub, Nat.reduceMul, Nat.reduceBEq, reduceCtorEq, Int.reduceAdd, Int.reduceSub, Int.reduceMul, Int.reduceLT, Int.reduceLE, Int.reduceGT, Int.reduceGE, Int.reduceEq, Int.reduceNe, Int.reduceBEq, Int.reduceBNe, Int.reduceTMod, Int.reduceTDiv, ↓if_true, ↓if_false, F34, A34, Tryd.ntmps34, alen_bs (hk1 _)]
  refine x_if (fun h => ?_) (fun h => ?_)
  · have h1 : key.length = 0 := by simpa using h
    simp (maxSteps := 2000000) (disch := first | assumption | omega | (simp only [nx_push, nx_set, ne_eq] <;> omega) | (simp only [XSide, F34]; done) | decide) only [XWalk, XSl, ↓XPre, reduceIte, Nat.reduceEqDiff, Nat.reduceLT, Nat.reduceAdd, Nat.reduceSub, Nat.reduceMul, Nat.reduceBEq, reduceCtorEq, Int.reduceAdd, Int.reduceSub, Int.reduceMul, Int.reduceLT, Int.reduceLE, Int.reduceGT, Int.reduceGE, Int.reduceEq, Int.reduceNe, Int.reduceBEq, Int.reduceBNe, Int.reduceTMod, Int.reduceTDiv, ↓if_true, ↓if_false, F34, A34, abuild77, b32 _ z32, loadRow_agg, l32 _ z32, if_pos (show key.length = 0 ∨ 32 < key.length from .inl h1), zload]
    rfl
  · have h1 : key.length ≠ 0 := by simpa using h
    simp (maxSteps := 2000000) (disch := first | assumption | omega | (simp only [nx_push, nx_set, ne_eq] <;> omega) | (simp only [XSide, F34]; done) | decide) only [XWalk, XSl, ↓XPre, reduceIte, Nat.reduceEqDiff, Nat.reduceLT, Nat.reduceAdd, Nat.reduceSub, Nat.reduceMul, Nat.reduceBEq, reduceCtorEq, Int.reduceAdd, Int.reduceSub, Int.reduceMul, Int.reduceLT, Int.reduceLE, Int.reduceGT, Int.reduceGE, Int.reduceEq, Int.reduceNe, Int.reduceBEq, Int.reduceBNe, Int.reduceTMod, Int.reduceTDiv, ↓if_true, ↓if_false, F34, A34]
    have hk2 : ∀ o o', Bs ((m.push o).push o') kv key := fun o o' => (hk1 o).keep (Keep.push hw.push)
    have hv2 : ∀ o o', Bs ((m.push o).push o') v l := fun o o' => (hv.keep (Keep.push hw)).keep (Keep.push hw.push)
    refine wcall_x specLoc (hash_ct (key := key) (v := v) (l := l) (kd := .rw) hw.push.push (hk2 _ _) (by simp (maxSteps := 2000000) (disch := first | assumption | omega | (simp only [nx_push, nx_set, ne_eq] <;> omega) | (simp only [XSide]; done) | decide) only [XWalk, XSl, ↓XPre, reduceIte, Nat.reduceEqDiff, Nat.reduceLT, Nat.reduceAdd, Nat.reduceSub, Nat.reduceMul, Nat.reduceBEq, reduceCtorEq, Int.reduceAdd, Int.reduceSub, Int.reduceMul, Int.reduceLT, Int.reduceLE, Int.reduceGT, Int.reduceGE, Int.reduceEq, Int.reduceNe, Int.reduceBEq, Int.reduceBNe, Int.reduceTMod, Int.reduceTDiv, ↓if_true, ↓if_false]) (hv2 _ _) hkl hlen) hw.push.push ?_
    rintro out m1 hw1 hn1 f1 rfl
    simp only [Mem.next_push] at hn1 f1
    have hz1 : m1.get m.next = some (.row (u8s (List.replicate 32 0)) .rw) := by rw [f1 _ (by omega), get_push_ne (by simp), get_push_self]; rfl
    by_cases h2 : 32 < key.length
    · rw [if_pos h2]
      simp (maxSteps := 2000000) (disch := first | assumption | omega | (simp only [nx_push, nx_set, ne_eq] <;> omega) | (simp only [XSide, F34]; done) | decide) only [XWalk, XSl, ↓XPre, reduceIte, Nat.reduceEqDiff, Nat.reduceLT, Nat.reduceAdd, Nat.reduceSub, Nat.reduceMul, Nat.reduceBEq, reduceCtorEq, Int.reduceAdd, Int.reduceSub, Int.reduceMul, Int.reduceLT, Int.reduceLE, Int.reduceGT, Int.reduceGE, Int.reduceEq, Int.reduceNe, Int.reduceBEq, Int.reduceBNe, Int.reduceTMod, Int.reduceTDiv, ↓if_true, ↓if_false, F34, A34, hz1, b32 _ z32, loadRow_agg, l32 _ z32, if_pos (show key.length = 0 ∨ 32 < key.length from .inr h2)]
    · rw [if_neg h2]
      have lb := blakeB_length (key := key) (d := l)
      have ob := o32 (blakeB key l)
      have sb := s32 _ lb
      have sb' := s32' _ lb
      simp (maxSteps := 2000000) (disch := first | assumption | omega | (simp only [nx_push, nx_set, ne_eq] <;> omega) | (simp only [XSide, F34]; done) | decide) only [XWalk, XSl, ↓XPre, reduceIte, Nat.reduceEqDiff, Nat.reduceLT, Nat.reduceAdd, Nat.reduceSub, Nat.reduceMul, Nat.reduceBEq, reduceCtorEq, Int.reduceAdd, Int.reduceSub, Int.reduceMul, Int.reduceLT, Int.reduceLE, Int.reduceGT, Int.reduceGE, Int.reduceEq, Int.reduceNe, Int.reduceBEq, Int.reduceBNe, Int.reduceTMod, Int.reduceTDiv, ↓if_true, ↓if_false, F34, A34, hz1, b32 _ lb, loadRow_agg, l32 _ lb, if_neg (show ¬ (key.length = 0 ∨ 32 < key.length) by omega)]

end Go.Big

/- Appending, as the walk meets it; small functions. -/
set_option linter.unusedSimpArgs false
set_option linter.unusedVariables false
set_option maxRecDepth 100000
set_option maxHeartbeats 2000000
namespace Go.Big
open Go.Proofs

section
variable {P : Program} {m m' : Mem} {v x : Value} {a b : List UInt8} {n0 : Nat} {aT : Array TypeId} {bytes : Nat}

/-- An own slice of bytes. -/
abbrev Ab (m : Mem) (n0 : Nat) (v : Value) (l : List UInt8) : Prop := App m n0 v (u8s l)

theorem Appd.ok {cs : List Value} {v' : Value} {w : List Nat} (h : Appd m n0 v cs v' m' w) (h0 : ∀ b, slBlk v = some b → n0 ≤ b) (base : Nat) (hb : base ≤ n0) (L : List Nat) : OkW base L w := fun b hb' hlt => by
  have := h0 b (h.wr b hb'); omega

theorem wappend (h : appK P aT = some bytes) (hv : Ab m n0 v a) (hx : Bs m x b) (hlen : a.length + b.length ≤ 1073741824) (hn0 : n0 ≤ m.next) (hw : WF m) {K : Value → Mem → List Nat → Rd → Prop}
    (hk : ∀ v' m' w, Appd m n0 v (u8s (a ++ b)) v' m' w → (∀ base L, base ≤ n0 → OkW base L w) → K v' m' w .all) : @WV (aappend P aT v x m) ⟨K⟩ := by
  obtain ⟨v', m', w, h1, h2⟩ := append_app h hv hx u8s_one (by rw [u8s_length, u8s_length]; exact hlen) hn0 hw
  rw [h1]
  rw [← u8s_append] at h2
  exact hk v' m' w h2 (fun base L hb => h2.ok (fun b hb' => hv.blk_ge hb') base hb L)

theorem bs0 {t : TypeId} (h : bsK P t = true) : abuildSliceR P t 0 [] m = some (.slice (some ⟨m.next, 0, none⟩) 0 0, m.push (.row [] .rw), [], .no) := bs_row h (vs := []) rfl (by simp)
theorem App.empty (h : n0 ≤ m.next) : Ab (m.push (.row [] .rw)) n0 (.slice (some ⟨m.next, 0, none⟩) 0 0) [] := .buf (rs := []) h get_push_self rfl rfl (Nat.le_refl _) (Nat.le_refl _)

theorem Appd.keep {cs : List Value} {v' : Value} {w : List Nat} (h : Appd m n0 v cs v' m' w) (hw : WF m) {y : Value} {ds : List Value} (hy : Sl m y ds) (hne : ∀ b, slBlk v = some b → slBlk y ≠ some b) : Sl m' y ds :=
  hy.frame_at fun b hb => h.frame b (hy.blk_lt hw hb) fun e => hne b e hb
/-- What was there before the call began. -/
theorem Appd.old {cs : List Value} {v' : Value} {w : List Nat} (h : Appd m n0 v cs v' m' w) (h0 : ∀ b, slBlk v = some b → n0 ≤ b) : ∀ b, b < n0 → b < m.next → m'.get b = m.get b := fun b hb hb2 => h.frame b hb2 fun e => by have := h0 b e; omega
end

theorem clone_ct {m : Mem} (hw : WF m) {v : Value} {l : List UInt8} (hv : Bs m v l) (hl : l.length ≤ 1073741824) : Ct Tryd.prog S0 36 [v] m [] (Rv fun v' m' => Ab m' m.next v' l) := by
  refine ct_x (spec0 _) (by rfl) Tryd.func36 rfl ?_
  rcases hv.shape with ⟨rfl, h0⟩ | ⟨a, c, hs⟩
  · simp (maxSteps := 2000000) (disch := first | assumption | omega | (simp only [nx_push, nx_set, ne_eq] <;> omega) | (simp only [XSide, F36]; done) | decide) only [XWalk, XSl, ↓XPre, reduceIte, Nat.reduceEqDiff, Nat.reduceLT, Nat.reduceAdd, Nat.reduceSub, Nat.reduceMul, Nat.reduceBEq, reduceCtorEq, Int.reduceAdd, Int.reduceSub, Int.reduceMul, Int.reduceLT, Int.reduceLE, Int.reduceGT, Int.reduceGE, Int.reduceEq, Int.reduceNe, Int.reduceBEq, Int.reduceBNe, Int.reduceTMod, Int.reduceTDiv, ↓if_true, ↓if_false, F36, A36, Tryd.ntmps36]
    exact ⟨_, rfl, by show App _ _ _ (u8s l); rw [h0]; exact .nil⟩
  · have hn : ∀ m', abin Tryd.prog .eql 22 (.tmp 3) (.const (.slice none 0 0)) v (.slice none 0 0) m' = some (.bool false, m', [], .no) := fun m' => by rw [hs]; simp (maxSteps := 2000000) (disch := first | assumption | omega | (simp only [nx_push, nx_set, ne_eq] <;> omega) | (simp only [XSide, F36]; done) | decide) only [XWalk, XSl, ↓XPre, reduceIte, Nat.reduceEqDiff, Nat.reduceLT, Nat.reduceAdd, Nat.reduceSub, Nat.reduceMul, Nat.reduceBEq, reduceCtorEq, Int.reduceAdd, Int.reduceSub, Int.reduceMul, Int.reduceLT, Int.reduceLE, Int.reduceGT, Int.reduceGE, Int.reduceEq, Int.reduceNe, Int.reduceBEq, Int.reduceBNe, Int.reduceTMod, Int.reduceTDiv, ↓if_true, ↓if_false, F36, A36]
    simp (maxSteps := 2000000) (disch := first | assumption | omega | (simp only [nx_push, nx_set, ne_eq] <;> omega) | (simp only [XSide, F36]; done) | decide) only [XWalk, XSl, ↓XPre, reduceIte, Nat.reduceEqDiff, Nat.reduceLT, Nat.reduceAdd, Nat.reduceSub, Nat.reduceMul, Nat.reduceBEq, reduceCtorEq, Int.reduceAdd, Int.reduceSub, Int.reduceMul, Int.reduceLT, Int.reduceLE, Int.reduceGT, Int.reduceGE, Int.reduceEq, Int.reduceNe, Int.reduceBEq, Int.reduceBNe, Int.reduceTMod, Int.reduceTDiv, ↓if_true, ↓if_false, F36, A36, Tryd.ntmps36, hn, bs0]
    refine wappend (bytes := 1) (by simp only [F36]) (App.empty (Nat.le_refl _)) (hv.keep (Keep.push hw)) (by simp; exact hl) (by simp) hw.push fun v' m' w ha ok => ?_
    simp (maxSteps := 2000000) (disch := first | assumption | omega | (simp only [nx_push, nx_set, ne_eq] <;> omega) | (simp only [XSide, F36]; done) | decide) only [XWalk, XSl, ↓XPre, reduceIte, Nat.reduceEqDiff, Nat.reduceLT, Nat.reduceAdd, Nat.reduceSub, Nat.reduceMul, Nat.reduceBEq, reduceCtorEq, Int.reduceAdd, Int.reduceSub, Int.reduceMul, Int.reduceLT, Int.reduceLE, Int.reduceGT, Int.reduceGE, Int.reduceEq, Int.reduceNe, Int.reduceBEq, Int.reduceBNe, Int.reduceTMod, Int.reduceTDiv, ↓if_true, ↓if_false, F36, A36, ok m.next [] (Nat.le_refl _)]
    exact ⟨_, rfl, ha.app⟩

theorem equal_ct {m : Mem} {v x : Value} {a b : List UInt8} (hv : Bs m v a) (hx : Bs m x b) : Ct Tryd.prog S0 30 [v, x] m [] (fun out m' => out = .ret (.bool (a == b)) ∧ m' = m) := by
  refine ct_x (spec0 _) (by rfl) Tryd.func30 rfl ?_
  simp (maxSteps := 2000000) (disch := first | assumption | omega | (simp only [nx_push, nx_set, ne_eq] <;> omega) | (simp only [XSide, F30]; done) | decide) only [XWalk, XSl, ↓XPre, reduceIte, Nat.reduceEqDiff, Nat.reduceLT, Nat.reduceAdd, Nat.reduceSub, Nat.reduceMul, Nat.reduceBEq, reduceCtorEq, Int.reduceAdd, Int.reduceSub, Int.reduceMul, Int.reduceLT, Int.reduceLE, Int.reduceGT, Int.reduceGE, Int.reduceEq, Int.reduceNe, Int.reduceBEq, Int.reduceBNe, Int.reduceTMod, Int.reduceTDiv, ↓if_true, ↓if_false, F30, A30, Tryd.ntmps30]
  refine hv.wconv (by simp only [F30]) (by simp only [F30]) fun r hr => ?_
  simp (maxSteps := 2000000) (disch := first | assumption | omega | (simp only [nx_push, nx_set, ne_eq] <;> omega) | (simp only [XSide, F30]; done) | decide) only [XWalk, XSl, ↓XPre, reduceIte, Nat.reduceEqDiff, Nat.reduceLT, Nat.reduceAdd, Nat.reduceSub, Nat.reduceMul, Nat.reduceBEq, reduceCtorEq, Int.reduceAdd, Int.reduceSub, Int.reduceMul, Int.reduceLT, Int.reduceLE, Int.reduceGT, Int.reduceGE, Int.reduceEq, Int.reduceNe, Int.reduceBEq, Int.reduceBNe, Int.reduceTMod, Int.reduceTDiv, ↓if_true, ↓if_false, F30, A30]
  refine hx.wconv (by simp only [F30]) (by simp only [F30]) fun r hr => ?_
  simp (maxSteps := 2000000) (disch := first | assumption | omega | (simp only [nx_push, nx_set, ne_eq] <;> omega) | (simp only [XSide, F30]; done) | decide) only [XWalk, XSl, ↓XPre, reduceIte, Nat.reduceEqDiff, Nat.reduceLT, Nat.reduceAdd, Nat.reduceSub, Nat.reduceMul, Nat.reduceBEq, reduceCtorEq, Int.reduceAdd, Int.reduceSub, Int.reduceMul, Int.reduceLT, Int.reduceLE, Int.reduceGT, Int.reduceGE, Int.reduceEq, Int.reduceNe, Int.reduceBEq, Int.reduceBNe, Int.reduceTMod, Int.reduceTDiv, ↓if_true, ↓if_false, F30, A30]

theorem unless_ct {m : Mem} {c : Bool} {n : Int} : Ct Tryd.prog S0 19 [.bool c, .int .i64 n] m [] (fun out m' => out = .ret (.int .i64 (if c = true then 0 else n)) ∧ m' = m) := by
  refine ct_x (spec0 _) (by rfl) Tryd.func19 rfl ?_
  simp (maxSteps := 2000000) (disch := first | assumption | omega | (simp only [nx_push, nx_set, ne_eq] <;> omega) | (simp only [XSide, F19]; done) | decide) only [XWalk, XSl, ↓XPre, reduceIte, Nat.reduceEqDiff, Nat.reduceLT, Nat.reduceAdd, Nat.reduceSub, Nat.reduceMul, Nat.reduceBEq, reduceCtorEq, Int.reduceAdd, Int.reduceSub, Int.reduceMul, Int.reduceLT, Int.reduceLE, Int.reduceGT, Int.reduceGE, Int.reduceEq, Int.reduceNe, Int.reduceBEq, Int.reduceBNe, Int.reduceTMod, Int.reduceTDiv, ↓if_true, ↓if_false, F19, A19, Tryd.ntmps19]
  refine x_if (fun h => ?_) (fun h => ?_) <;> simp (maxSteps := 2000000) (disch := first | assumption | omega | (simp only [nx_push, nx_set, ne_eq] <;> omega) | (simp only [XSide, F19]; done) | decide) only [XWalk, XSl, ↓XPre, reduceIte, Nat.reduceEqDiff, Nat.reduceLT, Nat.reduceAdd, Nat.reduceSub, Nat.reduceMul, Nat.reduceBEq, reduceCtorEq, Int.reduceAdd, Int.reduceSub, Int.reduceMul, Int.reduceLT, Int.reduceLE, Int.reduceGT, Int.reduceGE, Int.reduceEq, Int.reduceNe, Int.reduceBEq, Int.reduceBNe, Int.reduceTMod, Int.reduceTDiv, ↓if_true, ↓if_false, F19, A19, h] <;> (try rfl)

theorem within_ct {m : Mem} {a b c : Int} : Ct Tryd.prog S0 20 [.int .i64 a, .int .i64 b, .int .i64 c] m [] (fun out m' => out = .ret (.bool (decide (a ≥ b) && decide (a ≤ c))) ∧ m' = m) := by
  refine ct_x (spec0 _) (by rfl) Tryd.func20 rfl ?_
  simp (maxSteps := 2000000) (disch := first | assumption | omega | (simp only [nx_push, nx_set, ne_eq] <;> omega) | (simp only [XSide, F20]; done) | decide) only [XWalk, XSl, ↓XPre, reduceIte, Nat.reduceEqDiff, Nat.reduceLT, Nat.reduceAdd, Nat.reduceSub, Nat.reduceMul, Nat.reduceBEq, reduceCtorEq, Int.reduceAdd, Int.reduceSub, Int.reduceMul, Int.reduceLT, Int.reduceLE, Int.reduceGT, Int.reduceGE, Int.reduceEq, Int.reduceNe, Int.reduceBEq, Int.reduceBNe, Int.reduceTMod, Int.reduceTDiv, ↓if_true, ↓if_false, F20, A20, Tryd.ntmps20]
  refine x_gd (fun h => ?_) (fun h => ?_) <;> simp (maxSteps := 2000000) (disch := first | assumption | omega | (simp only [nx_push, nx_set, ne_eq] <;> omega) | (simp only [XSide, F20]; done) | decide) only [XWalk, XSl, ↓XPre, reduceIte, Nat.reduceEqDiff, Nat.reduceLT, Nat.reduceAdd, Nat.reduceSub, Nat.reduceMul, Nat.reduceBEq, reduceCtorEq, Int.reduceAdd, Int.reduceSub, Int.reduceMul, Int.reduceLT, Int.reduceLE, Int.reduceGT, Int.reduceGE, Int.reduceEq, Int.reduceNe, Int.reduceBEq, Int.reduceBNe, Int.reduceTMod, Int.reduceTDiv, ↓if_true, ↓if_false, F20, A20, h] <;> simp

theorem numbers_ct {m : Mem} {r : Int} : Ct Tryd.prog S0 41 [.int .i64 r] m [] (fun out m' => out = .ret (.int .i64 (if r == 1 then 512 else if r == 2 then 32 else if r == 3 then 1 else 0)) ∧ m' = m) := by
  refine ct_x (spec0 _) (by rfl) Tryd.func41 rfl ?_
  simp (maxSteps := 2000000) (disch := first | assumption | omega | (simp only [nx_push, nx_set, ne_eq] <;> omega) | (simp only [XSide, F41]; done) | decide) only [XWalk, XSl, ↓XPre, reduceIte, Nat.reduceEqDiff, Nat.reduceLT, Nat.reduceAdd, Nat.reduceSub, Nat.reduceMul, Nat.reduceBEq, reduceCtorEq, Int.reduceAdd, Int.reduceSub, Int.reduceMul, Int.reduceLT, Int.reduceLE, Int.reduceGT, Int.reduceGE, Int.reduceEq, Int.reduceNe, Int.reduceBEq, Int.reduceBNe, Int.reduceTMod, Int.reduceTDiv, ↓if_true, ↓if_false, F41, A41, Tryd.ntmps41]
  refine x_if (fun h1 => ?_) (fun h1 => ?_)
  · simp (maxSteps := 2000000) (disch := first | assumption | omega | (simp only [nx_push, nx_set, ne_eq] <;> omega) | (simp only [XSide, F41]; done) | decide) only [XWalk, XSl, ↓XPre, reduceIte, Nat.reduceEqDiff, Nat.reduceLT, Nat.reduceAdd, Nat.reduceSub, Nat.reduceMul, Nat.reduceBEq, reduceCtorEq, Int.reduceAdd, Int.reduceSub, Int.reduceMul, Int.reduceLT, Int.reduceLE, Int.reduceGT, Int.reduceGE, Int.reduceEq, Int.reduceNe, Int.reduceBEq, Int.reduceBNe, Int.reduceTMod, Int.reduceTDiv, ↓if_true, ↓if_false, F41, A41, h1] <;> (try rfl)
  · simp (maxSteps := 2000000) (disch := first | assumption | omega | (simp only [nx_push, nx_set, ne_eq] <;> omega) | (simp only [XSide, F41]; done) | decide) only [XWalk, XSl, ↓XPre, reduceIte, Nat.reduceEqDiff, Nat.reduceLT, Nat.reduceAdd, Nat.reduceSub, Nat.reduceMul, Nat.reduceBEq, reduceCtorEq, Int.reduceAdd, Int.reduceSub, Int.reduceMul, Int.reduceLT, Int.reduceLE, Int.reduceGT, Int.reduceGE, Int.reduceEq, Int.reduceNe, Int.reduceBEq, Int.reduceBNe, Int.reduceTMod, Int.reduceTDiv, ↓if_true, ↓if_false, F41, A41, h1]
    refine x_if (fun h2 => ?_) (fun h2 => ?_)
    · simp (maxSteps := 2000000) (disch := first | assumption | omega | (simp only [nx_push, nx_set, ne_eq] <;> omega) | (simp only [XSide, F41]; done) | decide) only [XWalk, XSl, ↓XPre, reduceIte, Nat.reduceEqDiff, Nat.reduceLT, Nat.reduceAdd, Nat.reduceSub, Nat.reduceMul, Nat.reduceBEq, reduceCtorEq, Int.reduceAdd, Int.reduceSub, Int.reduceMul, Int.reduceLT, Int.reduceLE, Int.reduceGT, Int.reduceGE, Int.reduceEq, Int.reduceNe, Int.reduceBEq, Int.reduceBNe, Int.reduceTMod, Int.reduceTDiv, ↓if_true, ↓if_false, F41, A41, h1, h2] <;> (try rfl)
    · simp (maxSteps := 2000000) (disch := first | assumption | omega | (simp only [nx_push, nx_set, ne_eq] <;> omega) | (simp only [XSide, F41]; done) | decide) only [XWalk, XSl, ↓XPre, reduceIte, Nat.reduceEqDiff, Nat.reduceLT, Nat.reduceAdd, Nat.reduceSub, Nat.reduceMul, Nat.reduceBEq, reduceCtorEq, Int.reduceAdd, Int.reduceSub, Int.reduceMul, Int.reduceLT, Int.reduceLE, Int.reduceGT, Int.reduceGE, Int.reduceEq, Int.reduceNe, Int.reduceBEq, Int.reduceBNe, Int.reduceTMod, Int.reduceTDiv, ↓if_true, ↓if_false, F41, A41, h1, h2]
      refine x_if (fun h3 => ?_) (fun h3 => ?_)
      · simp (maxSteps := 2000000) (disch := first | assumption | omega | (simp only [nx_push, nx_set, ne_eq] <;> omega) | (simp only [XSide, F41]; done) | decide) only [XWalk, XSl, ↓XPre, reduceIte, Nat.reduceEqDiff, Nat.reduceLT, Nat.reduceAdd, Nat.reduceSub, Nat.reduceMul, Nat.reduceBEq, reduceCtorEq, Int.reduceAdd, Int.reduceSub, Int.reduceMul, Int.reduceLT, Int.reduceLE, Int.reduceGT, Int.reduceGE, Int.reduceEq, Int.reduceNe, Int.reduceBEq, Int.reduceBNe, Int.reduceTMod, Int.reduceTDiv, ↓if_true, ↓if_false, F41, A41, h1, h2, h3] <;> (try rfl)
      · simp (maxSteps := 2000000) (disch := first | assumption | omega | (simp only [nx_push, nx_set, ne_eq] <;> omega) | (simp only [XSide, F41]; done) | decide) only [XWalk, XSl, ↓XPre, reduceIte, Nat.reduceEqDiff, Nat.reduceLT, Nat.reduceAdd, Nat.reduceSub, Nat.reduceMul, Nat.reduceBEq, reduceCtorEq, Int.reduceAdd, Int.reduceSub, Int.reduceMul, Int.reduceLT, Int.reduceLE, Int.reduceGT, Int.reduceGE, Int.reduceEq, Int.reduceNe, Int.reduceBEq, Int.reduceBNe, Int.reduceTMod, Int.reduceTDiv, ↓if_true, ↓if_false, F41, A41, h1, h2, h3] <;> (try rfl)

end Go.Big

/- Slices of strings; trimming. -/
set_option linter.unusedSimpArgs false
set_option linter.unusedVariables false
set_option maxRecDepth 100000
set_option maxHeartbeats 2000000
namespace Go.Big
open Go.Proofs

section
variable {P : Program} {m : Mem} {ρ : Operand → Value} {d : Option Nat} {ty : TypeId} {ps : String} {af : Array Edge} {g : Option (Nat × Bool)} {t : TypeId} {x : Operand} {l : List UInt8} {k : IntKind} {a b : Nat}

def aslS (P : Program) (t : TypeId) (v : Value) (lo hi : Option Value) (m : Mem) : Res :=
  pv m (bif plain v && (lo.toList ++ hi.toList).all plain then (match eval0 P (Instr.sliceAt t v lo hi none) with | some v => bif plain v then some v else none | none => none) else none)
theorem aslM_str {s : ByteArray} {lo hi mx : Option Value} {o : Res} : aslM P t (.string s) lo hi mx m o = o := id rfl
theorem pureSl {lo hi : Option Operand} : pureOp P ρ ⟨d, .slice t x lo hi none, ty, ps, af, g⟩ = (bif plain (ρ x) && ((lo.map ρ).toList ++ (hi.map ρ).toList).all plain then (match eval0 P (Instr.sliceAt t (ρ x) (lo.map ρ) (hi.map ρ) none) with | some v => bif plain v then some v else none | none => none) else none) := by
  have h1 : (Op.slice t x lo hi none).operands.toList.all (fun x => plain (ρ x)) = (plain (ρ x) && ((lo.map ρ).toList ++ (hi.map ρ).toList).all plain) := by
    cases lo <;> cases hi <;> simp [Op.operands]
  unfold pureOp
  simp only [h1]
  cases plain (ρ x) && ((lo.map ρ).toList ++ (hi.map ρ).toList).all plain with
  | false => rfl
  | true =>
    simp only [cond_true, execOp, ev0_bind]
    have e1 : eval0 P (Instr.sliceAt t (ρ x) (lo.map ρ) (hi.map ρ) (Option.map ρ none)) = eval0 P (Instr.sliceAt t (ρ x) (lo.map ρ) (hi.map ρ) none) := rfl
    cases hq : eval0 P (Instr.sliceAt t (ρ x) (lo.map ρ) (hi.map ρ) none) with
    | none => simp only [Option.map_none, hq, Option.bind_none]
    | some v => simp only [Option.map_none, hq, Option.bind_some]; rfl
theorem pv_slice {lo hi : Option Operand} : pv m (pureOp P ρ ⟨d, .slice t x lo hi none, ty, ps, af, g⟩) = aslS P t (ρ x) (lo.map ρ) (hi.map ρ) m := by rw [pureSl]; rfl

theorem aslS_eval (ht : tyTag P t = 6) {lo hi : Option Value} (hl : ((lo.toList ++ hi.toList).all plain) = true) {q : Nat × Nat × Nat} (hb : eval0 P (Instr.sliceBounds false l.length l.length lo hi none) = some q) :
    aslS P t (str l) lo hi m = some (str ((l.drop q.1).take (q.2.1 - q.1)), m, [], .no) := by
  have h1 := tyTag_str ht
  have he : eval0 P (Instr.sliceAt t (str l) lo hi none) = some (str ((l.drop q.1).take (q.2.1 - q.1))) := by
    unfold Instr.sliceAt
    rw [ev0_bind, ev0_under h1]
    simp only [Option.bind_some]
    unfold Instr.slice
    rw [ev0_bind, ev0_under h1]
    simp only [Option.bind_some, Option.isSome_none, Bool.false_eq_true, if_false]
    rw [size_str', ev0_bind, hb]
    simp only [Option.bind_some, ev0_pure, Option.some.injEq, Value.string.injEq]
    apply ByteArray.ext
    apply Array.toList_inj.1
    simp only [ByteArray.data_extract, Array.toList_extract, List.extract_eq_take_drop]
  unfold aslS
  rw [show plain (str l) = true from rfl, hl, he]
  rfl

theorem bound_ok {n : Nat} {c : BoundsCode} (h : a ≤ n) : eval0 P (Instr.sliceBound (.int k (a : Int)) n c) = some a := by
  unfold Instr.sliceBound asIntOf
  rw [ev0_bind, ev0_pure]
  simp only [Option.bind_some]
  rw [if_pos ⟨by omega, by omega⟩]
  rfl
theorem aslS_lo (ht : tyTag P t = 6) (h : a ≤ l.length) : aslS P t (str l) (some (.int k (a : Int))) none m = some (str (l.drop a), m, [], .no) := by
  rw [aslS_eval ht (q := (a, l.length, l.length)) rfl ?_]
  · rw [List.take_of_length_le (by simp)]
  · unfold Instr.sliceBounds
    simp only [ev0_bind, ev0_pure, Option.bind_some, bound_ok h]
theorem aslS_hi (ht : tyTag P t = 6) (h : b ≤ l.length) : aslS P t (str l) none (some (.int k (b : Int))) m = some (str (l.take b), m, [], .no) := by
  rw [aslS_eval ht (q := (0, b, l.length)) rfl ?_]
  · rfl
  · unfold Instr.sliceBounds
    simp only [ev0_bind, ev0_pure, Option.bind_some, bound_ok h]
theorem aslS_lo_lit (ht : tyTag P t = 6) (h : a ≤ l.length) : aslS P t (str l) (some (.int k (no_index (OfNat.ofNat a)))) none m = some (str (l.drop a), m, [], .no) := aslS_lo ht h
theorem aidx_lit {c : UInt8} (ht : tyTag P t = 6) (hi : l[a]? = some c) : aidx P t (str l) (.int k (no_index (OfNat.ofNat a))) m = some (.int .u8 c.toNat, m, [], .no) := aidx_str' ht hi
end

/-! ### Trimming -/

def setCells (s : List UInt8) : List Value := (List.range 256).map fun c => .bool (s.any fun b => b.toNat == c)
theorem setCells_get {s : List UInt8} {b : UInt8} : (setCells s)[b.toNat]? = some (.bool (s.contains b)) := by
  have := b.toNat_lt
  have e : (s.any fun x => x.toNat == b.toNat) = s.contains b := by
    rw [List.contains_eq_any_beq]
    congr 1
    funext x
    rw [Bool.eq_iff_iff]
    simp only [beq_iff_eq]
    constructor
    · intro h; exact (UInt8.toNat_inj.1 h).symm
    · rintro rfl; rfl
  simp [setCells, this, e]
theorem setCells_len {s : List UInt8} : (setCells s).length = 256 := by simp [setCells]
theorem setCells_one {s : List UInt8} : (setCells s).all oneCell = true := by
  rw [List.all_eq_true]
  intro x hx
  simp only [setCells, List.mem_map] at hx
  obtain ⟨b, _, rfl⟩ := hx
  rfl
theorem setCells_set {s : List UInt8} {b : UInt8} : (setCells s).set b.toNat (.bool true) = setCells (s ++ [b]) := by
  have hb := b.toNat_lt
  apply List.ext_getElem?
  intro j
  by_cases hj : j = b.toNat
  · subst hj
    rw [set_self, setCells_len, if_pos hb]
    simp [setCells, hb]
  · rw [List.getElem?_set_ne (Ne.symm hj)]
    by_cases h2 : j < 256
    · simp [setCells, h2, Ne.symm hj]
    · rw [List.getElem?_eq_none (by rw [setCells_len]; omega), List.getElem?_eq_none (by rw [setCells_len]; omega)]

theorem ascii_ct {m : Mem} (hw : WF m) {l : List UInt8} (ha : ∀ b ∈ l, b.toNat < 128) (hl : l.length ≤ 1073741824) : Ct Tryd.prog S0 67 [str l] m [] (fun out m' => out = .ret (.tuple #[.agg (setCells l).toArray, .bool true])) := by
  refine ct_x (spec0 _) (by rfl) Tryd.func67 rfl ?_
  simp (maxSteps := 2000000) (disch := first | assumption | omega | (simp only [nx_push, nx_set, ne_eq] <;> omega) | (simp only [XSide, F67]; done) | decide) only [XWalk, XSl, ↓XPre, reduceIte, Nat.reduceEqDiff, Nat.reduceLT, Nat.reduceAdd, Nat.reduceSub, Nat.reduceMul, Nat.reduceBEq, reduceCtorEq, Int.reduceAdd, Int.reduceSub, Int.reduceMul, Int.reduceLT, Int.reduceLE, Int.reduceGT, Int.reduceGE, Int.reduceEq, Int.reduceNe, Int.reduceBEq, Int.reduceBNe, Int.reduceTMod, Int.reduceTDiv, ↓if_true, ↓if_false, F67, A67, Tryd.ntmps67]
  refine x_loop (fun k e m1 => ∃ i, i + k = l.length ∧ e.n = 21 ∧ e.get 0 = str l ∧ e.get 2 = .pointer (some ⟨m.next, 0, none⟩) ∧ e.get 4 = .int .i64 ((i : Nat) : Int) ∧ WF m1 ∧ m1.next = m.next + 1 ∧ m1.get m.next = some (.row (setCells (l.take i)) .rw)) l.length
    ⟨0, by omega, by simp (maxSteps := 2000000) (disch := first | assumption | omega | (simp only [nx_push, nx_set, ne_eq] <;> omega) | (simp only [XSide]; done) | decide) only [XWalk, XSl, ↓XPre, reduceIte, Nat.reduceEqDiff, Nat.reduceLT, Nat.reduceAdd, Nat.reduceSub, Nat.reduceMul, Nat.reduceBEq, reduceCtorEq, Int.reduceAdd, Int.reduceSub, Int.reduceMul, Int.reduceLT, Int.reduceLE, Int.reduceGT, Int.reduceGE, Int.reduceEq, Int.reduceNe, Int.reduceBEq, Int.reduceBNe, Int.reduceTMod, Int.reduceTDiv, ↓if_true, ↓if_false], by simp (maxSteps := 2000000) (disch := first | assumption | omega | (simp only [nx_push, nx_set, ne_eq] <;> omega) | (simp only [XSide]; done) | decide) only [XWalk, XSl, ↓XPre, reduceIte, Nat.reduceEqDiff, Nat.reduceLT, Nat.reduceAdd, Nat.reduceSub, Nat.reduceMul, Nat.reduceBEq, reduceCtorEq, Int.reduceAdd, Int.reduceSub, Int.reduceMul, Int.reduceLT, Int.reduceLE, Int.reduceGT, Int.reduceGE, Int.reduceEq, Int.reduceNe, Int.reduceBEq, Int.reduceBNe, Int.reduceTMod, Int.reduceTDiv, ↓if_true, ↓if_false], by simp (maxSteps := 2000000) (disch := first | assumption | omega | (simp only [nx_push, nx_set, ne_eq] <;> omega) | (simp only [XSide]; done) | decide) only [XWalk, XSl, ↓XPre, reduceIte, Nat.reduceEqDiff, Nat.reduceLT, Nat.reduceAdd, Nat.reduceSub, Nat.reduceMul, Nat.reduceBEq, reduceCtorEq, Int.reduceAdd, Int.reduceSub, Int.reduceMul, Int.reduceLT, Int.reduceLE, Int.reduceGT, Int.reduceGE, Int.reduceEq, Int.reduceNe, Int.reduceBEq, Int.reduceBNe, Int.reduceTMod, Int.reduceTDiv, ↓if_true, ↓if_false], by simp (maxSteps := 2000000) (disch := first | assumption | omega | (simp only [nx_push, nx_set, ne_eq] <;> omega) | (simp only [XSide]; done) | decide) only [XWalk, XSl, ↓XPre, reduceIte, Nat.reduceEqDiff, Nat.reduceLT, Nat.reduceAdd, Nat.reduceSub, Nat.reduceMul, Nat.reduceBEq, reduceCtorEq, Int.reduceAdd, Int.reduceSub, Int.reduceMul, Int.reduceLT, Int.reduceLE, Int.reduceGT, Int.reduceGE, Int.reduceEq, Int.reduceNe, Int.reduceBEq, Int.reduceBNe, Int.reduceTMod, Int.reduceTDiv, ↓if_true, ↓if_false]; rfl, hw.push, rfl, by rw [get_push_self]; rfl⟩ ?_
  rintro k e m1 ⟨i, hi, he, q0, q2, q4, hw1, hn1, hm1⟩
  simp (maxSteps := 2000000) (disch := first | assumption | omega | (simp only [nx_push, nx_set, ne_eq] <;> omega) | (simp only [XSide, F67]; done) | decide) only [XWalk, XSl, ↓XPre, reduceIte, Nat.reduceEqDiff, Nat.reduceLT, Nat.reduceAdd, Nat.reduceSub, Nat.reduceMul, Nat.reduceBEq, reduceCtorEq, Int.reduceAdd, Int.reduceSub, Int.reduceMul, Int.reduceLT, Int.reduceLE, Int.reduceGT, Int.reduceGE, Int.reduceEq, Int.reduceNe, Int.reduceBEq, Int.reduceBNe, Int.reduceTMod, Int.reduceTDiv, ↓if_true, ↓if_false, F67, A67, he, q0, q4]
  refine x_if (fun ht => ?_) (fun ht => ?_)
  · have hk : i < l.length := by have := of_decide_eq_true ht; omega
    have hli : l[i]? = some l[i] := List.getElem?_eq_getElem hk
    have h128 := ha l[i] (List.getElem_mem hk)
    have e2 : IntKind.wrap .i64 ((i : Int) + 1) = ((i + 1 : Nat) : Int) := by rw [wrap_i64 (by omega) (by omega)]; omega
    simp (maxSteps := 2000000) (disch := first | assumption | omega | (simp only [nx_push, nx_set, ne_eq] <;> omega) | (simp only [XSide, F67]; done) | decide) only [XWalk, XSl, ↓XPre, reduceIte, Nat.reduceEqDiff, Nat.reduceLT, Nat.reduceAdd, Nat.reduceSub, Nat.reduceMul, Nat.reduceBEq, reduceCtorEq, Int.reduceAdd, Int.reduceSub, Int.reduceMul, Int.reduceLT, Int.reduceLE, Int.reduceGT, Int.reduceGE, Int.reduceEq, Int.reduceNe, Int.reduceBEq, Int.reduceBNe, Int.reduceTMod, Int.reduceTDiv, ↓if_true, ↓if_false, F67, A67, he, q0, q4, aidx_str' (show tyTag Tryd.prog 9 = 6 by simp only [F67]) hli, show decide ((l[i].toNat : Int) ≥ 128) = false by simp; omega]
    have h256 : l[i].toNat < 256 := l[i].toNat_lt
    simp (maxSteps := 2000000) (disch := first | assumption | omega | (simp only [nx_push, nx_set, ne_eq] <;> omega) | (simp only [XSide, F67]; done) | decide) only [XWalk, XSl, ↓XPre, reduceIte, Nat.reduceEqDiff, Nat.reduceLT, Nat.reduceAdd, Nat.reduceSub, Nat.reduceMul, Nat.reduceBEq, reduceCtorEq, Int.reduceAdd, Int.reduceSub, Int.reduceMul, Int.reduceLT, Int.reduceLE, Int.reduceGT, Int.reduceGE, Int.reduceEq, Int.reduceNe, Int.reduceBEq, Int.reduceBNe, Int.reduceTMod, Int.reduceTDiv, ↓if_true, ↓if_false, F67, A67, he, q0, q2, q4, hm1, setCells_len, e2]
    refine ⟨k - 1, by omega, i + 1, by omega, rfl, hw1.set (by omega), hn1, ?_⟩
    rw [setCells_set, List.take_succ_eq_append_getElem hk]
  · have hk : i = l.length := by have := of_decide_eq_false ht; omega
    subst hk
    have lN : loadN (setCells (l.take l.length)) 0 256 = some (setCells (l.take l.length)) := loadN_all setCells_len
    have bq : Nat.beq (setCells (l.take l.length)).length 256 = true := by rw [setCells_len]; rfl
    have ho := setCells_one (s := l.take l.length)
    simp (maxSteps := 2000000) (disch := first | assumption | omega | (simp only [nx_push, nx_set, ne_eq] <;> omega) | (simp only [XSide, F67]; done) | decide) only [XWalk, XSl, ↓XPre, reduceIte, Nat.reduceEqDiff, Nat.reduceLT, Nat.reduceAdd, Nat.reduceSub, Nat.reduceMul, Nat.reduceBEq, reduceCtorEq, Int.reduceAdd, Int.reduceSub, Int.reduceMul, Int.reduceLT, Int.reduceLE, Int.reduceGT, Int.reduceGE, Int.reduceEq, Int.reduceNe, Int.reduceBEq, Int.reduceBNe, Int.reduceTMod, Int.reduceTDiv, ↓if_true, ↓if_false, F67, A67, he, q0, q2, hm1, loadRow_agg, lN, bq]
    rw [List.take_length]

end Go.Big

/- Trimming; names. -/
set_option linter.unusedSimpArgs false
set_option linter.unusedVariables false
set_option maxRecDepth 100000
set_option maxHeartbeats 2000000
namespace Go.Big
open Go.Proofs

theorem contains_ct {m : Mem} {b : Nat} {s : List UInt8} (hm : m.get b = some (.row (setCells s) .rw)) {c : UInt8} : Ct Tryd.prog S0 77 [.pointer (some ⟨b, 0, none⟩), .int .u8 (c.toNat : Int)] m [] (fun out m' => out = .ret (.bool (s.contains c)) ∧ m' = m) := by
  have h256 : c.toNat < 256 := c.toNat_lt
  refine ct_x (spec0 _) (by rfl) Tryd.func77 rfl ?_
  simp (maxSteps := 2000000) (disch := first | assumption | omega | (simp only [nx_push, nx_set, ne_eq] <;> omega) | (simp only [XSide, F77]; done) | decide) only [XWalk, XSl, ↓XPre, reduceIte, Nat.reduceEqDiff, Nat.reduceLT, Nat.reduceAdd, Nat.reduceSub, Nat.reduceMul, Nat.reduceBEq, reduceCtorEq, Int.reduceAdd, Int.reduceSub, Int.reduceMul, Int.reduceLT, Int.reduceLE, Int.reduceGT, Int.reduceGE, Int.reduceEq, Int.reduceNe, Int.reduceBEq, Int.reduceBNe, Int.reduceTMod, Int.reduceTDiv, ↓if_true, ↓if_false, F77, A77, Tryd.ntmps77, hm, setCells_get]

def trimR (p : UInt8 → Bool) (l : List UInt8) : List UInt8 := (l.reverse.dropWhile p).reverse

theorem trimR_last {p : UInt8 → Bool} {l : List UInt8} {b : UInt8} : trimR p (l ++ [b]) = if p b then trimR p l else l ++ [b] := by
  unfold trimR
  rw [List.reverse_append, List.reverse_cons, List.reverse_nil, List.nil_append, List.singleton_append, List.dropWhile_cons]
  split <;> simp

theorem trimRight_ct {m : Mem} {b : Nat} {s l : List UInt8} (hm : m.get b = some (.row (setCells s) .rw)) (hl : l.length ≤ 1073741824) : Ct Tryd.prog S0 69 [str l, .pointer (some ⟨b, 0, none⟩)] m [] (fun out m' => out = .ret (str (trimR s.contains l)) ∧ m' = m) := by
  refine ct_x (spec0 _) (by rfl) Tryd.func69 rfl ?_
  simp (maxSteps := 2000000) (disch := first | assumption | omega | (simp only [nx_push, nx_set, ne_eq] <;> omega) | (simp only [XSide, F69]; done) | decide) only [XWalk, XSl, ↓XPre, reduceIte, Nat.reduceEqDiff, Nat.reduceLT, Nat.reduceAdd, Nat.reduceSub, Nat.reduceMul, Nat.reduceBEq, reduceCtorEq, Int.reduceAdd, Int.reduceSub, Int.reduceMul, Int.reduceLT, Int.reduceLE, Int.reduceGT, Int.reduceGE, Int.reduceEq, Int.reduceNe, Int.reduceBEq, Int.reduceBNe, Int.reduceTMod, Int.reduceTDiv, ↓if_true, ↓if_false, F69, A69, Tryd.ntmps69]
  refine x_loop (fun k e m1 => ∃ l1, l1.length = k ∧ trimR s.contains l1 = trimR s.contains l ∧ l1.length ≤ l.length ∧ e.n = 22 ∧ e.get 0 = str l1 ∧ e.get 1 = .pointer (some ⟨b, 0, none⟩) ∧ m1 = m) l.length ⟨l, rfl, rfl, Nat.le_refl _, by simp (maxSteps := 2000000) (disch := first | assumption | omega | (simp only [nx_push, nx_set, ne_eq] <;> omega) | (simp only [XSide]; done) | decide) only [XWalk, XSl, ↓XPre, reduceIte, Nat.reduceEqDiff, Nat.reduceLT, Nat.reduceAdd, Nat.reduceSub, Nat.reduceMul, Nat.reduceBEq, reduceCtorEq, Int.reduceAdd, Int.reduceSub, Int.reduceMul, Int.reduceLT, Int.reduceLE, Int.reduceGT, Int.reduceGE, Int.reduceEq, Int.reduceNe, Int.reduceBEq, Int.reduceBNe, Int.reduceTMod, Int.reduceTDiv, ↓if_true, ↓if_false], by simp (maxSteps := 2000000) (disch := first | assumption | omega | (simp only [nx_push, nx_set, ne_eq] <;> omega) | (simp only [XSide]; done) | decide) only [XWalk, XSl, ↓XPre, reduceIte, Nat.reduceEqDiff, Nat.reduceLT, Nat.reduceAdd, Nat.reduceSub, Nat.reduceMul, Nat.reduceBEq, reduceCtorEq, Int.reduceAdd, Int.reduceSub, Int.reduceMul, Int.reduceLT, Int.reduceLE, Int.reduceGT, Int.reduceGE, Int.reduceEq, Int.reduceNe, Int.reduceBEq, Int.reduceBNe, Int.reduceTMod, Int.reduceTDiv, ↓if_true, ↓if_false], by simp (maxSteps := 2000000) (disch := first | assumption | omega | (simp only [nx_push, nx_set, ne_eq] <;> omega) | (simp only [XSide]; done) | decide) only [XWalk, XSl, ↓XPre, reduceIte, Nat.reduceEqDiff, Nat.reduceLT, Nat.reduceAdd, Nat.reduceSub, Nat.reduceMul, Nat.reduceBEq, reduceCtorEq, Int.reduceAdd, Int.reduceSub, Int.reduceMul, Int.reduceLT, Int.reduceLE, Int.reduceGT, Int.reduceGE, Int.reduceEq, Int.reduceNe, Int.reduceBEq, Int.reduceBNe, Int.reduceTMod, Int.reduceTDiv, ↓if_true, ↓if_false], rfl⟩ ?_
  rintro k e m1 ⟨l1, hk, htr, hle, he, q0, q1, rfl⟩
  simp (maxSteps := 2000000) (disch := first | assumption | omega | (simp only [nx_push, nx_set, ne_eq] <;> omega) | (simp only [XSide, F69]; done) | decide) only [XWalk, XSl, ↓XPre, reduceIte, Nat.reduceEqDiff, Nat.reduceLT, Nat.reduceAdd, Nat.reduceSub, Nat.reduceMul, Nat.reduceBEq, reduceCtorEq, Int.reduceAdd, Int.reduceSub, Int.reduceMul, Int.reduceLT, Int.reduceLE, Int.reduceGT, Int.reduceGE, Int.reduceEq, Int.reduceNe, Int.reduceBEq, Int.reduceBNe, Int.reduceTMod, Int.reduceTDiv, ↓if_true, ↓if_false, F69, A69, he, q0]
  refine x_if (fun ht => ?_) (fun ht => ?_)
  · have hk0 : 0 < l1.length := by have := of_decide_eq_true ht; omega
    obtain ⟨l2, c, rfl⟩ : ∃ l2 c, l1 = l2 ++ [c] := ⟨l1.dropLast, l1.getLast (by rintro rfl; simp at hk0), (List.dropLast_concat_getLast _).symm⟩
    rw [List.length_append, List.length_singleton] at hle hk
    have e1 : IntKind.wrap .i64 (((l2 ++ [c]).length : Int) - 1) = ((l2.length : Nat) : Int) := by rw [List.length_append, List.length_singleton, wrap_i64 (by omega) (by omega)]; omega
    have hli : (l2 ++ [c])[l2.length]? = some c := by simp
    rw [trimR_last] at htr
    simp (maxSteps := 2000000) (disch := first | assumption | omega | (simp only [nx_push, nx_set, ne_eq] <;> omega) | (simp only [XSide, F69]; done) | decide) only [XWalk, XSl, ↓XPre, reduceIte, Nat.reduceEqDiff, Nat.reduceLT, Nat.reduceAdd, Nat.reduceSub, Nat.reduceMul, Nat.reduceBEq, reduceCtorEq, Int.reduceAdd, Int.reduceSub, Int.reduceMul, Int.reduceLT, Int.reduceLE, Int.reduceGT, Int.reduceGE, Int.reduceEq, Int.reduceNe, Int.reduceBEq, Int.reduceBNe, Int.reduceTMod, Int.reduceTDiv, ↓if_true, ↓if_false, F69, A69, he, q0, q1, e1, aidx_str' (show tyTag Tryd.prog 9 = 6 by simp only [F69]) hli]
    refine wcall_pu (pu_of (contains_ct hm)) ?_
    simp (maxSteps := 2000000) (disch := first | assumption | omega | (simp only [nx_push, nx_set, ne_eq] <;> omega) | (simp only [XSide, F69]; done) | decide) only [XWalk, XSl, ↓XPre, reduceIte, Nat.reduceEqDiff, Nat.reduceLT, Nat.reduceAdd, Nat.reduceSub, Nat.reduceMul, Nat.reduceBEq, reduceCtorEq, Int.reduceAdd, Int.reduceSub, Int.reduceMul, Int.reduceLT, Int.reduceLE, Int.reduceGT, Int.reduceGE, Int.reduceEq, Int.reduceNe, Int.reduceBEq, Int.reduceBNe, Int.reduceTMod, Int.reduceTDiv, ↓if_true, ↓if_false, F69, A69, he]
    refine x_if (fun hc => ?_) (fun hc => ?_)
    · have hc' : s.contains c = false := by simpa using hc
      rw [hc'] at htr
      simp (maxSteps := 2000000) (disch := first | assumption | omega | (simp only [nx_push, nx_set, ne_eq] <;> omega) | (simp only [XSide, F69]; done) | decide) only [XWalk, XSl, ↓XPre, reduceIte, Nat.reduceEqDiff, Nat.reduceLT, Nat.reduceAdd, Nat.reduceSub, Nat.reduceMul, Nat.reduceBEq, reduceCtorEq, Int.reduceAdd, Int.reduceSub, Int.reduceMul, Int.reduceLT, Int.reduceLE, Int.reduceGT, Int.reduceGE, Int.reduceEq, Int.reduceNe, Int.reduceBEq, Int.reduceBNe, Int.reduceTMod, Int.reduceTDiv, ↓if_true, ↓if_false, F69, A69, he, q0]
      rw [← htr]; rfl
    · have hc' : s.contains c = true := by simpa using hc
      rw [hc'] at htr
      have htk : (l2 ++ [c]).take l2.length = l2 := by rw [List.take_left]
      simp (maxSteps := 2000000) (disch := first | assumption | omega | (simp only [nx_push, nx_set, ne_eq] <;> omega) | (simp only [XSide, F69]; done) | decide) only [XWalk, XSl, ↓XPre, reduceIte, Nat.reduceEqDiff, Nat.reduceLT, Nat.reduceAdd, Nat.reduceSub, Nat.reduceMul, Nat.reduceBEq, reduceCtorEq, Int.reduceAdd, Int.reduceSub, Int.reduceMul, Int.reduceLT, Int.reduceLE, Int.reduceGT, Int.reduceGE, Int.reduceEq, Int.reduceNe, Int.reduceBEq, Int.reduceBNe, Int.reduceTMod, Int.reduceTDiv, ↓if_true, ↓if_false, F69, A69, he, q0, q1, e1, aslM_str, pv_slice, aslS_hi (show tyTag Tryd.prog 9 = 6 by simp only [F69]) (show l2.length ≤ (l2 ++ [c]).length by simp), htk]
      exact ⟨l2.length, by omega, l2, rfl, htr, by omega, rfl⟩
  · have hk0 : l1 = [] := List.eq_nil_of_length_eq_zero (by have := of_decide_eq_false ht; omega)
    subst hk0
    simp (maxSteps := 2000000) (disch := first | assumption | omega | (simp only [nx_push, nx_set, ne_eq] <;> omega) | (simp only [XSide, F69]; done) | decide) only [XWalk, XSl, ↓XPre, reduceIte, Nat.reduceEqDiff, Nat.reduceLT, Nat.reduceAdd, Nat.reduceSub, Nat.reduceMul, Nat.reduceBEq, reduceCtorEq, Int.reduceAdd, Int.reduceSub, Int.reduceMul, Int.reduceLT, Int.reduceLE, Int.reduceGT, Int.reduceGE, Int.reduceEq, Int.reduceNe, Int.reduceBEq, Int.reduceBNe, Int.reduceTMod, Int.reduceTDiv, ↓if_true, ↓if_false, F69, A69, he, q0]
    rw [← htr]; rfl

theorem trimLeft_ct {m : Mem} {b : Nat} {s l : List UInt8} (hm : m.get b = some (.row (setCells s) .rw)) (hl : l.length ≤ 1073741824) : Ct Tryd.prog S0 68 [str l, .pointer (some ⟨b, 0, none⟩)] m [] (fun out m' => out = .ret (str (l.dropWhile s.contains)) ∧ m' = m) := by
  refine ct_x (spec0 _) (by rfl) Tryd.func68 rfl ?_
  simp (maxSteps := 2000000) (disch := first | assumption | omega | (simp only [nx_push, nx_set, ne_eq] <;> omega) | (simp only [XSide, F68]; done) | decide) only [XWalk, XSl, ↓XPre, reduceIte, Nat.reduceEqDiff, Nat.reduceLT, Nat.reduceAdd, Nat.reduceSub, Nat.reduceMul, Nat.reduceBEq, reduceCtorEq, Int.reduceAdd, Int.reduceSub, Int.reduceMul, Int.reduceLT, Int.reduceLE, Int.reduceGT, Int.reduceGE, Int.reduceEq, Int.reduceNe, Int.reduceBEq, Int.reduceBNe, Int.reduceTMod, Int.reduceTDiv, ↓if_true, ↓if_false, F68, A68, Tryd.ntmps68]
  refine x_loop (fun k e m1 => ∃ l1, l1.length = k ∧ l1.dropWhile s.contains = l.dropWhile s.contains ∧ e.n = 16 ∧ e.get 0 = str l1 ∧ e.get 1 = .pointer (some ⟨b, 0, none⟩) ∧ m1 = m) l.length ⟨l, rfl, rfl, by simp (maxSteps := 2000000) (disch := first | assumption | omega | (simp only [nx_push, nx_set, ne_eq] <;> omega) | (simp only [XSide]; done) | decide) only [XWalk, XSl, ↓XPre, reduceIte, Nat.reduceEqDiff, Nat.reduceLT, Nat.reduceAdd, Nat.reduceSub, Nat.reduceMul, Nat.reduceBEq, reduceCtorEq, Int.reduceAdd, Int.reduceSub, Int.reduceMul, Int.reduceLT, Int.reduceLE, Int.reduceGT, Int.reduceGE, Int.reduceEq, Int.reduceNe, Int.reduceBEq, Int.reduceBNe, Int.reduceTMod, Int.reduceTDiv, ↓if_true, ↓if_false], by simp (maxSteps := 2000000) (disch := first | assumption | omega | (simp only [nx_push, nx_set, ne_eq] <;> omega) | (simp only [XSide]; done) | decide) only [XWalk, XSl, ↓XPre, reduceIte, Nat.reduceEqDiff, Nat.reduceLT, Nat.reduceAdd, Nat.reduceSub, Nat.reduceMul, Nat.reduceBEq, reduceCtorEq, Int.reduceAdd, Int.reduceSub, Int.reduceMul, Int.reduceLT, Int.reduceLE, Int.reduceGT, Int.reduceGE, Int.reduceEq, Int.reduceNe, Int.reduceBEq, Int.reduceBNe, Int.reduceTMod, Int.reduceTDiv, ↓if_true, ↓if_false], by simp (maxSteps := 2000000) (disch := first | assumption | omega | (simp only [nx_push, nx_set, ne_eq] <;> omega) | (simp only [XSide]; done) | decide) only [XWalk, XSl, ↓XPre, reduceIte, Nat.reduceEqDiff, Nat.reduceLT, Nat.reduceAdd, Nat.reduceSub, Nat.reduceMul, Nat.reduceBEq, reduceCtorEq, Int.reduceAdd, Int.reduceSub, Int.reduceMul, Int.reduceLT, Int.reduceLE, Int.reduceGT, Int.reduceGE, Int.reduceEq, Int.reduceNe, Int.reduceBEq, Int.reduceBNe, Int.reduceTMod, Int.reduceTDiv, ↓if_true, ↓if_false], rfl⟩ ?_
  rintro k e m1 ⟨l1, hk, htr, he, q0, q1, rfl⟩
  simp (maxSteps := 2000000) (disch := first | assumption | omega | (simp only [nx_push, nx_set, ne_eq] <;> omega) | (simp only [XSide, F68]; done) | decide) only [XWalk, XSl, ↓XPre, reduceIte, Nat.reduceEqDiff, Nat.reduceLT, Nat.reduceAdd, Nat.reduceSub, Nat.reduceMul, Nat.reduceBEq, reduceCtorEq, Int.reduceAdd, Int.reduceSub, Int.reduceMul, Int.reduceLT, Int.reduceLE, Int.reduceGT, Int.reduceGE, Int.reduceEq, Int.reduceNe, Int.reduceBEq, Int.reduceBNe, Int.reduceTMod, Int.reduceTDiv, ↓if_true, ↓if_false, F68, A68, he, q0]
  refine x_if (fun ht => ?_) (fun ht => ?_)
  · have hk0 : 0 < l1.length := by have := of_decide_eq_true ht; omega
    obtain ⟨c, l2, rfl⟩ : ∃ c l2, l1 = c :: l2 := by
      cases l1 with
      | nil => simp at hk0
      | cons c l2 => exact ⟨c, l2, rfl⟩
    rw [List.dropWhile_cons] at htr
    simp (maxSteps := 2000000) (disch := first | assumption | omega | (simp only [nx_push, nx_set, ne_eq] <;> omega) | (simp only [XSide, F68]; done) | decide) only [XWalk, XSl, ↓XPre, reduceIte, Nat.reduceEqDiff, Nat.reduceLT, Nat.reduceAdd, Nat.reduceSub, Nat.reduceMul, Nat.reduceBEq, reduceCtorEq, Int.reduceAdd, Int.reduceSub, Int.reduceMul, Int.reduceLT, Int.reduceLE, Int.reduceGT, Int.reduceGE, Int.reduceEq, Int.reduceNe, Int.reduceBEq, Int.reduceBNe, Int.reduceTMod, Int.reduceTDiv, ↓if_true, ↓if_false, F68, A68, he, q0, q1, aidx_lit (show tyTag Tryd.prog 9 = 6 by simp only [F68]) (show (c :: l2)[0]? = some c from rfl)]
    refine wcall_pu (pu_of (contains_ct hm)) ?_
    simp (maxSteps := 2000000) (disch := first | assumption | omega | (simp only [nx_push, nx_set, ne_eq] <;> omega) | (simp only [XSide, F68]; done) | decide) only [XWalk, XSl, ↓XPre, reduceIte, Nat.reduceEqDiff, Nat.reduceLT, Nat.reduceAdd, Nat.reduceSub, Nat.reduceMul, Nat.reduceBEq, reduceCtorEq, Int.reduceAdd, Int.reduceSub, Int.reduceMul, Int.reduceLT, Int.reduceLE, Int.reduceGT, Int.reduceGE, Int.reduceEq, Int.reduceNe, Int.reduceBEq, Int.reduceBNe, Int.reduceTMod, Int.reduceTDiv, ↓if_true, ↓if_false, F68, A68, he]
    refine x_if (fun hc => ?_) (fun hc => ?_)
    · have hc' : s.contains c = false := by simpa using hc
      rw [hc'] at htr
      simp (maxSteps := 2000000) (disch := first | assumption | omega | (simp only [nx_push, nx_set, ne_eq] <;> omega) | (simp only [XSide, F68]; done) | decide) only [XWalk, XSl, ↓XPre, reduceIte, Nat.reduceEqDiff, Nat.reduceLT, Nat.reduceAdd, Nat.reduceSub, Nat.reduceMul, Nat.reduceBEq, reduceCtorEq, Int.reduceAdd, Int.reduceSub, Int.reduceMul, Int.reduceLT, Int.reduceLE, Int.reduceGT, Int.reduceGE, Int.reduceEq, Int.reduceNe, Int.reduceBEq, Int.reduceBNe, Int.reduceTMod, Int.reduceTDiv, ↓if_true, ↓if_false, F68, A68, he, q0]
      rw [← htr]; rfl
    · have hc' : s.contains c = true := by simpa using hc
      rw [hc'] at htr
      simp (maxSteps := 2000000) (disch := first | assumption | omega | (simp only [nx_push, nx_set, ne_eq] <;> omega) | (simp only [XSide, F68]; done) | decide) only [XWalk, XSl, ↓XPre, reduceIte, Nat.reduceEqDiff, Nat.reduceLT, Nat.reduceAdd, Nat.reduceSub, Nat.reduceMul, Nat.reduceBEq, reduceCtorEq, Int.reduceAdd, Int.reduceSub, Int.reduceMul, Int.reduceLT, Int.reduceLE, Int.reduceGT, Int.reduceGE, Int.reduceEq, Int.reduceNe, Int.reduceBEq, Int.reduceBNe, Int.reduceTMod, Int.reduceTDiv, ↓if_true, ↓if_false, F68, A68, he, q0, q1, aslM_str, pv_slice, aslS_lo_lit (show tyTag Tryd.prog 9 = 6 by simp only [F68]) (show 1 ≤ (c :: l2).length by simp), List.drop_succ_cons, List.drop_zero]
      exact ⟨l2.length, by simp at hk; omega, l2, rfl, htr, rfl⟩
  · have hk0 : l1 = [] := List.eq_nil_of_length_eq_zero (by have := of_decide_eq_false ht; omega)
    subst hk0
    simp (maxSteps := 2000000) (disch := first | assumption | omega | (simp only [nx_push, nx_set, ne_eq] <;> omega) | (simp only [XSide, F68]; done) | decide) only [XWalk, XSl, ↓XPre, reduceIte, Nat.reduceEqDiff, Nat.reduceLT, Nat.reduceAdd, Nat.reduceSub, Nat.reduceMul, Nat.reduceBEq, reduceCtorEq, Int.reduceAdd, Int.reduceSub, Int.reduceMul, Int.reduceLT, Int.reduceLE, Int.reduceGT, Int.reduceGE, Int.reduceEq, Int.reduceNe, Int.reduceBEq, Int.reduceBNe, Int.reduceTMod, Int.reduceTDiv, ↓if_true, ↓if_false, F68, A68, he, q0]
    rw [← htr]; rfl

def nameSet : List UInt8 := [97, 98, 99, 100, 101, 102, 103, 104, 105, 106, 107, 108, 109, 110, 111, 112, 113, 114, 115, 116, 117, 118, 119, 120, 121, 122, 48, 49, 50, 51, 52, 53, 54, 55, 56, 57, 45]

theorem trim_ct {m : Mem} (hw : WF m) {l : List UInt8} (hl : l.length ≤ 1073741824) : Ct Tryd.prog S0 52 [str l, str nameSet] m [] (fun out m' => ∃ r, out = .ret (str r) ∧ (r = [] ↔ ∀ b ∈ l, nameSet.contains b = true)) := by
  have key : ∀ (p : UInt8 → Bool) (l : List UInt8), (trimR p l).dropWhile p = [] ↔ ∀ b ∈ l, p b = true := by
    intro p l
    have h1 : ∀ l : List UInt8, l.dropWhile p = [] ↔ ∀ b ∈ l, p b = true := by
      intro l
      induction l with
      | nil => simp
      | cons c l ih =>
        rw [List.dropWhile_cons]
        cases hc : p c with
        | true => simp [ih, hc]
        | false => simp [hc]
    have h2 : ∀ l : List UInt8, trimR p l = [] ↔ ∀ b ∈ l, p b = true := by
      intro l
      unfold trimR
      rw [List.reverse_eq_nil_iff, h1]
      simp
    constructor
    · intro h
      rw [h1] at h
      by_cases he : trimR p l = []
      · exact (h2 l).1 he
      · exfalso
        have : ∃ c, (trimR p l).getLast? = some c ∧ p c = false := by
          unfold trimR at he ⊢
          rw [List.getLast?_reverse]
          cases hd : l.reverse.dropWhile p with
          | nil => rw [hd] at he; simp at he
          | cons c r =>
            refine ⟨c, rfl, ?_⟩
            have := List.head?_dropWhile_not p l.reverse
            rw [hd] at this
            simpa using this
        obtain ⟨c, h3, h4⟩ := this
        have := h c (List.mem_of_getLast? h3)
        rw [h4] at this; cases this
    · intro h
      rw [(h2 l).2 h]; rfl
  refine ct_x (spec0 _) (by rfl) Tryd.func52 rfl ?_
  simp (maxSteps := 2000000) (disch := first | assumption | omega | (simp only [nx_push, nx_set, ne_eq] <;> omega) | (simp only [XSide, F52]; done) | decide) only [XWalk, XSl, ↓XPre, reduceIte, Nat.reduceEqDiff, Nat.reduceLT, Nat.reduceAdd, Nat.reduceSub, Nat.reduceMul, Nat.reduceBEq, reduceCtorEq, Int.reduceAdd, Int.reduceSub, Int.reduceMul, Int.reduceLT, Int.reduceLE, Int.reduceGT, Int.reduceGE, Int.reduceEq, Int.reduceNe, Int.reduceBEq, Int.reduceBNe, Int.reduceTMod, Int.reduceTDiv, ↓if_true, ↓if_false, F52, A52, Tryd.ntmps52]
  by_cases hl0 : l = []
  · subst hl0
    simp (maxSteps := 2000000) (disch := first | assumption | omega | (simp only [nx_push, nx_set, ne_eq] <;> omega) | (simp only [XSide, F52]; done) | decide) only [XWalk, XSl, ↓XPre, reduceIte, Nat.reduceEqDiff, Nat.reduceLT, Nat.reduceAdd, Nat.reduceSub, Nat.reduceMul, Nat.reduceBEq, reduceCtorEq, Int.reduceAdd, Int.reduceSub, Int.reduceMul, Int.reduceLT, Int.reduceLE, Int.reduceGT, Int.reduceGE, Int.reduceEq, Int.reduceNe, Int.reduceBEq, Int.reduceBNe, Int.reduceTMod, Int.reduceTDiv, ↓if_true, ↓if_false, F52, A52, show (([] : List UInt8) == []) = true from rfl]
    exact ⟨[], rfl, by simp⟩
  · have hb : (l == []) = false := by simpa using hl0
    simp (maxSteps := 2000000) (disch := first | assumption | omega | (simp only [nx_push, nx_set, ne_eq] <;> omega) | (simp only [XSide, F52]; done) | decide) only [XWalk, XSl, ↓XPre, reduceIte, Nat.reduceEqDiff, Nat.reduceLT, Nat.reduceAdd, Nat.reduceSub, Nat.reduceMul, Nat.reduceBEq, reduceCtorEq, Int.reduceAdd, Int.reduceSub, Int.reduceMul, Int.reduceLT, Int.reduceLE, Int.reduceGT, Int.reduceGE, Int.reduceEq, Int.reduceNe, Int.reduceBEq, Int.reduceBNe, Int.reduceTMod, Int.reduceTDiv, ↓if_true, ↓if_false, F52, A52, hb, show (((nameSet.length : Nat) : Int) == 1) = false from rfl, show (nameSet == []) = false from rfl]
    refine wcall_x specLoc (ascii_ct hw (l := nameSet) (by decide) (by decide)) hw ?_
    rintro out m1 hw1 hn1 f1 rfl
    have bq : Nat.beq (setCells nameSet).length 256 = true := by rw [setCells_len]; rfl
    have ho := setCells_one (s := nameSet)
    simp (maxSteps := 2000000) (disch := first | assumption | omega | (simp only [nx_push, nx_set, ne_eq] <;> omega) | (simp only [XSide, F52]; done) | decide) only [XWalk, XSl, ↓XPre, reduceIte, Nat.reduceEqDiff, Nat.reduceLT, Nat.reduceAdd, Nat.reduceSub, Nat.reduceMul, Nat.reduceBEq, reduceCtorEq, Int.reduceAdd, Int.reduceSub, Int.reduceMul, Int.reduceLT, Int.reduceLE, Int.reduceGT, Int.reduceGE, Int.reduceEq, Int.reduceNe, Int.reduceBEq, Int.reduceBNe, Int.reduceTMod, Int.reduceTDiv, ↓if_true, ↓if_false, F52, A52, bq]
    refine wcall_pu (pu_of (trimRight_ct (b := m1.next) (s := nameSet) (by rw [get_set_self]) hl)) ?_
    simp (maxSteps := 2000000) (disch := first | assumption | omega | (simp only [nx_push, nx_set, ne_eq] <;> omega) | (simp only [XSide, F52]; done) | decide) only [XWalk, XSl, ↓XPre, reduceIte, Nat.reduceEqDiff, Nat.reduceLT, Nat.reduceAdd, Nat.reduceSub, Nat.reduceMul, Nat.reduceBEq, reduceCtorEq, Int.reduceAdd, Int.reduceSub, Int.reduceMul, Int.reduceLT, Int.reduceLE, Int.reduceGT, Int.reduceGE, Int.reduceEq, Int.reduceNe, Int.reduceBEq, Int.reduceBNe, Int.reduceTMod, Int.reduceTDiv, ↓if_true, ↓if_false, F52, A52]
    have htl : (trimR nameSet.contains l).length ≤ 1073741824 := by
      unfold trimR
      rw [List.length_reverse]
      have := (List.dropWhile_sublist (l := l.reverse) nameSet.contains).length_le
      rw [List.length_reverse] at this
      omega
    refine wcall_pu (pu_of (trimLeft_ct (b := m1.next) (s := nameSet) (by rw [get_set_self]) htl)) ?_
    simp (maxSteps := 2000000) (disch := first | assumption | omega | (simp only [nx_push, nx_set, ne_eq] <;> omega) | (simp only [XSide, F52]; done) | decide) only [XWalk, XSl, ↓XPre, reduceIte, Nat.reduceEqDiff, Nat.reduceLT, Nat.reduceAdd, Nat.reduceSub, Nat.reduceMul, Nat.reduceBEq, reduceCtorEq, Int.reduceAdd, Int.reduceSub, Int.reduceMul, Int.reduceLT, Int.reduceLE, Int.reduceGT, Int.reduceGE, Int.reduceEq, Int.reduceNe, Int.reduceBEq, Int.reduceBNe, Int.reduceTMod, Int.reduceTDiv, ↓if_true, ↓if_false, F52, A52]
    exact ⟨_, rfl, key _ _⟩

def nameB (l : List UInt8) : Bool := decide (1 ≤ l.length) && (decide (l.length ≤ 32) && l.all nameSet.contains)

theorem named_ct {m : Mem} (hw : WF m) {l : List UInt8} (hl : l.length ≤ 1073741824) : Ct Tryd.prog S0 40 [str l] m [] (fun out m' => out = .ret (.bool (nameB l))) := by
  refine ct_x (spec0 _) (by rfl) Tryd.func40 rfl ?_
  simp (maxSteps := 2000000) (disch := first | assumption | omega | (simp only [nx_push, nx_set, ne_eq] <;> omega) | (simp only [XSide, F40]; done) | decide) only [XWalk, XSl, ↓XPre, reduceIte, Nat.reduceEqDiff, Nat.reduceLT, Nat.reduceAdd, Nat.reduceSub, Nat.reduceMul, Nat.reduceBEq, reduceCtorEq, Int.reduceAdd, Int.reduceSub, Int.reduceMul, Int.reduceLT, Int.reduceLE, Int.reduceGT, Int.reduceGE, Int.reduceEq, Int.reduceNe, Int.reduceBEq, Int.reduceBNe, Int.reduceTMod, Int.reduceTDiv, ↓if_true, ↓if_false, F40, A40, Tryd.ntmps40]
  by_cases h1 : 1 ≤ l.length
  · have e1 : decide ((l.length : Int) ≥ 1) = true := by simp; omega
    by_cases h2 : l.length ≤ 32
    · have e2 : decide ((l.length : Int) ≤ 32) = true := by simp; omega
      simp (maxSteps := 2000000) (disch := first | assumption | omega | (simp only [nx_push, nx_set, ne_eq] <;> omega) | (simp only [XSide, F40]; done) | decide) only [XWalk, XSl, ↓XPre, reduceIte, Nat.reduceEqDiff, Nat.reduceLT, Nat.reduceAdd, Nat.reduceSub, Nat.reduceMul, Nat.reduceBEq, reduceCtorEq, Int.reduceAdd, Int.reduceSub, Int.reduceMul, Int.reduceLT, Int.reduceLE, Int.reduceGT, Int.reduceGE, Int.reduceEq, Int.reduceNe, Int.reduceBEq, Int.reduceBNe, Int.reduceTMod, Int.reduceTDiv, ↓if_true, ↓if_false, F40, A40, e1, e2]
      refine wcall_x specLoc (trim_ct hw hl) hw ?_
      rintro out m1 hw1 hn1 f1 ⟨r, rfl, hr⟩
      simp (maxSteps := 2000000) (disch := first | assumption | omega | (simp only [nx_push, nx_set, ne_eq] <;> omega) | (simp only [XSide, F40]; done) | decide) only [XWalk, XSl, ↓XPre, reduceIte, Nat.reduceEqDiff, Nat.reduceLT, Nat.reduceAdd, Nat.reduceSub, Nat.reduceMul, Nat.reduceBEq, reduceCtorEq, Int.reduceAdd, Int.reduceSub, Int.reduceMul, Int.reduceLT, Int.reduceLE, Int.reduceGT, Int.reduceGE, Int.reduceEq, Int.reduceNe, Int.reduceBEq, Int.reduceBNe, Int.reduceTMod, Int.reduceTDiv, ↓if_true, ↓if_false, F40, A40, e1, e2]
      have e3 : (r == []) = l.all nameSet.contains := by
        rw [Bool.eq_iff_iff, beq_iff_eq, List.all_eq_true]
        exact hr
      rw [nameB, decide_eq_true h1, decide_eq_true h2, ← e3]
      rfl
    · have e2 : decide ((l.length : Int) ≤ 32) = false := by simp; omega
      simp (maxSteps := 2000000) (disch := first | assumption | omega | (simp only [nx_push, nx_set, ne_eq] <;> omega) | (simp only [XSide, F40]; done) | decide) only [XWalk, XSl, ↓XPre, reduceIte, Nat.reduceEqDiff, Nat.reduceLT, Nat.reduceAdd, Nat.reduceSub, Nat.reduceMul, Nat.reduceBEq, reduceCtorEq, Int.reduceAdd, Int.reduceSub, Int.reduceMul, Int.reduceLT, Int.reduceLE, Int.reduceGT, Int.reduceGE, Int.reduceEq, Int.reduceNe, Int.reduceBEq, Int.reduceBNe, Int.reduceTMod, Int.reduceTDiv, ↓if_true, ↓if_false, F40, A40, e1, e2]
      rw [nameB, decide_eq_false h2]
      simp
  · have e1 : decide ((l.length : Int) ≥ 1) = false := by simp; omega
    simp (maxSteps := 2000000) (disch := first | assumption | omega | (simp only [nx_push, nx_set, ne_eq] <;> omega) | (simp only [XSide, F40]; done) | decide) only [XWalk, XSl, ↓XPre, reduceIte, Nat.reduceEqDiff, Nat.reduceLT, Nat.reduceAdd, Nat.reduceSub, Nat.reduceMul, Nat.reduceBEq, reduceCtorEq, Int.reduceAdd, Int.reduceSub, Int.reduceMul, Int.reduceLT, Int.reduceLE, Int.reduceGT, Int.reduceGE, Int.reduceEq, Int.reduceNe, Int.reduceBEq, Int.reduceBNe, Int.reduceTMod, Int.reduceTDiv, ↓if_true, ↓if_false, F40, A40, e1]
    rw [nameB, decide_eq_false h1]
    rfl

end Go.Big

/- Validity of envelopes. -/
set_option linter.unusedSimpArgs false
set_option linter.unusedVariables false
set_option maxRecDepth 100000
set_option maxHeartbeats 2000000
namespace Go.Big
open Go.Proofs

def mkK (P : Program) (t : TypeId) : Bool :=
  match P.underlying t with
  | some (.slice e) => (match szOf P e, (P.info? e).bind (·.zero), (P.info? e).map (·.bytes) with
    | some 1, some z, some b => (match z with | .int .u8 (.ofNat 0) => Nat.ble b 65536 | _ => false)
    | _, _, _ => false)
  | _ => false

theorem amkS_bytes {P : Program} {m : Mem} {t : TypeId} (h : mkK P t = true) {k k' : IntKind} {l c : Nat} (hlc : l ≤ c) (hc : c ≤ 1073741824) :
    amkS P t (.int k (l : Int)) (.int k' (c : Int)) m = some (.slice (some ⟨m.next, 0, none⟩) l c, m.push (.row (u8s (List.replicate c 0)) .rw), [], .no) := by
  unfold mkK at h
  split at h
  case h_2 => cases h
  rename_i e hu
  split at h
  case h_2 => cases h
  rename_i z b h1 h2 h3
  split at h
  case h_2 => cases h
  have h1' : ∀ n, zeroCellsN [Value.int .u8 0] n = List.replicate n (.int .u8 0) := by
    intro n
    induction n with
    | zero => rfl
    | succ n ih => rw [zeroCellsN, ih, List.replicate_succ]; rfl
  have e1 : Nat.ble c 1073741824 = true := by rw [ble_dec]; simpa using hc
  have e2 : Nat.ble l c = true := by rw [ble_dec]; simpa using hlc
  have e3 : natOf (.int k (l : Int)) = some l := rfl
  have e4 : natOf (.int k' (c : Int)) = some c := rfl
  have e5 : u8s (List.replicate c 0) = List.replicate c (.int .u8 0) := by simp [u8s]
  rw [e5, ← h1']
  unfold amkS amakeSlice
  rw [hu, e3, e4]
  simp only [h1, h2, h3, smallB, e1, e2, h, Bool.and_self, Bool.true_and]
  rfl

theorem keyed0_ct {m : Mem} (hw : WF m) : Ct Tryd.prog S0 29 [] m [] (Rv fun v m' => Bs m' v (List.replicate 32 0)) := by
  refine ct_x (spec0 _) (by rfl) Tryd.func29 rfl ?_
  have hmk : amkS Tryd.prog 22 (.int .i64 32) (.int .i64 32) m = _ := amkS_bytes (l := 32) (c := 32) (show mkK Tryd.prog 22 = true by kernel_rfl) (Nat.le_refl _) (by omega)
  simp (maxSteps := 2000000) (disch := first | assumption | omega | (simp only [nx_push, nx_set, ne_eq] <;> omega) | (simp only [XSide, F29]; done) | decide) only [XWalk, XSl, ↓XPre, reduceIte, Nat.reduceEqDiff, Nat.reduceLT, Nat.reduceAdd, Nat.reduceSub, Nat.reduceMul, Nat.reduceBEq, reduceCtorEq, Int.reduceAdd, Int.reduceSub, Int.reduceMul, Int.reduceLT, Int.reduceLE, Int.reduceGT, Int.reduceGE, Int.reduceEq, Int.reduceNe, Int.reduceBEq, Int.reduceBNe, Int.reduceTMod, Int.reduceTDiv, ↓if_true, ↓if_false, F29, A29, Tryd.ntmps29, hmk]
  exact ⟨_, rfl, Sl.of_row get_push_self (by simp [u8s]) (by simp [u8s]) (Nat.le_refl _)⟩

theorem one_sl {m : Mem} {v : Value} {l : List Value} (h : Sl m v l) : oneCell v = true := by rcases h.shape with ⟨rfl, _⟩ | ⟨a, c, rfl⟩ <;> rfl

theorem avalid_ct {m : Mem} (hw : WF m) {n key : List UInt8} {kv : Value} (hk : Bs m kv key) (lk : key.length = 32) (hn : n.length ≤ 1073741824) : Ct Tryd.prog S0 28 [.agg #[str n, .int .i64 3, kv, .int .i64 0, .int .i64 0]] m [] (fun out m' => out = .ret (.bool (nameB n))) := by
  have hone : [str n, .int .i64 3, kv, .int .i64 0, .int .i64 0].all oneCell = true := by
    simp only [List.all_cons, List.all_nil, one_sl hk, one_str, one_int, Bool.and_self]
  refine ct_x (spec0 _) (by rfl) Tryd.func28 rfl ?_
  simp (maxSteps := 2000000) (disch := first | assumption | omega | (simp only [nx_push, nx_set, ne_eq] <;> omega) | (simp only [XSide, F28]; done) | decide) only [XWalk, XSl, ↓XPre, reduceIte, Nat.reduceEqDiff, Nat.reduceLT, Nat.reduceAdd, Nat.reduceSub, Nat.reduceMul, Nat.reduceBEq, reduceCtorEq, Int.reduceAdd, Int.reduceSub, Int.reduceMul, Int.reduceLT, Int.reduceLE, Int.reduceGT, Int.reduceGE, Int.reduceEq, Int.reduceNe, Int.reduceBEq, Int.reduceBNe, Int.reduceTMod, Int.reduceTDiv, ↓if_true, ↓if_false, F28, A28, Tryd.ntmps28]
  refine x_draw [0, 1, 3, 7, 15, 31, 63, 127, 255, 511, 1023, 2047, 4095, 8191, 16383, 32767, 65535, 131071, 262143, 524287, 1048575, 2097151, 4194303, 8388607, 16777215, 33554431, 67108863, 33554431, 167772159, 436207615, 1073741823, 2147483647, 4294967295] (by kernel_rfl) ?_
  simp (maxSteps := 2000000) (disch := first | assumption | omega | (simp only [nx_push, nx_set, ne_eq] <;> omega) | (simp only [XSide, F28]; done) | decide) only [XWalk, XSl, ↓XPre, reduceIte, Nat.reduceEqDiff, Nat.reduceLT, Nat.reduceAdd, Nat.reduceSub, Nat.reduceMul, Nat.reduceBEq, reduceCtorEq, Int.reduceAdd, Int.reduceSub, Int.reduceMul, Int.reduceLT, Int.reduceLE, Int.reduceGT, Int.reduceGE, Int.reduceEq, Int.reduceNe, Int.reduceBEq, Int.reduceBNe, Int.reduceTMod, Int.reduceTDiv, ↓if_true, ↓if_false, F28, A28]
  refine wcall_x specLoc (named_ct hw.push hn) hw.push ?_
  rintro out m1 hw1 hn1 f1 rfl
  have hm1 : m1.get m.next = some (.row [str n, .int .i64 3, kv, .int .i64 0, .int .i64 0] .rw) := by rw [f1 _ (by simp), get_push_self]
  have hk1 : Bs m1 kv key := (hk.keep (Keep.push hw)).keep (keep_of hw.push f1)
  simp only [Mem.next_push] at hn1
  cases hb : nameB n with
  | false =>
    simp (maxSteps := 2000000) (disch := first | assumption | omega | (simp only [nx_push, nx_set, ne_eq] <;> omega) | (simp only [XSide, F28]; done) | decide) only [XWalk, XSl, ↓XPre, reduceIte, Nat.reduceEqDiff, Nat.reduceLT, Nat.reduceAdd, Nat.reduceSub, Nat.reduceMul, Nat.reduceBEq, reduceCtorEq, Int.reduceAdd, Int.reduceSub, Int.reduceMul, Int.reduceLT, Int.reduceLE, Int.reduceGT, Int.reduceGE, Int.reduceEq, Int.reduceNe, Int.reduceBEq, Int.reduceBNe, Int.reduceTMod, Int.reduceTDiv, ↓if_true, ↓if_false, F28, A28]
  | true =>
    simp (maxSteps := 2000000) (disch := first | assumption | omega | (simp only [nx_push, nx_set, ne_eq] <;> omega) | (simp only [XSide, F28]; done) | decide) only [XWalk, XSl, ↓XPre, reduceIte, Nat.reduceEqDiff, Nat.reduceLT, Nat.reduceAdd, Nat.reduceSub, Nat.reduceMul, Nat.reduceBEq, reduceCtorEq, Int.reduceAdd, Int.reduceSub, Int.reduceMul, Int.reduceLT, Int.reduceLE, Int.reduceGT, Int.reduceGE, Int.reduceEq, Int.reduceNe, Int.reduceBEq, Int.reduceBNe, Int.reduceTMod, Int.reduceTDiv, ↓if_true, ↓if_false, F28, A28, hm1, alen_bs hk1, lk, cast_lit]
    refine wcall_pu (pu_of numbers_ct) ?_
    simp (maxSteps := 2000000) (disch := first | assumption | omega | (simp only [nx_push, nx_set, ne_eq] <;> omega) | (simp only [XSide, F28]; done) | decide) only [XWalk, XSl, ↓XPre, reduceIte, Nat.reduceEqDiff, Nat.reduceLT, Nat.reduceAdd, Nat.reduceSub, Nat.reduceMul, Nat.reduceBEq, reduceCtorEq, Int.reduceAdd, Int.reduceSub, Int.reduceMul, Int.reduceLT, Int.reduceLE, Int.reduceGT, Int.reduceGE, Int.reduceEq, Int.reduceNe, Int.reduceBEq, Int.reduceBNe, Int.reduceTMod, Int.reduceTDiv, ↓if_true, ↓if_false, F28, A28, hm1, alen_bs hk1, lk, cast_lit]

theorem build64 {n : ByteArray} {a : Option Addr} {l c : Nat} : abuild Tryd.prog 46 [(0, .string n), (1, .int .i64 3), (2, .slice a l c)] = some (.agg #[.string n, .int .i64 3, .slice a l c, .int .i64 0, .int .i64 0]) := by kernel_rfl
theorem sl_shape {m : Mem} {v : Value} {l : List Value} (h : Sl m v l) : ∃ a n c, v = .slice a n c := by rcases h.shape with ⟨rfl, _⟩ | ⟨a, c, rfl⟩ <;> exact ⟨_, _, _, rfl⟩

/-- An envelope. -/
abbrev envV (n : List UInt8) (r s : Int) (sv tv : Value) : Value := .agg #[str n, .int .i64 r, .int .i64 s, sv, tv]

def validB (n : List UInt8) (r s : Int) (ls lt : Nat) : Bool :=
  nameB n && ((decide (r ≥ 0) && decide (r ≤ 1048576)) && ((decide (s ≥ 0) && decide (s ≤ 1073741824)) && ((decide ((ls : Int) ≥ 32) && decide ((ls : Int) ≤ 4128)) && ((lt : Int) == 32))))

theorem valid_ct {m : Mem} (hw : WF m) {n S T : List UInt8} {r s : Int} {sv tv : Value} (hs : Bs m sv S) (ht : Bs m tv T) (hn : n.length ≤ 1073741824) : Ct Tryd.prog S0 13 [envV n r s sv tv] m [] (fun out m' => out = .ret (.bool (validB n r s S.length T.length))) := by
  have hone : [str n, .int .i64 r, .int .i64 s, sv, tv].all oneCell = true := by
    simp only [List.all_cons, List.all_nil, one_sl hs, one_sl ht, one_str, one_int, Bool.and_self]
  refine ct_x (spec0 _) (by rfl) Tryd.func13 rfl ?_
  simp (maxSteps := 2000000) (disch := first | assumption | omega | (simp only [nx_push, nx_set, ne_eq] <;> omega) | (simp only [XSide, F13]; done) | decide) only [XWalk, XSl, ↓XPre, reduceIte, Nat.reduceEqDiff, Nat.reduceLT, Nat.reduceAdd, Nat.reduceSub, Nat.reduceMul, Nat.reduceBEq, reduceCtorEq, Int.reduceAdd, Int.reduceSub, Int.reduceMul, Int.reduceLT, Int.reduceLE, Int.reduceGT, Int.reduceGE, Int.reduceEq, Int.reduceNe, Int.reduceBEq, Int.reduceBNe, Int.reduceTMod, Int.reduceTDiv, ↓if_true, ↓if_false, F13, A13, Tryd.ntmps13]
  refine x_draw [0, 1, 0, 7, 15, 31, 63, 127, 255, 511, 1023, 2047, 4095, 8191, 16383, 32767, 65535, 131071, 262143, 524287, 1048575, 2097151, 4194303, 8388607, 16777215, 33554431, 67108863, 134217727] (by kernel_rfl) ?_
  simp (maxSteps := 2000000) (disch := first | assumption | omega | (simp only [nx_push, nx_set, ne_eq] <;> omega) | (simp only [XSide, F13]; done) | decide) only [XWalk, XSl, ↓XPre, reduceIte, Nat.reduceEqDiff, Nat.reduceLT, Nat.reduceAdd, Nat.reduceSub, Nat.reduceMul, Nat.reduceBEq, reduceCtorEq, Int.reduceAdd, Int.reduceSub, Int.reduceMul, Int.reduceLT, Int.reduceLE, Int.reduceGT, Int.reduceGE, Int.reduceEq, Int.reduceNe, Int.reduceBEq, Int.reduceBNe, Int.reduceTMod, Int.reduceTDiv, ↓if_true, ↓if_false, F13, A13]
  refine wcall_v specLoc (keyed0_ct hw.push) hw.push ?_
  intro kv m1 hw1 hn1 f1 hk
  have hm1 : m1.get m.next = some (.row [str n, .int .i64 r, .int .i64 s, sv, tv] .rw) := by rw [f1 _ (by simp), get_push_self]
  have hs1 : Bs m1 sv S := (hs.keep (Keep.push hw)).keep (keep_of hw.push f1)
  have ht1 : Bs m1 tv T := (ht.keep (Keep.push hw)).keep (keep_of hw.push f1)
  simp only [Mem.next_push] at hn1
  clear f1
  have hab : abuild Tryd.prog 46 [(0, str n), (1, .int .i64 3), (2, kv)] = some (.agg #[str n, .int .i64 3, kv, .int .i64 0, .int .i64 0]) := by
    obtain ⟨a, l, c, rfl⟩ := sl_shape hk
    exact build64
  simp (maxSteps := 2000000) (disch := first | assumption | omega | (simp only [nx_push, nx_set, ne_eq] <;> omega) | (simp only [XSide, F13]; done) | decide) only [XWalk, XSl, ↓XPre, reduceIte, Nat.reduceEqDiff, Nat.reduceLT, Nat.reduceAdd, Nat.reduceSub, Nat.reduceMul, Nat.reduceBEq, reduceCtorEq, Int.reduceAdd, Int.reduceSub, Int.reduceMul, Int.reduceLT, Int.reduceLE, Int.reduceGT, Int.reduceGE, Int.reduceEq, Int.reduceNe, Int.reduceBEq, Int.reduceBNe, Int.reduceTMod, Int.reduceTDiv, ↓if_true, ↓if_false, F13, A13, hab]
  refine wcall_x specLoc (avalid_ct hw1 hk List.length_replicate hn) hw1 ?_
  rintro out m2 hw2 hn2 f2 rfl
  have hm2 : m2.get m.next = some (.row [str n, .int .i64 r, .int .i64 s, sv, tv] .rw) := by rw [f2 _ (by omega)]; exact hm1
  have hs2 : Bs m2 sv S := hs1.keep (keep_of hw1 f2)
  have ht2 : Bs m2 tv T := ht1.keep (keep_of hw1 f2)
  clear f2
  unfold validB
  cases nameB n with
  | false => simp (maxSteps := 2000000) (disch := first | assumption | omega | (simp only [nx_push, nx_set, ne_eq] <;> omega) | (simp only [XSide, F13]; done) | decide) only [XWalk, XSl, ↓XPre, reduceIte, Nat.reduceEqDiff, Nat.reduceLT, Nat.reduceAdd, Nat.reduceSub, Nat.reduceMul, Nat.reduceBEq, reduceCtorEq, Int.reduceAdd, Int.reduceSub, Int.reduceMul, Int.reduceLT, Int.reduceLE, Int.reduceGT, Int.reduceGE, Int.reduceEq, Int.reduceNe, Int.reduceBEq, Int.reduceBNe, Int.reduceTMod, Int.reduceTDiv, ↓if_true, ↓if_false, F13, A13]; rfl
  | true =>
    rw [Bool.true_and]
    simp (maxSteps := 2000000) (disch := first | assumption | omega | (simp only [nx_push, nx_set, ne_eq] <;> omega) | (simp only [XSide, F13]; done) | decide) only [XWalk, XSl, ↓XPre, reduceIte, Nat.reduceEqDiff, Nat.reduceLT, Nat.reduceAdd, Nat.reduceSub, Nat.reduceMul, Nat.reduceBEq, reduceCtorEq, Int.reduceAdd, Int.reduceSub, Int.reduceMul, Int.reduceLT, Int.reduceLE, Int.reduceGT, Int.reduceGE, Int.reduceEq, Int.reduceNe, Int.reduceBEq, Int.reduceBNe, Int.reduceTMod, Int.reduceTDiv, ↓if_true, ↓if_false, F13, A13, hm2]
    refine wcall_pu (pu_of within_ct) ?_
    cases decide (r ≥ 0) && decide (r ≤ 1048576) with
    | false => simp (maxSteps := 2000000) (disch := first | assumption | omega | (simp only [nx_push, nx_set, ne_eq] <;> omega) | (simp only [XSide, F13]; done) | decide) only [XWalk, XSl, ↓XPre, reduceIte, Nat.reduceEqDiff, Nat.reduceLT, Nat.reduceAdd, Nat.reduceSub, Nat.reduceMul, Nat.reduceBEq, reduceCtorEq, Int.reduceAdd, Int.reduceSub, Int.reduceMul, Int.reduceLT, Int.reduceLE, Int.reduceGT, Int.reduceGE, Int.reduceEq, Int.reduceNe, Int.reduceBEq, Int.reduceBNe, Int.reduceTMod, Int.reduceTDiv, ↓if_true, ↓if_false, F13, A13]; rfl
    | true =>
      rw [Bool.true_and]
      simp (maxSteps := 2000000) (disch := first | assumption | omega | (simp only [nx_push, nx_set, ne_eq] <;> omega) | (simp only [XSide, F13]; done) | decide) only [XWalk, XSl, ↓XPre, reduceIte, Nat.reduceEqDiff, Nat.reduceLT, Nat.reduceAdd, Nat.reduceSub, Nat.reduceMul, Nat.reduceBEq, reduceCtorEq, Int.reduceAdd, Int.reduceSub, Int.reduceMul, Int.reduceLT, Int.reduceLE, Int.reduceGT, Int.reduceGE, Int.reduceEq, Int.reduceNe, Int.reduceBEq, Int.reduceBNe, Int.reduceTMod, Int.reduceTDiv, ↓if_true, ↓if_false, F13, A13, hm2]
      refine wcall_pu (pu_of within_ct) ?_
      cases decide (s ≥ 0) && decide (s ≤ 1073741824) with
      | false => simp (maxSteps := 2000000) (disch := first | assumption | omega | (simp only [nx_push, nx_set, ne_eq] <;> omega) | (simp only [XSide, F13]; done) | decide) only [XWalk, XSl, ↓XPre, reduceIte, Nat.reduceEqDiff, Nat.reduceLT, Nat.reduceAdd, Nat.reduceSub, Nat.reduceMul, Nat.reduceBEq, reduceCtorEq, Int.reduceAdd, Int.reduceSub, Int.reduceMul, Int.reduceLT, Int.reduceLE, Int.reduceGT, Int.reduceGE, Int.reduceEq, Int.reduceNe, Int.reduceBEq, Int.reduceBNe, Int.reduceTMod, Int.reduceTDiv, ↓if_true, ↓if_false, F13, A13]; rfl
      | true =>
        rw [Bool.true_and]
        simp (maxSteps := 2000000) (disch := first | assumption | omega | (simp only [nx_push, nx_set, ne_eq] <;> omega) | (simp only [XSide, F13]; done) | decide) only [XWalk, XSl, ↓XPre, reduceIte, Nat.reduceEqDiff, Nat.reduceLT, Nat.reduceAdd, Nat.reduceSub, Nat.reduceMul, Nat.reduceBEq, reduceCtorEq, Int.reduceAdd, Int.reduceSub, Int.reduceMul, Int.reduceLT, Int.reduceLE, Int.reduceGT, Int.reduceGE, Int.reduceEq, Int.reduceNe, Int.reduceBEq, Int.reduceBNe, Int.reduceTMod, Int.reduceTDiv, ↓if_true, ↓if_false, F13, A13, hm2, alen_bs hs2]
        refine wcall_pu (pu_of within_ct) ?_
        cases decide ((S.length : Int) ≥ 32) && decide ((S.length : Int) ≤ 4128) with
        | false => simp (maxSteps := 2000000) (disch := first | assumption | omega | (simp only [nx_push, nx_set, ne_eq] <;> omega) | (simp only [XSide, F13]; done) | decide) only [XWalk, XSl, ↓XPre, reduceIte, Nat.reduceEqDiff, Nat.reduceLT, Nat.reduceAdd, Nat.reduceSub, Nat.reduceMul, Nat.reduceBEq, reduceCtorEq, Int.reduceAdd, Int.reduceSub, Int.reduceMul, Int.reduceLT, Int.reduceLE, Int.reduceGT, Int.reduceGE, Int.reduceEq, Int.reduceNe, Int.reduceBEq, Int.reduceBNe, Int.reduceTMod, Int.reduceTDiv, ↓if_true, ↓if_false, F13, A13]; rfl
        | true =>
          simp (maxSteps := 2000000) (disch := first | assumption | omega | (simp only [nx_push, nx_set, ne_eq] <;> omega) | (simp only [XSide, F13]; done) | decide) only [XWalk, XSl, ↓XPre, reduceIte, Nat.reduceEqDiff, Nat.reduceLT, Nat.reduceAdd, Nat.reduceSub, Nat.reduceMul, Nat.reduceBEq, reduceCtorEq, Int.reduceAdd, Int.reduceSub, Int.reduceMul, Int.reduceLT, Int.reduceLE, Int.reduceGT, Int.reduceGE, Int.reduceEq, Int.reduceNe, Int.reduceBEq, Int.reduceBNe, Int.reduceTMod, Int.reduceTDiv, ↓if_true, ↓if_false, F13, A13, hm2, alen_bs ht2]
          rfl

end Go.Big
