/- The reference's signed bytes; which envelopes are authentic; opening. -/
import Derived.Test.YtobhnnbdobphfaaGreatDoorJoined13
set_option linter.unusedSimpArgs false
set_option linter.unusedVariables false
set_option linter.unusedSimpArgs false
set_option linter.unusedVariables false
set_option maxRecDepth 100000
set_option maxHeartbeats 4000000
namespace Go.Big
open Go.Proofs

theorem rsigned_ct {m : Mem} (hw : WF m) {n S : List UInt8} {r s : Nat} {sv tv : Value} (hs : Bs m sv S) (ht : oneCell tv = true) (hn : n.length ≤ 65536) (hr : r < 9223372036854775808) (hs' : s < 9223372036854775808) (lS : S.length ≤ 100000) :
    Ct Tryz.prog S0 38 [envV n r s sv tv] m [] (Rv fun v m' => Ab m' m.next v (signedB n r s S)) := by
  have hone : [str n, .int .i64 (r : Int), .int .i64 (s : Int), sv, tv].all oneCell = true := by
    simp only [List.all_cons, List.all_nil, one_sl hs, ht, one_str, one_int, Bool.and_self]
  have g1 := groupB_len 9 r (by omega) (by omega)
  have g2 := groupB_len 9 s (by omega) (by omega)
  have g3 := groupB_len 9 n.length (by omega) (by omega)
  have g4 := groupB_len 9 S.length (by omega) (by omega)
  have c1 : (r : Int) % 18446744073709551616 = (r : Int) := by omega
  have c2 : (s : Int) % 18446744073709551616 = (s : Int) := by omega
  refine ct_x (spec0 _) (by rfl) Tryz.func38 rfl ?_
  simp (maxSteps := 2000000) (disch := first | assumption | omega | (simp only [nx_push, nx_set, ne_eq] <;> omega) | (simp only [XSide, F38]; done) | decide) only [XWalk, XSl, ↓XPre, reduceIte, Nat.reduceEqDiff, Nat.reduceLT, Nat.reduceAdd, Nat.reduceSub, Nat.reduceMul, Nat.reduceBEq, reduceCtorEq, Int.reduceAdd, Int.reduceSub, Int.reduceMul, Int.reduceLT, Int.reduceLE, Int.reduceGT, Int.reduceGE, Int.reduceEq, Int.reduceNe, Int.reduceBEq, Int.reduceBNe, Int.reduceTMod, Int.reduceTDiv, ↓if_true, ↓if_false, F38, A38, Tryz.ntmps38, XAcc, aconv_str2]
  have hs1 : ∀ o, Bs (m.push o) sv S := fun o => hs.keep (Keep.push hw)
  have hl : Bs ((m.push (.row [str n, .int .i64 (r : Int), .int .i64 (s : Int), sv, tv] .rw)).push (.row (u8s n) (.slack 1))) (.slice (some ⟨m.next + 1, 0, none⟩) n.length n.length) n := .row (get_push_eq (by simp)) (by rw [List.drop_zero, List.take_of_length_le (by rw [u8s_length]; omega)]) (by rw [u8s_length]) (Nat.le_refl _) (fun s hs => by cases hs; exact ⟨rfl, by rw [u8s_length]; omega⟩)
  refine wcall_v specLoc (rstring_ct hw.push.push hl (by omega)) hw.push.push ?_
  intro v1 m1 hw1 hn1 f1 hv1
  simp only [Mem.next_push] at hn1 f1
  have row1 : m1.get m.next = some (.row [str n, .int .i64 (r : Int), .int .i64 (s : Int), sv, tv] .rw) := by rw [f1 _ (by omega), get_push_ne (by simp), get_push_self]
  have hv1 := hv1.mono (n1 := m.next + 1) (by simp)
  have hsv1 : Bs m1 sv S := (hs1 (.row [str n, .int .i64 (r : Int), .int .i64 (s : Int), sv, tv] .rw)).frame_at fun c hc => by
    have := hs.blk_lt hw hc
    rw [f1 c (by omega), get_push_ne (by simp; omega)]
  simp (maxSteps := 2000000) (disch := first | assumption | omega | (simp only [nx_push, nx_set, ne_eq] <;> omega) | (simp only [XSide, F38]; done) | decide) only [XWalk, XSl, ↓XPre, reduceIte, Nat.reduceEqDiff, Nat.reduceLT, Nat.reduceAdd, Nat.reduceSub, Nat.reduceMul, Nat.reduceBEq, reduceCtorEq, Int.reduceAdd, Int.reduceSub, Int.reduceMul, Int.reduceLT, Int.reduceLE, Int.reduceGT, Int.reduceGE, Int.reduceEq, Int.reduceNe, Int.reduceBEq, Int.reduceBNe, Int.reduceTMod, Int.reduceTDiv, ↓if_true, ↓if_false, F38, A38, row1, c1]
  refine wcall_v specLoc (rgroup_ct hw1 hr) hw1 ?_
  intro v2 m2 hw2 hn2 f2 hv2
  simp (maxSteps := 2000000) (disch := first | assumption | omega | (simp only [nx_push, nx_set, ne_eq] <;> omega) | (simp only [XSide, F38]; done) | decide) only [XWalk, XSl, ↓XPre, reduceIte, Nat.reduceEqDiff, Nat.reduceLT, Nat.reduceAdd, Nat.reduceSub, Nat.reduceMul, Nat.reduceBEq, reduceCtorEq, Int.reduceAdd, Int.reduceSub, Int.reduceMul, Int.reduceLT, Int.reduceLE, Int.reduceGT, Int.reduceGE, Int.reduceEq, Int.reduceNe, Int.reduceBEq, Int.reduceBNe, Int.reduceTMod, Int.reduceTDiv, ↓if_true, ↓if_false, F38, A38]
  refine wappend (bytes := 1) (by simp only [F38]) (hv1.frame fun c hc => f2 c (hv1.blk_lt hw1 hc)) hv2.sl (by simp only [strB, List.length_append]; omega) (by omega) hw2 fun v3 m3 w3 ha3 ok3 => ?_
  have old3 : ∀ b, b < m.next + 1 → m3.get b = m1.get b := fun b hb => by rw [ha3.old (fun b hb => hv1.blk_ge hb) b hb (by omega), f2 b (by omega)]
  have hn3 : m1.next ≤ m3.next := by have := ha3.next; omega
  have row3 := (old3 m.next (by omega)).trans row1
  simp (maxSteps := 2000000) (disch := first | assumption | omega | (simp only [nx_push, nx_set, ne_eq] <;> omega) | (simp only [XSide, F38]; done) | decide) only [XWalk, XSl, ↓XPre, reduceIte, Nat.reduceEqDiff, Nat.reduceLT, Nat.reduceAdd, Nat.reduceSub, Nat.reduceMul, Nat.reduceBEq, reduceCtorEq, Int.reduceAdd, Int.reduceSub, Int.reduceMul, Int.reduceLT, Int.reduceLE, Int.reduceGT, Int.reduceGE, Int.reduceEq, Int.reduceNe, Int.reduceBEq, Int.reduceBNe, Int.reduceTMod, Int.reduceTDiv, ↓if_true, ↓if_false, F38, A38, row3, c2, ok3 m.next [] (by omega)]
  refine wcall_v specLoc (rgroup_ct ha3.wf hs') ha3.wf ?_
  intro v4 m4 hw4 hn4 f4 hv4
  simp (maxSteps := 2000000) (disch := first | assumption | omega | (simp only [nx_push, nx_set, ne_eq] <;> omega) | (simp only [XSide, F38]; done) | decide) only [XWalk, XSl, ↓XPre, reduceIte, Nat.reduceEqDiff, Nat.reduceLT, Nat.reduceAdd, Nat.reduceSub, Nat.reduceMul, Nat.reduceBEq, reduceCtorEq, Int.reduceAdd, Int.reduceSub, Int.reduceMul, Int.reduceLT, Int.reduceLE, Int.reduceGT, Int.reduceGE, Int.reduceEq, Int.reduceNe, Int.reduceBEq, Int.reduceBNe, Int.reduceTMod, Int.reduceTDiv, ↓if_true, ↓if_false, F38, A38]
  refine wappend (bytes := 1) (by simp only [F38]) (ha3.app.frame fun c hc => f4 c (ha3.app.blk_lt ha3.wf hc)) hv4.sl (by simp only [strB, List.length_append]; omega) (by omega) hw4 fun v5 m5 w5 ha5 ok5 => ?_
  have old5 : ∀ b, b < m.next + 1 → m5.get b = m1.get b := fun b hb => by rw [ha5.old (fun b hb => ha3.app.blk_ge hb) b hb (by omega), f4 b (by omega)]; exact old3 b hb
  have hn5 : m1.next ≤ m5.next := by have := ha5.next; omega
  have row5 := (old5 m.next (by omega)).trans row1
  have hsv5 : Bs m5 sv S := hsv1.frame_at fun c hc => old5 c (by have := hs.blk_lt hw hc; omega)
  simp (maxSteps := 2000000) (disch := first | assumption | omega | (simp only [nx_push, nx_set, ne_eq] <;> omega) | (simp only [XSide, F38]; done) | decide) only [XWalk, XSl, ↓XPre, reduceIte, Nat.reduceEqDiff, Nat.reduceLT, Nat.reduceAdd, Nat.reduceSub, Nat.reduceMul, Nat.reduceBEq, reduceCtorEq, Int.reduceAdd, Int.reduceSub, Int.reduceMul, Int.reduceLT, Int.reduceLE, Int.reduceGT, Int.reduceGE, Int.reduceEq, Int.reduceNe, Int.reduceBEq, Int.reduceBNe, Int.reduceTMod, Int.reduceTDiv, ↓if_true, ↓if_false, F38, A38, row5, ok5 m.next [] (by omega)]
  refine wcall_v specLoc (rstring_ct ha5.wf hsv5 (by omega)) ha5.wf ?_
  intro v6 m6 hw6 hn6 f6 hv6
  simp (maxSteps := 2000000) (disch := first | assumption | omega | (simp only [nx_push, nx_set, ne_eq] <;> omega) | (simp only [XSide, F38]; done) | decide) only [XWalk, XSl, ↓XPre, reduceIte, Nat.reduceEqDiff, Nat.reduceLT, Nat.reduceAdd, Nat.reduceSub, Nat.reduceMul, Nat.reduceBEq, reduceCtorEq, Int.reduceAdd, Int.reduceSub, Int.reduceMul, Int.reduceLT, Int.reduceLE, Int.reduceGT, Int.reduceGE, Int.reduceEq, Int.reduceNe, Int.reduceBEq, Int.reduceBNe, Int.reduceTMod, Int.reduceTDiv, ↓if_true, ↓if_false, F38, A38]
  refine wappend (bytes := 1) (by simp only [F38]) (ha5.app.frame fun c hc => f6 c (ha5.app.blk_lt ha5.wf hc)) hv6.sl (by simp only [strB, List.length_append]; omega) (by omega) hw6 fun v7 m7 w7 ha7 ok7 => ?_
  simp (maxSteps := 2000000) (disch := first | assumption | omega | (simp only [nx_push, nx_set, ne_eq] <;> omega) | (simp only [XSide, F38]; done) | decide) only [XWalk, XSl, ↓XPre, reduceIte, Nat.reduceEqDiff, Nat.reduceLT, Nat.reduceAdd, Nat.reduceSub, Nat.reduceMul, Nat.reduceBEq, reduceCtorEq, Int.reduceAdd, Int.reduceSub, Int.reduceMul, Int.reduceLT, Int.reduceLE, Int.reduceGT, Int.reduceGE, Int.reduceEq, Int.reduceNe, Int.reduceBEq, Int.reduceBNe, Int.reduceTMod, Int.reduceTDiv, ↓if_true, ↓if_false, F38, A38, ok7 m.next [] (by omega)]
  exact ⟨_, rfl, ha7.app.mono (by omega)⟩

section
variable {n S T key : List UInt8} {r s : Int}
end

/-- What the reference's opening answers. -/
def ropenV (q : Option (List UInt8) × Int) : Value := .tuple #[str (q.1.getD []), .int .i64 q.2]

end Go.Big

/- Room that is made ahead; joining; commitments. -/
set_option linter.unusedSimpArgs false
set_option linter.unusedVariables false
set_option maxRecDepth 100000
set_option maxHeartbeats 4000000
namespace Go.Big
open Go.Proofs

/-! ### The capacity; zeros appended to nil -/

def acapV (P : Program) (ty t : TypeId) (v : Value) (m : Mem) : Res :=
  match v with
  | .slice (some a) _ c =>
    (match P.underlying t, a.spot, m.get a.block with
    | some (.slice _), none, some (.row cs k) => bif isOpen cs k a.off c then none else some (goInt c, m, [], .all)
    | _, _, _ => none)
  | x => pv m (bif plain x then (match eval0 P (Builtin.cap_ #[t] ty #[x]) with | some v => bif plain v then some v else none | none => none) else none)

section
variable {P : Program} {ρ : Operand → Value} {m : Mem} {d : Option Nat} {ty : TypeId} {ps : String} {af : Array Edge} {g : Option (Nat × Bool)} {t : TypeId}
theorem cap_pure {x : Operand} (hx : plain (ρ x) = true) : pureOp P ρ ⟨d, .call { callee := .builtin .cap, args := #[x], argTypes := #[t] }, ty, ps, af, g⟩ =
    match eval0 P (Builtin.cap_ #[t] ty #[ρ x]) with | some v => bif plain v then some v else none | none => none := by
  have ho : (Op.call { callee := .builtin .cap, args := #[x], argTypes := #[t] }).operands = #[x] := rfl
  simp only [pureOp, ho, List.all_cons, List.all_nil, hx, Bool.and_self, cond_true]
  have : eval0 P (execOp ρ ⟨d, .call { callee := .builtin .cap, args := #[x], argTypes := #[t] }, ty, ps, af, g⟩) = (eval0 P (Builtin.cap_ #[t] ty #[ρ x])).map Next.value := by
    have hm : Array.map ρ #[x] = #[ρ x] := by simp
    simp only [execOp, resolve, invoke, builtin, ev0_bind, ev0_pure, Option.bind_some, hm]
    cases eval0 P (Builtin.cap_ #[t] ty #[ρ x]) <;> rfl
  rw [this]
  cases eval0 P (Builtin.cap_ #[t] ty #[ρ x]) <;> rfl
theorem aop_cap {x : Operand} : aop P ρ ⟨d, .call { callee := .builtin .cap, args := #[x], argTypes := #[t] }, ty, ps, af, g⟩ m = acapV P ty t (ρ x) m := by
  have hp : pureOp P ρ ⟨d, .call { callee := .builtin .cap, args := #[x], argTypes := #[t] }, ty, ps, af, g⟩ = (bif plain (ρ x) then (match eval0 P (Builtin.cap_ #[t] ty #[ρ x]) with | some v => bif plain v then some v else none | none => none) else none) := by
    cases hx : plain (ρ x) with
    | true => rw [cap_pure hx]; rfl
    | false =>
      have ho : (Op.call { callee := .builtin .cap, args := #[x], argTypes := #[t] }).operands = #[x] := rfl
      simp only [pureOp, ho, List.all_cons, List.all_nil, hx, Bool.false_and, cond_false]
  simp only [aop, abuiltin, List.map_cons, List.map_nil, acapV, hp]
  cases ρ x with
  | slice a n c => cases a <;> rfl
  | _ => rfl
theorem acap_nil (ht : tyTag P t = 2) : acapV P ty t (.slice none 0 0) m = some (.int .i64 0, m, [], .no) := by
  obtain ⟨e, he⟩ := tyTag_slice ht
  have : eval0 P (Builtin.cap_ #[t] ty #[.slice none 0 0]) = some (.int .i64 0) := by
    unfold Builtin.cap_
    simp only [List.getElem?_toArray, List.getElem?_cons_zero]
    rw [ev0_bind, ev0_under he]
    rfl
  simp only [acapV, this]
  rfl
end

/-- The types of an append of so many zero bytes: how many bytes an element has. -/
def appZ (P : Program) (aT : Array TypeId) : Option Nat :=
  match (aT[0]?).bind P.underlying, (aT[1]?).bind P.underlying with
  | some (.slice elem), some (.int _) =>
    match szOf P elem, (P.info? elem).map (·.bytes), (P.info? elem).bind (·.zero) with
    | some 1, some bytes, some (.int .u8 0) => bif Nat.ble bytes 65536 then some bytes else none
    | _, _, _ => none
  | _, _ => none
theorem zeroCellsN_u8 : ∀ n, zeroCellsN [.int .u8 0] n = u8s (List.replicate n 0)
  | 0 => rfl
  | n + 1 => by rw [zeroCellsN, zeroCellsN_u8 n, List.replicate_succ]; rfl
theorem aappend_zeros {P : Program} {m : Mem} {aT : Array TypeId} {bytes n : Nat} {k : IntKind} (h : appZ P aT = some bytes) (h0 : 0 < n) (hn : n ≤ 1073741824) :
    aappend P aT (.slice none 0 0) (.int k (n : Int)) m = some (.slice (some ⟨m.next, 0, none⟩) n n, m.push (.row (u8s (List.replicate n 0)) (.slack 1)), [], .all) := by
  unfold appZ at h
  split at h
  case h_2 => cases h
  rename_i elem k' h1 h2
  split at h
  case h_2 => cases h
  rename_i bytes' h3 h4 h5
  simp only [cond_eq_ite, ble_dec, decide_eq_true_eq] at h
  split at h
  case isFalse => cases h
  rename_i hb
  cases h
  have e1 : Nat.blt 0 n = true := by rw [blt_dec]; simpa using h0
  have e2 : smallB n bytes = true := by simp [smallB, ble_dec, hn, hb]
  have e3 : natOf (.int k (n : Int)) = some n := rfl
  have e4 : (Value.int .u8 0).cells.toList = [.int .u8 0] := rfl
  have e5 : Nat.beq (Value.int .u8 0).cells.size 1 = true := rfl
  have e6 : [Value.int .u8 0].all scalar = true := rfl
  simp only [aappend, h1, h2, h3, h4, h5, sliceish, intish, Bool.and_false, Bool.false_and, cond_false, e5, e4, e6, Bool.and_self, cond_true, appendZ, e3, e1, e2, show Nat.blt 0 1 = true from rfl, zeroCellsN_u8]

theorem aslice_open0 {P : Program} {m : Mem} {t : TypeId} {b n : Nat} {rs : List Value} {k : IntKind} (ht : idxSl P t = some 1) (hm : m.get b = some (.row rs (.slack 1))) (hl : rs.length = n) (h0 : 0 < n) :
    aslice P t (.slice (some ⟨b, 0, none⟩) n n) none (some (.int k 0)) none m = some (.slice (some ⟨b, 0, none⟩) 0 n) := by
  unfold idxSl at ht
  split at ht
  case h_2 => cases ht
  rename_i elem hu
  have hb : bounds n n none (some (.int k 0)) none = some (0, 0, n) := bounds_of rfl rfl (Nat.zero_le _) (Nat.zero_le _)
  have ho : isOpen rs (.slack 1) 0 n = true := by rw [isOpen_eq]; simp [hl]
  have e1 : Nat.beq 0 n = false := by rw [beq_dec]; simp; omega
  simp [aslice, hu, hb, ht, hm, ho, e1, addr_add]

theorem alen_nil {P : Program} {m : Mem} {t ty : TypeId} (ht : tyTag P t = 2) : alenV (ty := ty) P t (.slice none 0 0) m = some (.int .i64 0, m, [], .no) := alen_sl .nil ht

theorem grow_ct {m : Mem} {n : Nat} (h0 : 0 < n) (hn : n ≤ 1000000000) : Ct Tryz.prog S0 78 [.slice none 0 0, .int .i64 (n : Int)] m []
    (fun out m' => out = .ret (.slice (some ⟨m.next, 0, none⟩) 0 n) ∧ m' = m.push (.row (u8s (List.replicate n 0)) (.slack 1))) := by
  have e1 : ((n : Int) < 0) = False := by simp
  have e2 : ((n : Int) > 0) = True := by simp; omega
  have e3 : IntKind.wrap .i64 ((n : Int) - 0) = (n : Int) := by rw [wrap_i64 (by omega) (by omega)]; omega
  have hz : ∀ m', aappend Tryz.prog #[22, 3] (.slice none 0 0) (.int .i64 (n : Int)) m' = _ := fun m' => aappend_zeros (bytes := 1) (by kernel_rfl) h0 (by omega)
  have hs : ∀ k : IntKind, aslice Tryz.prog 22 (.slice (some ⟨m.next, 0, none⟩) n n) none (some (.int k 0)) none (m.push (.row (u8s (List.replicate n 0)) (.slack 1))) = _ := fun k => aslice_open0 (by simp only [F78]) get_push_self (by rw [u8s_length]; simp) h0
  refine ct_x (spec0 _) (by rfl) Tryz.func78 rfl ?_
  simp (maxSteps := 2000000) (disch := first | assumption | omega | (simp only [nx_push, nx_set, ne_eq] <;> omega) | (simp only [XSide, F78]; done) | decide) only [XWalk, XSl, ↓XPre, reduceIte, Nat.reduceEqDiff, Nat.reduceLT, Nat.reduceAdd, Nat.reduceSub, Nat.reduceMul, Nat.reduceBEq, reduceCtorEq, Int.reduceAdd, Int.reduceSub, Int.reduceMul, Int.reduceLT, Int.reduceLE, Int.reduceGT, Int.reduceGE, Int.reduceEq, Int.reduceNe, Int.reduceBEq, Int.reduceBNe, Int.reduceTMod, Int.reduceTDiv, ↓if_true, ↓if_false, F78, A78, Tryz.ntmps78, aop_cap, acap_nil, alen_nil, cast_lit, e1, e2, e3, aslM_nil, pv_slice, aslS_nil, hz, hs]

theorem append_into {P : Program} {m : Mem} {aT : Array TypeId} {bytes : Nat} (h : appK P aT = some bytes) {b n c : Nat} {R new : List UInt8} {x : Value} {k : Kind} (hk : writable k = true) (hm : m.get b = some (.row (u8s R) k)) (hx : Bs m x new) (hne : 0 < new.length) (hc : n + new.length ≤ c) (hR : c ≤ R.length) :
    aappend P aT (.slice (some ⟨b, 0, none⟩) n c) x m = some (.slice (some ⟨b, 0, none⟩) (n + new.length) c, m.set b (.row (u8s (R.take n ++ new ++ R.drop (n + new.length))) k), [b], .all) := by
  have he := hx.elems
  rw [u8s_length] at he
  rw [aappend_of h he]
  have hst : storeN (u8s R) (0 + n * 1) (u8s new) = some (u8s (R.take n ++ new ++ R.drop (n + new.length))) := by
    unfold storeN
    rw [show 0 + n * 1 = n from by omega, u8s_length, u8s_length, ble_dec, decide_eq_true (by omega), cond_true]
    simp only [u8s_append, u8s_take, u8s_drop]
  have hnl : new.length ≠ 0 := by omega
  have e3 : Nat.ble (n + new.length) c = true := by rw [ble_dec]; simpa using hc
  simp only [appendTo, beq_dec, decide_eq_false hnl, Bool.false_and, cond_false, e3, cond_true, putCells, hm, hk, u8s_one, Bool.and_self, hst, Option.map_some]

theorem concat2_ct {m : Mem} (hw : WF m) {cb : Nat} {v0 v1 : Value} {a b : List UInt8} (hm : m.get cb = some (.row [v0, v1] .rw)) (h0 : Bs m v0 a) (h1 : Bs m v1 b) (la : 0 < a.length) (lb : 0 < b.length) (hl : a.length + b.length ≤ 1000000) :
    Ct Tryz.prog S0 40 [.slice (some ⟨cb, 0, none⟩) 2 2] m [] (Rv fun v m' => Bs m' v (a ++ b)) := by
  have hcl : cb < m.next := hw.lt (by rw [hm]; simp)
  have e0 : IntKind.wrap .i64 (0 + (a.length : Int)) = (a.length : Int) := by rw [wrap_i64 (by omega) (by omega)]; omega
  have e1 : IntKind.wrap .i64 ((a.length : Int) + (b.length : Int)) = ((a.length + b.length : Nat) : Int) := by rw [wrap_i64 (by omega) (by omega)]; omega
  have e2 : ((a.length : Int) < 0) = False := by simp
  have e3 : (((a.length + b.length : Nat) : Int) < 0) = False := by simp; omega
  refine ct_x (spec0 _) (by rfl) Tryz.func40 rfl ?_
  simp (maxSteps := 2000000) (disch := first | assumption | omega | (simp only [nx_push, nx_set, ne_eq] <;> omega) | (simp only [XSide, F40]; done) | decide) only [XWalk, XSl, ↓XPre, reduceIte, Nat.reduceEqDiff, Nat.reduceLT, Nat.reduceAdd, Nat.reduceSub, Nat.reduceMul, Nat.reduceBEq, reduceCtorEq, Int.reduceAdd, Int.reduceSub, Int.reduceMul, Int.reduceLT, Int.reduceLE, Int.reduceGT, Int.reduceGE, Int.reduceEq, Int.reduceNe, Int.reduceBEq, Int.reduceBNe, Int.reduceTMod, Int.reduceTDiv, ↓if_true, ↓if_false, F40, A40, Tryz.ntmps40]
  refine x_loop_once ?_
  simp (maxSteps := 2000000) (disch := first | assumption | omega | (simp only [nx_push, nx_set, ne_eq] <;> omega) | (simp only [XSide, F40]; done) | decide) only [XWalk, XSl, ↓XPre, reduceIte, Nat.reduceEqDiff, Nat.reduceLT, Nat.reduceAdd, Nat.reduceSub, Nat.reduceMul, Nat.reduceBEq, reduceCtorEq, Int.reduceAdd, Int.reduceSub, Int.reduceMul, Int.reduceLT, Int.reduceLE, Int.reduceGT, Int.reduceGE, Int.reduceEq, Int.reduceNe, Int.reduceBEq, Int.reduceBNe, Int.reduceTMod, Int.reduceTDiv, ↓if_true, ↓if_false, F40, A40, cast_lit, hm, alen_bs h0, e0, e2]
  refine x_loop_once ?_
  simp (maxSteps := 2000000) (disch := first | assumption | omega | (simp only [nx_push, nx_set, ne_eq] <;> omega) | (simp only [XSide, F40]; done) | decide) only [XWalk, XSl, ↓XPre, reduceIte, Nat.reduceEqDiff, Nat.reduceLT, Nat.reduceAdd, Nat.reduceSub, Nat.reduceMul, Nat.reduceBEq, reduceCtorEq, Int.reduceAdd, Int.reduceSub, Int.reduceMul, Int.reduceLT, Int.reduceLE, Int.reduceGT, Int.reduceGE, Int.reduceEq, Int.reduceNe, Int.reduceBEq, Int.reduceBNe, Int.reduceTMod, Int.reduceTDiv, ↓if_true, ↓if_false, F40, A40, cast_lit, hm, alen_bs h1, e1, e3]
  refine x_loop_once ?_
  simp (maxSteps := 2000000) (disch := first | assumption | omega | (simp only [nx_push, nx_set, ne_eq] <;> omega) | (simp only [XSide, F40]; done) | decide) only [XWalk, XSl, ↓XPre, reduceIte, Nat.reduceEqDiff, Nat.reduceLT, Nat.reduceAdd, Nat.reduceSub, Nat.reduceMul, Nat.reduceBEq, reduceCtorEq, Int.reduceAdd, Int.reduceSub, Int.reduceMul, Int.reduceLT, Int.reduceLE, Int.reduceGT, Int.reduceGE, Int.reduceEq, Int.reduceNe, Int.reduceBEq, Int.reduceBNe, Int.reduceTMod, Int.reduceTDiv, ↓if_true, ↓if_false, F40, A40, cast_lit]
  refine wcall_x specLoc (ct_nil (grow_ct (n := a.length + b.length) (by omega) (by omega)) rfl) hw ?_
  rintro out m1 hw1 hn1 f1 ⟨rfl, rfl⟩
  simp (maxSteps := 2000000) (disch := first | assumption | omega | (simp only [nx_push, nx_set, ne_eq] <;> omega) | (simp only [XSide, F40]; done) | decide) only [XWalk, XSl, ↓XPre, reduceIte, Nat.reduceEqDiff, Nat.reduceLT, Nat.reduceAdd, Nat.reduceSub, Nat.reduceMul, Nat.reduceBEq, reduceCtorEq, Int.reduceAdd, Int.reduceSub, Int.reduceMul, Int.reduceLT, Int.reduceLE, Int.reduceGT, Int.reduceGE, Int.reduceEq, Int.reduceNe, Int.reduceBEq, Int.reduceBNe, Int.reduceTMod, Int.reduceTDiv, ↓if_true, ↓if_false, F40, A40]
  have lz : (List.replicate (a.length + b.length) (0 : UInt8)).length = a.length + b.length := by simp
  generalize List.replicate (a.length + b.length) (0 : UInt8) = Z at *
  have hm1 : ∀ o, (m.push o).get cb = some (.row [v0, v1] .rw) := fun o => by rw [get_push_ne (by omega)]; exact hm
  have h01 : ∀ o, Bs (m.push o) v0 a := fun o => h0.keep (Keep.push hw)
  have h11 : ∀ o o', Bs ((m.push o).set m.next o') v1 b := fun o o' => h1.frame_at fun c hc => by
    have := h1.blk_lt hw hc
    rw [get_set_ne (by omega), get_push_ne (by omega)]
  refine x_loop_once ?_
  simp (maxSteps := 2000000) (disch := first | assumption | omega | (simp only [nx_push, nx_set, ne_eq] <;> omega) | (simp only [XSide, F40]; done) | decide) only [XWalk, XSl, ↓XPre, reduceIte, Nat.reduceEqDiff, Nat.reduceLT, Nat.reduceAdd, Nat.reduceSub, Nat.reduceMul, Nat.reduceBEq, reduceCtorEq, Int.reduceAdd, Int.reduceSub, Int.reduceMul, Int.reduceLT, Int.reduceLE, Int.reduceGT, Int.reduceGE, Int.reduceEq, Int.reduceNe, Int.reduceBEq, Int.reduceBNe, Int.reduceTMod, Int.reduceTDiv, ↓if_true, ↓if_false, F40, A40, cast_lit, hm1]
  rw [append_into (bytes := 1) (R := Z) (new := a) (by simp only [F40]) writable_sl get_push_self (h01 _) la (by omega) (by omega)]
  simp (maxSteps := 2000000) (disch := first | assumption | omega | (simp only [nx_push, nx_set, ne_eq] <;> omega) | (simp only [XSide, F40]; done) | decide) only [XWalk, XSl, ↓XPre, reduceIte, Nat.reduceEqDiff, Nat.reduceLT, Nat.reduceAdd, Nat.reduceSub, Nat.reduceMul, Nat.reduceBEq, reduceCtorEq, Int.reduceAdd, Int.reduceSub, Int.reduceMul, Int.reduceLT, Int.reduceLE, Int.reduceGT, Int.reduceGE, Int.reduceEq, Int.reduceNe, Int.reduceBEq, Int.reduceBNe, Int.reduceTMod, Int.reduceTDiv, ↓if_true, ↓if_false, F40, A40]
  refine x_loop_once ?_
  have hne : m.next ≠ cb := by omega
  simp (maxSteps := 2000000) (disch := first | assumption | omega | (simp only [nx_push, nx_set, ne_eq] <;> omega) | (simp only [XSide, F40]; done) | decide) only [XWalk, XSl, ↓XPre, reduceIte, Nat.reduceEqDiff, Nat.reduceLT, Nat.reduceAdd, Nat.reduceSub, Nat.reduceMul, Nat.reduceBEq, reduceCtorEq, Int.reduceAdd, Int.reduceSub, Int.reduceMul, Int.reduceLT, Int.reduceLE, Int.reduceGT, Int.reduceGE, Int.reduceEq, Int.reduceNe, Int.reduceBEq, Int.reduceBNe, Int.reduceTMod, Int.reduceTDiv, ↓if_true, ↓if_false, F40, A40, cast_lit, hm]
  rw [append_into (bytes := 1) (R := Z.take 0 ++ a ++ Z.drop a.length) (new := b) (by simp only [F40]) writable_sl get_set_self (h11 _ _) lb (by omega) (by simp; omega)]
  simp (maxSteps := 2000000) (disch := first | assumption | omega | (simp only [nx_push, nx_set, ne_eq] <;> omega) | (simp only [XSide, F40]; done) | decide) only [XWalk, XSl, ↓XPre, reduceIte, Nat.reduceEqDiff, Nat.reduceLT, Nat.reduceAdd, Nat.reduceSub, Nat.reduceMul, Nat.reduceBEq, reduceCtorEq, Int.reduceAdd, Int.reduceSub, Int.reduceMul, Int.reduceLT, Int.reduceLE, Int.reduceGT, Int.reduceGE, Int.reduceEq, Int.reduceNe, Int.reduceBEq, Int.reduceBNe, Int.reduceTMod, Int.reduceTDiv, ↓if_true, ↓if_false, F40, A40]
  refine x_loop_once ?_
  simp (maxSteps := 2000000) (disch := first | assumption | omega | (simp only [nx_push, nx_set, ne_eq] <;> omega) | (simp only [XSide, F40]; done) | decide) only [XWalk, XSl, ↓XPre, reduceIte, Nat.reduceEqDiff, Nat.reduceLT, Nat.reduceAdd, Nat.reduceSub, Nat.reduceMul, Nat.reduceBEq, reduceCtorEq, Int.reduceAdd, Int.reduceSub, Int.reduceMul, Int.reduceLT, Int.reduceLE, Int.reduceGT, Int.reduceGE, Int.reduceEq, Int.reduceNe, Int.reduceBEq, Int.reduceBNe, Int.reduceTMod, Int.reduceTDiv, ↓if_true, ↓if_false, F40, A40, cast_lit]
  have hR : (Z.take 0 ++ a ++ Z.drop a.length).take a.length ++ b ++ (Z.take 0 ++ a ++ Z.drop a.length).drop (a.length + b.length) = a ++ b := by
    rw [List.take_zero, List.nil_append, List.take_left, List.drop_eq_nil_of_le (by simp; omega), List.append_nil]
  rw [hR]
  refine ⟨_, rfl, ?_⟩
  exact .row get_set_self (by rw [List.drop_zero, List.take_of_length_le (by rw [u8s_length, List.length_append]; omega)]) (by rw [u8s_length, List.length_append]) (Nat.le_refl _) (fun s hs => by cases hs; exact ⟨rfl, by rw [u8s_length, List.length_append]; omega⟩)

def roundL : List UInt8 := [114, 111, 117, 110, 100, 45]

theorem bs6 {P : Program} {m : Mem} {t : TypeId} {a b c d e f : Value} (h : bsK P t = true) (ha : oneCell a = true) (hb : oneCell b = true) (hc : oneCell c = true) (hd : oneCell d = true) (he : oneCell e = true) (hf : oneCell f = true) : abuildSliceR P t 6 [(0, a), (1, b), (2, c), (3, d), (4, e), (5, f)] m = some (.slice (some ⟨m.next, 0, none⟩) 6 6, m.push (.row [a, b, c, d, e, f] .rw), [], .no) := bs_row h (vs := [a, b, c, d, e, f]) (by simp [ha, hb, hc, hd, he, hf]) (by simp)

def CommitR (key : List UInt8) : Value → Mem → Prop := fun v m' => if key.length = 32 then ∃ s, v = .tuple #[s, .int .i64 0] ∧ Bs m' s (blakeB [] (roundL ++ key)) else v = .tuple #[.slice none 0 0, .int .i64 2]
theorem commit_ct {m : Mem} (hw : WF m) {kv : Value} {key : List UInt8} (hk : Bs m kv key) (lk : key.length ≤ 1000) :
    Ct Tryz.prog S0 15 [kv] m [] (Rv (CommitR key)) := by
  refine ct_x (spec0 _) (by rfl) Tryz.func15 rfl ?_
  by_cases h1 : key.length = 32
  · have e1 : ((key.length : Int) != 32) = false := by rw [h1]; rfl
    have hcv : ∀ o : List Value, aconv Tryz.prog 22 22 (.slice (some ⟨m.next, 0, none⟩) 6 6) (m.push (.row o .rw)) = _ := fun o => aconv_sl (by simp only [F15]) get_push_self rfl
    obtain ⟨ka, kl, kc, rfl⟩ := sl_shape hk
    simp (maxSteps := 2000000) (disch := first | assumption | omega | (simp only [nx_push, nx_set, ne_eq] <;> omega) | (simp only [XSide, F15]; done) | decide) only [XWalk, XSl, ↓XPre, reduceIte, Nat.reduceEqDiff, Nat.reduceLT, Nat.reduceAdd, Nat.reduceSub, Nat.reduceMul, Nat.reduceBEq, reduceCtorEq, Int.reduceAdd, Int.reduceSub, Int.reduceMul, Int.reduceLT, Int.reduceLE, Int.reduceGT, Int.reduceGE, Int.reduceEq, Int.reduceNe, Int.reduceBEq, Int.reduceBNe, Int.reduceTMod, Int.reduceTDiv, ↓if_true, ↓if_false, F15, A15, Tryz.ntmps15, alen_bs hk, e1, bs6, hcv]
    refine wcall_v specLoc (concat2_ct (a := roundL) (b := key) hw.push.push (get_push_eq (by simp)) (.row (by rw [get_push_ne (by simp)]; exact get_push_self) rfl rfl (Nat.le_refl _) (fun s hs => by cases hs)) ((hk.keep (Keep.push hw)).keep (Keep.push hw.push)) (by decide) (by omega) (by simp [roundL]; omega)) hw.push.push ?_
    intro v1 m1 hw1 hn1 f1 hv1
    simp (maxSteps := 2000000) (disch := first | assumption | omega | (simp only [nx_push, nx_set, ne_eq] <;> omega) | (simp only [XSide, F15]; done) | decide) only [XWalk, XSl, ↓XPre, reduceIte, Nat.reduceEqDiff, Nat.reduceLT, Nat.reduceAdd, Nat.reduceSub, Nat.reduceMul, Nat.reduceBEq, reduceCtorEq, Int.reduceAdd, Int.reduceSub, Int.reduceMul, Int.reduceLT, Int.reduceLE, Int.reduceGT, Int.reduceGE, Int.reduceEq, Int.reduceNe, Int.reduceBEq, Int.reduceBNe, Int.reduceTMod, Int.reduceTDiv, ↓if_true, ↓if_false, F15, A15]
    refine wcall_x specLoc (bsum_ct hw1 hv1 (by rw [List.length_append]; simp [roundL]; omega)) hw1 ?_
    rintro out m2 hw2 hn2 f2 rfl
    simp only [Mem.next_push] at hn1
    have lb := blakeB_length (key := []) (d := roundL ++ key)
    generalize htg : blakeB [] (roundL ++ key) = tg at *
    have bq : Nat.beq (u8s tg).length 32 = true := by rw [u8s_length, lb]; rfl
    have hob : (u8s tg).all oneCell = true := u8s_one
    have sb : (u8s tg).length = 32 := by rw [u8s_length]; exact lb
    simp (maxSteps := 2000000) (disch := first | assumption | omega | (simp only [nx_push, nx_set, ne_eq] <;> omega) | (simp only [XSide, F15]; done) | decide) only [XWalk, XSl, ↓XPre, reduceIte, Nat.reduceEqDiff, Nat.reduceLT, Nat.reduceAdd, Nat.reduceSub, Nat.reduceMul, Nat.reduceBEq, reduceCtorEq, Int.reduceAdd, Int.reduceSub, Int.reduceMul, Int.reduceLT, Int.reduceLE, Int.reduceGT, Int.reduceGE, Int.reduceEq, Int.reduceNe, Int.reduceBEq, Int.reduceBNe, Int.reduceTMod, Int.reduceTDiv, ↓if_true, ↓if_false, F15, A15, bq]
    have hrow : ∀ o, Bs ((m2.push o).set m2.next (.row (u8s tg) .rw)) (.slice (some ⟨m2.next, 0, none⟩) 32 32) tg := fun o => agg_row get_set_self lb
    refine ⟨_, rfl, ?_⟩
    rw [CommitR, if_pos h1, htg]
    exact ⟨_, rfl, hrow _⟩
  · have e1 : ((key.length : Int) != 32) = true := by rw [bne_iff_ne]; omega
    simp (maxSteps := 2000000) (disch := first | assumption | omega | (simp only [nx_push, nx_set, ne_eq] <;> omega) | (simp only [XSide, F15]; done) | decide) only [XWalk, XSl, ↓XPre, reduceIte, Nat.reduceEqDiff, Nat.reduceLT, Nat.reduceAdd, Nat.reduceSub, Nat.reduceMul, Nat.reduceBEq, reduceCtorEq, Int.reduceAdd, Int.reduceSub, Int.reduceMul, Int.reduceLT, Int.reduceLE, Int.reduceGT, Int.reduceGE, Int.reduceEq, Int.reduceNe, Int.reduceBEq, Int.reduceBNe, Int.reduceTMod, Int.reduceTDiv, ↓if_true, ↓if_false, F15, A15, Tryz.ntmps15, alen_bs hk, e1]
    exact ⟨_, rfl, by rw [CommitR, if_neg h1]⟩

theorem rcommit_ct {m : Mem} (hw : WF m) {kv : Value} {key : List UInt8} (hk : Bs m kv key) (lk : key.length ≤ 1000) :
    Ct Tryz.prog S0 16 [kv] m [] (fun out m' => out = .ret (if key.length = 32 then .tuple #[str (blakeB [] (roundL ++ key)), .int .i64 0] else .tuple #[str [], .int .i64 2])) := by
  refine ct_x (spec0 _) (by rfl) Tryz.func16 rfl ?_
  by_cases h1 : key.length = 32
  · have e1 : ((key.length : Int) != 32) = false := by rw [h1]; rfl
    simp (maxSteps := 2000000) (disch := first | assumption | omega | (simp only [nx_push, nx_set, ne_eq] <;> omega) | (simp only [XSide, F16]; done) | decide) only [XWalk, XSl, ↓XPre, reduceIte, Nat.reduceEqDiff, Nat.reduceLT, Nat.reduceAdd, Nat.reduceSub, Nat.reduceMul, Nat.reduceBEq, reduceCtorEq, Int.reduceAdd, Int.reduceSub, Int.reduceMul, Int.reduceLT, Int.reduceLE, Int.reduceGT, Int.reduceGE, Int.reduceEq, Int.reduceNe, Int.reduceBEq, Int.reduceBNe, Int.reduceTMod, Int.reduceTDiv, ↓if_true, ↓if_false, F16, A16, Tryz.ntmps16, alen_bs hk, e1]
    refine hk.wconv (by simp only [F16]) (by simp only [F16]) fun q hq => ?_
    have hcat : ∀ (x y : Operand) (m' : Mem) (t : TypeId), abin Tryz.prog .add t x y (.string ⟨#[114, 111, 117, 110, 100, 45]⟩) (str key) m' = some (str (roundL ++ key), m', [], .no) := fun x y m' t => abin_str_add (a := roundL) (by simp [roundL]; omega)
    have lrk : (roundL ++ key).length = 38 := by rw [List.length_append, h1]; rfl
    simp (maxSteps := 2000000) (disch := first | assumption | omega | (simp only [nx_push, nx_set, ne_eq] <;> omega) | (simp only [XSide, F16]; done) | decide) only [XWalk, XSl, ↓XPre, reduceIte, Nat.reduceEqDiff, Nat.reduceLT, Nat.reduceAdd, Nat.reduceSub, Nat.reduceMul, Nat.reduceBEq, reduceCtorEq, Int.reduceAdd, Int.reduceSub, Int.reduceMul, Int.reduceLT, Int.reduceLE, Int.reduceGT, Int.reduceGE, Int.reduceEq, Int.reduceNe, Int.reduceBEq, Int.reduceBNe, Int.reduceTMod, Int.reduceTDiv, ↓if_true, ↓if_false, F16, A16, hcat, aconv_str2]
    have hl : Bs (m.push (.row (u8s (roundL ++ key)) (.slack 1))) (.slice (some ⟨m.next, 0, none⟩) (roundL ++ key).length (roundL ++ key).length) (roundL ++ key) := .row get_push_self (by rw [List.drop_zero, List.take_of_length_le (by rw [u8s_length]; omega)]) (by rw [u8s_length]) (Nat.le_refl _) (fun s hs => by cases hs; exact ⟨rfl, by rw [u8s_length]; omega⟩)
    refine wcall_x specLoc (rsum_ct hw.push hl (by omega)) hw.push ?_
    rintro out m1 hw1 hn1 f1 rfl
    simp only [Mem.next_push] at hn1
    have lb := blakeB_length (key := []) (d := roundL ++ key)
    generalize blakeB [] (roundL ++ key) = tg at *
    have bq : Nat.beq (u8s tg).length 32 = true := by rw [u8s_length, lb]; rfl
    have hob : (u8s tg).all oneCell = true := u8s_one
    have sb : (u8s tg).length = 32 := by rw [u8s_length]; exact lb
    simp (maxSteps := 2000000) (disch := first | assumption | omega | (simp only [nx_push, nx_set, ne_eq] <;> omega) | (simp only [XSide, F16]; done) | decide) only [XWalk, XSl, ↓XPre, reduceIte, Nat.reduceEqDiff, Nat.reduceLT, Nat.reduceAdd, Nat.reduceSub, Nat.reduceMul, Nat.reduceBEq, reduceCtorEq, Int.reduceAdd, Int.reduceSub, Int.reduceMul, Int.reduceLT, Int.reduceLE, Int.reduceGT, Int.reduceGE, Int.reduceEq, Int.reduceNe, Int.reduceBEq, Int.reduceBNe, Int.reduceTMod, Int.reduceTDiv, ↓if_true, ↓if_false, F16, A16, bq]
    have hrow : ∀ o, Bs ((m1.push o).set m1.next (.row (u8s tg) .rw)) (.slice (some ⟨m1.next, 0, none⟩) 32 32) tg := fun o => agg_row get_set_self lb
    refine Bs.wconv (hrow _) (by simp only [F16]) (by simp only [F16]) fun r hr => ?_
    simp (maxSteps := 2000000) (disch := first | assumption | omega | (simp only [nx_push, nx_set, ne_eq] <;> omega) | (simp only [XSide, F16]; done) | decide) only [XWalk, XSl, ↓XPre, reduceIte, Nat.reduceEqDiff, Nat.reduceLT, Nat.reduceAdd, Nat.reduceSub, Nat.reduceMul, Nat.reduceBEq, reduceCtorEq, Int.reduceAdd, Int.reduceSub, Int.reduceMul, Int.reduceLT, Int.reduceLE, Int.reduceGT, Int.reduceGE, Int.reduceEq, Int.reduceNe, Int.reduceBEq, Int.reduceBNe, Int.reduceTMod, Int.reduceTDiv, ↓if_true, ↓if_false, F16, A16]
    rw [if_pos h1]
  · have e1 : ((key.length : Int) != 32) = true := by rw [bne_iff_ne]; omega
    simp (maxSteps := 2000000) (disch := first | assumption | omega | (simp only [nx_push, nx_set, ne_eq] <;> omega) | (simp only [XSide, F16]; done) | decide) only [XWalk, XSl, ↓XPre, reduceIte, Nat.reduceEqDiff, Nat.reduceLT, Nat.reduceAdd, Nat.reduceSub, Nat.reduceMul, Nat.reduceBEq, reduceCtorEq, Int.reduceAdd, Int.reduceSub, Int.reduceMul, Int.reduceLT, Int.reduceLE, Int.reduceGT, Int.reduceGE, Int.reduceEq, Int.reduceNe, Int.reduceBEq, Int.reduceBNe, Int.reduceTMod, Int.reduceTDiv, ↓if_true, ↓if_false, F16, A16, Tryz.ntmps16, alen_bs hk, e1]
    rw [if_neg h1]
end Go.Big

/- The reference's sealing. -/
set_option linter.unusedSimpArgs false
set_option linter.unusedVariables false
set_option maxRecDepth 100000
set_option maxHeartbeats 4000000
namespace Go.Big
open Go.Proofs

theorem rsseal_ct {m : Mem} (hw : WF m) {kv nv bv : Value} {key nonce b : List UInt8} (hk : Bs m kv key) (lk : key.length ≤ 32) (hn : Bs m nv nonce) (ln : nonce.length ≤ 100) (hb : Bs m bv b) (lb : b.length ≤ 65000) :
    Ct Tryz.prog S0 81 [kv, nv, bv] m [] (Rv fun v m' => Ab m' m.next v (sealB key nonce b)) := by
  refine ct_x (spec0 _) (by rfl) Tryz.func81 rfl ?_
  simp (maxSteps := 2000000) (disch := first | assumption | omega | (simp only [nx_push, nx_set, ne_eq] <;> omega) | (simp only [XSide, F81]; done) | decide) only [XWalk, XSl, ↓XPre, reduceIte, Nat.reduceEqDiff, Nat.reduceLT, Nat.reduceAdd, Nat.reduceSub, Nat.reduceMul, Nat.reduceBEq, reduceCtorEq, Int.reduceAdd, Int.reduceSub, Int.reduceMul, Int.reduceLT, Int.reduceLE, Int.reduceGT, Int.reduceGE, Int.reduceEq, Int.reduceNe, Int.reduceBEq, Int.reduceBNe, Int.reduceTMod, Int.reduceTDiv, ↓if_true, ↓if_false, F81, A81, Tryz.ntmps81, bs0]
  refine wappend (bytes := 1) (by simp only [F81]) (App.empty (Nat.le_refl _)) (hn.keep (Keep.push hw)) (by rw [List.length_nil]; omega) (by simp) hw.push fun v1 m1 w1 ha1 ok1 => ?_
  rw [List.nil_append] at ha1
  have f1 : ∀ b, b < m.next → m1.get b = m.get b := fun b hb => by rw [ha1.old (fun b hb => by simp [slBlk] at hb; omega) b hb (by simp; omega), get_push_ne (by omega)]
  have hn1 : m.next ≤ m1.next := by have := ha1.next; simp only [Mem.next_push] at this; omega
  have hw1 := ha1.wf
  have fr1 : ∀ v l, Bs m v l → Bs m1 v l := fun v l h => h.frame_at fun c hc => f1 c (h.blk_lt hw hc)
  simp (maxSteps := 2000000) (disch := first | assumption | omega | (simp only [nx_push, nx_set, ne_eq] <;> omega) | (simp only [XSide, F81]; done) | decide) only [XWalk, XSl, ↓XPre, reduceIte, Nat.reduceEqDiff, Nat.reduceLT, Nat.reduceAdd, Nat.reduceSub, Nat.reduceMul, Nat.reduceBEq, reduceCtorEq, Int.reduceAdd, Int.reduceSub, Int.reduceMul, Int.reduceLT, Int.reduceLE, Int.reduceGT, Int.reduceGE, Int.reduceEq, Int.reduceNe, Int.reduceBEq, Int.reduceBNe, Int.reduceTMod, Int.reduceTDiv, ↓if_true, ↓if_false, F81, A81, ok1 m.next [] (Nat.le_refl _), alen_bs (fr1 _ _ hb)]
  refine wcall_v specLoc (rstream_ct (n := b.length) hw1 (fr1 _ _ hk) lk (fr1 _ _ hn) ln (by omega)) hw1 ?_
  rintro stv m2 hw2 hn2 f2 ⟨hst, hsb⟩
  have lst : (streamB (blakeB key streamL) nonce b.length).length = b.length := streamB_length
  have hcip : cipherB key nonce b = nonce ++ xorB (streamB (blakeB key streamL) nonce b.length) b := rfl
  have hseal : sealB key nonce b = cipherB key nonce b ++ (blakeB (blakeB key tagL) (cipherB key nonce b)).take 16 := rfl
  rw [hseal]
  generalize cipherB key nonce b = cip at *
  generalize streamB (blakeB key streamL) nonce b.length = st at *
  have hb2 : Bs m2 bv b := (fr1 _ _ hb).keep (keep_of hw1 f2)
  have ha2 : Ab m2 m.next v1 nonce := (ha1.app.keep (keep_of hw1 f2))
  simp (maxSteps := 2000000) (disch := first | assumption | omega | (simp only [nx_push, nx_set, ne_eq] <;> omega) | (simp only [XSide, F81]; done) | decide) only [XWalk, XSl, ↓XPre, reduceIte, Nat.reduceEqDiff, Nat.reduceLT, Nat.reduceAdd, Nat.reduceSub, Nat.reduceMul, Nat.reduceBEq, reduceCtorEq, Int.reduceAdd, Int.reduceSub, Int.reduceMul, Int.reduceLT, Int.reduceLE, Int.reduceGT, Int.reduceGE, Int.reduceEq, Int.reduceNe, Int.reduceBEq, Int.reduceBNe, Int.reduceTMod, Int.reduceTDiv, ↓if_true, ↓if_false, F81, A81]
  refine x_loop (fun k e m3 => ∃ i ov, i + k = b.length ∧ e.n = 41 ∧ e.get 0 = kv ∧ e.get 2 = bv ∧ e.get 7 = ov ∧ e.get 8 = stv ∧ e.get 9 = .int .i64 ((i : Nat) : Int) ∧ WF m3 ∧ m2.next ≤ m3.next ∧ (∀ b, b < m2.next → slBlk v1 ≠ some b → m3.get b = m2.get b) ∧ Ab m3 m.next ov (nonce ++ (xorB st b).take i) ∧ (∀ b, slBlk ov = some b → slBlk v1 = some b ∨ m2.next ≤ b)) b.length
    ⟨0, v1, by omega, by simp (maxSteps := 2000000) (disch := first | assumption | omega | (simp only [nx_push, nx_set, ne_eq] <;> omega) | (simp only [XSide]; done) | decide) only [XWalk, XSl, ↓XPre, reduceIte, Nat.reduceEqDiff, Nat.reduceLT, Nat.reduceAdd, Nat.reduceSub, Nat.reduceMul, Nat.reduceBEq, reduceCtorEq, Int.reduceAdd, Int.reduceSub, Int.reduceMul, Int.reduceLT, Int.reduceLE, Int.reduceGT, Int.reduceGE, Int.reduceEq, Int.reduceNe, Int.reduceBEq, Int.reduceBNe, Int.reduceTMod, Int.reduceTDiv, ↓if_true, ↓if_false], by simp (maxSteps := 2000000) (disch := first | assumption | omega | (simp only [nx_push, nx_set, ne_eq] <;> omega) | (simp only [XSide]; done) | decide) only [XWalk, XSl, ↓XPre, reduceIte, Nat.reduceEqDiff, Nat.reduceLT, Nat.reduceAdd, Nat.reduceSub, Nat.reduceMul, Nat.reduceBEq, reduceCtorEq, Int.reduceAdd, Int.reduceSub, Int.reduceMul, Int.reduceLT, Int.reduceLE, Int.reduceGT, Int.reduceGE, Int.reduceEq, Int.reduceNe, Int.reduceBEq, Int.reduceBNe, Int.reduceTMod, Int.reduceTDiv, ↓if_true, ↓if_false], by simp (maxSteps := 2000000) (disch := first | assumption | omega | (simp only [nx_push, nx_set, ne_eq] <;> omega) | (simp only [XSide]; done) | decide) only [XWalk, XSl, ↓XPre, reduceIte, Nat.reduceEqDiff, Nat.reduceLT, Nat.reduceAdd, Nat.reduceSub, Nat.reduceMul, Nat.reduceBEq, reduceCtorEq, Int.reduceAdd, Int.reduceSub, Int.reduceMul, Int.reduceLT, Int.reduceLE, Int.reduceGT, Int.reduceGE, Int.reduceEq, Int.reduceNe, Int.reduceBEq, Int.reduceBNe, Int.reduceTMod, Int.reduceTDiv, ↓if_true, ↓if_false], by simp (maxSteps := 2000000) (disch := first | assumption | omega | (simp only [nx_push, nx_set, ne_eq] <;> omega) | (simp only [XSide]; done) | decide) only [XWalk, XSl, ↓XPre, reduceIte, Nat.reduceEqDiff, Nat.reduceLT, Nat.reduceAdd, Nat.reduceSub, Nat.reduceMul, Nat.reduceBEq, reduceCtorEq, Int.reduceAdd, Int.reduceSub, Int.reduceMul, Int.reduceLT, Int.reduceLE, Int.reduceGT, Int.reduceGE, Int.reduceEq, Int.reduceNe, Int.reduceBEq, Int.reduceBNe, Int.reduceTMod, Int.reduceTDiv, ↓if_true, ↓if_false], by simp (maxSteps := 2000000) (disch := first | assumption | omega | (simp only [nx_push, nx_set, ne_eq] <;> omega) | (simp only [XSide]; done) | decide) only [XWalk, XSl, ↓XPre, reduceIte, Nat.reduceEqDiff, Nat.reduceLT, Nat.reduceAdd, Nat.reduceSub, Nat.reduceMul, Nat.reduceBEq, reduceCtorEq, Int.reduceAdd, Int.reduceSub, Int.reduceMul, Int.reduceLT, Int.reduceLE, Int.reduceGT, Int.reduceGE, Int.reduceEq, Int.reduceNe, Int.reduceBEq, Int.reduceBNe, Int.reduceTMod, Int.reduceTDiv, ↓if_true, ↓if_false], by simp (maxSteps := 2000000) (disch := first | assumption | omega | (simp only [nx_push, nx_set, ne_eq] <;> omega) | (simp only [XSide]; done) | decide) only [XWalk, XSl, ↓XPre, reduceIte, Nat.reduceEqDiff, Nat.reduceLT, Nat.reduceAdd, Nat.reduceSub, Nat.reduceMul, Nat.reduceBEq, reduceCtorEq, Int.reduceAdd, Int.reduceSub, Int.reduceMul, Int.reduceLT, Int.reduceLE, Int.reduceGT, Int.reduceGE, Int.reduceEq, Int.reduceNe, Int.reduceBEq, Int.reduceBNe, Int.reduceTMod, Int.reduceTDiv, ↓if_true, ↓if_false]; rfl, hw2, Nat.le_refl _, fun _ _ _ => rfl, by rw [List.take_zero, List.append_nil]; exact ha2, fun b hb => .inl hb⟩ ?_
  rintro k e m3 ⟨i, ov, hi, he, q0, q2, q7, q8, q9, hw3, hn3, f3, hov, bov⟩
  have v1b : ∀ c, slBlk v1 = some c → m.next ≤ c ∧ c < m1.next := fun c hc => ⟨ha1.app.blk_ge hc, ha1.app.blk_lt hw1 hc⟩
  have frb : ∀ v l, Bs m v l → Bs m2 v l → Bs m3 v l := fun v l h0 h => h.frame_at fun c hc => f3 c (h.blk_lt hw2 hc) fun e => by
    have := (v1b c e).1
    have := h0.blk_lt hw hc
    omega
  have hb3 := frb _ _ hb hb2
  simp (maxSteps := 2000000) (disch := first | assumption | omega | (simp only [nx_push, nx_set, ne_eq] <;> omega) | (simp only [XSide, F81]; done) | decide) only [XWalk, XSl, ↓XPre, reduceIte, Nat.reduceEqDiff, Nat.reduceLT, Nat.reduceAdd, Nat.reduceSub, Nat.reduceMul, Nat.reduceBEq, reduceCtorEq, Int.reduceAdd, Int.reduceSub, Int.reduceMul, Int.reduceLT, Int.reduceLE, Int.reduceGT, Int.reduceGE, Int.reduceEq, Int.reduceNe, Int.reduceBEq, Int.reduceBNe, Int.reduceTMod, Int.reduceTDiv, ↓if_true, ↓if_false, F81, A81, he, q2, q9, alen_bs hb3]
  refine x_if (fun hx => ?_) (fun hx => ?_)
  · have hlt : i < b.length := by have := of_decide_eq_true hx; omega
    have hst3 : Bs m3 stv st := hst.frame_at fun c hc => f3 c (hst.blk_lt hw2 hc) fun e => by
      have := (v1b c e).2
      have := hsb c hc
      omega
    obtain ⟨sb', so, sc, srs, sk, hsv, hsm, hsr, -, -⟩ := hb3.inv (u8s_ne (by omega))
    rw [u8s_length] at hsv hsr
    obtain ⟨tb', to, tc, trs, tk, htv, htm, htr, -, -⟩ := hst3.inv (u8s_ne (by omega))
    rw [u8s_length, lst] at htv htr
    have x0 : srs[so + i]? = some (.int .u8 ((b.getD i 0).toNat : Int)) := u8_atn hsr (by omega)
    have x1 : trs[to + i]? = some (.int .u8 ((st.getD i 0).toNat : Int)) := u8_atn htr (by omega)
    have e6 : IntKind.wrap .i64 ((i : Int) + 1) = ((i + 1 : Nat) : Int) := by rw [wrap_i64 (by omega) (by omega)]; omega
    have hstep := xorB_step (s := st) (b := b) (j := i) (by omega) (by omega)
    have lov : (nonce ++ (xorB st b).take i).length ≤ 66000 := by rw [List.length_append, List.length_take]; omega
    simp (maxSteps := 2000000) (disch := first | assumption | omega | (simp only [nx_push, nx_set, ne_eq] <;> omega) | (simp only [XSide, F81]; done) | decide) only [XWalk, XSl, ↓XPre, reduceIte, Nat.reduceEqDiff, Nat.reduceLT, Nat.reduceAdd, Nat.reduceSub, Nat.reduceMul, Nat.reduceBEq, reduceCtorEq, Int.reduceAdd, Int.reduceSub, Int.reduceMul, Int.reduceLT, Int.reduceLE, Int.reduceGT, Int.reduceGE, Int.reduceEq, Int.reduceNe, Int.reduceBEq, Int.reduceBNe, Int.reduceTMod, Int.reduceTDiv, ↓if_true, ↓if_false, F81, A81, he, q2, q9]
    refine x_draw [0, 0, 0, 6, 14, 0, 0, 96, 224, 510, 1022, 2047, 4095] (by kernel_rfl) ?_
    simp (maxSteps := 2000000) (disch := first | assumption | omega | (simp only [nx_push, nx_set, ne_eq] <;> omega) | (simp only [XSide, F81]; done) | decide) only [XWalk, XSl, ↓XPre, reduceIte, Nat.reduceEqDiff, Nat.reduceLT, Nat.reduceAdd, Nat.reduceSub, Nat.reduceMul, Nat.reduceBEq, reduceCtorEq, Int.reduceAdd, Int.reduceSub, Int.reduceMul, Int.reduceLT, Int.reduceLE, Int.reduceGT, Int.reduceGE, Int.reduceEq, Int.reduceNe, Int.reduceBEq, Int.reduceBNe, Int.reduceTMod, Int.reduceTDiv, ↓if_true, ↓if_false, F81, A81, he, q2, q7, q8, q9, hsv, htv, hsm, htm, x0, x1, hlt, xorI_8]
    refine wappend (bytes := 1) (b := [b.getD i 0 ^^^ st.getD i 0]) (by simp only [F81]) (hov.keep (Keep.push hw3)) (Sl.of_row get_push_self rfl rfl (Nat.le_refl _)) (by simp only [List.length_singleton]; omega) (by simp; omega) hw3.push fun v' m' w ha ok => ?_
    rw [List.append_assoc, ← hstep] at ha
    simp (maxSteps := 2000000) (disch := first | assumption | omega | (simp only [nx_push, nx_set, ne_eq] <;> omega) | (simp only [XSide, F81]; done) | decide) only [XWalk, XSl, ↓XPre, reduceIte, Nat.reduceEqDiff, Nat.reduceLT, Nat.reduceAdd, Nat.reduceSub, Nat.reduceMul, Nat.reduceBEq, reduceCtorEq, Int.reduceAdd, Int.reduceSub, Int.reduceMul, Int.reduceLT, Int.reduceLE, Int.reduceGT, Int.reduceGE, Int.reduceEq, Int.reduceNe, Int.reduceBEq, Int.reduceBNe, Int.reduceTMod, Int.reduceTDiv, ↓if_true, ↓if_false, F81, A81, ok m.next [] (by omega), he, q0, q2, q8, q9, e6, hsv, htv]
    refine ⟨k - 1, by omega, i + 1, v', by omega, rfl, rfl, ha.wf, by have := ha.next; simp only [Mem.next_push] at this; omega, fun c hc hne => ?_, ha.app, fun c hc => ?_⟩
    · rw [ha.frame c (by simp; omega) (fun e => by
        rcases bov c e with h | h
        · exact hne h
        · omega), get_push_ne (by omega)]
      exact f3 c hc hne
    · rcases ha.blk c hc with h | h
      · exact bov c h
      · simp only [Mem.next_push] at h; omega
  · have hk' : i = b.length := by have := of_decide_eq_false hx; omega
    rw [List.take_of_length_le (by rw [xorB_len']; omega), ← hcip] at hov
    have lcip : cip.length ≤ 66000 := by rw [hcip, List.length_append, xorB_len']; omega
    simp (maxSteps := 2000000) (disch := first | assumption | omega | (simp only [nx_push, nx_set, ne_eq] <;> omega) | (simp only [XSide, F81]; done) | decide) only [XWalk, XSl, ↓XPre, reduceIte, Nat.reduceEqDiff, Nat.reduceLT, Nat.reduceAdd, Nat.reduceSub, Nat.reduceMul, Nat.reduceBEq, reduceCtorEq, Int.reduceAdd, Int.reduceSub, Int.reduceMul, Int.reduceLT, Int.reduceLE, Int.reduceGT, Int.reduceGE, Int.reduceEq, Int.reduceNe, Int.reduceBEq, Int.reduceBNe, Int.reduceTMod, Int.reduceTDiv, ↓if_true, ↓if_false, F81, A81, he, q0, q7]
    refine wcall_v specLoc (rtag_ct hw3 (frb _ _ hk ((fr1 _ _ hk).keep (keep_of hw1 f2))) lk hov.sl (by omega)) hw3 ?_
    intro tv m4 hw4 hn4 f4 ht
    simp (maxSteps := 2000000) (disch := first | assumption | omega | (simp only [nx_push, nx_set, ne_eq] <;> omega) | (simp only [XSide, F81]; done) | decide) only [XWalk, XSl, ↓XPre, reduceIte, Nat.reduceEqDiff, Nat.reduceLT, Nat.reduceAdd, Nat.reduceSub, Nat.reduceMul, Nat.reduceBEq, reduceCtorEq, Int.reduceAdd, Int.reduceSub, Int.reduceMul, Int.reduceLT, Int.reduceLE, Int.reduceGT, Int.reduceGE, Int.reduceEq, Int.reduceNe, Int.reduceBEq, Int.reduceBNe, Int.reduceTMod, Int.reduceTDiv, ↓if_true, ↓if_false, F81, A81, he]
    refine wappend (bytes := 1) (by simp only [F81]) (hov.keep (keep_of hw3 f4)) ht (by rw [List.length_take]; omega) (by omega) hw4 fun v5 m5 w5 ha5 ok5 => ?_
    simp (maxSteps := 2000000) (disch := first | assumption | omega | (simp only [nx_push, nx_set, ne_eq] <;> omega) | (simp only [XSide, F81]; done) | decide) only [XWalk, XSl, ↓XPre, reduceIte, Nat.reduceEqDiff, Nat.reduceLT, Nat.reduceAdd, Nat.reduceSub, Nat.reduceMul, Nat.reduceBEq, reduceCtorEq, Int.reduceAdd, Int.reduceSub, Int.reduceMul, Int.reduceLT, Int.reduceLE, Int.reduceGT, Int.reduceGE, Int.reduceEq, Int.reduceNe, Int.reduceBEq, Int.reduceBNe, Int.reduceTMod, Int.reduceTDiv, ↓if_true, ↓if_false, F81, A81, he, ok5 m.next [] (Nat.le_refl _)]
    exact ⟨_, rfl, ha5.app⟩
theorem rsealed_ct {m : Mem} (hw : WF m) {kv nv bv : Value} {n key nonce b : List UInt8} (hk : Bs m kv key) (lk : key.length ≤ 32) (hn : Bs m nv nonce) (ln : nonce.length ≤ 100) (hb : Bs m bv b) (lb : b.length ≤ 65000) (lnn : n.length ≤ 60000) :
    Ct Tryz.prog S0 47 [str n, kv, nv, bv] m [] (Rv fun v m' => Ab m' m.next v (sealedOf n key nonce b)) := by
  have hcat : ∀ (x y : Operand) (m' : Mem) (t : TypeId), abin Tryz.prog .add t x y (.string ⟨#[98, 105, 100, 45]⟩) (str n) m' = some (str (bidL ++ n), m', [], .no) := fun x y m' t => abin_str_add (a := bidL) (by simp [bidL]; omega)
  refine ct_x (spec0 _) (by rfl) Tryz.func47 rfl ?_
  simp (maxSteps := 2000000) (disch := first | assumption | omega | (simp only [nx_push, nx_set, ne_eq] <;> omega) | (simp only [XSide, F47]; done) | decide) only [XWalk, XSl, ↓XPre, reduceIte, Nat.reduceEqDiff, Nat.reduceLT, Nat.reduceAdd, Nat.reduceSub, Nat.reduceMul, Nat.reduceBEq, reduceCtorEq, Int.reduceAdd, Int.reduceSub, Int.reduceMul, Int.reduceLT, Int.reduceLE, Int.reduceGT, Int.reduceGE, Int.reduceEq, Int.reduceNe, Int.reduceBEq, Int.reduceBNe, Int.reduceTMod, Int.reduceTDiv, ↓if_true, ↓if_false, F47, A47, Tryz.ntmps47, hcat]
  refine wcall_v specLoc (rderive_ct (label := bidL ++ n) hw hk lk (by rw [List.length_append]; simp [bidL]; omega)) hw ?_
  intro dv m1 hw1 hn1 f1 hd
  simp (maxSteps := 2000000) (disch := first | assumption | omega | (simp only [nx_push, nx_set, ne_eq] <;> omega) | (simp only [XSide, F47]; done) | decide) only [XWalk, XSl, ↓XPre, reduceIte, Nat.reduceEqDiff, Nat.reduceLT, Nat.reduceAdd, Nat.reduceSub, Nat.reduceMul, Nat.reduceBEq, reduceCtorEq, Int.reduceAdd, Int.reduceSub, Int.reduceMul, Int.reduceLT, Int.reduceLE, Int.reduceGT, Int.reduceGE, Int.reduceEq, Int.reduceNe, Int.reduceBEq, Int.reduceBNe, Int.reduceTMod, Int.reduceTDiv, ↓if_true, ↓if_false, F47, A47]
  refine wcall_v specLoc (rsseal_ct hw1 hd.sl (by rw [blakeB_length]; omega) (hn.keep (keep_of hw f1)) ln (hb.keep (keep_of hw f1)) lb) hw1 ?_
  intro v2 m2 hw2 hn2 f2 hv2
  simp (maxSteps := 2000000) (disch := first | assumption | omega | (simp only [nx_push, nx_set, ne_eq] <;> omega) | (simp only [XSide, F47]; done) | decide) only [XWalk, XSl, ↓XPre, reduceIte, Nat.reduceEqDiff, Nat.reduceLT, Nat.reduceAdd, Nat.reduceSub, Nat.reduceMul, Nat.reduceBEq, reduceCtorEq, Int.reduceAdd, Int.reduceSub, Int.reduceMul, Int.reduceLT, Int.reduceLE, Int.reduceGT, Int.reduceGE, Int.reduceEq, Int.reduceNe, Int.reduceBEq, Int.reduceBNe, Int.reduceTMod, Int.reduceTDiv, ↓if_true, ↓if_false, F47, A47]
  exact ⟨_, rfl, hv2.mono hn1⟩

section
variable {q r s : Int} {kl nl bl : Nat}
theorem sealErr_arg (h : r < 0 ∨ 1048576 < r ∨ s < 0 ∨ 1073741824 < s ∨ kl ≠ 32 ∨ nl ≠ 16) : sealErr 0 q r s kl nl bl = 2 := by
  unfold sealErr
  by_cases h1 : rangeB r s = true
  · have h2 : lensB kl nl = false := by
      simp only [rangeB, Bool.and_eq_true, decide_eq_true_eq] at h1
      rw [lensB, Bool.and_eq_false_iff, beq_eq_false_iff_ne, beq_eq_false_iff_ne]
      omega
    simp [firstE, h1, h2]
  · simp [firstE, h1]
theorem seal_ok (h1 : 0 ≤ r) (h2 : r ≤ 1048576) (h3 : 0 ≤ s) (h4 : s ≤ 1073741824) (h5 : kl = 32) (h6 : nl = 16) : rangeB r s = true ∧ lensB kl nl = true := by
  subst h5 h6
  simp [rangeB, lensB, h1, h2, h3, h4]
theorem sealErr_long (h : rangeB r s = true ∧ lensB kl nl = true) (h2 : 4096 < bl) : sealErr 0 q r s kl nl bl = 5 := by
  have : ¬ ((bl : Int) ≤ 4096) := by omega
  simp [sealErr, firstE, h.1, h.2, this]
theorem sealErr_q (h : rangeB r s = true ∧ lensB kl nl = true) (h2 : bl ≤ 4096) : sealErr 0 q r s kl nl bl = q := by
  have : ((bl : Int) ≤ 4096) := by omega
  by_cases hq : q = 0 <;> simp [sealErr, firstE, h.1, h.2, this, hq]
end
theorem build24s {n : ByteArray} {r s : Int} {a : Option Addr} {l c : Nat} : abuild Tryz.prog 24 [(0, .string n), (1, .int .i64 r), (2, .int .i64 s), (3, .slice a l c)] = some (.agg #[.string n, .int .i64 r, .int .i64 s, .slice a l c, .slice none 0 0]) := by kernel_rfl

theorem rbseal_ct {m : Mem} (hw : WF m) {w : Value} {n key nonce bid : List UInt8} {r s : Int} {kv nv bv : Value} (hb : RefBook m w) (hk : Bs m kv key) (hn : Bs m nv nonce) (hbd : Bs m bv bid) (hnl : n.length ≤ 100) (hbl : bid.length ≤ 60000) :
    Ct Tryz.prog S0 18 [w, str n, .int .i64 r, .int .i64 s, kv, nv, bv] m [] (Rv (SealR n r s key nonce bid (sealErr 0 (gotErr n) r s key.length nonce.length bid.length))) := by
  have hb0 := hb
  obtain ⟨rb, k1, k2, rfl, hr, hk1, hk2⟩ := hb
  have kp : ∀ (v : Value) (l : List UInt8) o o', Bs m v l → Bs ((m.push o).push o') v l := fun v l o o' h => (h.keep (Keep.push hw)).keep (Keep.push hw.push)
  have hbk : ∀ o o', RefBook ((m.push o).push o') (.agg #[.slice (some ⟨rb, 0, none⟩) 2 2]) := fun o o' => (hb0.keep (Keep.push hw)).keep (Keep.push hw.push)
  refine ct_x (spec0 _) (by rfl) Tryz.func18 rfl ?_
  simp (maxSteps := 2000000) (disch := first | assumption | omega | (simp only [nx_push, nx_set, ne_eq] <;> omega) | (simp only [XSide, F18]; done) | decide) only [XWalk, XSl, ↓XPre, reduceIte, Nat.reduceEqDiff, Nat.reduceLT, Nat.reduceAdd, Nat.reduceSub, Nat.reduceMul, Nat.reduceBEq, reduceCtorEq, Int.reduceAdd, Int.reduceSub, Int.reduceMul, Int.reduceLT, Int.reduceLE, Int.reduceGT, Int.reduceGE, Int.reduceEq, Int.reduceNe, Int.reduceBEq, Int.reduceBNe, Int.reduceTMod, Int.reduceTDiv, ↓if_true, ↓if_false, F18, A18, Tryz.ntmps18]
  cases c1 : decide (r < 0) with
  | true =>
    rw [sealErr_arg (.inl (of_decide_eq_true c1))]
    simp (maxSteps := 2000000) (disch := first | assumption | omega | (simp only [nx_push, nx_set, ne_eq] <;> omega) | (simp only [XSide, F18]; done) | decide) only [XWalk, XSl, ↓XPre, reduceIte, Nat.reduceEqDiff, Nat.reduceLT, Nat.reduceAdd, Nat.reduceSub, Nat.reduceMul, Nat.reduceBEq, reduceCtorEq, Int.reduceAdd, Int.reduceSub, Int.reduceMul, Int.reduceLT, Int.reduceLE, Int.reduceGT, Int.reduceGE, Int.reduceEq, Int.reduceNe, Int.reduceBEq, Int.reduceBNe, Int.reduceTMod, Int.reduceTDiv, ↓if_true, ↓if_false, F18, A18, alen_bs (kp _ _ _ _ hk), alen_bs (kp _ _ _ _ hn), alen_bs (kp _ _ _ _ hbd), c1, abuild24, XAcc, env0]
    exact ⟨_, rfl, by rw [SealR, if_pos (by decide)]⟩
  | false =>
    simp (maxSteps := 2000000) (disch := first | assumption | omega | (simp only [nx_push, nx_set, ne_eq] <;> omega) | (simp only [XSide, F18]; done) | decide) only [XWalk, XSl, ↓XPre, reduceIte, Nat.reduceEqDiff, Nat.reduceLT, Nat.reduceAdd, Nat.reduceSub, Nat.reduceMul, Nat.reduceBEq, reduceCtorEq, Int.reduceAdd, Int.reduceSub, Int.reduceMul, Int.reduceLT, Int.reduceLE, Int.reduceGT, Int.reduceGE, Int.reduceEq, Int.reduceNe, Int.reduceBEq, Int.reduceBNe, Int.reduceTMod, Int.reduceTDiv, ↓if_true, ↓if_false, F18, A18, alen_bs (kp _ _ _ _ hk), alen_bs (kp _ _ _ _ hn), alen_bs (kp _ _ _ _ hbd), c1]
    cases c2 : decide (r > 1048576) with
    | true =>
      rw [sealErr_arg (.inr (.inl (of_decide_eq_true c2)))]
      simp (maxSteps := 2000000) (disch := first | assumption | omega | (simp only [nx_push, nx_set, ne_eq] <;> omega) | (simp only [XSide, F18]; done) | decide) only [XWalk, XSl, ↓XPre, reduceIte, Nat.reduceEqDiff, Nat.reduceLT, Nat.reduceAdd, Nat.reduceSub, Nat.reduceMul, Nat.reduceBEq, reduceCtorEq, Int.reduceAdd, Int.reduceSub, Int.reduceMul, Int.reduceLT, Int.reduceLE, Int.reduceGT, Int.reduceGE, Int.reduceEq, Int.reduceNe, Int.reduceBEq, Int.reduceBNe, Int.reduceTMod, Int.reduceTDiv, ↓if_true, ↓if_false, F18, A18, alen_bs (kp _ _ _ _ hk), alen_bs (kp _ _ _ _ hn), alen_bs (kp _ _ _ _ hbd), c1, c2, abuild24, XAcc, env0]
      exact ⟨_, rfl, by rw [SealR, if_pos (by decide)]⟩
    | false =>
      simp (maxSteps := 2000000) (disch := first | assumption | omega | (simp only [nx_push, nx_set, ne_eq] <;> omega) | (simp only [XSide, F18]; done) | decide) only [XWalk, XSl, ↓XPre, reduceIte, Nat.reduceEqDiff, Nat.reduceLT, Nat.reduceAdd, Nat.reduceSub, Nat.reduceMul, Nat.reduceBEq, reduceCtorEq, Int.reduceAdd, Int.reduceSub, Int.reduceMul, Int.reduceLT, Int.reduceLE, Int.reduceGT, Int.reduceGE, Int.reduceEq, Int.reduceNe, Int.reduceBEq, Int.reduceBNe, Int.reduceTMod, Int.reduceTDiv, ↓if_true, ↓if_false, F18, A18, alen_bs (kp _ _ _ _ hk), alen_bs (kp _ _ _ _ hn), alen_bs (kp _ _ _ _ hbd), c1, c2]
      cases c3 : decide (s < 0) with
      | true =>
        rw [sealErr_arg (.inr (.inr (.inl (of_decide_eq_true c3))))]
        simp (maxSteps := 2000000) (disch := first | assumption | omega | (simp only [nx_push, nx_set, ne_eq] <;> omega) | (simp only [XSide, F18]; done) | decide) only [XWalk, XSl, ↓XPre, reduceIte, Nat.reduceEqDiff, Nat.reduceLT, Nat.reduceAdd, Nat.reduceSub, Nat.reduceMul, Nat.reduceBEq, reduceCtorEq, Int.reduceAdd, Int.reduceSub, Int.reduceMul, Int.reduceLT, Int.reduceLE, Int.reduceGT, Int.reduceGE, Int.reduceEq, Int.reduceNe, Int.reduceBEq, Int.reduceBNe, Int.reduceTMod, Int.reduceTDiv, ↓if_true, ↓if_false, F18, A18, alen_bs (kp _ _ _ _ hk), alen_bs (kp _ _ _ _ hn), alen_bs (kp _ _ _ _ hbd), c1, c2, c3, abuild24, XAcc, env0]
        exact ⟨_, rfl, by rw [SealR, if_pos (by decide)]⟩
      | false =>
        simp (maxSteps := 2000000) (disch := first | assumption | omega | (simp only [nx_push, nx_set, ne_eq] <;> omega) | (simp only [XSide, F18]; done) | decide) only [XWalk, XSl, ↓XPre, reduceIte, Nat.reduceEqDiff, Nat.reduceLT, Nat.reduceAdd, Nat.reduceSub, Nat.reduceMul, Nat.reduceBEq, reduceCtorEq, Int.reduceAdd, Int.reduceSub, Int.reduceMul, Int.reduceLT, Int.reduceLE, Int.reduceGT, Int.reduceGE, Int.reduceEq, Int.reduceNe, Int.reduceBEq, Int.reduceBNe, Int.reduceTMod, Int.reduceTDiv, ↓if_true, ↓if_false, F18, A18, alen_bs (kp _ _ _ _ hk), alen_bs (kp _ _ _ _ hn), alen_bs (kp _ _ _ _ hbd), c1, c2, c3]
        cases c4 : decide (s > 1073741824) with
        | true =>
          rw [sealErr_arg (.inr (.inr (.inr (.inl (of_decide_eq_true c4)))))]
          simp (maxSteps := 2000000) (disch := first | assumption | omega | (simp only [nx_push, nx_set, ne_eq] <;> omega) | (simp only [XSide, F18]; done) | decide) only [XWalk, XSl, ↓XPre, reduceIte, Nat.reduceEqDiff, Nat.reduceLT, Nat.reduceAdd, Nat.reduceSub, Nat.reduceMul, Nat.reduceBEq, reduceCtorEq, Int.reduceAdd, Int.reduceSub, Int.reduceMul, Int.reduceLT, Int.reduceLE, Int.reduceGT, Int.reduceGE, Int.reduceEq, Int.reduceNe, Int.reduceBEq, Int.reduceBNe, Int.reduceTMod, Int.reduceTDiv, ↓if_true, ↓if_false, F18, A18, alen_bs (kp _ _ _ _ hk), alen_bs (kp _ _ _ _ hn), alen_bs (kp _ _ _ _ hbd), c1, c2, c3, c4, abuild24, XAcc, env0]
          exact ⟨_, rfl, by rw [SealR, if_pos (by decide)]⟩
        | false =>
          simp (maxSteps := 2000000) (disch := first | assumption | omega | (simp only [nx_push, nx_set, ne_eq] <;> omega) | (simp only [XSide, F18]; done) | decide) only [XWalk, XSl, ↓XPre, reduceIte, Nat.reduceEqDiff, Nat.reduceLT, Nat.reduceAdd, Nat.reduceSub, Nat.reduceMul, Nat.reduceBEq, reduceCtorEq, Int.reduceAdd, Int.reduceSub, Int.reduceMul, Int.reduceLT, Int.reduceLE, Int.reduceGT, Int.reduceGE, Int.reduceEq, Int.reduceNe, Int.reduceBEq, Int.reduceBNe, Int.reduceTMod, Int.reduceTDiv, ↓if_true, ↓if_false, F18, A18, alen_bs (kp _ _ _ _ hk), alen_bs (kp _ _ _ _ hn), alen_bs (kp _ _ _ _ hbd), c1, c2, c3, c4]
          cases c5 : ((key.length : Int) != 32) with
          | true =>
            rw [sealErr_arg (.inr (.inr (.inr (.inr (.inl (by have := bne_iff_ne.1 c5; omega))))))]
            simp (maxSteps := 2000000) (disch := first | assumption | omega | (simp only [nx_push, nx_set, ne_eq] <;> omega) | (simp only [XSide, F18]; done) | decide) only [XWalk, XSl, ↓XPre, reduceIte, Nat.reduceEqDiff, Nat.reduceLT, Nat.reduceAdd, Nat.reduceSub, Nat.reduceMul, Nat.reduceBEq, reduceCtorEq, Int.reduceAdd, Int.reduceSub, Int.reduceMul, Int.reduceLT, Int.reduceLE, Int.reduceGT, Int.reduceGE, Int.reduceEq, Int.reduceNe, Int.reduceBEq, Int.reduceBNe, Int.reduceTMod, Int.reduceTDiv, ↓if_true, ↓if_false, F18, A18, alen_bs (kp _ _ _ _ hk), alen_bs (kp _ _ _ _ hn), alen_bs (kp _ _ _ _ hbd), c1, c2, c3, c4, c5, abuild24, XAcc, env0]
            exact ⟨_, rfl, by rw [SealR, if_pos (by decide)]⟩
          | false =>
            simp (maxSteps := 2000000) (disch := first | assumption | omega | (simp only [nx_push, nx_set, ne_eq] <;> omega) | (simp only [XSide, F18]; done) | decide) only [XWalk, XSl, ↓XPre, reduceIte, Nat.reduceEqDiff, Nat.reduceLT, Nat.reduceAdd, Nat.reduceSub, Nat.reduceMul, Nat.reduceBEq, reduceCtorEq, Int.reduceAdd, Int.reduceSub, Int.reduceMul, Int.reduceLT, Int.reduceLE, Int.reduceGT, Int.reduceGE, Int.reduceEq, Int.reduceNe, Int.reduceBEq, Int.reduceBNe, Int.reduceTMod, Int.reduceTDiv, ↓if_true, ↓if_false, F18, A18, alen_bs (kp _ _ _ _ hk), alen_bs (kp _ _ _ _ hn), alen_bs (kp _ _ _ _ hbd), c1, c2, c3, c4, c5]
            cases c6 : ((nonce.length : Int) != 16) with
            | true =>
              rw [sealErr_arg (.inr (.inr (.inr (.inr (.inr (by have := bne_iff_ne.1 c6; omega))))))]
              simp (maxSteps := 2000000) (disch := first | assumption | omega | (simp only [nx_push, nx_set, ne_eq] <;> omega) | (simp only [XSide, F18]; done) | decide) only [XWalk, XSl, ↓XPre, reduceIte, Nat.reduceEqDiff, Nat.reduceLT, Nat.reduceAdd, Nat.reduceSub, Nat.reduceMul, Nat.reduceBEq, reduceCtorEq, Int.reduceAdd, Int.reduceSub, Int.reduceMul, Int.reduceLT, Int.reduceLE, Int.reduceGT, Int.reduceGE, Int.reduceEq, Int.reduceNe, Int.reduceBEq, Int.reduceBNe, Int.reduceTMod, Int.reduceTDiv, ↓if_true, ↓if_false, F18, A18, alen_bs (kp _ _ _ _ hk), alen_bs (kp _ _ _ _ hn), alen_bs (kp _ _ _ _ hbd), c1, c2, c3, c4, c5, c6, abuild24, XAcc, env0]
              exact ⟨_, rfl, by rw [SealR, if_pos (by decide)]⟩
            | false =>
              have hok : rangeB r s = true ∧ lensB key.length nonce.length = true := by
                have := of_decide_eq_false c1; have := of_decide_eq_false c2; have := of_decide_eq_false c3; have := of_decide_eq_false c4; have := bne_eq_false_iff_eq.1 c5; have := bne_eq_false_iff_eq.1 c6
                exact seal_ok (by omega) (by omega) (by omega) (by omega) (by omega) (by omega)
              have hr0 := of_decide_eq_false c1; have hr1 := of_decide_eq_false c2; have hs0 := of_decide_eq_false c3; have hs1 := of_decide_eq_false c4; have lk := bne_eq_false_iff_eq.1 c5; have ln := bne_eq_false_iff_eq.1 c6
              cases c7 : decide ((bid.length : Int) > 4096) with
              | true =>
                rw [sealErr_long hok (by have := of_decide_eq_true c7; omega)]
                simp (maxSteps := 2000000) (disch := first | assumption | omega | (simp only [nx_push, nx_set, ne_eq] <;> omega) | (simp only [XSide, F18]; done) | decide) only [XWalk, XSl, ↓XPre, reduceIte, Nat.reduceEqDiff, Nat.reduceLT, Nat.reduceAdd, Nat.reduceSub, Nat.reduceMul, Nat.reduceBEq, reduceCtorEq, Int.reduceAdd, Int.reduceSub, Int.reduceMul, Int.reduceLT, Int.reduceLE, Int.reduceGT, Int.reduceGE, Int.reduceEq, Int.reduceNe, Int.reduceBEq, Int.reduceBNe, Int.reduceTMod, Int.reduceTDiv, ↓if_true, ↓if_false, F18, A18, alen_bs (kp _ _ _ _ hk), alen_bs (kp _ _ _ _ hn), alen_bs (kp _ _ _ _ hbd), c1, c2, c3, c4, c5, c6, c7, abuild24, XAcc, env0]
                exact ⟨_, rfl, by rw [SealR, if_pos (by decide)]⟩
              | false =>
                rw [sealErr_q hok (by have := of_decide_eq_false c7; omega)]
                simp (maxSteps := 2000000) (disch := first | assumption | omega | (simp only [nx_push, nx_set, ne_eq] <;> omega) | (simp only [XSide, F18]; done) | decide) only [XWalk, XSl, ↓XPre, reduceIte, Nat.reduceEqDiff, Nat.reduceLT, Nat.reduceAdd, Nat.reduceSub, Nat.reduceMul, Nat.reduceBEq, reduceCtorEq, Int.reduceAdd, Int.reduceSub, Int.reduceMul, Int.reduceLT, Int.reduceLE, Int.reduceGT, Int.reduceGE, Int.reduceEq, Int.reduceNe, Int.reduceBEq, Int.reduceBNe, Int.reduceTMod, Int.reduceTDiv, ↓if_true, ↓if_false, F18, A18, alen_bs (kp _ _ _ _ hk), alen_bs (kp _ _ _ _ hn), alen_bs (kp _ _ _ _ hbd), c1, c2, c3, c4, c5, c6, c7, XAcc, loadN1]
                refine wcall_x specLoc (rat_ct hw.push.push (hbk _ _)) hw.push.push ?_
                rintro out m1 hw1 hn1 f1 rfl
                simp only [Mem.next_push] at hn1 f1
                have hno1 : ∀ v l, Bs m v l → Bs m1 v l := fun v l h => h.frame_at fun c hc => by
                  have := h.blk_lt hw hc
                  rw [f1 c (by omega), get_push_ne (by simp; omega), get_push_ne (by omega)]
                have rowb1 : m1.get m.next = some (.row [.slice (some ⟨rb, 0, none⟩) 2 2] .rw) := by rw [f1 _ (by omega), get_push_ne (by simp), get_push_self]
                have rowz1 : m1.get (m.next + 1) = some (.row [.string ⟨#[]⟩, .int .i64 0, .int .i64 0, .slice none 0 0, .slice none 0 0] .rw) := by rw [f1 _ (by omega), get_push_eq (by simp)]
                have hbk1 : RefBook m1 (.agg #[.slice (some ⟨rb, 0, none⟩) 2 2]) := hb0.keep fun c hc => by
                  have := hw.lt hc
                  rw [f1 c (by omega), get_push_ne (by simp; omega), get_push_ne (by omega)]
                cases ho : acctOf n with
                | none =>
                  have hat : atI n = -1 := by
                    unfold acctOf at ho
                    by_cases ha : n = acmeN
                    · rw [if_pos ha] at ho; cases ho
                    · by_cases hb : n = bellN
                      · rw [if_neg ha, if_pos hb] at ho; cases ho
                      · rw [atI, if_neg ha, if_neg hb]
                  have hge : gotErr n = 9 := by rw [gotErr, ho]
                  rw [hat, hge]
                  simp (maxSteps := 2000000) (disch := first | assumption | omega | (simp only [nx_push, nx_set, ne_eq] <;> omega) | (simp only [XSide, F18]; done) | decide) only [XWalk, XSl, ↓XPre, reduceIte, Nat.reduceEqDiff, Nat.reduceLT, Nat.reduceAdd, Nat.reduceSub, Nat.reduceMul, Nat.reduceBEq, reduceCtorEq, Int.reduceAdd, Int.reduceSub, Int.reduceMul, Int.reduceLT, Int.reduceLE, Int.reduceGT, Int.reduceGE, Int.reduceEq, Int.reduceNe, Int.reduceBEq, Int.reduceBNe, Int.reduceTMod, Int.reduceTDiv, ↓if_true, ↓if_false, F18, A18, rowz1, abuild24, XAcc, env0]
                  exact ⟨_, rfl, by rw [SealR, if_pos (by decide)]⟩
                | some kn =>
                  obtain ⟨aky, anum⟩ := kn
                  have hnl4 : n.length ≤ 4 := by
                    unfold acctOf at ho
                    by_cases ha : n = acmeN
                    · subst ha; decide
                    · by_cases hb : n = bellN
                      · subst hb; decide
                      · rw [if_neg ha, if_neg hb] at ho; cases ho
                  obtain ⟨ai, hat⟩ : ∃ i : Nat, atI n = (i : Int) := by
                    unfold atI
                    by_cases ha : n = acmeN
                    · exact ⟨0, by rw [if_pos ha]; rfl⟩
                    · by_cases hb : n = bellN
                      · exact ⟨1, by rw [if_neg ha, if_pos hb]; rfl⟩
                      · rw [acctOf, if_neg ha, if_neg hb] at ho; cases ho
                  have hge : gotErr n = 0 := by rw [gotErr, ho]
                  have e8 : decide ((ai : Int) < 0) = false := by simp
                  obtain ⟨r', rfl⟩ : ∃ r' : Nat, r = (r' : Int) := ⟨r.toNat, by omega⟩
                  obtain ⟨s', rfl⟩ : ∃ s' : Nat, s = (s' : Int) := ⟨s.toNat, by omega⟩
                  rw [hat, hge]
                  simp (maxSteps := 2000000) (disch := first | assumption | omega | (simp only [nx_push, nx_set, ne_eq] <;> omega) | (simp only [XSide, F18]; done) | decide) only [XWalk, XSl, ↓XPre, reduceIte, Nat.reduceEqDiff, Nat.reduceLT, Nat.reduceAdd, Nat.reduceSub, Nat.reduceMul, Nat.reduceBEq, reduceCtorEq, Int.reduceAdd, Int.reduceSub, Int.reduceMul, Int.reduceLT, Int.reduceLE, Int.reduceGT, Int.reduceGE, Int.reduceEq, Int.reduceNe, Int.reduceBEq, Int.reduceBNe, Int.reduceTMod, Int.reduceTDiv, ↓if_true, ↓if_false, F18, A18, e8]
                  refine wcall_v specLoc (rsealed_ct hw1 (hno1 _ _ hk) (by omega) (hno1 _ _ hn) (by omega) (hno1 _ _ hbd) (by omega) (by omega)) hw1 ?_
                  intro sv m2 hw2 hn2 f2 hsv
                  have lS : (sealedOf n key nonce bid).length = bid.length + 32 := sealed_len (by omega)
                  have hbl4 := of_decide_eq_false c7
                  have rowb2 := (f2 _ (by omega)).trans rowb1
                  have rowz2 := (f2 _ (by omega)).trans rowz1
                  obtain ⟨a, l, c, rfl⟩ := sl_shape hsv.sl
                  simp (maxSteps := 2000000) (disch := first | assumption | omega | (simp only [nx_push, nx_set, ne_eq] <;> omega) | (simp only [XSide, F18]; done) | decide) only [XWalk, XSl, ↓XPre, reduceIte, Nat.reduceEqDiff, Nat.reduceLT, Nat.reduceAdd, Nat.reduceSub, Nat.reduceMul, Nat.reduceBEq, reduceCtorEq, Int.reduceAdd, Int.reduceSub, Int.reduceMul, Int.reduceLT, Int.reduceLE, Int.reduceGT, Int.reduceGE, Int.reduceEq, Int.reduceNe, Int.reduceBEq, Int.reduceBNe, Int.reduceTMod, Int.reduceTDiv, ↓if_true, ↓if_false, F18, A18, build24s, XAcc]
                  obtain ⟨m3, hm3⟩ : ∃ m3, m3 = (m2.push (.row [.string ⟨#[]⟩, .int .i64 0, .int .i64 0, .slice none 0 0, .slice none 0 0] .rw)).set m2.next (.row [.string ⟨n.toArray⟩, .int .i64 (r' : Int), .int .i64 (s' : Int), .slice a l c, .slice none 0 0] .rw) := ⟨_, rfl⟩
                  have hw3 : WF m3 := by rw [hm3]; (repeat (first | exact hw2 | apply WF.push | (refine WF.set ?_ (by first | omega | (simp only [Mem.next_set, Mem.next_push]; omega)))))
                  have hn3 : m3.next = m2.next + 1 := by rw [hm3]; rfl
                  have f3 : ∀ b, b < m2.next → m3.get b = m2.get b := fun b hb => by rw [hm3, get_set_ne (by omega), get_push_ne (by omega)]
                  have rowx3 : m3.get m2.next = some (.row [.string ⟨n.toArray⟩, .int .i64 (r' : Int), .int .i64 (s' : Int), .slice a l c, .slice none 0 0] .rw) := by rw [hm3, get_set_self]
                  rw [← hm3]
                  clear hm3
                  have rowb3 := (f3 _ (by omega)).trans rowb2
                  have rowz3 := (f3 _ (by omega)).trans rowz2
                  have hsv3 := hsv.frame (m' := m3) fun b hb => f3 b (hsv.blk_lt hw2 hb)
                  refine x_draw [0, 0, 0, 4, 15, 31, 63, 63, 127, 511] (by kernel_rfl) ?_
                  simp (maxSteps := 2000000) (disch := first | assumption | omega | (simp only [nx_push, nx_set, ne_eq] <;> omega) | (simp only [XSide, F18]; done) | decide) only [XWalk, XSl, ↓XPre, reduceIte, Nat.reduceEqDiff, Nat.reduceLT, Nat.reduceAdd, Nat.reduceSub, Nat.reduceMul, Nat.reduceBEq, reduceCtorEq, Int.reduceAdd, Int.reduceSub, Int.reduceMul, Int.reduceLT, Int.reduceLE, Int.reduceGT, Int.reduceGE, Int.reduceEq, Int.reduceNe, Int.reduceBEq, Int.reduceBNe, Int.reduceTMod, Int.reduceTDiv, ↓if_true, ↓if_false, F18, A18, rowb3, rowx3, XAcc, loadN1]
                  refine wcall_v specLoc (rsigned_ct (n := n) (r := r') (s := s') (tv := .slice none 0 0) hw3 hsv3.sl rfl (by omega) (by omega) (by omega) (by omega)) hw3 ?_
                  intro gv m4 hw4 hn4 f4 hgv
                  have hsl := signed_len (n := n) (S := sealedOf n key nonce bid) (r := r') (s := s') (by omega) (by omega) (by omega) (by omega)
                  have hbk4 : RefBook m4 (.agg #[.slice (some ⟨rb, 0, none⟩) 2 2]) := hbk1.keep fun c hc => by
                    have := hw1.lt hc
                    rw [f4 c (by omega), f3 c (by omega), f2 c (by omega)]
                  simp (maxSteps := 2000000) (disch := first | assumption | omega | (simp only [nx_push, nx_set, ne_eq] <;> omega) | (simp only [XSide, F18]; done) | decide) only [XWalk, XSl, ↓XPre, reduceIte, Nat.reduceEqDiff, Nat.reduceLT, Nat.reduceAdd, Nat.reduceSub, Nat.reduceMul, Nat.reduceBEq, reduceCtorEq, Int.reduceAdd, Int.reduceSub, Int.reduceMul, Int.reduceLT, Int.reduceLE, Int.reduceGT, Int.reduceGE, Int.reduceEq, Int.reduceNe, Int.reduceBEq, Int.reduceBNe, Int.reduceTMod, Int.reduceTDiv, ↓if_true, ↓if_false, F18, A18]
                  refine wcall_x specLoc (rbtag_ct hw4 hbk4 hgv.sl (by omega)) hw4 ?_
                  rintro out m5 hw5 hn5 f5 rfl
                  have rowz5 := (f5 _ (by omega)).trans ((f4 _ (by omega)).trans rowz3)
                  have rowx5 := (f5 _ (by omega)).trans ((f4 _ (by omega)).trans rowx3)
                  have hsv5 : Bs m5 (.slice a l c) (sealedOf n key nonce bid) := hsv3.sl.frame_at fun b hb => by
                    have := hsv.blk_lt hw2 hb
                    rw [f5 b (by omega), f4 b (by omega)]
                  have lT : (blakeB aky (signedB n r' s' (sealedOf n key nonce bid))).length = 32 := blakeB_length
                  have htag : tagOf n (r' : Int).toNat (s' : Int).toNat (sealedOf n key nonce bid) = blakeB aky (signedB n r' s' (sealedOf n key nonce bid)) := by rw [tagOf, ho]; rfl
                  unfold rtagV
                  rw [ho]
                  simp only [if_neg (show ¬ 65536 < (signedB n r' s' (sealedOf n key nonce bid)).length by omega)]
                  generalize blakeB aky (signedB n r' s' (sealedOf n key nonce bid)) = tg at *
                  simp (maxSteps := 2000000) (disch := first | assumption | omega | (simp only [nx_push, nx_set, ne_eq] <;> omega) | (simp only [XSide, F18]; done) | decide) only [XWalk, XSl, ↓XPre, reduceIte, Nat.reduceEqDiff, Nat.reduceLT, Nat.reduceAdd, Nat.reduceSub, Nat.reduceMul, Nat.reduceBEq, reduceCtorEq, Int.reduceAdd, Int.reduceSub, Int.reduceMul, Int.reduceLT, Int.reduceLE, Int.reduceGT, Int.reduceGE, Int.reduceEq, Int.reduceNe, Int.reduceBEq, Int.reduceBNe, Int.reduceTMod, Int.reduceTDiv, ↓if_true, ↓if_false, F18, A18, aconv_str2, rowx5, rowz5, XAcc]
                  refine ⟨_, rfl, ?_⟩
                  rw [SealR, if_neg (by decide), htag]
                  refine ⟨_, _, rfl, hsv5.frame_at fun d hd => ?_, .row (by rw [get_set_ne (by omega), get_set_ne (by omega), get_push_self]) (by rw [List.drop_zero, List.take_of_length_le (by rw [u8s_length]; omega)]) (by rw [u8s_length]) (Nat.le_refl _) (fun s hs => by cases hs; exact ⟨rfl, by rw [u8s_length]; omega⟩)⟩
                  have h1 := hsv.blk_lt hw2 hd
                  have h2 := hsv.blk_ge hd
                  rw [get_set_ne (by omega), get_set_ne (by omega), get_push_ne (by omega)]
end Go.Big

/- The law EnvelopeSeals: its walk. -/
set_option linter.unusedSimpArgs false
set_option linter.unusedVariables false
set_option maxRecDepth 100000
set_option maxHeartbeats 4000000
namespace Go.Big
open Go.Proofs

def sealQ (n : List UInt8) (r s : Int) (key nonce bid : List UInt8) (e : Int) : List UInt8 × Int × Int × List UInt8 × List UInt8 × Int :=
  if (e != 0) = true then ([], 0, 0, [], [], e) else (n, r, s, sealedOf n key nonce bid, tagOf n r.toNat s.toNat (sealedOf n key nonce bid), 0)
theorem SealR.env {n key nonce bid : List UInt8} {r s e : Int} {v : Value} {m : Mem} (h : SealR n r s key nonce bid e v m) :
    ∃ sv tv, v = .tuple #[envV (sealQ n r s key nonce bid e).1 (sealQ n r s key nonce bid e).2.1 (sealQ n r s key nonce bid e).2.2.1 sv tv, .int .i64 (sealQ n r s key nonce bid e).2.2.2.2.2] ∧ Bs m sv (sealQ n r s key nonce bid e).2.2.2.1 ∧ Bs m tv (sealQ n r s key nonce bid e).2.2.2.2.1 := by
  unfold SealR at h
  unfold sealQ
  split at h
  · next he =>
    subst h
    simp only [if_pos he]
    exact ⟨_, _, rfl, .nil, .nil⟩
  · next he =>
    obtain ⟨sv, tv, rfl, h1, h2⟩ := h
    simp only [if_neg he]
    exact ⟨_, _, rfl, h1, h2⟩
def commitQ (key : List UInt8) : List UInt8 × Int := if key.length = 32 then (blakeB [] (roundL ++ key), 0) else ([], 2)
theorem CommitR.q {key : List UInt8} {v : Value} {m : Mem} (h : CommitR key v m) : ∃ cv, v = .tuple #[cv, .int .i64 (commitQ key).2] ∧ Bs m cv (commitQ key).1 := by
  unfold CommitR at h
  unfold commitQ
  by_cases h1 : key.length = 32
  · rw [if_pos h1] at h
    obtain ⟨s, rfl, h2⟩ := h
    simp only [if_pos h1]
    exact ⟨_, rfl, h2⟩
  · rw [if_neg h1] at h
    subst h
    simp only [if_neg h1]
    exact ⟨_, rfl, .nil⟩
theorem rcommitV {key : List UInt8} : (if key.length = 32 then Value.tuple #[str (blakeB [] (roundL ++ key)), .int .i64 0] else .tuple #[str [], .int .i64 2]) = .tuple #[str (commitQ key).1, .int .i64 (commitQ key).2] := by
  unfold commitQ
  split <;> rfl

theorem x_cut {P : Program} {S : Cfg} {base : Nat} {L : List Nat} {a : Code} {e : Env} {m : Mem} {Q : Ex → Env → Mem → Prop} (I : Env → Mem → Prop) (h1 : WX P S base L a e m fun x e' m' => x = .normal ∧ I e' m') (h2 : ∀ e' m', I e' m' → Q .normal e' m') : WX P S base L a e m Q :=
  wx_mono (fun x e' m' hx => by obtain ⟨rfl, hi⟩ := hx; exact h2 _ _ hi) h1

theorem seals_ct {m : Mem} (hw : WF m) {n key nonce bid : List UInt8} {r s q : Int} {kv nv bv : Value} (hk : Bs m kv key) (hn : Bs m nv nonce) (hb : Bs m bv bid) :
    Ct Tryz.prog S0 4 [str n, .int .i64 r, .int .i64 s, kv, nv, bv, .int .i64 q] m [] (fun out m' => out = .ret (.bool true)) := by
  refine ct_x (spec0 _) (by rfl) Tryz.func4 rfl ?_
  simp (maxSteps := 2000000) (disch := first | assumption | omega | (simp only [nx_push, nx_set, ne_eq] <;> omega) | (simp only [XSide, F4]; done) | decide) only [XWalk, XSl, ↓XPre, reduceIte, Nat.reduceEqDiff, Nat.reduceLT, Nat.reduceAdd, Nat.reduceSub, Nat.reduceMul, Nat.reduceBEq, reduceCtorEq, Int.reduceAdd, Int.reduceSub, Int.reduceMul, Int.reduceLT, Int.reduceLE, Int.reduceGT, Int.reduceGE, Int.reduceEq, Int.reduceNe, Int.reduceBEq, Int.reduceBNe, Int.reduceTMod, Int.reduceTDiv, ↓if_true, ↓if_false, F4, A4, Tryz.ntmps4]
  cases c1 : decide ((n.length : Int) > 100) with
  | true =>
    simp (maxSteps := 2000000) (disch := first | assumption | omega | (simp only [nx_push, nx_set, ne_eq] <;> omega) | (simp only [XSide, F4]; done) | decide) only [XWalk, XSl, ↓XPre, reduceIte, Nat.reduceEqDiff, Nat.reduceLT, Nat.reduceAdd, Nat.reduceSub, Nat.reduceMul, Nat.reduceBEq, reduceCtorEq, Int.reduceAdd, Int.reduceSub, Int.reduceMul, Int.reduceLT, Int.reduceLE, Int.reduceGT, Int.reduceGE, Int.reduceEq, Int.reduceNe, Int.reduceBEq, Int.reduceBNe, Int.reduceTMod, Int.reduceTDiv, ↓if_true, ↓if_false, F4, A4, c1]
    refine wcall_x specLoc (known_ct hw) hw ?_
    rintro out m2 hw2 hn2 f2 rfl
    simp (maxSteps := 2000000) (disch := first | assumption | omega | (simp only [nx_push, nx_set, ne_eq] <;> omega) | (simp only [XSide, F4]; done) | decide) only [XWalk, XSl, ↓XPre, reduceIte, Nat.reduceEqDiff, Nat.reduceLT, Nat.reduceAdd, Nat.reduceSub, Nat.reduceMul, Nat.reduceBEq, reduceCtorEq, Int.reduceAdd, Int.reduceSub, Int.reduceMul, Int.reduceLT, Int.reduceLE, Int.reduceGT, Int.reduceGE, Int.reduceEq, Int.reduceNe, Int.reduceBEq, Int.reduceBNe, Int.reduceTMod, Int.reduceTDiv, ↓if_true, ↓if_false, F4, A4]
  | false =>
    simp (maxSteps := 2000000) (disch := first | assumption | omega | (simp only [nx_push, nx_set, ne_eq] <;> omega) | (simp only [XSide, F4]; done) | decide) only [XWalk, XSl, ↓XPre, reduceIte, Nat.reduceEqDiff, Nat.reduceLT, Nat.reduceAdd, Nat.reduceSub, Nat.reduceMul, Nat.reduceBEq, reduceCtorEq, Int.reduceAdd, Int.reduceSub, Int.reduceMul, Int.reduceLT, Int.reduceLE, Int.reduceGT, Int.reduceGE, Int.reduceEq, Int.reduceNe, Int.reduceBEq, Int.reduceBNe, Int.reduceTMod, Int.reduceTDiv, ↓if_true, ↓if_false, F4, A4, c1, alen_bs hk]
    cases c2 : decide ((key.length : Int) > 100) with
    | true =>
      simp (maxSteps := 2000000) (disch := first | assumption | omega | (simp only [nx_push, nx_set, ne_eq] <;> omega) | (simp only [XSide, F4]; done) | decide) only [XWalk, XSl, ↓XPre, reduceIte, Nat.reduceEqDiff, Nat.reduceLT, Nat.reduceAdd, Nat.reduceSub, Nat.reduceMul, Nat.reduceBEq, reduceCtorEq, Int.reduceAdd, Int.reduceSub, Int.reduceMul, Int.reduceLT, Int.reduceLE, Int.reduceGT, Int.reduceGE, Int.reduceEq, Int.reduceNe, Int.reduceBEq, Int.reduceBNe, Int.reduceTMod, Int.reduceTDiv, ↓if_true, ↓if_false, F4, A4, c1, c2]
      refine wcall_x specLoc (known_ct hw) hw ?_
      rintro out m2 hw2 hn2 f2 rfl
      simp (maxSteps := 2000000) (disch := first | assumption | omega | (simp only [nx_push, nx_set, ne_eq] <;> omega) | (simp only [XSide, F4]; done) | decide) only [XWalk, XSl, ↓XPre, reduceIte, Nat.reduceEqDiff, Nat.reduceLT, Nat.reduceAdd, Nat.reduceSub, Nat.reduceMul, Nat.reduceBEq, reduceCtorEq, Int.reduceAdd, Int.reduceSub, Int.reduceMul, Int.reduceLT, Int.reduceLE, Int.reduceGT, Int.reduceGE, Int.reduceEq, Int.reduceNe, Int.reduceBEq, Int.reduceBNe, Int.reduceTMod, Int.reduceTDiv, ↓if_true, ↓if_false, F4, A4]
    | false =>
      simp (maxSteps := 2000000) (disch := first | assumption | omega | (simp only [nx_push, nx_set, ne_eq] <;> omega) | (simp only [XSide, F4]; done) | decide) only [XWalk, XSl, ↓XPre, reduceIte, Nat.reduceEqDiff, Nat.reduceLT, Nat.reduceAdd, Nat.reduceSub, Nat.reduceMul, Nat.reduceBEq, reduceCtorEq, Int.reduceAdd, Int.reduceSub, Int.reduceMul, Int.reduceLT, Int.reduceLE, Int.reduceGT, Int.reduceGE, Int.reduceEq, Int.reduceNe, Int.reduceBEq, Int.reduceBNe, Int.reduceTMod, Int.reduceTDiv, ↓if_true, ↓if_false, F4, A4, c1, c2, alen_bs hn]
      cases c3 : decide ((nonce.length : Int) > 100) with
      | true =>
        simp (maxSteps := 2000000) (disch := first | assumption | omega | (simp only [nx_push, nx_set, ne_eq] <;> omega) | (simp only [XSide, F4]; done) | decide) only [XWalk, XSl, ↓XPre, reduceIte, Nat.reduceEqDiff, Nat.reduceLT, Nat.reduceAdd, Nat.reduceSub, Nat.reduceMul, Nat.reduceBEq, reduceCtorEq, Int.reduceAdd, Int.reduceSub, Int.reduceMul, Int.reduceLT, Int.reduceLE, Int.reduceGT, Int.reduceGE, Int.reduceEq, Int.reduceNe, Int.reduceBEq, Int.reduceBNe, Int.reduceTMod, Int.reduceTDiv, ↓if_true, ↓if_false, F4, A4, c1, c2, c3]
        refine wcall_x specLoc (known_ct hw) hw ?_
        rintro out m2 hw2 hn2 f2 rfl
        simp (maxSteps := 2000000) (disch := first | assumption | omega | (simp only [nx_push, nx_set, ne_eq] <;> omega) | (simp only [XSide, F4]; done) | decide) only [XWalk, XSl, ↓XPre, reduceIte, Nat.reduceEqDiff, Nat.reduceLT, Nat.reduceAdd, Nat.reduceSub, Nat.reduceMul, Nat.reduceBEq, reduceCtorEq, Int.reduceAdd, Int.reduceSub, Int.reduceMul, Int.reduceLT, Int.reduceLE, Int.reduceGT, Int.reduceGE, Int.reduceEq, Int.reduceNe, Int.reduceBEq, Int.reduceBNe, Int.reduceTMod, Int.reduceTDiv, ↓if_true, ↓if_false, F4, A4]
      | false =>
        simp (maxSteps := 2000000) (disch := first | assumption | omega | (simp only [nx_push, nx_set, ne_eq] <;> omega) | (simp only [XSide, F4]; done) | decide) only [XWalk, XSl, ↓XPre, reduceIte, Nat.reduceEqDiff, Nat.reduceLT, Nat.reduceAdd, Nat.reduceSub, Nat.reduceMul, Nat.reduceBEq, reduceCtorEq, Int.reduceAdd, Int.reduceSub, Int.reduceMul, Int.reduceLT, Int.reduceLE, Int.reduceGT, Int.reduceGE, Int.reduceEq, Int.reduceNe, Int.reduceBEq, Int.reduceBNe, Int.reduceTMod, Int.reduceTDiv, ↓if_true, ↓if_false, F4, A4, c1, c2, c3, alen_bs hb]
        refine x_if (fun c4 => ?_) (fun c4 => ?_)
        · simp (maxSteps := 2000000) (disch := first | assumption | omega | (simp only [nx_push, nx_set, ne_eq] <;> omega) | (simp only [XSide, F4]; done) | decide) only [XWalk, XSl, ↓XPre, reduceIte, Nat.reduceEqDiff, Nat.reduceLT, Nat.reduceAdd, Nat.reduceSub, Nat.reduceMul, Nat.reduceBEq, reduceCtorEq, Int.reduceAdd, Int.reduceSub, Int.reduceMul, Int.reduceLT, Int.reduceLE, Int.reduceGT, Int.reduceGE, Int.reduceEq, Int.reduceNe, Int.reduceBEq, Int.reduceBNe, Int.reduceTMod, Int.reduceTDiv, ↓if_true, ↓if_false, F4, A4, c1, c2, c3, c4]
          refine wcall_x specLoc (known_ct hw) hw ?_
          rintro out m2 hw2 hn2 f2 rfl
          simp (maxSteps := 2000000) (disch := first | assumption | omega | (simp only [nx_push, nx_set, ne_eq] <;> omega) | (simp only [XSide, F4]; done) | decide) only [XWalk, XSl, ↓XPre, reduceIte, Nat.reduceEqDiff, Nat.reduceLT, Nat.reduceAdd, Nat.reduceSub, Nat.reduceMul, Nat.reduceBEq, reduceCtorEq, Int.reduceAdd, Int.reduceSub, Int.reduceMul, Int.reduceLT, Int.reduceLE, Int.reduceGT, Int.reduceGE, Int.reduceEq, Int.reduceNe, Int.reduceBEq, Int.reduceBNe, Int.reduceTMod, Int.reduceTDiv, ↓if_true, ↓if_false, F4, A4]
        have ln := of_decide_eq_false c1; have lk := of_decide_eq_false c2; have lo := of_decide_eq_false c3; have lb := of_decide_eq_false c4
        rw [wx_skip, andX_normal, wx_seq]
        refine x_cut (fun e m1 => ∃ bv1 bid1, e.n = 113 ∧ e.get 0 = str n ∧ e.get 1 = .int .i64 r ∧ e.get 2 = .int .i64 s ∧ e.get 3 = kv ∧ e.get 4 = nv ∧ e.get 5 = bv1 ∧ WF m1 ∧ m.next ≤ m1.next ∧ (∀ b, b < m.next → m1.get b = m.get b) ∧ Bs m1 bv1 bid1 ∧ bid1.length ≤ 4100) ?_ ?_
        · simp (maxSteps := 2000000) (disch := first | assumption | omega | (simp only [nx_push, nx_set, ne_eq] <;> omega) | (simp only [XSide, F4]; done) | decide) only [XWalk, XSl, ↓XPre, reduceIte, Nat.reduceEqDiff, Nat.reduceLT, Nat.reduceAdd, Nat.reduceSub, Nat.reduceMul, Nat.reduceBEq, reduceCtorEq, Int.reduceAdd, Int.reduceSub, Int.reduceMul, Int.reduceLT, Int.reduceLE, Int.reduceGT, Int.reduceGE, Int.reduceEq, Int.reduceNe, Int.reduceBEq, Int.reduceBNe, Int.reduceTMod, Int.reduceTDiv, ↓if_true, ↓if_false, F4, A4]
          refine x_gd (fun h => ?_) (fun h => ?_)
          · simp (maxSteps := 2000000) (disch := first | assumption | omega | (simp only [nx_push, nx_set, ne_eq] <;> omega) | (simp only [XSide, F4]; done) | decide) only [XWalk, XSl, ↓XPre, reduceIte, Nat.reduceEqDiff, Nat.reduceLT, Nat.reduceAdd, Nat.reduceSub, Nat.reduceMul, Nat.reduceBEq, reduceCtorEq, Int.reduceAdd, Int.reduceSub, Int.reduceMul, Int.reduceLT, Int.reduceLE, Int.reduceGT, Int.reduceGE, Int.reduceEq, Int.reduceNe, Int.reduceBEq, Int.reduceBNe, Int.reduceTMod, Int.reduceTDiv, ↓if_true, ↓if_false, F4, A4, h]
            refine x_if (fun h2 => ?_) (fun h2 => ?_)
            · have hq1 := of_decide_eq_true h
              have hq2 := of_decide_eq_true h2
              obtain ⟨k, rfl⟩ : ∃ k : Nat, q = (k : Int) := ⟨q.toNat, by omega⟩
              simp (maxSteps := 2000000) (disch := first | assumption | omega | (simp only [nx_push, nx_set, ne_eq] <;> omega) | (simp only [XSide, F4]; done) | decide) only [XWalk, XSl, ↓XPre, reduceIte, Nat.reduceEqDiff, Nat.reduceLT, Nat.reduceAdd, Nat.reduceSub, Nat.reduceMul, Nat.reduceBEq, reduceCtorEq, Int.reduceAdd, Int.reduceSub, Int.reduceMul, Int.reduceLT, Int.reduceLE, Int.reduceGT, Int.reduceGE, Int.reduceEq, Int.reduceNe, Int.reduceBEq, Int.reduceBNe, Int.reduceTMod, Int.reduceTDiv, ↓if_true, ↓if_false, F4, A4]
              refine wcall_v specLoc (row_ct (b := 3) (n := k) hw (by omega)) hw ?_
              rintro v m1 hw1 hn1 f1 ⟨hv1, _⟩
              simp (maxSteps := 2000000) (disch := first | assumption | omega | (simp only [nx_push, nx_set, ne_eq] <;> omega) | (simp only [XSide, F4]; done) | decide) only [XWalk, XSl, ↓XPre, reduceIte, Nat.reduceEqDiff, Nat.reduceLT, Nat.reduceAdd, Nat.reduceSub, Nat.reduceMul, Nat.reduceBEq, reduceCtorEq, Int.reduceAdd, Int.reduceSub, Int.reduceMul, Int.reduceLT, Int.reduceLE, Int.reduceGT, Int.reduceGE, Int.reduceEq, Int.reduceNe, Int.reduceBEq, Int.reduceBNe, Int.reduceTMod, Int.reduceTDiv, ↓if_true, ↓if_false, F4, A4]
              exact ⟨v, List.replicate k 3, rfl, hw1, hn1, f1, hv1, by rw [List.length_replicate]; omega⟩
            · simp (maxSteps := 2000000) (disch := first | assumption | omega | (simp only [nx_push, nx_set, ne_eq] <;> omega) | (simp only [XSide, F4]; done) | decide) only [XWalk, XSl, ↓XPre, reduceIte, Nat.reduceEqDiff, Nat.reduceLT, Nat.reduceAdd, Nat.reduceSub, Nat.reduceMul, Nat.reduceBEq, reduceCtorEq, Int.reduceAdd, Int.reduceSub, Int.reduceMul, Int.reduceLT, Int.reduceLE, Int.reduceGT, Int.reduceGE, Int.reduceEq, Int.reduceNe, Int.reduceBEq, Int.reduceBNe, Int.reduceTMod, Int.reduceTDiv, ↓if_true, ↓if_false, F4, A4, h2]
              exact ⟨bv, bid, rfl, hw, Nat.le_refl _, fun _ _ => trivial, hb, by omega⟩
          · have h' : decide (q ≥ 4090) = false := h
            simp (maxSteps := 2000000) (disch := first | assumption | omega | (simp only [nx_push, nx_set, ne_eq] <;> omega) | (simp only [XSide, F4]; done) | decide) only [XWalk, XSl, ↓XPre, reduceIte, Nat.reduceEqDiff, Nat.reduceLT, Nat.reduceAdd, Nat.reduceSub, Nat.reduceMul, Nat.reduceBEq, reduceCtorEq, Int.reduceAdd, Int.reduceSub, Int.reduceMul, Int.reduceLT, Int.reduceLE, Int.reduceGT, Int.reduceGE, Int.reduceEq, Int.reduceNe, Int.reduceBEq, Int.reduceBNe, Int.reduceTMod, Int.reduceTDiv, ↓if_true, ↓if_false, F4, A4, h']
            exact ⟨bv, bid, rfl, hw, Nat.le_refl _, fun _ _ => trivial, hb, by omega⟩
        rintro e m1 ⟨bv1, bid1, he, q0, q1, q2, q3, q4, q5, hw1, hn1, f1, hb1, lb1⟩
        simp (maxSteps := 2000000) (disch := first | assumption | omega | (simp only [nx_push, nx_set, ne_eq] <;> omega) | (simp only [XSide, F4]; done) | decide) only [XWalk, XSl, ↓XPre, reduceIte, Nat.reduceEqDiff, Nat.reduceLT, Nat.reduceAdd, Nat.reduceSub, Nat.reduceMul, Nat.reduceBEq, reduceCtorEq, Int.reduceAdd, Int.reduceSub, Int.reduceMul, Int.reduceLT, Int.reduceLE, Int.reduceGT, Int.reduceGE, Int.reduceEq, Int.reduceNe, Int.reduceBEq, Int.reduceBNe, Int.reduceTMod, Int.reduceTDiv, ↓if_true, ↓if_false, F4, A4, he]
        refine wcall_v specLoc (given_ct hw1) hw1 ?_
        rintro v m2 hw2 hn2 f2 ⟨x, w, rfl, hx2, hb2⟩
        have hb0 := hb2
        obtain ⟨rb, k1, k2, rfl, hrb, -, -⟩ := hb2
        simp (maxSteps := 2000000) (disch := first | assumption | omega | (simp only [nx_push, nx_set, ne_eq] <;> omega) | (simp only [XSide, F4]; done) | decide) only [XWalk, XSl, ↓XPre, reduceIte, Nat.reduceEqDiff, Nat.reduceLT, Nat.reduceAdd, Nat.reduceSub, Nat.reduceMul, Nat.reduceBEq, reduceCtorEq, Int.reduceAdd, Int.reduceSub, Int.reduceMul, Int.reduceLT, Int.reduceLE, Int.reduceGT, Int.reduceGE, Int.reduceEq, Int.reduceNe, Int.reduceBEq, Int.reduceBNe, Int.reduceTMod, Int.reduceTDiv, ↓if_true, ↓if_false, F4, A4, he, q3, XAcc]
        obtain ⟨m3, hm3⟩ : ∃ m3, m3 = (m2.push (.row [.slice none 0 0] .rw)).set m2.next (.row [.slice (some ⟨rb, 0, none⟩) 2 2] .rw) := ⟨_, rfl⟩
        have hw3 : WF m3 := by rw [hm3]; (repeat (first | exact hw2 | apply WF.push | (refine WF.set ?_ (by first | omega | (simp only [Mem.next_set, Mem.next_push]; omega)))))
        have g3 : ∀ b, b < m2.next → m3.get b = m2.get b := fun b hb => by rw [hm3, get_set_ne (by omega), get_push_ne (by omega)]
        have hn3 : m3.next = m2.next + 1 := by rw [hm3]; rfl
        have rowb3 : m3.get m2.next = some (.row [.slice (some ⟨rb, 0, none⟩) 2 2] .rw) := by rw [hm3, get_set_self]
        rw [← hm3]
        clear hm3
        have toO : ∀ (m' : Mem) v l, Bs m v l → (∀ b, b < m2.next → m'.get b = m2.get b) → Bs m' v l := fun m' v l h F => h.frame_at fun b hb => by
          have := h.blk_lt hw hb
          rw [F b (by omega), f2 b (by omega)]; exact f1 b this
        have toB1 : ∀ m' : Mem, (∀ b, b < m2.next → m'.get b = m2.get b) → Bs m' bv1 bid1 := fun m' F => hb1.frame_at fun b hb => by
          have := hb1.blk_lt hw1 hb
          rw [F b (by omega)]; exact f2 b this
        have toX : ∀ m' : Mem, (∀ b, b < m2.next → m'.get b = m2.get b) → BookAt m' x := fun m' F => hx2.keep fun b hb => F b (hw2.lt hb)
        have toB : ∀ m' : Mem, (∀ b, b < m2.next → m'.get b = m2.get b) → RefBook m' (.agg #[.slice (some ⟨rb, 0, none⟩) 2 2]) := fun m' F => hb0.keep fun b hb => F b (hw2.lt hb)
        refine wcall_v specLoc (commit_ct hw3 (toO _ _ _ hk g3) (by omega)) hw3 ?_
        intro v m4 hw4 hn4 f4 hc4
        obtain ⟨cv, rfl, hcv4⟩ := hc4.q
        have g4 : ∀ b, b < m2.next → m4.get b = m2.get b := fun b hb => by rw [f4 b (by omega)]; exact g3 b hb
        have rowb4 := (f4 m2.next (by omega)).trans rowb3
        simp (maxSteps := 2000000) (disch := first | assumption | omega | (simp only [nx_push, nx_set, ne_eq] <;> omega) | (simp only [XSide, F4]; done) | decide) only [XWalk, XSl, ↓XPre, reduceIte, Nat.reduceEqDiff, Nat.reduceLT, Nat.reduceAdd, Nat.reduceSub, Nat.reduceMul, Nat.reduceBEq, reduceCtorEq, Int.reduceAdd, Int.reduceSub, Int.reduceMul, Int.reduceLT, Int.reduceLE, Int.reduceGT, Int.reduceGE, Int.reduceEq, Int.reduceNe, Int.reduceBEq, Int.reduceBNe, Int.reduceTMod, Int.reduceTDiv, ↓if_true, ↓if_false, F4, A4, he, q3]
        refine wcall_x specLoc (rcommit_ct hw4 (toO _ _ _ hk g4) (by omega)) hw4 ?_
        rintro out m5 hw5 hn5 f5 rfl
        rw [rcommitV]
        have g5 : ∀ b, b < m2.next → m5.get b = m2.get b := fun b hb => by rw [f5 b (by omega)]; exact g4 b hb
        have rowb5 := (f5 m2.next (by omega)).trans rowb4
        have hcv5 := hcv4.keep (keep_of hw4 f5)
        generalize (commitQ key).1 = cb at *
        generalize (commitQ key).2 = ce at *
        simp (maxSteps := 2000000) (disch := first | assumption | omega | (simp only [nx_push, nx_set, ne_eq] <;> omega) | (simp only [XSide, F4]; done) | decide) only [XWalk, XSl, ↓XPre, reduceIte, Nat.reduceEqDiff, Nat.reduceLT, Nat.reduceAdd, Nat.reduceSub, Nat.reduceMul, Nat.reduceBEq, reduceCtorEq, Int.reduceAdd, Int.reduceSub, Int.reduceMul, Int.reduceLT, Int.reduceLE, Int.reduceGT, Int.reduceGE, Int.reduceEq, Int.reduceNe, Int.reduceBEq, Int.reduceBNe, Int.reduceTMod, Int.reduceTDiv, ↓if_true, ↓if_false, F4, A4, he, q0, q1, q2, q3, q4, q5]
        refine wappend (bytes := 1) (a := []) (by simp only [F4]) (.nil (n0 := m5.next)) (toO _ _ _ hk g5) (by rw [List.length_nil]; omega) (Nat.le_refl _) hw5 fun v6 m6 w6 ha6 ok6 => ?_
        rw [List.nil_append] at ha6
        have hw6 := ha6.wf
        have hn6 := ha6.next
        have f6 : ∀ b, b < m5.next → m6.get b = m5.get b := fun b hb => ha6.frame b hb (by simp [slBlk])
        have g6 : ∀ b, b < m2.next → m6.get b = m2.get b := fun b hb => by rw [f6 b (by omega)]; exact g5 b hb
        have ok6' : OkW m.next [] w6 := ok6 m.next [] (by omega)
        simp (maxSteps := 2000000) (disch := first | assumption | omega | (simp only [nx_push, nx_set, ne_eq] <;> omega) | (simp only [XSide, F4]; done) | decide) only [XWalk, XSl, ↓XPre, reduceIte, Nat.reduceEqDiff, Nat.reduceLT, Nat.reduceAdd, Nat.reduceSub, Nat.reduceMul, Nat.reduceBEq, reduceCtorEq, Int.reduceAdd, Int.reduceSub, Int.reduceMul, Int.reduceLT, Int.reduceLE, Int.reduceGT, Int.reduceGE, Int.reduceEq, Int.reduceNe, Int.reduceBEq, Int.reduceBNe, Int.reduceTMod, Int.reduceTDiv, ↓if_true, ↓if_false, F4, A4, he, q0, q1, q2, q3, q4, q5, ok6']
        refine wappend (bytes := 1) (a := []) (by simp only [F4]) (.nil (n0 := m6.next)) (toO _ _ _ hn g6) (by rw [List.length_nil]; omega) (Nat.le_refl _) hw6 fun v7 m7 w7 ha7 ok7 => ?_
        rw [List.nil_append] at ha7
        have hw7 := ha7.wf
        have hn7 := ha7.next
        have f7 : ∀ b, b < m6.next → m7.get b = m6.get b := fun b hb => ha7.frame b hb (by simp [slBlk])
        have g7 : ∀ b, b < m2.next → m7.get b = m2.get b := fun b hb => by rw [f7 b (by omega)]; exact g6 b hb
        have ok7' : OkW m.next [] w7 := ok7 m.next [] (by omega)
        simp (maxSteps := 2000000) (disch := first | assumption | omega | (simp only [nx_push, nx_set, ne_eq] <;> omega) | (simp only [XSide, F4]; done) | decide) only [XWalk, XSl, ↓XPre, reduceIte, Nat.reduceEqDiff, Nat.reduceLT, Nat.reduceAdd, Nat.reduceSub, Nat.reduceMul, Nat.reduceBEq, reduceCtorEq, Int.reduceAdd, Int.reduceSub, Int.reduceMul, Int.reduceLT, Int.reduceLE, Int.reduceGT, Int.reduceGE, Int.reduceEq, Int.reduceNe, Int.reduceBEq, Int.reduceBNe, Int.reduceTMod, Int.reduceTDiv, ↓if_true, ↓if_false, F4, A4, he, q0, q1, q2, q3, q4, q5, ok7']
        refine wappend (bytes := 1) (a := []) (by simp only [F4]) (.nil (n0 := m7.next)) (toB1 _ g7) (by rw [List.length_nil]; omega) (Nat.le_refl _) hw7 fun v8 m8 w8 ha8 ok8 => ?_
        rw [List.nil_append] at ha8
        have hw8 := ha8.wf
        have hn8 := ha8.next
        have f8 : ∀ b, b < m7.next → m8.get b = m7.get b := fun b hb => ha8.frame b hb (by simp [slBlk])
        have g8 : ∀ b, b < m2.next → m8.get b = m2.get b := fun b hb => by rw [f8 b (by omega)]; exact g7 b hb
        have ok8' : OkW m.next [] w8 := ok8 m.next [] (by omega)
        have hk8 : Bs m8 v6 key := ha6.app.sl.frame_at fun b hb => by
          have := ha6.app.blk_lt hw6 hb
          rw [f8 b (by omega), f7 b (by omega)]
        have hno8 : Bs m8 v7 nonce := ha7.app.sl.frame_at fun b hb => by
          have := ha7.app.blk_lt hw7 hb
          rw [f8 b (by omega)]
        have hcv8 : Bs m8 cv cb := hcv5.frame_at fun b hb => by
          have := hcv5.blk_lt hw5 hb
          rw [f8 b (by omega), f7 b (by omega), f6 b (by omega)]
        have rowb8 := (f8 m2.next (by omega)).trans ((f7 m2.next (by omega)).trans ((f6 m2.next (by omega)).trans rowb5))
        simp (maxSteps := 2000000) (disch := first | assumption | omega | (simp only [nx_push, nx_set, ne_eq] <;> omega) | (simp only [XSide, F4]; done) | decide) only [XWalk, XSl, ↓XPre, reduceIte, Nat.reduceEqDiff, Nat.reduceLT, Nat.reduceAdd, Nat.reduceSub, Nat.reduceMul, Nat.reduceBEq, reduceCtorEq, Int.reduceAdd, Int.reduceSub, Int.reduceMul, Int.reduceLT, Int.reduceLE, Int.reduceGT, Int.reduceGE, Int.reduceEq, Int.reduceNe, Int.reduceBEq, Int.reduceBNe, Int.reduceTMod, Int.reduceTDiv, ↓if_true, ↓if_false, F4, A4, he, q0, q1, q2, q3, q4, q5, ok8']
        refine wcall_v specLoc (eseal_ct (n := n) (r := r) (s := s) hw8 (toX _ g8) hk8 hno8 ha8.app.sl (by omega) (by omega) (by omega) (by omega)) hw8 ?_
        intro v m9 hw9 hn9 f9 hse
        obtain ⟨sv, tv, rfl, hS9, hT9⟩ := hse.env
        have g9 : ∀ b, b < m2.next → m9.get b = m2.get b := fun b hb => by rw [f9 b (by omega)]; exact g8 b hb
        have rowb9 := (f9 m2.next (by omega)).trans rowb8
        have hcv9 := hcv8.keep (keep_of hw8 f9)
        generalize hsq : sealQ n r s key nonce bid1 (sealErr 0 (gotErr n) r s key.length nonce.length bid1.length) = sq at *
        obtain ⟨sn, sr, ss, sS, sT, se⟩ := sq
        obtain ⟨a1, l1, c1', rfl⟩ := sl_shape hS9
        obtain ⟨a2, l2, c2', rfl⟩ := sl_shape hT9
        simp (maxSteps := 2000000) (disch := first | assumption | omega | (simp only [nx_push, nx_set, ne_eq] <;> omega) | (simp only [XSide, F4]; done) | decide) only [XWalk, XSl, ↓XPre, reduceIte, Nat.reduceEqDiff, Nat.reduceLT, Nat.reduceAdd, Nat.reduceSub, Nat.reduceMul, Nat.reduceBEq, reduceCtorEq, Int.reduceAdd, Int.reduceSub, Int.reduceMul, Int.reduceLT, Int.reduceLE, Int.reduceGT, Int.reduceGE, Int.reduceEq, Int.reduceNe, Int.reduceBEq, Int.reduceBNe, Int.reduceTMod, Int.reduceTDiv, ↓if_true, ↓if_false, F4, A4, he, q0, q1, q2, q3, q4, q5, XAcc, rowb9, loadN1]
        obtain ⟨mA, hmA⟩ : ∃ mA, mA = (m9.push (.row [.string ⟨#[]⟩, .int .i64 0, .int .i64 0, .slice none 0 0, .slice none 0 0] .rw)).set m9.next (.row [str sn, .int .i64 sr, .int .i64 ss, .slice a1 l1 c1', .slice a2 l2 c2'] .rw) := ⟨_, rfl⟩
        have hwA : WF mA := by rw [hmA]; (repeat (first | exact hw9 | apply WF.push | (refine WF.set ?_ (by first | omega | (simp only [Mem.next_set, Mem.next_push]; omega)))))
        have gA : ∀ b, b < m9.next → mA.get b = m9.get b := fun b hb => by rw [hmA, get_set_ne (by omega), get_push_ne (by omega)]
        have hnA : mA.next = m9.next + 1 := by rw [hmA]; rfl
        have rowA : mA.get m9.next = some (.row [str sn, .int .i64 sr, .int .i64 ss, .slice a1 l1 c1', .slice a2 l2 c2'] .rw) := by rw [hmA, get_set_self]
        rw [← hmA]
        clear hmA
        have gA2 : ∀ b, b < m2.next → mA.get b = m2.get b := fun b hb => by rw [gA b (by omega)]; exact g9 b hb
        refine wcall_v specLoc (rbseal_ct (n := n) (r := r) (s := s) hwA (toB _ gA2) (toO _ _ _ hk gA2) (toO _ _ _ hn gA2) (toB1 _ gA2) (by omega) (by omega)) hwA ?_
        intro v mB hwB hnB fB hse2
        obtain ⟨sv', tv', rfl, hSB, hTB⟩ := hse2.env
        rw [hsq] at hSB hTB ⊢
        simp only at hSB hTB ⊢
        have up : ∀ v l, Bs m9 v l → Bs mB v l := fun v l h => h.frame_at fun b hb => by
          have := h.blk_lt hw9 hb
          rw [fB b (by omega), gA b this]
        have hS9' := up _ _ hS9
        have hT9' := up _ _ hT9
        have hcvB := up _ _ hcv9
        have rowB := (fB m9.next (by omega)).trans rowA
        obtain ⟨a3, l3, c3', rfl⟩ := sl_shape hSB
        obtain ⟨a4, l4, c4', rfl⟩ := sl_shape hTB
        simp (maxSteps := 2000000) (disch := first | assumption | omega | (simp only [nx_push, nx_set, ne_eq] <;> omega) | (simp only [XSide, F4]; done) | decide) only [XWalk, XSl, ↓XPre, reduceIte, Nat.reduceEqDiff, Nat.reduceLT, Nat.reduceAdd, Nat.reduceSub, Nat.reduceMul, Nat.reduceBEq, reduceCtorEq, Int.reduceAdd, Int.reduceSub, Int.reduceMul, Int.reduceLT, Int.reduceLE, Int.reduceGT, Int.reduceGE, Int.reduceEq, Int.reduceNe, Int.reduceBEq, Int.reduceBNe, Int.reduceTMod, Int.reduceTDiv, ↓if_true, ↓if_false, F4, A4, he, XAcc]
        obtain ⟨mC, hmC⟩ : ∃ mC, mC = (mB.push (.row [.string ⟨#[]⟩, .int .i64 0, .int .i64 0, .slice none 0 0, .slice none 0 0] .rw)).set mB.next (.row [str sn, .int .i64 sr, .int .i64 ss, .slice a3 l3 c3', .slice a4 l4 c4'] .rw) := ⟨_, rfl⟩
        have hwC : WF mC := by rw [hmC]; (repeat (first | exact hwB | apply WF.push | (refine WF.set ?_ (by first | omega | (simp only [Mem.next_set, Mem.next_push]; omega)))))
        have gC : ∀ b, b < mB.next → mC.get b = mB.get b := fun b hb => by rw [hmC, get_set_ne (by omega), get_push_ne (by omega)]
        have hnC : mC.next = mB.next + 1 := by rw [hmC]; rfl
        have rowC : mC.get mB.next = some (.row [str sn, .int .i64 sr, .int .i64 ss, .slice a3 l3 c3', .slice a4 l4 c4'] .rw) := by rw [hmC, get_set_self]
        rw [← hmC]
        clear hmC
        have upC : ∀ v l, Bs mB v l → Bs mC v l := fun v l h => h.frame_at fun b hb => gC b (h.blk_lt hwB hb)
        have rowBC := (gC m9.next (by omega)).trans rowB
        refine Bs.wconv (upC _ _ hcvB) (by simp only [F4]) (by simp only [F4]) fun q' hq' => ?_
        have e1 : (cb == cb) = true := by simp
        have e2 : (ce == ce) = true := by simp
        have e3 : (se == se) = true := by simp
        simp (maxSteps := 2000000) (disch := first | assumption | omega | (simp only [nx_push, nx_set, ne_eq] <;> omega) | (simp only [XSide, F4]; done) | decide) only [XWalk, XSl, ↓XPre, reduceIte, Nat.reduceEqDiff, Nat.reduceLT, Nat.reduceAdd, Nat.reduceSub, Nat.reduceMul, Nat.reduceBEq, reduceCtorEq, Int.reduceAdd, Int.reduceSub, Int.reduceMul, Int.reduceLT, Int.reduceLE, Int.reduceGT, Int.reduceGE, Int.reduceEq, Int.reduceNe, Int.reduceBEq, Int.reduceBNe, Int.reduceTMod, Int.reduceTDiv, ↓if_true, ↓if_false, F4, A4, he, e1, e2, rowBC, rowC, XAcc]
        refine wcall_x specLoc (same_ct (n := sn) (n' := sn) (r := sr) (r' := sr) (s := ss) (s' := ss) hwC (upC _ _ hS9') (upC _ _ hT9') (upC _ _ hSB) (upC _ _ hTB)) hwC ?_
        rintro out mD hwD hnD fD rfl
        have e4 : sameB sn sn sr sr ss ss sS sS sT sT = true := by simp [sameB]
        rw [e4]
        simp (maxSteps := 2000000) (disch := first | assumption | omega | (simp only [nx_push, nx_set, ne_eq] <;> omega) | (simp only [XSide, F4]; done) | decide) only [XWalk, XSl, ↓XPre, reduceIte, Nat.reduceEqDiff, Nat.reduceLT, Nat.reduceAdd, Nat.reduceSub, Nat.reduceMul, Nat.reduceBEq, reduceCtorEq, Int.reduceAdd, Int.reduceSub, Int.reduceMul, Int.reduceLT, Int.reduceLE, Int.reduceGT, Int.reduceGE, Int.reduceEq, Int.reduceNe, Int.reduceBEq, Int.reduceBNe, Int.reduceTMod, Int.reduceTDiv, ↓if_true, ↓if_false, F4, A4, he, e3]
        refine wcall_x specLoc (known_ct hwD) hwD ?_
        rintro out mE hwE hnE fE rfl
        simp (maxSteps := 2000000) (disch := first | assumption | omega | (simp only [nx_push, nx_set, ne_eq] <;> omega) | (simp only [XSide, F4]; done) | decide) only [XWalk, XSl, ↓XPre, reduceIte, Nat.reduceEqDiff, Nat.reduceLT, Nat.reduceAdd, Nat.reduceSub, Nat.reduceMul, Nat.reduceBEq, reduceCtorEq, Int.reduceAdd, Int.reduceSub, Int.reduceMul, Int.reduceLT, Int.reduceLE, Int.reduceGT, Int.reduceGE, Int.reduceEq, Int.reduceNe, Int.reduceBEq, Int.reduceBNe, Int.reduceTMod, Int.reduceTDiv, ↓if_true, ↓if_false, F4, A4, he]
end Go.Big
