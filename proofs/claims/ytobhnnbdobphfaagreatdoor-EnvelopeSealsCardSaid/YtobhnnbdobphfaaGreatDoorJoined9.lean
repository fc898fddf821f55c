/- Appending, as the walk meets it; small functions. -/
import Derived.Test.YtobhnnbdobphfaaGreatDoorJoined8
set_option linter.unusedSimpArgs false
set_option linter.unusedVariables false
set_option linter.unusedSimpArgs false
set_option linter.unusedVariables false
set_option maxRecDepth 100000
set_option maxHeartbeats 2000000
namespace Go.Big
open Go.Proofs

section
variable {P : Program} {m m' : Mem} {v x : Value} {a b : List UInt8} {n0 : Nat} {aT : Array TypeId} {bytes : Nat}

/-- An own slice of bytes. -/
abbrev Ab (m : Mem) (n0 : Nat) (v : Value) (l : List UInt8) : Prop := App m n0 v (u8s l)

theorem Appd.ok {cs : List Value} {v' : Value} {w : List Nat} (h : Appd m n0 v cs v' m' w) (h0 : ∀ b, slBlk v = some b → n0 ≤ b) (base : Nat) (hb : base ≤ n0) (L : List Nat) : OkW base L w := fun b hb' hlt => by
  have := h0 b (h.wr b hb'); omega

theorem wappend (h : appK P aT = some bytes) (hv : Ab m n0 v a) (hx : Bs m x b) (hlen : a.length + b.length ≤ 1073741824) (hn0 : n0 ≤ m.next) (hw : WF m) {K : Value → Mem → List Nat → Rd → Prop}
    (hk : ∀ v' m' w, Appd m n0 v (u8s (a ++ b)) v' m' w → (∀ base L, base ≤ n0 → OkW base L w) → K v' m' w .all) : @WV (aappend P aT v x m) ⟨K⟩ := by
  obtain ⟨v', m', w, h1, h2⟩ := append_app h hv hx u8s_one (by rw [u8s_length, u8s_length]; exact hlen) hn0 hw
  rw [h1]
  rw [← u8s_append] at h2
  exact hk v' m' w h2 (fun base L hb => h2.ok (fun b hb' => hv.blk_ge hb') base hb L)

theorem bs0 {t : TypeId} (h : bsK P t = true) : abuildSliceR P t 0 [] m = some (.slice (some ⟨m.next, 0, none⟩) 0 0, m.push (.row [] .rw), [], .no) := bs_row h (vs := []) rfl (by simp)
theorem App.empty (h : n0 ≤ m.next) : Ab (m.push (.row [] .rw)) n0 (.slice (some ⟨m.next, 0, none⟩) 0 0) [] := .buf (rs := []) h get_push_self rfl rfl (Nat.le_refl _) (Nat.le_refl _)

theorem Appd.keep {cs : List Value} {v' : Value} {w : List Nat} (h : Appd m n0 v cs v' m' w) (hw : WF m) {y : Value} {ds : List Value} (hy : Sl m y ds) (hne : ∀ b, slBlk v = some b → slBlk y ≠ some b) : Sl m' y ds :=
  hy.frame_at fun b hb => h.frame b (hy.blk_lt hw hb) fun e => hne b e hb
/-- What was there before the call began. -/
theorem Appd.old {cs : List Value} {v' : Value} {w : List Nat} (h : Appd m n0 v cs v' m' w) (h0 : ∀ b, slBlk v = some b → n0 ≤ b) : ∀ b, b < n0 → b < m.next → m'.get b = m.get b := fun b hb hb2 => h.frame b hb2 fun e => by have := h0 b e; omega
end

theorem clone_ct {m : Mem} (hw : WF m) {v : Value} {l : List UInt8} (hv : Bs m v l) (hl : l.length ≤ 1073741824) : Ct Tryz.prog S0 80 [v] m [] (Rv fun v' m' => Ab m' m.next v' l) := by
  refine ct_x (spec0 _) (by rfl) Tryz.func80 rfl ?_
  rcases hv.shape with ⟨rfl, h0⟩ | ⟨a, c, hs⟩
  · simp (maxSteps := 2000000) (disch := first | assumption | omega | (simp only [nx_push, nx_set, ne_eq] <;> omega) | (simp only [XSide, F80]; done) | decide) only [XWalk, XSl, ↓XPre, reduceIte, Nat.reduceEqDiff, Nat.reduceLT, Nat.reduceAdd, Nat.reduceSub, Nat.reduceMul, Nat.reduceBEq, reduceCtorEq, Int.reduceAdd, Int.reduceSub, Int.reduceMul, Int.reduceLT, Int.reduceLE, Int.reduceGT, Int.reduceGE, Int.reduceEq, Int.reduceNe, Int.reduceBEq, Int.reduceBNe, Int.reduceTMod, Int.reduceTDiv, ↓if_true, ↓if_false, F80, A80, Tryz.ntmps80]
    exact ⟨_, rfl, by show App _ _ _ (u8s l); rw [h0]; exact .nil⟩
  · have hn : ∀ m', abin Tryz.prog .eql 22 (.tmp 3) (.const (.slice none 0 0)) v (.slice none 0 0) m' = some (.bool false, m', [], .no) := fun m' => by rw [hs]; simp (maxSteps := 2000000) (disch := first | assumption | omega | (simp only [nx_push, nx_set, ne_eq] <;> omega) | (simp only [XSide, F80]; done) | decide) only [XWalk, XSl, ↓XPre, reduceIte, Nat.reduceEqDiff, Nat.reduceLT, Nat.reduceAdd, Nat.reduceSub, Nat.reduceMul, Nat.reduceBEq, reduceCtorEq, Int.reduceAdd, Int.reduceSub, Int.reduceMul, Int.reduceLT, Int.reduceLE, Int.reduceGT, Int.reduceGE, Int.reduceEq, Int.reduceNe, Int.reduceBEq, Int.reduceBNe, Int.reduceTMod, Int.reduceTDiv, ↓if_true, ↓if_false, F80, A80]
    simp (maxSteps := 2000000) (disch := first | assumption | omega | (simp only [nx_push, nx_set, ne_eq] <;> omega) | (simp only [XSide, F80]; done) | decide) only [XWalk, XSl, ↓XPre, reduceIte, Nat.reduceEqDiff, Nat.reduceLT, Nat.reduceAdd, Nat.reduceSub, Nat.reduceMul, Nat.reduceBEq, reduceCtorEq, Int.reduceAdd, Int.reduceSub, Int.reduceMul, Int.reduceLT, Int.reduceLE, Int.reduceGT, Int.reduceGE, Int.reduceEq, Int.reduceNe, Int.reduceBEq, Int.reduceBNe, Int.reduceTMod, Int.reduceTDiv, ↓if_true, ↓if_false, F80, A80, Tryz.ntmps80, hn, bs0]
    refine wappend (bytes := 1) (by simp only [F80]) (App.empty (Nat.le_refl _)) (hv.keep (Keep.push hw)) (by simp; exact hl) (by simp) hw.push fun v' m' w ha ok => ?_
    simp (maxSteps := 2000000) (disch := first | assumption | omega | (simp only [nx_push, nx_set, ne_eq] <;> omega) | (simp only [XSide, F80]; done) | decide) only [XWalk, XSl, ↓XPre, reduceIte, Nat.reduceEqDiff, Nat.reduceLT, Nat.reduceAdd, Nat.reduceSub, Nat.reduceMul, Nat.reduceBEq, reduceCtorEq, Int.reduceAdd, Int.reduceSub, Int.reduceMul, Int.reduceLT, Int.reduceLE, Int.reduceGT, Int.reduceGE, Int.reduceEq, Int.reduceNe, Int.reduceBEq, Int.reduceBNe, Int.reduceTMod, Int.reduceTDiv, ↓if_true, ↓if_false, F80, A80, ok m.next [] (Nat.le_refl _)]
    exact ⟨_, rfl, ha.app⟩

theorem equal_ct {m : Mem} {v x : Value} {a b : List UInt8} (hv : Bs m v a) (hx : Bs m x b) : Ct Tryz.prog S0 69 [v, x] m [] (fun out m' => out = .ret (.bool (a == b)) ∧ m' = m) := by
  refine ct_x (spec0 _) (by rfl) Tryz.func69 rfl ?_
  simp (maxSteps := 2000000) (disch := first | assumption | omega | (simp only [nx_push, nx_set, ne_eq] <;> omega) | (simp only [XSide, F69]; done) | decide) only [XWalk, XSl, ↓XPre, reduceIte, Nat.reduceEqDiff, Nat.reduceLT, Nat.reduceAdd, Nat.reduceSub, Nat.reduceMul, Nat.reduceBEq, reduceCtorEq, Int.reduceAdd, Int.reduceSub, Int.reduceMul, Int.reduceLT, Int.reduceLE, Int.reduceGT, Int.reduceGE, Int.reduceEq, Int.reduceNe, Int.reduceBEq, Int.reduceBNe, Int.reduceTMod, Int.reduceTDiv, ↓if_true, ↓if_false, F69, A69, Tryz.ntmps69]
  refine hv.wconv (by simp only [F69]) (by simp only [F69]) fun r hr => ?_
  simp (maxSteps := 2000000) (disch := first | assumption | omega | (simp only [nx_push, nx_set, ne_eq] <;> omega) | (simp only [XSide, F69]; done) | decide) only [XWalk, XSl, ↓XPre, reduceIte, Nat.reduceEqDiff, Nat.reduceLT, Nat.reduceAdd, Nat.reduceSub, Nat.reduceMul, Nat.reduceBEq, reduceCtorEq, Int.reduceAdd, Int.reduceSub, Int.reduceMul, Int.reduceLT, Int.reduceLE, Int.reduceGT, Int.reduceGE, Int.reduceEq, Int.reduceNe, Int.reduceBEq, Int.reduceBNe, Int.reduceTMod, Int.reduceTDiv, ↓if_true, ↓if_false, F69, A69]
  refine hx.wconv (by simp only [F69]) (by simp only [F69]) fun r hr => ?_
  simp (maxSteps := 2000000) (disch := first | assumption | omega | (simp only [nx_push, nx_set, ne_eq] <;> omega) | (simp only [XSide, F69]; done) | decide) only [XWalk, XSl, ↓XPre, reduceIte, Nat.reduceEqDiff, Nat.reduceLT, Nat.reduceAdd, Nat.reduceSub, Nat.reduceMul, Nat.reduceBEq, reduceCtorEq, Int.reduceAdd, Int.reduceSub, Int.reduceMul, Int.reduceLT, Int.reduceLE, Int.reduceGT, Int.reduceGE, Int.reduceEq, Int.reduceNe, Int.reduceBEq, Int.reduceBNe, Int.reduceTMod, Int.reduceTDiv, ↓if_true, ↓if_false, F69, A69]

theorem unless_ct {m : Mem} {c : Bool} {n : Int} : Ct Tryz.prog S0 29 [.bool c, .int .i64 n] m [] (fun out m' => out = .ret (.int .i64 (if c = true then 0 else n)) ∧ m' = m) := by
  refine ct_x (spec0 _) (by rfl) Tryz.func29 rfl ?_
  simp (maxSteps := 2000000) (disch := first | assumption | omega | (simp only [nx_push, nx_set, ne_eq] <;> omega) | (simp only [XSide, F29]; done) | decide) only [XWalk, XSl, ↓XPre, reduceIte, Nat.reduceEqDiff, Nat.reduceLT, Nat.reduceAdd, Nat.reduceSub, Nat.reduceMul, Nat.reduceBEq, reduceCtorEq, Int.reduceAdd, Int.reduceSub, Int.reduceMul, Int.reduceLT, Int.reduceLE, Int.reduceGT, Int.reduceGE, Int.reduceEq, Int.reduceNe, Int.reduceBEq, Int.reduceBNe, Int.reduceTMod, Int.reduceTDiv, ↓if_true, ↓if_false, F29, A29, Tryz.ntmps29]
  refine x_if (fun h => ?_) (fun h => ?_) <;> simp (maxSteps := 2000000) (disch := first | assumption | omega | (simp only [nx_push, nx_set, ne_eq] <;> omega) | (simp only [XSide, F29]; done) | decide) only [XWalk, XSl, ↓XPre, reduceIte, Nat.reduceEqDiff, Nat.reduceLT, Nat.reduceAdd, Nat.reduceSub, Nat.reduceMul, Nat.reduceBEq, reduceCtorEq, Int.reduceAdd, Int.reduceSub, Int.reduceMul, Int.reduceLT, Int.reduceLE, Int.reduceGT, Int.reduceGE, Int.reduceEq, Int.reduceNe, Int.reduceBEq, Int.reduceBNe, Int.reduceTMod, Int.reduceTDiv, ↓if_true, ↓if_false, F29, A29, h] <;> (try rfl)

theorem within_ct {m : Mem} {a b c : Int} : Ct Tryz.prog S0 43 [.int .i64 a, .int .i64 b, .int .i64 c] m [] (fun out m' => out = .ret (.bool (decide (a ≥ b) && decide (a ≤ c))) ∧ m' = m) := by
  refine ct_x (spec0 _) (by rfl) Tryz.func43 rfl ?_
  simp (maxSteps := 2000000) (disch := first | assumption | omega | (simp only [nx_push, nx_set, ne_eq] <;> omega) | (simp only [XSide, F43]; done) | decide) only [XWalk, XSl, ↓XPre, reduceIte, Nat.reduceEqDiff, Nat.reduceLT, Nat.reduceAdd, Nat.reduceSub, Nat.reduceMul, Nat.reduceBEq, reduceCtorEq, Int.reduceAdd, Int.reduceSub, Int.reduceMul, Int.reduceLT, Int.reduceLE, Int.reduceGT, Int.reduceGE, Int.reduceEq, Int.reduceNe, Int.reduceBEq, Int.reduceBNe, Int.reduceTMod, Int.reduceTDiv, ↓if_true, ↓if_false, F43, A43, Tryz.ntmps43]
  refine x_gd (fun h => ?_) (fun h => ?_) <;> simp (maxSteps := 2000000) (disch := first | assumption | omega | (simp only [nx_push, nx_set, ne_eq] <;> omega) | (simp only [XSide, F43]; done) | decide) only [XWalk, XSl, ↓XPre, reduceIte, Nat.reduceEqDiff, Nat.reduceLT, Nat.reduceAdd, Nat.reduceSub, Nat.reduceMul, Nat.reduceBEq, reduceCtorEq, Int.reduceAdd, Int.reduceSub, Int.reduceMul, Int.reduceLT, Int.reduceLE, Int.reduceGT, Int.reduceGE, Int.reduceEq, Int.reduceNe, Int.reduceBEq, Int.reduceBNe, Int.reduceTMod, Int.reduceTDiv, ↓if_true, ↓if_false, F43, A43, h] <;> simp

theorem numbers_ct {m : Mem} {r : Int} : Ct Tryz.prog S0 97 [.int .i64 r] m [] (fun out m' => out = .ret (.int .i64 (if r == 1 then 512 else if r == 2 then 32 else if r == 3 then 1 else 0)) ∧ m' = m) := by
  refine ct_x (spec0 _) (by rfl) Tryz.func97 rfl ?_
  simp (maxSteps := 2000000) (disch := first | assumption | omega | (simp only [nx_push, nx_set, ne_eq] <;> omega) | (simp only [XSide, F97]; done) | decide) only [XWalk, XSl, ↓XPre, reduceIte, Nat.reduceEqDiff, Nat.reduceLT, Nat.reduceAdd, Nat.reduceSub, Nat.reduceMul, Nat.reduceBEq, reduceCtorEq, Int.reduceAdd, Int.reduceSub, Int.reduceMul, Int.reduceLT, Int.reduceLE, Int.reduceGT, Int.reduceGE, Int.reduceEq, Int.reduceNe, Int.reduceBEq, Int.reduceBNe, Int.reduceTMod, Int.reduceTDiv, ↓if_true, ↓if_false, F97, A97, Tryz.ntmps97]
  refine x_if (fun h1 => ?_) (fun h1 => ?_)
  · simp (maxSteps := 2000000) (disch := first | assumption | omega | (simp only [nx_push, nx_set, ne_eq] <;> omega) | (simp only [XSide, F97]; done) | decide) only [XWalk, XSl, ↓XPre, reduceIte, Nat.reduceEqDiff, Nat.reduceLT, Nat.reduceAdd, Nat.reduceSub, Nat.reduceMul, Nat.reduceBEq, reduceCtorEq, Int.reduceAdd, Int.reduceSub, Int.reduceMul, Int.reduceLT, Int.reduceLE, Int.reduceGT, Int.reduceGE, Int.reduceEq, Int.reduceNe, Int.reduceBEq, Int.reduceBNe, Int.reduceTMod, Int.reduceTDiv, ↓if_true, ↓if_false, F97, A97, h1] <;> (try rfl)
  · simp (maxSteps := 2000000) (disch := first | assumption | omega | (simp only [nx_push, nx_set, ne_eq] <;> omega) | (simp only [XSide, F97]; done) | decide) only [XWalk, XSl, ↓XPre, reduceIte, Nat.reduceEqDiff, Nat.reduceLT, Nat.reduceAdd, Nat.reduceSub, Nat.reduceMul, Nat.reduceBEq, reduceCtorEq, Int.reduceAdd, Int.reduceSub, Int.reduceMul, Int.reduceLT, Int.reduceLE, Int.reduceGT, Int.reduceGE, Int.reduceEq, Int.reduceNe, Int.reduceBEq, Int.reduceBNe, Int.reduceTMod, Int.reduceTDiv, ↓if_true, ↓if_false, F97, A97, h1]
    refine x_if (fun h2 => ?_) (fun h2 => ?_)
    · simp (maxSteps := 2000000) (disch := first | assumption | omega | (simp only [nx_push, nx_set, ne_eq] <;> omega) | (simp only [XSide, F97]; done) | decide) only [XWalk, XSl, ↓XPre, reduceIte, Nat.reduceEqDiff, Nat.reduceLT, Nat.reduceAdd, Nat.reduceSub, Nat.reduceMul, Nat.reduceBEq, reduceCtorEq, Int.reduceAdd, Int.reduceSub, Int.reduceMul, Int.reduceLT, Int.reduceLE, Int.reduceGT, Int.reduceGE, Int.reduceEq, Int.reduceNe, Int.reduceBEq, Int.reduceBNe, Int.reduceTMod, Int.reduceTDiv, ↓if_true, ↓if_false, F97, A97, h1, h2] <;> (try rfl)
    · simp (maxSteps := 2000000) (disch := first | assumption | omega | (simp only [nx_push, nx_set, ne_eq] <;> omega) | (simp only [XSide, F97]; done) | decide) only [XWalk, XSl, ↓XPre, reduceIte, Nat.reduceEqDiff, Nat.reduceLT, Nat.reduceAdd, Nat.reduceSub, Nat.reduceMul, Nat.reduceBEq, reduceCtorEq, Int.reduceAdd, Int.reduceSub, Int.reduceMul, Int.reduceLT, Int.reduceLE, Int.reduceGT, Int.reduceGE, Int.reduceEq, Int.reduceNe, Int.reduceBEq, Int.reduceBNe, Int.reduceTMod, Int.reduceTDiv, ↓if_true, ↓if_false, F97, A97, h1, h2]
      refine x_if (fun h3 => ?_) (fun h3 => ?_)
      · simp (maxSteps := 2000000) (disch := first | assumption | omega | (simp only [nx_push, nx_set, ne_eq] <;> omega) | (simp only [XSide, F97]; done) | decide) only [XWalk, XSl, ↓XPre, reduceIte, Nat.reduceEqDiff, Nat.reduceLT, Nat.reduceAdd, Nat.reduceSub, Nat.reduceMul, Nat.reduceBEq, reduceCtorEq, Int.reduceAdd, Int.reduceSub, Int.reduceMul, Int.reduceLT, Int.reduceLE, Int.reduceGT, Int.reduceGE, Int.reduceEq, Int.reduceNe, Int.reduceBEq, Int.reduceBNe, Int.reduceTMod, Int.reduceTDiv, ↓if_true, ↓if_false, F97, A97, h1, h2, h3] <;> (try rfl)
      · simp (maxSteps := 2000000) (disch := first | assumption | omega | (simp only [nx_push, nx_set, ne_eq] <;> omega) | (simp only [XSide, F97]; done) | decide) only [XWalk, XSl, ↓XPre, reduceIte, Nat.reduceEqDiff, Nat.reduceLT, Nat.reduceAdd, Nat.reduceSub, Nat.reduceMul, Nat.reduceBEq, reduceCtorEq, Int.reduceAdd, Int.reduceSub, Int.reduceMul, Int.reduceLT, Int.reduceLE, Int.reduceGT, Int.reduceGE, Int.reduceEq, Int.reduceNe, Int.reduceBEq, Int.reduceBNe, Int.reduceTMod, Int.reduceTDiv, ↓if_true, ↓if_false, F97, A97, h1, h2, h3] <;> (try rfl)

end Go.Big

/- Slices of strings; trimming. -/
set_option linter.unusedSimpArgs false
set_option linter.unusedVariables false
set_option maxRecDepth 100000
set_option maxHeartbeats 2000000
namespace Go.Big
open Go.Proofs

section
variable {P : Program} {m : Mem} {ρ : Operand → Value} {d : Option Nat} {ty : TypeId} {ps : String} {af : Array Edge} {g : Option (Nat × Bool)} {t : TypeId} {x : Operand} {l : List UInt8} {k : IntKind} {a b : Nat}

def aslS (P : Program) (t : TypeId) (v : Value) (lo hi : Option Value) (m : Mem) : Res :=
  pv m (bif plain v && (lo.toList ++ hi.toList).all plain then (match eval0 P (Instr.sliceAt t v lo hi none) with | some v => bif plain v then some v else none | none => none) else none)
theorem aslM_str {s : ByteArray} {lo hi mx : Option Value} {o : Res} : aslM P t (.string s) lo hi mx m o = o := id rfl
theorem pureSl {lo hi : Option Operand} : pureOp P ρ ⟨d, .slice t x lo hi none, ty, ps, af, g⟩ = (bif plain (ρ x) && ((lo.map ρ).toList ++ (hi.map ρ).toList).all plain then (match eval0 P (Instr.sliceAt t (ρ x) (lo.map ρ) (hi.map ρ) none) with | some v => bif plain v then some v else none | none => none) else none) := by
  have h1 : (Op.slice t x lo hi none).operands.toList.all (fun x => plain (ρ x)) = (plain (ρ x) && ((lo.map ρ).toList ++ (hi.map ρ).toList).all plain) := by
    cases lo <;> cases hi <;> simp [Op.operands]
  unfold pureOp
  simp only [h1]
  cases plain (ρ x) && ((lo.map ρ).toList ++ (hi.map ρ).toList).all plain with
  | false => rfl
  | true =>
    simp only [cond_true, execOp, ev0_bind]
    have e1 : eval0 P (Instr.sliceAt t (ρ x) (lo.map ρ) (hi.map ρ) (Option.map ρ none)) = eval0 P (Instr.sliceAt t (ρ x) (lo.map ρ) (hi.map ρ) none) := rfl
    cases hq : eval0 P (Instr.sliceAt t (ρ x) (lo.map ρ) (hi.map ρ) none) with
    | none => simp only [Option.map_none, hq, Option.bind_none]
    | some v => simp only [Option.map_none, hq, Option.bind_some]; rfl
theorem pv_slice {lo hi : Option Operand} : pv m (pureOp P ρ ⟨d, .slice t x lo hi none, ty, ps, af, g⟩) = aslS P t (ρ x) (lo.map ρ) (hi.map ρ) m := by rw [pureSl]; rfl

theorem aslS_eval (ht : tyTag P t = 6) {lo hi : Option Value} (hl : ((lo.toList ++ hi.toList).all plain) = true) {q : Nat × Nat × Nat} (hb : eval0 P (Instr.sliceBounds false l.length l.length lo hi none) = some q) :
    aslS P t (str l) lo hi m = some (str ((l.drop q.1).take (q.2.1 - q.1)), m, [], .no) := by
  have h1 := tyTag_str ht
  have he : eval0 P (Instr.sliceAt t (str l) lo hi none) = some (str ((l.drop q.1).take (q.2.1 - q.1))) := by
    unfold Instr.sliceAt
    rw [ev0_bind, ev0_under h1]
    simp only [Option.bind_some]
    unfold Instr.slice
    rw [ev0_bind, ev0_under h1]
    simp only [Option.bind_some, Option.isSome_none, Bool.false_eq_true, if_false]
    rw [size_str', ev0_bind, hb]
    simp only [Option.bind_some, ev0_pure, Option.some.injEq, Value.string.injEq]
    apply ByteArray.ext
    apply Array.toList_inj.1
    simp only [ByteArray.data_extract, Array.toList_extract, List.extract_eq_take_drop]
  unfold aslS
  rw [show plain (str l) = true from rfl, hl, he]
  rfl

theorem bound_ok {n : Nat} {c : BoundsCode} (h : a ≤ n) : eval0 P (Instr.sliceBound (.int k (a : Int)) n c) = some a := by
  unfold Instr.sliceBound asIntOf
  rw [ev0_bind, ev0_pure]
  simp only [Option.bind_some]
  rw [if_pos ⟨by omega, by omega⟩]
  rfl
theorem aslS_lo (ht : tyTag P t = 6) (h : a ≤ l.length) : aslS P t (str l) (some (.int k (a : Int))) none m = some (str (l.drop a), m, [], .no) := by
  rw [aslS_eval ht (q := (a, l.length, l.length)) rfl ?_]
  · rw [List.take_of_length_le (by simp)]
  · unfold Instr.sliceBounds
    simp only [ev0_bind, ev0_pure, Option.bind_some, bound_ok h]
theorem aslS_hi (ht : tyTag P t = 6) (h : b ≤ l.length) : aslS P t (str l) none (some (.int k (b : Int))) m = some (str (l.take b), m, [], .no) := by
  rw [aslS_eval ht (q := (0, b, l.length)) rfl ?_]
  · rfl
  · unfold Instr.sliceBounds
    simp only [ev0_bind, ev0_pure, Option.bind_some, bound_ok h]
theorem aslS_lo_lit (ht : tyTag P t = 6) (h : a ≤ l.length) : aslS P t (str l) (some (.int k (no_index (OfNat.ofNat a)))) none m = some (str (l.drop a), m, [], .no) := aslS_lo ht h
theorem aidx_lit {c : UInt8} (ht : tyTag P t = 6) (hi : l[a]? = some c) : aidx P t (str l) (.int k (no_index (OfNat.ofNat a))) m = some (.int .u8 c.toNat, m, [], .no) := aidx_str' ht hi
end

/-! ### Trimming -/

def setCells (s : List UInt8) : List Value := (List.range 256).map fun c => .bool (s.any fun b => b.toNat == c)
theorem setCells_get {s : List UInt8} {b : UInt8} : (setCells s)[b.toNat]? = some (.bool (s.contains b)) := by
  have := b.toNat_lt
  have e : (s.any fun x => x.toNat == b.toNat) = s.contains b := by
    rw [List.contains_eq_any_beq]
    congr 1
    funext x
    rw [Bool.eq_iff_iff]
    simp only [beq_iff_eq]
    constructor
    · intro h; exact (UInt8.toNat_inj.1 h).symm
    · rintro rfl; rfl
  simp [setCells, this, e]
theorem setCells_len {s : List UInt8} : (setCells s).length = 256 := by simp [setCells]
theorem setCells_one {s : List UInt8} : (setCells s).all oneCell = true := by
  rw [List.all_eq_true]
  intro x hx
  simp only [setCells, List.mem_map] at hx
  obtain ⟨b, _, rfl⟩ := hx
  rfl
theorem setCells_set {s : List UInt8} {b : UInt8} : (setCells s).set b.toNat (.bool true) = setCells (s ++ [b]) := by
  have hb := b.toNat_lt
  apply List.ext_getElem?
  intro j
  by_cases hj : j = b.toNat
  · subst hj
    rw [set_self, setCells_len, if_pos hb]
    simp [setCells, hb]
  · rw [List.getElem?_set_ne (Ne.symm hj)]
    by_cases h2 : j < 256
    · simp [setCells, h2, Ne.symm hj]
    · rw [List.getElem?_eq_none (by rw [setCells_len]; omega), List.getElem?_eq_none (by rw [setCells_len]; omega)]

theorem ascii_ct {m : Mem} (hw : WF m) {l : List UInt8} (ha : ∀ b ∈ l, b.toNat < 128) (hl : l.length ≤ 1073741824) : Ct Tryz.prog S0 128 [str l] m [] (fun out m' => out = .ret (.tuple #[.agg (setCells l).toArray, .bool true])) := by
  refine ct_x (spec0 _) (by rfl) Tryz.func128 rfl ?_
  simp (maxSteps := 2000000) (disch := first | assumption | omega | (simp only [nx_push, nx_set, ne_eq] <;> omega) | (simp only [XSide, F128]; done) | decide) only [XWalk, XSl, ↓XPre, reduceIte, Nat.reduceEqDiff, Nat.reduceLT, Nat.reduceAdd, Nat.reduceSub, Nat.reduceMul, Nat.reduceBEq, reduceCtorEq, Int.reduceAdd, Int.reduceSub, Int.reduceMul, Int.reduceLT, Int.reduceLE, Int.reduceGT, Int.reduceGE, Int.reduceEq, Int.reduceNe, Int.reduceBEq, Int.reduceBNe, Int.reduceTMod, Int.reduceTDiv, ↓if_true, ↓if_false, F128, A128, Tryz.ntmps128]
  refine x_loop (fun k e m1 => ∃ i, i + k = l.length ∧ e.n = 21 ∧ e.get 0 = str l ∧ e.get 2 = .pointer (some ⟨m.next, 0, none⟩) ∧ e.get 4 = .int .i64 ((i : Nat) : Int) ∧ WF m1 ∧ m1.next = m.next + 1 ∧ m1.get m.next = some (.row (setCells (l.take i)) .rw)) l.length
    ⟨0, by omega, by simp (maxSteps := 2000000) (disch := first | assumption | omega | (simp only [nx_push, nx_set, ne_eq] <;> omega) | (simp only [XSide]; done) | decide) only [XWalk, XSl, ↓XPre, reduceIte, Nat.reduceEqDiff, Nat.reduceLT, Nat.reduceAdd, Nat.reduceSub, Nat.reduceMul, Nat.reduceBEq, reduceCtorEq, Int.reduceAdd, Int.reduceSub, Int.reduceMul, Int.reduceLT, Int.reduceLE, Int.reduceGT, Int.reduceGE, Int.reduceEq, Int.reduceNe, Int.reduceBEq, Int.reduceBNe, Int.reduceTMod, Int.reduceTDiv, ↓if_true, ↓if_false], by simp (maxSteps := 2000000) (disch := first | assumption | omega | (simp only [nx_push, nx_set, ne_eq] <;> omega) | (simp only [XSide]; done) | decide) only [XWalk, XSl, ↓XPre, reduceIte, Nat.reduceEqDiff, Nat.reduceLT, Nat.reduceAdd, Nat.reduceSub, Nat.reduceMul, Nat.reduceBEq, reduceCtorEq, Int.reduceAdd, Int.reduceSub, Int.reduceMul, Int.reduceLT, Int.reduceLE, Int.reduceGT, Int.reduceGE, Int.reduceEq, Int.reduceNe, Int.reduceBEq, Int.reduceBNe, Int.reduceTMod, Int.reduceTDiv, ↓if_true, ↓if_false], by simp (maxSteps := 2000000) (disch := first | assumption | omega | (simp only [nx_push, nx_set, ne_eq] <;> omega) | (simp only [XSide]; done) | decide) only [XWalk, XSl, ↓XPre, reduceIte, Nat.reduceEqDiff, Nat.reduceLT, Nat.reduceAdd, Nat.reduceSub, Nat.reduceMul, Nat.reduceBEq, reduceCtorEq, Int.reduceAdd, Int.reduceSub, Int.reduceMul, Int.reduceLT, Int.reduceLE, Int.reduceGT, Int.reduceGE, Int.reduceEq, Int.reduceNe, Int.reduceBEq, Int.reduceBNe, Int.reduceTMod, Int.reduceTDiv, ↓if_true, ↓if_false], by simp (maxSteps := 2000000) (disch := first | assumption | omega | (simp only [nx_push, nx_set, ne_eq] <;> omega) | (simp only [XSide]; done) | decide) only [XWalk, XSl, ↓XPre, reduceIte, Nat.reduceEqDiff, Nat.reduceLT, Nat.reduceAdd, Nat.reduceSub, Nat.reduceMul, Nat.reduceBEq, reduceCtorEq, Int.reduceAdd, Int.reduceSub, Int.reduceMul, Int.reduceLT, Int.reduceLE, Int.reduceGT, Int.reduceGE, Int.reduceEq, Int.reduceNe, Int.reduceBEq, Int.reduceBNe, Int.reduceTMod, Int.reduceTDiv, ↓if_true, ↓if_false]; rfl, hw.push, rfl, by rw [get_push_self]; rfl⟩ ?_
  rintro k e m1 ⟨i, hi, he, q0, q2, q4, hw1, hn1, hm1⟩
  simp (maxSteps := 2000000) (disch := first | assumption | omega | (simp only [nx_push, nx_set, ne_eq] <;> omega) | (simp only [XSide, F128]; done) | decide) only [XWalk, XSl, ↓XPre, reduceIte, Nat.reduceEqDiff, Nat.reduceLT, Nat.reduceAdd, Nat.reduceSub, Nat.reduceMul, Nat.reduceBEq, reduceCtorEq, Int.reduceAdd, Int.reduceSub, Int.reduceMul, Int.reduceLT, Int.reduceLE, Int.reduceGT, Int.reduceGE, Int.reduceEq, Int.reduceNe, Int.reduceBEq, Int.reduceBNe, Int.reduceTMod, Int.reduceTDiv, ↓if_true, ↓if_false, F128, A128, he, q0, q4]
  refine x_if (fun ht => ?_) (fun ht => ?_)
  · have hk : i < l.length := by have := of_decide_eq_true ht; omega
    have hli : l[i]? = some l[i] := List.getElem?_eq_getElem hk
    have h128 := ha l[i] (List.getElem_mem hk)
    have e2 : IntKind.wrap .i64 ((i : Int) + 1) = ((i + 1 : Nat) : Int) := by rw [wrap_i64 (by omega) (by omega)]; omega
    simp (maxSteps := 2000000) (disch := first | assumption | omega | (simp only [nx_push, nx_set, ne_eq] <;> omega) | (simp only [XSide, F128]; done) | decide) only [XWalk, XSl, ↓XPre, reduceIte, Nat.reduceEqDiff, Nat.reduceLT, Nat.reduceAdd, Nat.reduceSub, Nat.reduceMul, Nat.reduceBEq, reduceCtorEq, Int.reduceAdd, Int.reduceSub, Int.reduceMul, Int.reduceLT, Int.reduceLE, Int.reduceGT, Int.reduceGE, Int.reduceEq, Int.reduceNe, Int.reduceBEq, Int.reduceBNe, Int.reduceTMod, Int.reduceTDiv, ↓if_true, ↓if_false, F128, A128, he, q0, q4, aidx_str' (show tyTag Tryz.prog 9 = 6 by simp only [F128]) hli, show decide ((l[i].toNat : Int) ≥ 128) = false by simp; omega]
    have h256 : l[i].toNat < 256 := l[i].toNat_lt
    simp (maxSteps := 2000000) (disch := first | assumption | omega | (simp only [nx_push, nx_set, ne_eq] <;> omega) | (simp only [XSide, F128]; done) | decide) only [XWalk, XSl, ↓XPre, reduceIte, Nat.reduceEqDiff, Nat.reduceLT, Nat.reduceAdd, Nat.reduceSub, Nat.reduceMul, Nat.reduceBEq, reduceCtorEq, Int.reduceAdd, Int.reduceSub, Int.reduceMul, Int.reduceLT, Int.reduceLE, Int.reduceGT, Int.reduceGE, Int.reduceEq, Int.reduceNe, Int.reduceBEq, Int.reduceBNe, Int.reduceTMod, Int.reduceTDiv, ↓if_true, ↓if_false, F128, A128, he, q0, q2, q4, hm1, setCells_len, e2]
    refine ⟨k - 1, by omega, i + 1, by omega, rfl, hw1.set (by omega), hn1, ?_⟩
    rw [setCells_set, List.take_succ_eq_append_getElem hk]
  · have hk : i = l.length := by have := of_decide_eq_false ht; omega
    subst hk
    have lN : loadN (setCells (l.take l.length)) 0 256 = some (setCells (l.take l.length)) := loadN_all setCells_len
    have bq : Nat.beq (setCells (l.take l.length)).length 256 = true := by rw [setCells_len]; rfl
    have ho := setCells_one (s := l.take l.length)
    simp (maxSteps := 2000000) (disch := first | assumption | omega | (simp only [nx_push, nx_set, ne_eq] <;> omega) | (simp only [XSide, F128]; done) | decide) only [XWalk, XSl, ↓XPre, reduceIte, Nat.reduceEqDiff, Nat.reduceLT, Nat.reduceAdd, Nat.reduceSub, Nat.reduceMul, Nat.reduceBEq, reduceCtorEq, Int.reduceAdd, Int.reduceSub, Int.reduceMul, Int.reduceLT, Int.reduceLE, Int.reduceGT, Int.reduceGE, Int.reduceEq, Int.reduceNe, Int.reduceBEq, Int.reduceBNe, Int.reduceTMod, Int.reduceTDiv, ↓if_true, ↓if_false, F128, A128, he, q0, q2, hm1, loadRow_agg, lN, bq]
    rw [List.take_length]

end Go.Big

/- Trimming; names. -/
set_option linter.unusedSimpArgs false
set_option linter.unusedVariables false
set_option maxRecDepth 100000
set_option maxHeartbeats 2000000
namespace Go.Big
open Go.Proofs

theorem contains_ct {m : Mem} {b : Nat} {s : List UInt8} (hm : m.get b = some (.row (setCells s) .rw)) {c : UInt8} : Ct Tryz.prog S0 137 [.pointer (some ⟨b, 0, none⟩), .int .u8 (c.toNat : Int)] m [] (fun out m' => out = .ret (.bool (s.contains c)) ∧ m' = m) := by
  have h256 : c.toNat < 256 := c.toNat_lt
  refine ct_x (spec0 _) (by rfl) Tryz.func137 rfl ?_
  simp (maxSteps := 2000000) (disch := first | assumption | omega | (simp only [nx_push, nx_set, ne_eq] <;> omega) | (simp only [XSide, F137]; done) | decide) only [XWalk, XSl, ↓XPre, reduceIte, Nat.reduceEqDiff, Nat.reduceLT, Nat.reduceAdd, Nat.reduceSub, Nat.reduceMul, Nat.reduceBEq, reduceCtorEq, Int.reduceAdd, Int.reduceSub, Int.reduceMul, Int.reduceLT, Int.reduceLE, Int.reduceGT, Int.reduceGE, Int.reduceEq, Int.reduceNe, Int.reduceBEq, Int.reduceBNe, Int.reduceTMod, Int.reduceTDiv, ↓if_true, ↓if_false, F137, A137, Tryz.ntmps137, hm, setCells_get]

def trimR (p : UInt8 → Bool) (l : List UInt8) : List UInt8 := (l.reverse.dropWhile p).reverse

theorem trimR_last {p : UInt8 → Bool} {l : List UInt8} {b : UInt8} : trimR p (l ++ [b]) = if p b then trimR p l else l ++ [b] := by
  unfold trimR
  rw [List.reverse_append, List.reverse_cons, List.reverse_nil, List.nil_append, List.singleton_append, List.dropWhile_cons]
  split <;> simp

theorem trimRight_ct {m : Mem} {b : Nat} {s l : List UInt8} (hm : m.get b = some (.row (setCells s) .rw)) (hl : l.length ≤ 1073741824) : Ct Tryz.prog S0 130 [str l, .pointer (some ⟨b, 0, none⟩)] m [] (fun out m' => out = .ret (str (trimR s.contains l)) ∧ m' = m) := by
  refine ct_x (spec0 _) (by rfl) Tryz.func130 rfl ?_
  simp (maxSteps := 2000000) (disch := first | assumption | omega | (simp only [nx_push, nx_set, ne_eq] <;> omega) | (simp only [XSide, F130]; done) | decide) only [XWalk, XSl, ↓XPre, reduceIte, Nat.reduceEqDiff, Nat.reduceLT, Nat.reduceAdd, Nat.reduceSub, Nat.reduceMul, Nat.reduceBEq, reduceCtorEq, Int.reduceAdd, Int.reduceSub, Int.reduceMul, Int.reduceLT, Int.reduceLE, Int.reduceGT, Int.reduceGE, Int.reduceEq, Int.reduceNe, Int.reduceBEq, Int.reduceBNe, Int.reduceTMod, Int.reduceTDiv, ↓if_true, ↓if_false, F130, A130, Tryz.ntmps130]
  refine x_loop (fun k e m1 => ∃ l1, l1.length = k ∧ trimR s.contains l1 = trimR s.contains l ∧ l1.length ≤ l.length ∧ e.n = 22 ∧ e.get 0 = str l1 ∧ e.get 1 = .pointer (some ⟨b, 0, none⟩) ∧ m1 = m) l.length ⟨l, rfl, rfl, Nat.le_refl _, by simp (maxSteps := 2000000) (disch := first | assumption | omega | (simp only [nx_push, nx_set, ne_eq] <;> omega) | (simp only [XSide]; done) | decide) only [XWalk, XSl, ↓XPre, reduceIte, Nat.reduceEqDiff, Nat.reduceLT, Nat.reduceAdd, Nat.reduceSub, Nat.reduceMul, Nat.reduceBEq, reduceCtorEq, Int.reduceAdd, Int.reduceSub, Int.reduceMul, Int.reduceLT, Int.reduceLE, Int.reduceGT, Int.reduceGE, Int.reduceEq, Int.reduceNe, Int.reduceBEq, Int.reduceBNe, Int.reduceTMod, Int.reduceTDiv, ↓if_true, ↓if_false], by simp (maxSteps := 2000000) (disch := first | assumption | omega | (simp only [nx_push, nx_set, ne_eq] <;> omega) | (simp only [XSide]; done) | decide) only [XWalk, XSl, ↓XPre, reduceIte, Nat.reduceEqDiff, Nat.reduceLT, Nat.reduceAdd, Nat.reduceSub, Nat.reduceMul, Nat.reduceBEq, reduceCtorEq, Int.reduceAdd, Int.reduceSub, Int.reduceMul, Int.reduceLT, Int.reduceLE, Int.reduceGT, Int.reduceGE, Int.reduceEq, Int.reduceNe, Int.reduceBEq, Int.reduceBNe, Int.reduceTMod, Int.reduceTDiv, ↓if_true, ↓if_false], by simp (maxSteps := 2000000) (disch := first | assumption | omega | (simp only [nx_push, nx_set, ne_eq] <;> omega) | (simp only [XSide]; done) | decide) only [XWalk, XSl, ↓XPre, reduceIte, Nat.reduceEqDiff, Nat.reduceLT, Nat.reduceAdd, Nat.reduceSub, Nat.reduceMul, Nat.reduceBEq, reduceCtorEq, Int.reduceAdd, Int.reduceSub, Int.reduceMul, Int.reduceLT, Int.reduceLE, Int.reduceGT, Int.reduceGE, Int.reduceEq, Int.reduceNe, Int.reduceBEq, Int.reduceBNe, Int.reduceTMod, Int.reduceTDiv, ↓if_true, ↓if_false], rfl⟩ ?_
  rintro k e m1 ⟨l1, hk, htr, hle, he, q0, q1, rfl⟩
  simp (maxSteps := 2000000) (disch := first | assumption | omega | (simp only [nx_push, nx_set, ne_eq] <;> omega) | (simp only [XSide, F130]; done) | decide) only [XWalk, XSl, ↓XPre, reduceIte, Nat.reduceEqDiff, Nat.reduceLT, Nat.reduceAdd, Nat.reduceSub, Nat.reduceMul, Nat.reduceBEq, reduceCtorEq, Int.reduceAdd, Int.reduceSub, Int.reduceMul, Int.reduceLT, Int.reduceLE, Int.reduceGT, Int.reduceGE, Int.reduceEq, Int.reduceNe, Int.reduceBEq, Int.reduceBNe, Int.reduceTMod, Int.reduceTDiv, ↓if_true, ↓if_false, F130, A130, he, q0]
  refine x_if (fun ht => ?_) (fun ht => ?_)
  · have hk0 : 0 < l1.length := by have := of_decide_eq_true ht; omega
    obtain ⟨l2, c, rfl⟩ : ∃ l2 c, l1 = l2 ++ [c] := ⟨l1.dropLast, l1.getLast (by rintro rfl; simp at hk0), (List.dropLast_concat_getLast _).symm⟩
    rw [List.length_append, List.length_singleton] at hle hk
    have e1 : IntKind.wrap .i64 (((l2 ++ [c]).length : Int) - 1) = ((l2.length : Nat) : Int) := by rw [List.length_append, List.length_singleton, wrap_i64 (by omega) (by omega)]; omega
    have hli : (l2 ++ [c])[l2.length]? = some c := by simp
    rw [trimR_last] at htr
    simp (maxSteps := 2000000) (disch := first | assumption | omega | (simp only [nx_push, nx_set, ne_eq] <;> omega) | (simp only [XSide, F130]; done) | decide) only [XWalk, XSl, ↓XPre, reduceIte, Nat.reduceEqDiff, Nat.reduceLT, Nat.reduceAdd, Nat.reduceSub, Nat.reduceMul, Nat.reduceBEq, reduceCtorEq, Int.reduceAdd, Int.reduceSub, Int.reduceMul, Int.reduceLT, Int.reduceLE, Int.reduceGT, Int.reduceGE, Int.reduceEq, Int.reduceNe, Int.reduceBEq, Int.reduceBNe, Int.reduceTMod, Int.reduceTDiv, ↓if_true, ↓if_false, F130, A130, he, q0, q1, e1, aidx_str' (show tyTag Tryz.prog 9 = 6 by simp only [F130]) hli]
    refine wcall_pu (pu_of (contains_ct hm)) ?_
    simp (maxSteps := 2000000) (disch := first | assumption | omega | (simp only [nx_push, nx_set, ne_eq] <;> omega) | (simp only [XSide, F130]; done) | decide) only [XWalk, XSl, ↓XPre, reduceIte, Nat.reduceEqDiff, Nat.reduceLT, Nat.reduceAdd, Nat.reduceSub, Nat.reduceMul, Nat.reduceBEq, reduceCtorEq, Int.reduceAdd, Int.reduceSub, Int.reduceMul, Int.reduceLT, Int.reduceLE, Int.reduceGT, Int.reduceGE, Int.reduceEq, Int.reduceNe, Int.reduceBEq, Int.reduceBNe, Int.reduceTMod, Int.reduceTDiv, ↓if_true, ↓if_false, F130, A130, he]
    refine x_if (fun hc => ?_) (fun hc => ?_)
    · have hc' : s.contains c = false := by simpa using hc
      rw [hc'] at htr
      simp (maxSteps := 2000000) (disch := first | assumption | omega | (simp only [nx_push, nx_set, ne_eq] <;> omega) | (simp only [XSide, F130]; done) | decide) only [XWalk, XSl, ↓XPre, reduceIte, Nat.reduceEqDiff, Nat.reduceLT, Nat.reduceAdd, Nat.reduceSub, Nat.reduceMul, Nat.reduceBEq, reduceCtorEq, Int.reduceAdd, Int.reduceSub, Int.reduceMul, Int.reduceLT, Int.reduceLE, Int.reduceGT, Int.reduceGE, Int.reduceEq, Int.reduceNe, Int.reduceBEq, Int.reduceBNe, Int.reduceTMod, Int.reduceTDiv, ↓if_true, ↓if_false, F130, A130, he, q0]
      rw [← htr]; rfl
    · have hc' : s.contains c = true := by simpa using hc
      rw [hc'] at htr
      have htk : (l2 ++ [c]).take l2.length = l2 := by rw [List.take_left]
      simp (maxSteps := 2000000) (disch := first | assumption | omega | (simp only [nx_push, nx_set, ne_eq] <;> omega) | (simp only [XSide, F130]; done) | decide) only [XWalk, XSl, ↓XPre, reduceIte, Nat.reduceEqDiff, Nat.reduceLT, Nat.reduceAdd, Nat.reduceSub, Nat.reduceMul, Nat.reduceBEq, reduceCtorEq, Int.reduceAdd, Int.reduceSub, Int.reduceMul, Int.reduceLT, Int.reduceLE, Int.reduceGT, Int.reduceGE, Int.reduceEq, Int.reduceNe, Int.reduceBEq, Int.reduceBNe, Int.reduceTMod, Int.reduceTDiv, ↓if_true, ↓if_false, F130, A130, he, q0, q1, e1, aslM_str, pv_slice, aslS_hi (show tyTag Tryz.prog 9 = 6 by simp only [F130]) (show l2.length ≤ (l2 ++ [c]).length by simp), htk]
      exact ⟨l2.length, by omega, l2, rfl, htr, by omega, rfl⟩
  · have hk0 : l1 = [] := List.eq_nil_of_length_eq_zero (by have := of_decide_eq_false ht; omega)
    subst hk0
    simp (maxSteps := 2000000) (disch := first | assumption | omega | (simp only [nx_push, nx_set, ne_eq] <;> omega) | (simp only [XSide, F130]; done) | decide) only [XWalk, XSl, ↓XPre, reduceIte, Nat.reduceEqDiff, Nat.reduceLT, Nat.reduceAdd, Nat.reduceSub, Nat.reduceMul, Nat.reduceBEq, reduceCtorEq, Int.reduceAdd, Int.reduceSub, Int.reduceMul, Int.reduceLT, Int.reduceLE, Int.reduceGT, Int.reduceGE, Int.reduceEq, Int.reduceNe, Int.reduceBEq, Int.reduceBNe, Int.reduceTMod, Int.reduceTDiv, ↓if_true, ↓if_false, F130, A130, he, q0]
    rw [← htr]; rfl

theorem trimLeft_ct {m : Mem} {b : Nat} {s l : List UInt8} (hm : m.get b = some (.row (setCells s) .rw)) (hl : l.length ≤ 1073741824) : Ct Tryz.prog S0 129 [str l, .pointer (some ⟨b, 0, none⟩)] m [] (fun out m' => out = .ret (str (l.dropWhile s.contains)) ∧ m' = m) := by
  refine ct_x (spec0 _) (by rfl) Tryz.func129 rfl ?_
  simp (maxSteps := 2000000) (disch := first | assumption | omega | (simp only [nx_push, nx_set, ne_eq] <;> omega) | (simp only [XSide, F129]; done) | decide) only [XWalk, XSl, ↓XPre, reduceIte, Nat.reduceEqDiff, Nat.reduceLT, Nat.reduceAdd, Nat.reduceSub, Nat.reduceMul, Nat.reduceBEq, reduceCtorEq, Int.reduceAdd, Int.reduceSub, Int.reduceMul, Int.reduceLT, Int.reduceLE, Int.reduceGT, Int.reduceGE, Int.reduceEq, Int.reduceNe, Int.reduceBEq, Int.reduceBNe, Int.reduceTMod, Int.reduceTDiv, ↓if_true, ↓if_false, F129, A129, Tryz.ntmps129]
  refine x_loop (fun k e m1 => ∃ l1, l1.length = k ∧ l1.dropWhile s.contains = l.dropWhile s.contains ∧ e.n = 16 ∧ e.get 0 = str l1 ∧ e.get 1 = .pointer (some ⟨b, 0, none⟩) ∧ m1 = m) l.length ⟨l, rfl, rfl, by simp (maxSteps := 2000000) (disch := first | assumption | omega | (simp only [nx_push, nx_set, ne_eq] <;> omega) | (simp only [XSide]; done) | decide) only [XWalk, XSl, ↓XPre, reduceIte, Nat.reduceEqDiff, Nat.reduceLT, Nat.reduceAdd, Nat.reduceSub, Nat.reduceMul, Nat.reduceBEq, reduceCtorEq, Int.reduceAdd, Int.reduceSub, Int.reduceMul, Int.reduceLT, Int.reduceLE, Int.reduceGT, Int.reduceGE, Int.reduceEq, Int.reduceNe, Int.reduceBEq, Int.reduceBNe, Int.reduceTMod, Int.reduceTDiv, ↓if_true, ↓if_false], by simp (maxSteps := 2000000) (disch := first | assumption | omega | (simp only [nx_push, nx_set, ne_eq] <;> omega) | (simp only [XSide]; done) | decide) only [XWalk, XSl, ↓XPre, reduceIte, Nat.reduceEqDiff, Nat.reduceLT, Nat.reduceAdd, Nat.reduceSub, Nat.reduceMul, Nat.reduceBEq, reduceCtorEq, Int.reduceAdd, Int.reduceSub, Int.reduceMul, Int.reduceLT, Int.reduceLE, Int.reduceGT, Int.reduceGE, Int.reduceEq, Int.reduceNe, Int.reduceBEq, Int.reduceBNe, Int.reduceTMod, Int.reduceTDiv, ↓if_true, ↓if_false], by simp (maxSteps := 2000000) (disch := first | assumption | omega | (simp only [nx_push, nx_set, ne_eq] <;> omega) | (simp only [XSide]; done) | decide) only [XWalk, XSl, ↓XPre, reduceIte, Nat.reduceEqDiff, Nat.reduceLT, Nat.reduceAdd, Nat.reduceSub, Nat.reduceMul, Nat.reduceBEq, reduceCtorEq, Int.reduceAdd, Int.reduceSub, Int.reduceMul, Int.reduceLT, Int.reduceLE, Int.reduceGT, Int.reduceGE, Int.reduceEq, Int.reduceNe, Int.reduceBEq, Int.reduceBNe, Int.reduceTMod, Int.reduceTDiv, ↓if_true, ↓if_false], rfl⟩ ?_
  rintro k e m1 ⟨l1, hk, htr, he, q0, q1, rfl⟩
  simp (maxSteps := 2000000) (disch := first | assumption | omega | (simp only [nx_push, nx_set, ne_eq] <;> omega) | (simp only [XSide, F129]; done) | decide) only [XWalk, XSl, ↓XPre, reduceIte, Nat.reduceEqDiff, Nat.reduceLT, Nat.reduceAdd, Nat.reduceSub, Nat.reduceMul, Nat.reduceBEq, reduceCtorEq, Int.reduceAdd, Int.reduceSub, Int.reduceMul, Int.reduceLT, Int.reduceLE, Int.reduceGT, Int.reduceGE, Int.reduceEq, Int.reduceNe, Int.reduceBEq, Int.reduceBNe, Int.reduceTMod, Int.reduceTDiv, ↓if_true, ↓if_false, F129, A129, he, q0]
  refine x_if (fun ht => ?_) (fun ht => ?_)
  · have hk0 : 0 < l1.length := by have := of_decide_eq_true ht; omega
    obtain ⟨c, l2, rfl⟩ : ∃ c l2, l1 = c :: l2 := by
      cases l1 with
      | nil => simp at hk0
      | cons c l2 => exact ⟨c, l2, rfl⟩
    rw [List.dropWhile_cons] at htr
    simp (maxSteps := 2000000) (disch := first | assumption | omega | (simp only [nx_push, nx_set, ne_eq] <;> omega) | (simp only [XSide, F129]; done) | decide) only [XWalk, XSl, ↓XPre, reduceIte, Nat.reduceEqDiff, Nat.reduceLT, Nat.reduceAdd, Nat.reduceSub, Nat.reduceMul, Nat.reduceBEq, reduceCtorEq, Int.reduceAdd, Int.reduceSub, Int.reduceMul, Int.reduceLT, Int.reduceLE, Int.reduceGT, Int.reduceGE, Int.reduceEq, Int.reduceNe, Int.reduceBEq, Int.reduceBNe, Int.reduceTMod, Int.reduceTDiv, ↓if_true, ↓if_false, F129, A129, he, q0, q1, aidx_lit (show tyTag Tryz.prog 9 = 6 by simp only [F129]) (show (c :: l2)[0]? = some c from rfl)]
    refine wcall_pu (pu_of (contains_ct hm)) ?_
    simp (maxSteps := 2000000) (disch := first | assumption | omega | (simp only [nx_push, nx_set, ne_eq] <;> omega) | (simp only [XSide, F129]; done) | decide) only [XWalk, XSl, ↓XPre, reduceIte, Nat.reduceEqDiff, Nat.reduceLT, Nat.reduceAdd, Nat.reduceSub, Nat.reduceMul, Nat.reduceBEq, reduceCtorEq, Int.reduceAdd, Int.reduceSub, Int.reduceMul, Int.reduceLT, Int.reduceLE, Int.reduceGT, Int.reduceGE, Int.reduceEq, Int.reduceNe, Int.reduceBEq, Int.reduceBNe, Int.reduceTMod, Int.reduceTDiv, ↓if_true, ↓if_false, F129, A129, he]
    refine x_if (fun hc => ?_) (fun hc => ?_)
    · have hc' : s.contains c = false := by simpa using hc
      rw [hc'] at htr
      simp (maxSteps := 2000000) (disch := first | assumption | omega | (simp only [nx_push, nx_set, ne_eq] <;> omega) | (simp only [XSide, F129]; done) | decide) only [XWalk, XSl, ↓XPre, reduceIte, Nat.reduceEqDiff, Nat.reduceLT, Nat.reduceAdd, Nat.reduceSub, Nat.reduceMul, Nat.reduceBEq, reduceCtorEq, Int.reduceAdd, Int.reduceSub, Int.reduceMul, Int.reduceLT, Int.reduceLE, Int.reduceGT, Int.reduceGE, Int.reduceEq, Int.reduceNe, Int.reduceBEq, Int.reduceBNe, Int.reduceTMod, Int.reduceTDiv, ↓if_true, ↓if_false, F129, A129, he, q0]
      rw [← htr]; rfl
    · have hc' : s.contains c = true := by simpa using hc
      rw [hc'] at htr
      simp (maxSteps := 2000000) (disch := first | assumption | omega | (simp only [nx_push, nx_set, ne_eq] <;> omega) | (simp only [XSide, F129]; done) | decide) only [XWalk, XSl, ↓XPre, reduceIte, Nat.reduceEqDiff, Nat.reduceLT, Nat.reduceAdd, Nat.reduceSub, Nat.reduceMul, Nat.reduceBEq, reduceCtorEq, Int.reduceAdd, Int.reduceSub, Int.reduceMul, Int.reduceLT, Int.reduceLE, Int.reduceGT, Int.reduceGE, Int.reduceEq, Int.reduceNe, Int.reduceBEq, Int.reduceBNe, Int.reduceTMod, Int.reduceTDiv, ↓if_true, ↓if_false, F129, A129, he, q0, q1, aslM_str, pv_slice, aslS_lo_lit (show tyTag Tryz.prog 9 = 6 by simp only [F129]) (show 1 ≤ (c :: l2).length by simp), List.drop_succ_cons, List.drop_zero]
      exact ⟨l2.length, by simp at hk; omega, l2, rfl, htr, rfl⟩
  · have hk0 : l1 = [] := List.eq_nil_of_length_eq_zero (by have := of_decide_eq_false ht; omega)
    subst hk0
    simp (maxSteps := 2000000) (disch := first | assumption | omega | (simp only [nx_push, nx_set, ne_eq] <;> omega) | (simp only [XSide, F129]; done) | decide) only [XWalk, XSl, ↓XPre, reduceIte, Nat.reduceEqDiff, Nat.reduceLT, Nat.reduceAdd, Nat.reduceSub, Nat.reduceMul, Nat.reduceBEq, reduceCtorEq, Int.reduceAdd, Int.reduceSub, Int.reduceMul, Int.reduceLT, Int.reduceLE, Int.reduceGT, Int.reduceGE, Int.reduceEq, Int.reduceNe, Int.reduceBEq, Int.reduceBNe, Int.reduceTMod, Int.reduceTDiv, ↓if_true, ↓if_false, F129, A129, he, q0]
    rw [← htr]; rfl

def nameSet : List UInt8 := [97, 98, 99, 100, 101, 102, 103, 104, 105, 106, 107, 108, 109, 110, 111, 112, 113, 114, 115, 116, 117, 118, 119, 120, 121, 122, 48, 49, 50, 51, 52, 53, 54, 55, 56, 57, 45]

theorem trim_ct {m : Mem} (hw : WF m) {l : List UInt8} (hl : l.length ≤ 1073741824) : Ct Tryz.prog S0 115 [str l, str nameSet] m [] (fun out m' => ∃ r, out = .ret (str r) ∧ (r = [] ↔ ∀ b ∈ l, nameSet.contains b = true)) := by
  have key : ∀ (p : UInt8 → Bool) (l : List UInt8), (trimR p l).dropWhile p = [] ↔ ∀ b ∈ l, p b = true := by
    intro p l
    have h1 : ∀ l : List UInt8, l.dropWhile p = [] ↔ ∀ b ∈ l, p b = true := by
      intro l
      induction l with
      | nil => simp
      | cons c l ih =>
        rw [List.dropWhile_cons]
        cases hc : p c with
        | true => simp [ih, hc]
        | false => simp [hc]
    have h2 : ∀ l : List UInt8, trimR p l = [] ↔ ∀ b ∈ l, p b = true := by
      intro l
      unfold trimR
      rw [List.reverse_eq_nil_iff, h1]
      simp
    constructor
    · intro h
      rw [h1] at h
      by_cases he : trimR p l = []
      · exact (h2 l).1 he
      · exfalso
        have : ∃ c, (trimR p l).getLast? = some c ∧ p c = false := by
          unfold trimR at he ⊢
          rw [List.getLast?_reverse]
          cases hd : l.reverse.dropWhile p with
          | nil => rw [hd] at he; simp at he
          | cons c r =>
            refine ⟨c, rfl, ?_⟩
            have := List.head?_dropWhile_not p l.reverse
            rw [hd] at this
            simpa using this
        obtain ⟨c, h3, h4⟩ := this
        have := h c (List.mem_of_getLast? h3)
        rw [h4] at this; cases this
    · intro h
      rw [(h2 l).2 h]; rfl
  refine ct_x (spec0 _) (by rfl) Tryz.func115 rfl ?_
  simp (maxSteps := 2000000) (disch := first | assumption | omega | (simp only [nx_push, nx_set, ne_eq] <;> omega) | (simp only [XSide, F115]; done) | decide) only [XWalk, XSl, ↓XPre, reduceIte, Nat.reduceEqDiff, Nat.reduceLT, Nat.reduceAdd, Nat.reduceSub, Nat.reduceMul, Nat.reduceBEq, reduceCtorEq, Int.reduceAdd, Int.reduceSub, Int.reduceMul, Int.reduceLT, Int.reduceLE, Int.reduceGT, Int.reduceGE, Int.reduceEq, Int.reduceNe, Int.reduceBEq, Int.reduceBNe, Int.reduceTMod, Int.reduceTDiv, ↓if_true, ↓if_false, F115, A115, Tryz.ntmps115]
  by_cases hl0 : l = []
  · subst hl0
    simp (maxSteps := 2000000) (disch := first | assumption | omega | (simp only [nx_push, nx_set, ne_eq] <;> omega) | (simp only [XSide, F115]; done) | decide) only [XWalk, XSl, ↓XPre, reduceIte, Nat.reduceEqDiff, Nat.reduceLT, Nat.reduceAdd, Nat.reduceSub, Nat.reduceMul, Nat.reduceBEq, reduceCtorEq, Int.reduceAdd, Int.reduceSub, Int.reduceMul, Int.reduceLT, Int.reduceLE, Int.reduceGT, Int.reduceGE, Int.reduceEq, Int.reduceNe, Int.reduceBEq, Int.reduceBNe, Int.reduceTMod, Int.reduceTDiv, ↓if_true, ↓if_false, F115, A115, show (([] : List UInt8) == []) = true from rfl]
    exact ⟨[], rfl, by simp⟩
  · have hb : (l == []) = false := by simpa using hl0
    simp (maxSteps := 2000000) (disch := first | assumption | omega | (simp only [nx_push, nx_set, ne_eq] <;> omega) | (simp only [XSide, F115]; done) | decide) only [XWalk, XSl, ↓XPre, reduceIte, Nat.reduceEqDiff, Nat.reduceLT, Nat.reduceAdd, Nat.reduceSub, Nat.reduceMul, Nat.reduceBEq, reduceCtorEq, Int.reduceAdd, Int.reduceSub, Int.reduceMul, Int.reduceLT, Int.reduceLE, Int.reduceGT, Int.reduceGE, Int.reduceEq, Int.reduceNe, Int.reduceBEq, Int.reduceBNe, Int.reduceTMod, Int.reduceTDiv, ↓if_true, ↓if_false, F115, A115, hb, show (((nameSet.length : Nat) : Int) == 1) = false from rfl, show (nameSet == []) = false from rfl]
    refine wcall_x specLoc (ascii_ct hw (l := nameSet) (by decide) (by decide)) hw ?_
    rintro out m1 hw1 hn1 f1 rfl
    have bq : Nat.beq (setCells nameSet).length 256 = true := by rw [setCells_len]; rfl
    have ho := setCells_one (s := nameSet)
    simp (maxSteps := 2000000) (disch := first | assumption | omega | (simp only [nx_push, nx_set, ne_eq] <;> omega) | (simp only [XSide, F115]; done) | decide) only [XWalk, XSl, ↓XPre, reduceIte, Nat.reduceEqDiff, Nat.reduceLT, Nat.reduceAdd, Nat.reduceSub, Nat.reduceMul, Nat.reduceBEq, reduceCtorEq, Int.reduceAdd, Int.reduceSub, Int.reduceMul, Int.reduceLT, Int.reduceLE, Int.reduceGT, Int.reduceGE, Int.reduceEq, Int.reduceNe, Int.reduceBEq, Int.reduceBNe, Int.reduceTMod, Int.reduceTDiv, ↓if_true, ↓if_false, F115, A115, bq]
    refine wcall_pu (pu_of (trimRight_ct (b := m1.next) (s := nameSet) (by rw [get_set_self]) hl)) ?_
    simp (maxSteps := 2000000) (disch := first | assumption | omega | (simp only [nx_push, nx_set, ne_eq] <;> omega) | (simp only [XSide, F115]; done) | decide) only [XWalk, XSl, ↓XPre, reduceIte, Nat.reduceEqDiff, Nat.reduceLT, Nat.reduceAdd, Nat.reduceSub, Nat.reduceMul, Nat.reduceBEq, reduceCtorEq, Int.reduceAdd, Int.reduceSub, Int.reduceMul, Int.reduceLT, Int.reduceLE, Int.reduceGT, Int.reduceGE, Int.reduceEq, Int.reduceNe, Int.reduceBEq, Int.reduceBNe, Int.reduceTMod, Int.reduceTDiv, ↓if_true, ↓if_false, F115, A115]
    have htl : (trimR nameSet.contains l).length ≤ 1073741824 := by
      unfold trimR
      rw [List.length_reverse]
      have := (List.dropWhile_sublist (l := l.reverse) nameSet.contains).length_le
      rw [List.length_reverse] at this
      omega
    refine wcall_pu (pu_of (trimLeft_ct (b := m1.next) (s := nameSet) (by rw [get_set_self]) htl)) ?_
    simp (maxSteps := 2000000) (disch := first | assumption | omega | (simp only [nx_push, nx_set, ne_eq] <;> omega) | (simp only [XSide, F115]; done) | decide) only [XWalk, XSl, ↓XPre, reduceIte, Nat.reduceEqDiff, Nat.reduceLT, Nat.reduceAdd, Nat.reduceSub, Nat.reduceMul, Nat.reduceBEq, reduceCtorEq, Int.reduceAdd, Int.reduceSub, Int.reduceMul, Int.reduceLT, Int.reduceLE, Int.reduceGT, Int.reduceGE, Int.reduceEq, Int.reduceNe, Int.reduceBEq, Int.reduceBNe, Int.reduceTMod, Int.reduceTDiv, ↓if_true, ↓if_false, F115, A115]
    exact ⟨_, rfl, key _ _⟩

def nameB (l : List UInt8) : Bool := decide (1 ≤ l.length) && (decide (l.length ≤ 32) && l.all nameSet.contains)

theorem named_ct {m : Mem} (hw : WF m) {l : List UInt8} (hl : l.length ≤ 1073741824) : Ct Tryz.prog S0 96 [str l] m [] (fun out m' => out = .ret (.bool (nameB l))) := by
  refine ct_x (spec0 _) (by rfl) Tryz.func96 rfl ?_
  simp (maxSteps := 2000000) (disch := first | assumption | omega | (simp only [nx_push, nx_set, ne_eq] <;> omega) | (simp only [XSide, F96]; done) | decide) only [XWalk, XSl, ↓XPre, reduceIte, Nat.reduceEqDiff, Nat.reduceLT, Nat.reduceAdd, Nat.reduceSub, Nat.reduceMul, Nat.reduceBEq, reduceCtorEq, Int.reduceAdd, Int.reduceSub, Int.reduceMul, Int.reduceLT, Int.reduceLE, Int.reduceGT, Int.reduceGE, Int.reduceEq, Int.reduceNe, Int.reduceBEq, Int.reduceBNe, Int.reduceTMod, Int.reduceTDiv, ↓if_true, ↓if_false, F96, A96, Tryz.ntmps96]
  by_cases h1 : 1 ≤ l.length
  · have e1 : decide ((l.length : Int) ≥ 1) = true := by simp; omega
    by_cases h2 : l.length ≤ 32
    · have e2 : decide ((l.length : Int) ≤ 32) = true := by simp; omega
      simp (maxSteps := 2000000) (disch := first | assumption | omega | (simp only [nx_push, nx_set, ne_eq] <;> omega) | (simp only [XSide, F96]; done) | decide) only [XWalk, XSl, ↓XPre, reduceIte, Nat.reduceEqDiff, Nat.reduceLT, Nat.reduceAdd, Nat.reduceSub, Nat.reduceMul, Nat.reduceBEq, reduceCtorEq, Int.reduceAdd, Int.reduceSub, Int.reduceMul, Int.reduceLT, Int.reduceLE, Int.reduceGT, Int.reduceGE, Int.reduceEq, Int.reduceNe, Int.reduceBEq, Int.reduceBNe, Int.reduceTMod, Int.reduceTDiv, ↓if_true, ↓if_false, F96, A96, e1, e2]
      refine wcall_x specLoc (trim_ct hw hl) hw ?_
      rintro out m1 hw1 hn1 f1 ⟨r, rfl, hr⟩
      simp (maxSteps := 2000000) (disch := first | assumption | omega | (simp only [nx_push, nx_set, ne_eq] <;> omega) | (simp only [XSide, F96]; done) | decide) only [XWalk, XSl, ↓XPre, reduceIte, Nat.reduceEqDiff, Nat.reduceLT, Nat.reduceAdd, Nat.reduceSub, Nat.reduceMul, Nat.reduceBEq, reduceCtorEq, Int.reduceAdd, Int.reduceSub, Int.reduceMul, Int.reduceLT, Int.reduceLE, Int.reduceGT, Int.reduceGE, Int.reduceEq, Int.reduceNe, Int.reduceBEq, Int.reduceBNe, Int.reduceTMod, Int.reduceTDiv, ↓if_true, ↓if_false, F96, A96, e1, e2]
      have e3 : (r == []) = l.all nameSet.contains := by
        rw [Bool.eq_iff_iff, beq_iff_eq, List.all_eq_true]
        exact hr
      rw [nameB, decide_eq_true h1, decide_eq_true h2, ← e3]
      rfl
    · have e2 : decide ((l.length : Int) ≤ 32) = false := by simp; omega
      simp (maxSteps := 2000000) (disch := first | assumption | omega | (simp only [nx_push, nx_set, ne_eq] <;> omega) | (simp only [XSide, F96]; done) | decide) only [XWalk, XSl, ↓XPre, reduceIte, Nat.reduceEqDiff, Nat.reduceLT, Nat.reduceAdd, Nat.reduceSub, Nat.reduceMul, Nat.reduceBEq, reduceCtorEq, Int.reduceAdd, Int.reduceSub, Int.reduceMul, Int.reduceLT, Int.reduceLE, Int.reduceGT, Int.reduceGE, Int.reduceEq, Int.reduceNe, Int.reduceBEq, Int.reduceBNe, Int.reduceTMod, Int.reduceTDiv, ↓if_true, ↓if_false, F96, A96, e1, e2]
      rw [nameB, decide_eq_false h2]
      simp
  · have e1 : decide ((l.length : Int) ≥ 1) = false := by simp; omega
    simp (maxSteps := 2000000) (disch := first | assumption | omega | (simp only [nx_push, nx_set, ne_eq] <;> omega) | (simp only [XSide, F96]; done) | decide) only [XWalk, XSl, ↓XPre, reduceIte, Nat.reduceEqDiff, Nat.reduceLT, Nat.reduceAdd, Nat.reduceSub, Nat.reduceMul, Nat.reduceBEq, reduceCtorEq, Int.reduceAdd, Int.reduceSub, Int.reduceMul, Int.reduceLT, Int.reduceLE, Int.reduceGT, Int.reduceGE, Int.reduceEq, Int.reduceNe, Int.reduceBEq, Int.reduceBNe, Int.reduceTMod, Int.reduceTDiv, ↓if_true, ↓if_false, F96, A96, e1]
    rw [nameB, decide_eq_false h1]
    rfl

end Go.Big

/- Validity of envelopes. -/
set_option linter.unusedSimpArgs false
set_option linter.unusedVariables false
set_option maxRecDepth 100000
set_option maxHeartbeats 2000000
namespace Go.Big
open Go.Proofs

def mkK (P : Program) (t : TypeId) : Bool :=
  match P.underlying t with
  | some (.slice e) => (match szOf P e, (P.info? e).bind (·.zero), (P.info? e).map (·.bytes) with
    | some 1, some z, some b => (match z with | .int .u8 (.ofNat 0) => Nat.ble b 65536 | _ => false)
    | _, _, _ => false)
  | _ => false

theorem amkS_bytes {P : Program} {m : Mem} {t : TypeId} (h : mkK P t = true) {k k' : IntKind} {l c : Nat} (hlc : l ≤ c) (hc : c ≤ 1073741824) :
    amkS P t (.int k (l : Int)) (.int k' (c : Int)) m = some (.slice (some ⟨m.next, 0, none⟩) l c, m.push (.row (u8s (List.replicate c 0)) .rw), [], .no) := by
  unfold mkK at h
  split at h
  case h_2 => cases h
  rename_i e hu
  split at h
  case h_2 => cases h
  rename_i z b h1 h2 h3
  split at h
  case h_2 => cases h
  have h1' : ∀ n, zeroCellsN [Value.int .u8 0] n = List.replicate n (.int .u8 0) := by
    intro n
    induction n with
    | zero => rfl
    | succ n ih => rw [zeroCellsN, ih, List.replicate_succ]; rfl
  have e1 : Nat.ble c 1073741824 = true := by rw [ble_dec]; simpa using hc
  have e2 : Nat.ble l c = true := by rw [ble_dec]; simpa using hlc
  have e3 : natOf (.int k (l : Int)) = some l := rfl
  have e4 : natOf (.int k' (c : Int)) = some c := rfl
  have e5 : u8s (List.replicate c 0) = List.replicate c (.int .u8 0) := by simp [u8s]
  rw [e5, ← h1']
  unfold amkS amakeSlice
  rw [hu, e3, e4]
  simp only [h1, h2, h3, smallB, e1, e2, h, Bool.and_self, Bool.true_and]
  rfl

theorem keyed0_ct {m : Mem} (hw : WF m) : Ct Tryz.prog S0 74 [] m [] (Rv fun v m' => Bs m' v (List.replicate 32 0)) := by
  refine ct_x (spec0 _) (by rfl) Tryz.func74 rfl ?_
  have hmk : amkS Tryz.prog 22 (.int .i64 32) (.int .i64 32) m = _ := amkS_bytes (l := 32) (c := 32) (show mkK Tryz.prog 22 = true by kernel_rfl) (Nat.le_refl _) (by omega)
  simp (maxSteps := 2000000) (disch := first | assumption | omega | (simp only [nx_push, nx_set, ne_eq] <;> omega) | (simp only [XSide, F74]; done) | decide) only [XWalk, XSl, ↓XPre, reduceIte, Nat.reduceEqDiff, Nat.reduceLT, Nat.reduceAdd, Nat.reduceSub, Nat.reduceMul, Nat.reduceBEq, reduceCtorEq, Int.reduceAdd, Int.reduceSub, Int.reduceMul, Int.reduceLT, Int.reduceLE, Int.reduceGT, Int.reduceGE, Int.reduceEq, Int.reduceNe, Int.reduceBEq, Int.reduceBNe, Int.reduceTMod, Int.reduceTDiv, ↓if_true, ↓if_false, F74, A74, Tryz.ntmps74, hmk]
  exact ⟨_, rfl, Sl.of_row get_push_self (by simp [u8s]) (by simp [u8s]) (Nat.le_refl _)⟩

theorem one_sl {m : Mem} {v : Value} {l : List Value} (h : Sl m v l) : oneCell v = true := by rcases h.shape with ⟨rfl, _⟩ | ⟨a, c, rfl⟩ <;> rfl

theorem avalid_ct {m : Mem} (hw : WF m) {n key : List UInt8} {kv : Value} (hk : Bs m kv key) (lk : key.length = 32) (hn : n.length ≤ 1073741824) : Ct Tryz.prog S0 61 [.agg #[str n, .int .i64 3, kv, .int .i64 0, .int .i64 0]] m [] (fun out m' => out = .ret (.bool (nameB n))) := by
  have hone : [str n, .int .i64 3, kv, .int .i64 0, .int .i64 0].all oneCell = true := by
    simp only [List.all_cons, List.all_nil, one_sl hk, one_str, one_int, Bool.and_self]
  refine ct_x (spec0 _) (by rfl) Tryz.func61 rfl ?_
  simp (maxSteps := 2000000) (disch := first | assumption | omega | (simp only [nx_push, nx_set, ne_eq] <;> omega) | (simp only [XSide, F61]; done) | decide) only [XWalk, XSl, ↓XPre, reduceIte, Nat.reduceEqDiff, Nat.reduceLT, Nat.reduceAdd, Nat.reduceSub, Nat.reduceMul, Nat.reduceBEq, reduceCtorEq, Int.reduceAdd, Int.reduceSub, Int.reduceMul, Int.reduceLT, Int.reduceLE, Int.reduceGT, Int.reduceGE, Int.reduceEq, Int.reduceNe, Int.reduceBEq, Int.reduceBNe, Int.reduceTMod, Int.reduceTDiv, ↓if_true, ↓if_false, F61, A61, Tryz.ntmps61]
  refine x_draw [0, 1, 3, 7, 15, 31, 63, 127, 255, 511, 1023, 2047, 4095, 8191, 16383, 32767, 65535, 131071, 262143, 524287, 1048575, 2097151, 4194303, 8388607, 16777215, 33554431, 67108863, 33554431, 167772159, 436207615, 1073741823, 2147483647, 4294967295] (by kernel_rfl) ?_
  simp (maxSteps := 2000000) (disch := first | assumption | omega | (simp only [nx_push, nx_set, ne_eq] <;> omega) | (simp only [XSide, F61]; done) | decide) only [XWalk, XSl, ↓XPre, reduceIte, Nat.reduceEqDiff, Nat.reduceLT, Nat.reduceAdd, Nat.reduceSub, Nat.reduceMul, Nat.reduceBEq, reduceCtorEq, Int.reduceAdd, Int.reduceSub, Int.reduceMul, Int.reduceLT, Int.reduceLE, Int.reduceGT, Int.reduceGE, Int.reduceEq, Int.reduceNe, Int.reduceBEq, Int.reduceBNe, Int.reduceTMod, Int.reduceTDiv, ↓if_true, ↓if_false, F61, A61]
  refine wcall_x specLoc (named_ct hw.push hn) hw.push ?_
  rintro out m1 hw1 hn1 f1 rfl
  have hm1 : m1.get m.next = some (.row [str n, .int .i64 3, kv, .int .i64 0, .int .i64 0] .rw) := by rw [f1 _ (by simp), get_push_self]
  have hk1 : Bs m1 kv key := (hk.keep (Keep.push hw)).keep (keep_of hw.push f1)
  simp only [Mem.next_push] at hn1
  cases hb : nameB n with
  | false =>
    simp (maxSteps := 2000000) (disch := first | assumption | omega | (simp only [nx_push, nx_set, ne_eq] <;> omega) | (simp only [XSide, F61]; done) | decide) only [XWalk, XSl, ↓XPre, reduceIte, Nat.reduceEqDiff, Nat.reduceLT, Nat.reduceAdd, Nat.reduceSub, Nat.reduceMul, Nat.reduceBEq, reduceCtorEq, Int.reduceAdd, Int.reduceSub, Int.reduceMul, Int.reduceLT, Int.reduceLE, Int.reduceGT, Int.reduceGE, Int.reduceEq, Int.reduceNe, Int.reduceBEq, Int.reduceBNe, Int.reduceTMod, Int.reduceTDiv, ↓if_true, ↓if_false, F61, A61]
  | true =>
    simp (maxSteps := 2000000) (disch := first | assumption | omega | (simp only [nx_push, nx_set, ne_eq] <;> omega) | (simp only [XSide, F61]; done) | decide) only [XWalk, XSl, ↓XPre, reduceIte, Nat.reduceEqDiff, Nat.reduceLT, Nat.reduceAdd, Nat.reduceSub, Nat.reduceMul, Nat.reduceBEq, reduceCtorEq, Int.reduceAdd, Int.reduceSub, Int.reduceMul, Int.reduceLT, Int.reduceLE, Int.reduceGT, Int.reduceGE, Int.reduceEq, Int.reduceNe, Int.reduceBEq, Int.reduceBNe, Int.reduceTMod, Int.reduceTDiv, ↓if_true, ↓if_false, F61, A61, hm1, alen_bs hk1, lk, cast_lit]
    refine wcall_pu (pu_of numbers_ct) ?_
    simp (maxSteps := 2000000) (disch := first | assumption | omega | (simp only [nx_push, nx_set, ne_eq] <;> omega) | (simp only [XSide, F61]; done) | decide) only [XWalk, XSl, ↓XPre, reduceIte, Nat.reduceEqDiff, Nat.reduceLT, Nat.reduceAdd, Nat.reduceSub, Nat.reduceMul, Nat.reduceBEq, reduceCtorEq, Int.reduceAdd, Int.reduceSub, Int.reduceMul, Int.reduceLT, Int.reduceLE, Int.reduceGT, Int.reduceGE, Int.reduceEq, Int.reduceNe, Int.reduceBEq, Int.reduceBNe, Int.reduceTMod, Int.reduceTDiv, ↓if_true, ↓if_false, F61, A61, hm1, alen_bs hk1, lk, cast_lit]

theorem build64 {n : ByteArray} {a : Option Addr} {l c : Nat} : abuild Tryz.prog 64 [(0, .string n), (1, .int .i64 3), (2, .slice a l c)] = some (.agg #[.string n, .int .i64 3, .slice a l c, .int .i64 0, .int .i64 0]) := by kernel_rfl
theorem sl_shape {m : Mem} {v : Value} {l : List Value} (h : Sl m v l) : ∃ a n c, v = .slice a n c := by rcases h.shape with ⟨rfl, _⟩ | ⟨a, c, rfl⟩ <;> exact ⟨_, _, _, rfl⟩

/-- An envelope. -/
abbrev envV (n : List UInt8) (r s : Int) (sv tv : Value) : Value := .agg #[str n, .int .i64 r, .int .i64 s, sv, tv]

def validB (n : List UInt8) (r s : Int) (ls lt : Nat) : Bool :=
  nameB n && ((decide (r ≥ 0) && decide (r ≤ 1048576)) && ((decide (s ≥ 0) && decide (s ≤ 1073741824)) && ((decide ((ls : Int) ≥ 32) && decide ((ls : Int) ≤ 4128)) && ((lt : Int) == 32))))

theorem valid_ct {m : Mem} (hw : WF m) {n S T : List UInt8} {r s : Int} {sv tv : Value} (hs : Bs m sv S) (ht : Bs m tv T) (hn : n.length ≤ 1073741824) : Ct Tryz.prog S0 34 [envV n r s sv tv] m [] (fun out m' => out = .ret (.bool (validB n r s S.length T.length))) := by
  have hone : [str n, .int .i64 r, .int .i64 s, sv, tv].all oneCell = true := by
    simp only [List.all_cons, List.all_nil, one_sl hs, one_sl ht, one_str, one_int, Bool.and_self]
  refine ct_x (spec0 _) (by rfl) Tryz.func34 rfl ?_
  simp (maxSteps := 2000000) (disch := first | assumption | omega | (simp only [nx_push, nx_set, ne_eq] <;> omega) | (simp only [XSide, F34]; done) | decide) only [XWalk, XSl, ↓XPre, reduceIte, Nat.reduceEqDiff, Nat.reduceLT, Nat.reduceAdd, Nat.reduceSub, Nat.reduceMul, Nat.reduceBEq, reduceCtorEq, Int.reduceAdd, Int.reduceSub, Int.reduceMul, Int.reduceLT, Int.reduceLE, Int.reduceGT, Int.reduceGE, Int.reduceEq, Int.reduceNe, Int.reduceBEq, Int.reduceBNe, Int.reduceTMod, Int.reduceTDiv, ↓if_true, ↓if_false, F34, A34, Tryz.ntmps34]
  refine x_draw [0, 1, 0, 7, 15, 31, 63, 127, 255, 511, 1023, 2047, 4095, 8191, 16383, 32767, 65535, 131071, 262143, 524287, 1048575, 2097151, 4194303, 8388607, 16777215, 33554431, 67108863, 134217727] (by kernel_rfl) ?_
  simp (maxSteps := 2000000) (disch := first | assumption | omega | (simp only [nx_push, nx_set, ne_eq] <;> omega) | (simp only [XSide, F34]; done) | decide) only [XWalk, XSl, ↓XPre, reduceIte, Nat.reduceEqDiff, Nat.reduceLT, Nat.reduceAdd, Nat.reduceSub, Nat.reduceMul, Nat.reduceBEq, reduceCtorEq, Int.reduceAdd, Int.reduceSub, Int.reduceMul, Int.reduceLT, Int.reduceLE, Int.reduceGT, Int.reduceGE, Int.reduceEq, Int.reduceNe, Int.reduceBEq, Int.reduceBNe, Int.reduceTMod, Int.reduceTDiv, ↓if_true, ↓if_false, F34, A34]
  refine wcall_v specLoc (keyed0_ct hw.push) hw.push ?_
  intro kv m1 hw1 hn1 f1 hk
  have hm1 : m1.get m.next = some (.row [str n, .int .i64 r, .int .i64 s, sv, tv] .rw) := by rw [f1 _ (by simp), get_push_self]
  have hs1 : Bs m1 sv S := (hs.keep (Keep.push hw)).keep (keep_of hw.push f1)
  have ht1 : Bs m1 tv T := (ht.keep (Keep.push hw)).keep (keep_of hw.push f1)
  simp only [Mem.next_push] at hn1
  clear f1
  have hab : abuild Tryz.prog 64 [(0, str n), (1, .int .i64 3), (2, kv)] = some (.agg #[str n, .int .i64 3, kv, .int .i64 0, .int .i64 0]) := by
    obtain ⟨a, l, c, rfl⟩ := sl_shape hk
    exact build64
  simp (maxSteps := 2000000) (disch := first | assumption | omega | (simp only [nx_push, nx_set, ne_eq] <;> omega) | (simp only [XSide, F34]; done) | decide) only [XWalk, XSl, ↓XPre, reduceIte, Nat.reduceEqDiff, Nat.reduceLT, Nat.reduceAdd, Nat.reduceSub, Nat.reduceMul, Nat.reduceBEq, reduceCtorEq, Int.reduceAdd, Int.reduceSub, Int.reduceMul, Int.reduceLT, Int.reduceLE, Int.reduceGT, Int.reduceGE, Int.reduceEq, Int.reduceNe, Int.reduceBEq, Int.reduceBNe, Int.reduceTMod, Int.reduceTDiv, ↓if_true, ↓if_false, F34, A34, hab]
  refine wcall_x specLoc (avalid_ct hw1 hk List.length_replicate hn) hw1 ?_
  rintro out m2 hw2 hn2 f2 rfl
  have hm2 : m2.get m.next = some (.row [str n, .int .i64 r, .int .i64 s, sv, tv] .rw) := by rw [f2 _ (by omega)]; exact hm1
  have hs2 : Bs m2 sv S := hs1.keep (keep_of hw1 f2)
  have ht2 : Bs m2 tv T := ht1.keep (keep_of hw1 f2)
  clear f2
  unfold validB
  cases nameB n with
  | false => simp (maxSteps := 2000000) (disch := first | assumption | omega | (simp only [nx_push, nx_set, ne_eq] <;> omega) | (simp only [XSide, F34]; done) | decide) only [XWalk, XSl, ↓XPre, reduceIte, Nat.reduceEqDiff, Nat.reduceLT, Nat.reduceAdd, Nat.reduceSub, Nat.reduceMul, Nat.reduceBEq, reduceCtorEq, Int.reduceAdd, Int.reduceSub, Int.reduceMul, Int.reduceLT, Int.reduceLE, Int.reduceGT, Int.reduceGE, Int.reduceEq, Int.reduceNe, Int.reduceBEq, Int.reduceBNe, Int.reduceTMod, Int.reduceTDiv, ↓if_true, ↓if_false, F34, A34]; rfl
  | true =>
    rw [Bool.true_and]
    simp (maxSteps := 2000000) (disch := first | assumption | omega | (simp only [nx_push, nx_set, ne_eq] <;> omega) | (simp only [XSide, F34]; done) | decide) only [XWalk, XSl, ↓XPre, reduceIte, Nat.reduceEqDiff, Nat.reduceLT, Nat.reduceAdd, Nat.reduceSub, Nat.reduceMul, Nat.reduceBEq, reduceCtorEq, Int.reduceAdd, Int.reduceSub, Int.reduceMul, Int.reduceLT, Int.reduceLE, Int.reduceGT, Int.reduceGE, Int.reduceEq, Int.reduceNe, Int.reduceBEq, Int.reduceBNe, Int.reduceTMod, Int.reduceTDiv, ↓if_true, ↓if_false, F34, A34, hm2]
    refine wcall_pu (pu_of within_ct) ?_
    cases decide (r ≥ 0) && decide (r ≤ 1048576) with
    | false => simp (maxSteps := 2000000) (disch := first | assumption | omega | (simp only [nx_push, nx_set, ne_eq] <;> omega) | (simp only [XSide, F34]; done) | decide) only [XWalk, XSl, ↓XPre, reduceIte, Nat.reduceEqDiff, Nat.reduceLT, Nat.reduceAdd, Nat.reduceSub, Nat.reduceMul, Nat.reduceBEq, reduceCtorEq, Int.reduceAdd, Int.reduceSub, Int.reduceMul, Int.reduceLT, Int.reduceLE, Int.reduceGT, Int.reduceGE, Int.reduceEq, Int.reduceNe, Int.reduceBEq, Int.reduceBNe, Int.reduceTMod, Int.reduceTDiv, ↓if_true, ↓if_false, F34, A34]; rfl
    | true =>
      rw [Bool.true_and]
      simp (maxSteps := 2000000) (disch := first | assumption | omega | (simp only [nx_push, nx_set, ne_eq] <;> omega) | (simp only [XSide, F34]; done) | decide) only [XWalk, XSl, ↓XPre, reduceIte, Nat.reduceEqDiff, Nat.reduceLT, Nat.reduceAdd, Nat.reduceSub, Nat.reduceMul, Nat.reduceBEq, reduceCtorEq, Int.reduceAdd, Int.reduceSub, Int.reduceMul, Int.reduceLT, Int.reduceLE, Int.reduceGT, Int.reduceGE, Int.reduceEq, Int.reduceNe, Int.reduceBEq, Int.reduceBNe, Int.reduceTMod, Int.reduceTDiv, ↓if_true, ↓if_false, F34, A34, hm2]
      refine wcall_pu (pu_of within_ct) ?_
      cases decide (s ≥ 0) && decide (s ≤ 1073741824) with
      | false => simp (maxSteps := 2000000) (disch := first | assumption | omega | (simp only [nx_push, nx_set, ne_eq] <;> omega) | (simp only [XSide, F34]; done) | decide) only [XWalk, XSl, ↓XPre, reduceIte, Nat.reduceEqDiff, Nat.reduceLT, Nat.reduceAdd, Nat.reduceSub, Nat.reduceMul, Nat.reduceBEq, reduceCtorEq, Int.reduceAdd, Int.reduceSub, Int.reduceMul, Int.reduceLT, Int.reduceLE, Int.reduceGT, Int.reduceGE, Int.reduceEq, Int.reduceNe, Int.reduceBEq, Int.reduceBNe, Int.reduceTMod, Int.reduceTDiv, ↓if_true, ↓if_false, F34, A34]; rfl
      | true =>
        rw [Bool.true_and]
        simp (maxSteps := 2000000) (disch := first | assumption | omega | (simp only [nx_push, nx_set, ne_eq] <;> omega) | (simp only [XSide, F34]; done) | decide) only [XWalk, XSl, ↓XPre, reduceIte, Nat.reduceEqDiff, Nat.reduceLT, Nat.reduceAdd, Nat.reduceSub, Nat.reduceMul, Nat.reduceBEq, reduceCtorEq, Int.reduceAdd, Int.reduceSub, Int.reduceMul, Int.reduceLT, Int.reduceLE, Int.reduceGT, Int.reduceGE, Int.reduceEq, Int.reduceNe, Int.reduceBEq, Int.reduceBNe, Int.reduceTMod, Int.reduceTDiv, ↓if_true, ↓if_false, F34, A34, hm2, alen_bs hs2]
        refine wcall_pu (pu_of within_ct) ?_
        cases decide ((S.length : Int) ≥ 32) && decide ((S.length : Int) ≤ 4128) with
        | false => simp (maxSteps := 2000000) (disch := first | assumption | omega | (simp only [nx_push, nx_set, ne_eq] <;> omega) | (simp only [XSide, F34]; done) | decide) only [XWalk, XSl, ↓XPre, reduceIte, Nat.reduceEqDiff, Nat.reduceLT, Nat.reduceAdd, Nat.reduceSub, Nat.reduceMul, Nat.reduceBEq, reduceCtorEq, Int.reduceAdd, Int.reduceSub, Int.reduceMul, Int.reduceLT, Int.reduceLE, Int.reduceGT, Int.reduceGE, Int.reduceEq, Int.reduceNe, Int.reduceBEq, Int.reduceBNe, Int.reduceTMod, Int.reduceTDiv, ↓if_true, ↓if_false, F34, A34]; rfl
        | true =>
          simp (maxSteps := 2000000) (disch := first | assumption | omega | (simp only [nx_push, nx_set, ne_eq] <;> omega) | (simp only [XSide, F34]; done) | decide) only [XWalk, XSl, ↓XPre, reduceIte, Nat.reduceEqDiff, Nat.reduceLT, Nat.reduceAdd, Nat.reduceSub, Nat.reduceMul, Nat.reduceBEq, reduceCtorEq, Int.reduceAdd, Int.reduceSub, Int.reduceMul, Int.reduceLT, Int.reduceLE, Int.reduceGT, Int.reduceGE, Int.reduceEq, Int.reduceNe, Int.reduceBEq, Int.reduceBNe, Int.reduceTMod, Int.reduceTDiv, ↓if_true, ↓if_false, F34, A34, hm2, alen_bs ht2]
          rfl

end Go.Big

/- Accounts: looking up, tags. -/
set_option linter.unusedSimpArgs false
set_option linter.unusedVariables false
set_option maxRecDepth 100000
set_option maxHeartbeats 2000000
namespace Go.Big
open Go.Proofs
set_option linter.defProp false

theorem findIdx2 {P : Program} {kt : TypeId} (hu : tyTag P kt = 6) {n a b : List UInt8} {v w : Value} {i j : Nat} :
    findIdx P kt (str n) [⟨str a, v, i⟩, ⟨str b, w, j⟩] = some (if n = a then some 0 else if n = b then some 1 else none) := by
  have h1 := tyTag_str hu
  unfold findIdx
  have hp : (plain (str n) && [(⟨str a, v, i⟩ : MapEntry), ⟨str b, w, j⟩].all fun e => plain e.key) = true := rfl
  rw [hp]
  have e1 : ∀ (em : Bool), eval0 P (Instr.checkKey em 10000 kt (str n)) = some () := by
    intro em
    rw [show (10000 : Nat) = 9999 + 1 from rfl, Instr.checkKey, ev0_bind, ev0_under h1]
    rfl
  simp only [cond_true, ev0_bind, e1, Option.bind_some]
  unfold Instr.findKey
  rw [ev0_bind, ev0_under h1]
  simp only [Option.bind_some, List.map_cons, List.map_nil, Instr.findNow, Instr.sameNow]
  have hb : ∀ x y : List UInt8, ((⟨x.toArray⟩ : ByteArray) == ⟨y.toArray⟩) = decide (x = y) := by
    intro x y
    show (x.toArray == y.toArray) = decide (x = y)
    rw [Bool.eq_iff_iff, beq_iff_eq, decide_eq_true_iff]
    constructor
    · intro h
      have := congrArg Array.toList h
      simpa using this
    · rintro rfl; rfl
  rw [hb, hb]
  by_cases h2 : n = a
  · subst h2; simp; rfl
  · by_cases h3 : n = b
    · subst h3; simp [h2]; rfl
    · simp [h2, h3]; rfl

theorem loadN5 {a b c d e : Value} : loadN [a, b, c, d, e] 0 5 = some [a, b, c, d, e] := id rfl
def XAcc := And.intro @loadN5 <| And.intro @loadRow_agg <| And.intro @List.set_cons_zero.{0} <| @List.set_cons_succ.{0}

/-- The names of the accounts of the laws. -/
def acmeN : List UInt8 := [97, 99, 109, 101]
def bellN : List UInt8 := [98, 101, 108, 108]
abbrev acctV (n : List UInt8) (role : Int) (kv : Value) (dep num : Int) : Value := .agg #[str n, .int .i64 role, kv, .int .i64 dep, .int .i64 num]

/-- The book of the laws. -/
def BookAt (m : Mem) (v : Value) : Prop := ∃ xb nv mb pv k1 k2, v = .pointer (some ⟨xb, 0, none⟩) ∧ m.get xb = some (.row [nv, .map (some mb), pv] .rw) ∧
  m.get mb = some (.map [⟨str acmeN, acctV acmeN 2 k1 0 0, 0⟩, ⟨str bellN, acctV bellN 2 k2 0 1, 1⟩] 2) ∧ Bs m k1 (List.replicate 32 8) ∧ Bs m k2 (List.replicate 32 9)
theorem BookAt.keep {m m' : Mem} {v : Value} (h : BookAt m v) (k : Keep m m') : BookAt m' v := by
  obtain ⟨xb, nv, mb, pv, k1, k2, h1, h2, h3, h4, h5⟩ := h
  exact ⟨xb, nv, mb, pv, k1, k2, h1, by rw [k xb (by rw [h2]; simp)]; exact h2, by rw [k mb (by rw [h3]; simp)]; exact h3, h4.keep k, h5.keep k⟩

/-- The key and the number of an account. -/
def acctOf (n : List UInt8) : Option (List UInt8 × Int) := if n = acmeN then some (List.replicate 32 8, 0) else if n = bellN then some (List.replicate 32 9, 1) else none

theorem aclone_ct {m : Mem} (hw : WF m) {n key : List UInt8} {role dep num : Int} {kv : Value} (hk : Bs m kv key) (lk : key.length ≤ 1073741824) : Ct Tryz.prog S0 65 [acctV n role kv dep num] m [] (Rv fun v m' => ∃ kv', v = acctV n role kv' dep num ∧ Bs m' kv' key ∧ ∀ b, slBlk kv' = some b → m.next ≤ b) := by
  have hone : [str n, .int .i64 role, kv, .int .i64 dep, .int .i64 num].all oneCell = true := by
    simp only [List.all_cons, List.all_nil, one_sl hk, one_str, one_int, Bool.and_self]
  refine ct_x (spec0 _) (by rfl) Tryz.func65 rfl ?_
  simp (maxSteps := 2000000) (disch := first | assumption | omega | (simp only [nx_push, nx_set, ne_eq] <;> omega) | (simp only [XSide, F65]; done) | decide) only [XWalk, XSl, ↓XPre, reduceIte, Nat.reduceEqDiff, Nat.reduceLT, Nat.reduceAdd, Nat.reduceSub, Nat.reduceMul, Nat.reduceBEq, reduceCtorEq, Int.reduceAdd, Int.reduceSub, Int.reduceMul, Int.reduceLT, Int.reduceLE, Int.reduceGT, Int.reduceGE, Int.reduceEq, Int.reduceNe, Int.reduceBEq, Int.reduceBNe, Int.reduceTMod, Int.reduceTDiv, ↓if_true, ↓if_false, F65, A65, Tryz.ntmps65]
  have hk1 : ∀ o o', Bs ((m.push o).push o') kv key := fun o o' => (hk.keep (Keep.push hw)).keep (Keep.push hw.push)
  refine wcall_v specLoc (clone_ct hw.push.push (hk1 _ _) lk) hw.push.push ?_
  intro kv' m1 hw1 hn1 f1 hk'
  simp only [Mem.next_push] at hn1 f1
  have hm1 : m1.get m.next = some (.row [str n, .int .i64 role, kv, .int .i64 dep, .int .i64 num] .rw) := by rw [f1 _ (by omega), get_push_ne (by simp), get_push_self]
  have hz1 : ∃ z, m1.get (m.next + 1) = some (.row z .rw) ∧ z.length = 5 := ⟨_, by rw [f1 _ (by omega), get_push_eq (by simp)], rfl⟩
  obtain ⟨z, hz1, lz⟩ := hz1
  obtain ⟨a, l, c, rfl⟩ := sl_shape hk'.sl
  have hone' : [str n, .int .i64 role, .slice a l c, .int .i64 dep, .int .i64 num].all oneCell = true := rfl
  have hl5 : [str n, .int .i64 role, .slice a l c, .int .i64 dep, .int .i64 num].length = z.length := by rw [lz]; rfl
  have b5 : Nat.beq [str n, .int .i64 role, .slice a l c, .int .i64 dep, .int .i64 num].length 5 = true := rfl
  simp (maxSteps := 2000000) (disch := first | assumption | omega | (simp only [nx_push, nx_set, ne_eq] <;> omega) | (simp only [XSide, F65]; done) | decide) only [XWalk, XSl, ↓XPre, reduceIte, Nat.reduceEqDiff, Nat.reduceLT, Nat.reduceAdd, Nat.reduceSub, Nat.reduceMul, Nat.reduceBEq, reduceCtorEq, Int.reduceAdd, Int.reduceSub, Int.reduceMul, Int.reduceLT, Int.reduceLE, Int.reduceGT, Int.reduceGE, Int.reduceEq, Int.reduceNe, Int.reduceBEq, Int.reduceBNe, Int.reduceTMod, Int.reduceTDiv, ↓if_true, ↓if_false, F65, A65, hm1, hz1, XAcc, b5]
  have hge : ∀ b, slBlk (.slice a l c) = some b → m.next + 2 ≤ b := fun b hb => by
    have := hk'.blk_ge hb
    simp only [Mem.next_push] at this
    omega
  exact ⟨_, rfl, _, rfl, hk'.sl.frame_at fun b hb => by
    have := hge b hb
    rw [get_set_ne (by omega), get_set_ne (by omega)], fun b hb => by have := hge b hb; omega⟩

/-! ### Looking up -/

def alk (P : Program) (t : TypeId) (x k : Value) (ok : Bool) (m : Mem) (other : Res) : Res := match x with | .map (some r) => alookup P t (.map (some r)) k ok m | _ => other
theorem aop_lookup {P : Program} {m : Mem} {ρ : Operand → Value} {d : Option Nat} {ty : TypeId} {ps : String} {af : Array Edge} {g : Option (Nat × Bool)} {t : TypeId} {x y : Operand} {ok : Bool} :
    aop P ρ ⟨d, .lookup t x y ok, ty, ps, af, g⟩ m = alk P t (ρ x) (ρ y) ok m (pv m (pureOp P ρ ⟨d, .lookup t x y ok, ty, ps, af, g⟩)) := by
  simp only [aop, alk]
  cases ρ x with
  | map r => cases r <;> rfl
  | _ => rfl
theorem alk_map {P : Program} {m : Mem} {t : TypeId} {r : Nat} {k : Value} {ok : Bool} {o : Res} : alk P t (.map (some r)) k ok m o = alookup P t (.map (some r)) k ok m := id rfl

theorem alookup2 {P : Program} {m : Mem} {t kt et : TypeId} (hu : P.underlying t = some (.map kt et)) (hk : tyTag P kt = 6) {z : Value} (hz : (P.info? et).bind (·.zero) = some z) (hp : plain z = true) {r i j c : Nat} {a b n : List UInt8} {v w : Value}
    (hm : m.get r = some (.map [⟨str a, v, i⟩, ⟨str b, w, j⟩] c)) :
    alookup P t (.map (some r)) (str n) true m = some (.tuple (if n = a then #[v, .bool true] else if n = b then #[w, .bool true] else #[z, .bool false]), m, [], .all) := by
  unfold alookup
  simp only [hu, hm, findIdx2 hk, hz]
  by_cases h1 : n = a
  · simp [h1]
  · by_cases h2 : n = b
    · subst h2; simp [h1]
    · simp [h1, h2, hp]

theorem zero64 : (Tryz.prog.info? 64).bind (·.zero) = some (acctV [] 0 (.slice none 0 0) 0 0) := by kernel_rfl
theorem abuild64 : abuild Tryz.prog 64 [] = some (acctV [] 0 (.slice none 0 0) 0 0) := by kernel_rfl

/-- What is known of an account that was got. -/
def GotR (n : List UInt8) : Value → Mem → Prop := fun v m' =>
  match acctOf n with
  | some (key, num) => ∃ kv, v = .tuple #[acctV n 2 kv 0 num, .int .i64 0] ∧ Bs m' kv key
  | none => v = .tuple #[acctV [] 0 (.slice none 0 0) 0 0, .int .i64 9]

theorem get_ct {m : Mem} (hw : WF m) {x : Value} {n : List UInt8} (hx : BookAt m x) : Ct Tryz.prog S0 42 [x, str n] m [] (Rv (GotR n)) := by
  obtain ⟨xb, nv, mb, pv, k1, k2, rfl, h2, h3, h4, h5⟩ := hx
  have hxl : xb < m.next := hw.lt (by rw [h2]; simp)
  have hml : mb < m.next := hw.lt (by rw [h3]; simp)
  refine ct_x (spec0 _) (by rfl) Tryz.func42 rfl ?_
  have hm' : ∀ o, (m.push o).get mb = some (.map [⟨str acmeN, acctV acmeN 2 k1 0 0, 0⟩, ⟨str bellN, acctV bellN 2 k2 0 1, 1⟩] 2) := fun o => by rw [get_push_ne (by omega)]; exact h3
  have hlk : ∀ o, alookup Tryz.prog 58 (.map (some mb)) (str n) true (m.push o) = _ := fun o => alookup2 (n := n) (show Tryz.prog.underlying 58 = some (.map 9 64) by kernel_rfl) (by simp only [F115]) zero64 rfl (hm' o)
  simp (maxSteps := 2000000) (disch := first | assumption | omega | (simp only [nx_push, nx_set, ne_eq] <;> omega) | (simp only [XSide, F42]; done) | decide) only [XWalk, XSl, ↓XPre, reduceIte, Nat.reduceEqDiff, Nat.reduceLT, Nat.reduceAdd, Nat.reduceSub, Nat.reduceMul, Nat.reduceBEq, reduceCtorEq, Int.reduceAdd, Int.reduceSub, Int.reduceMul, Int.reduceLT, Int.reduceLE, Int.reduceGT, Int.reduceGE, Int.reduceEq, Int.reduceNe, Int.reduceBEq, Int.reduceBNe, Int.reduceTMod, Int.reduceTDiv, ↓if_true, ↓if_false, F42, A42, Tryz.ntmps42, h2, aop_lookup, alk_map, hlk]
  by_cases ha : n = acmeN
  · subst ha
    obtain ⟨a, l, c, rfl⟩ := sl_shape h4
    simp (maxSteps := 2000000) (disch := first | assumption | omega | (simp only [nx_push, nx_set, ne_eq] <;> omega) | (simp only [XSide, F42]; done) | decide) only [XWalk, XSl, ↓XPre, reduceIte, Nat.reduceEqDiff, Nat.reduceLT, Nat.reduceAdd, Nat.reduceSub, Nat.reduceMul, Nat.reduceBEq, reduceCtorEq, Int.reduceAdd, Int.reduceSub, Int.reduceMul, Int.reduceLT, Int.reduceLE, Int.reduceGT, Int.reduceGE, Int.reduceEq, Int.reduceNe, Int.reduceBEq, Int.reduceBNe, Int.reduceTMod, Int.reduceTDiv, ↓if_true, ↓if_false, F42, A42, if_pos, XAcc]
    have hb1 : ∀ o o' o'', Bs (((m.push o).push o').set (m.next + 1) o'') (.slice a l c) (List.replicate 32 8) := fun o o' o'' => by
      refine Sl.frame_at h4 fun b hb => ?_
      have := h4.blk_lt hw hb
      rw [get_set_ne (by omega), get_push_ne (by simp; omega), get_push_ne (by omega)]
    refine wcall_v specLoc (aclone_ct (by (repeat (first | exact hw | apply WF.push | (refine WF.set ?_ (by first | omega | (simp only [Mem.next_set, Mem.next_push]; omega)))))) (hb1 _ _ _) (by simp)) (by (repeat (first | exact hw | apply WF.push | (refine WF.set ?_ (by first | omega | (simp only [Mem.next_set, Mem.next_push]; omega)))))) ?_
    rintro v' m1 hw1 hn1 f1 ⟨kv', rfl, hk', hge⟩
    simp only [Mem.next_push, Mem.next_set] at hn1 f1 hge
    have hz1 : m1.get m.next = some (.row [.string ⟨#[]⟩, .int .i64 0, .slice none 0 0, .int .i64 0, .int .i64 0] .rw) := by rw [f1 _ (by omega), get_set_ne (by omega), get_push_ne (by simp), get_push_self]
    obtain ⟨a', l', c', rfl⟩ := sl_shape hk'
    simp (maxSteps := 2000000) (disch := first | assumption | omega | (simp only [nx_push, nx_set, ne_eq] <;> omega) | (simp only [XSide, F42]; done) | decide) only [XWalk, XSl, ↓XPre, reduceIte, Nat.reduceEqDiff, Nat.reduceLT, Nat.reduceAdd, Nat.reduceSub, Nat.reduceMul, Nat.reduceBEq, reduceCtorEq, Int.reduceAdd, Int.reduceSub, Int.reduceMul, Int.reduceLT, Int.reduceLE, Int.reduceGT, Int.reduceGE, Int.reduceEq, Int.reduceNe, Int.reduceBEq, Int.reduceBNe, Int.reduceTMod, Int.reduceTDiv, ↓if_true, ↓if_false, F42, A42, hz1, XAcc]
    refine ⟨_, rfl, ?_⟩
    have hof : acctOf acmeN = some ((List.replicate 32 8), 0) := rfl
    unfold GotR
    rw [hof]
    exact ⟨_, rfl, Sl.frame_at hk' fun b hb => by rw [get_set_ne (by have := hge b hb; omega)]⟩
  · by_cases hb : n = bellN
    · subst hb
      obtain ⟨a, l, c, rfl⟩ := sl_shape h5
      simp (maxSteps := 2000000) (disch := first | assumption | omega | (simp only [nx_push, nx_set, ne_eq] <;> omega) | (simp only [XSide, F42]; done) | decide) only [XWalk, XSl, ↓XPre, reduceIte, Nat.reduceEqDiff, Nat.reduceLT, Nat.reduceAdd, Nat.reduceSub, Nat.reduceMul, Nat.reduceBEq, reduceCtorEq, Int.reduceAdd, Int.reduceSub, Int.reduceMul, Int.reduceLT, Int.reduceLE, Int.reduceGT, Int.reduceGE, Int.reduceEq, Int.reduceNe, Int.reduceBEq, Int.reduceBNe, Int.reduceTMod, Int.reduceTDiv, ↓if_true, ↓if_false, F42, A42, if_pos, if_neg ha, XAcc]
      have hb1 : ∀ o o' o'', Bs (((m.push o).push o').set (m.next + 1) o'') (.slice a l c) (List.replicate 32 9) := fun o o' o'' => by
        refine Sl.frame_at h5 fun b hb => ?_
        have := h5.blk_lt hw hb
        rw [get_set_ne (by omega), get_push_ne (by simp; omega), get_push_ne (by omega)]
      refine wcall_v specLoc (aclone_ct (by (repeat (first | exact hw | apply WF.push | (refine WF.set ?_ (by first | omega | (simp only [Mem.next_set, Mem.next_push]; omega)))))) (hb1 _ _ _) (by simp)) (by (repeat (first | exact hw | apply WF.push | (refine WF.set ?_ (by first | omega | (simp only [Mem.next_set, Mem.next_push]; omega)))))) ?_
      rintro v' m1 hw1 hn1 f1 ⟨kv', rfl, hk', hge⟩
      simp only [Mem.next_push, Mem.next_set] at hn1 f1 hge
      have hz1 : m1.get m.next = some (.row [.string ⟨#[]⟩, .int .i64 0, .slice none 0 0, .int .i64 0, .int .i64 0] .rw) := by rw [f1 _ (by omega), get_set_ne (by omega), get_push_ne (by simp), get_push_self]
      obtain ⟨a', l', c', rfl⟩ := sl_shape hk'
      simp (maxSteps := 2000000) (disch := first | assumption | omega | (simp only [nx_push, nx_set, ne_eq] <;> omega) | (simp only [XSide, F42]; done) | decide) only [XWalk, XSl, ↓XPre, reduceIte, Nat.reduceEqDiff, Nat.reduceLT, Nat.reduceAdd, Nat.reduceSub, Nat.reduceMul, Nat.reduceBEq, reduceCtorEq, Int.reduceAdd, Int.reduceSub, Int.reduceMul, Int.reduceLT, Int.reduceLE, Int.reduceGT, Int.reduceGE, Int.reduceEq, Int.reduceNe, Int.reduceBEq, Int.reduceBNe, Int.reduceTMod, Int.reduceTDiv, ↓if_true, ↓if_false, F42, A42, hz1, XAcc]
      refine ⟨_, rfl, ?_⟩
      have hof : acctOf bellN = some ((List.replicate 32 9), 1) := rfl
      unfold GotR
      rw [hof]
      exact ⟨_, rfl, Sl.frame_at hk' fun b hb => by rw [get_set_ne (by have := hge b hb; omega)]⟩
    · simp (maxSteps := 2000000) (disch := first | assumption | omega | (simp only [nx_push, nx_set, ne_eq] <;> omega) | (simp only [XSide, F42]; done) | decide) only [XWalk, XSl, ↓XPre, reduceIte, Nat.reduceEqDiff, Nat.reduceLT, Nat.reduceAdd, Nat.reduceSub, Nat.reduceMul, Nat.reduceBEq, reduceCtorEq, Int.reduceAdd, Int.reduceSub, Int.reduceMul, Int.reduceLT, Int.reduceLE, Int.reduceGT, Int.reduceGE, Int.reduceEq, Int.reduceNe, Int.reduceBEq, Int.reduceBNe, Int.reduceTMod, Int.reduceTDiv, ↓if_true, ↓if_false, F42, A42, if_neg ha, if_neg hb, XAcc, abuild64]
      refine ⟨_, rfl, ?_⟩
      have hof : acctOf n = none := by rw [acctOf, if_neg ha, if_neg hb]
      unfold GotR
      rw [hof]

end Go.Big

/- Accounts: tags; the first of errors. -/
set_option linter.unusedSimpArgs false
set_option linter.unusedVariables false
set_option maxRecDepth 100000
set_option maxHeartbeats 2000000
namespace Go.Big
open Go.Proofs

/-- What is known of a tag. -/
def TagR (n p : List UInt8) : Value → Mem → Prop := fun v m' =>
  match acctOf n with
  | some (key, _) => if 65536 < p.length then v = .tuple #[.slice none 0 0, .int .i64 5] else ∃ tv, v = .tuple #[tv, .int .i64 0] ∧ Bs m' tv (blakeB key p)
  | none => v = .tuple #[.slice none 0 0, .int .i64 9]

theorem acctOf_len {n key : List UInt8} {num : Int} (h : acctOf n = some (key, num)) : key.length = 32 := by
  unfold acctOf at h
  split at h
  · cases h; rfl
  · split at h
    · cases h; rfl
    · cases h

theorem agg_row {m : Mem} {b : Nat} {l : List UInt8} (h : m.get b = some (.row (u8s l) .rw)) (hl : l.length = 32) : Bs m (.slice (some ⟨b, 0, none⟩) 32 32) l :=
  Sl.of_row h (by rw [List.drop_zero, List.take_of_length_le (by rw [u8s_length]; omega)]) (by rw [u8s_length]; exact hl) (Nat.le_refl _)

theorem tag_ct {m : Mem} (hw : WF m) {x pv : Value} {n p : List UInt8} (hx : BookAt m x) (hp : Bs m pv p) (hl : p.length ≤ 1099511627000) : Ct Tryz.prog S0 45 [x, str n, pv] m [] (Rv (TagR n p)) := by
  refine ct_x (spec0 _) (by rfl) Tryz.func45 rfl ?_
  simp (maxSteps := 2000000) (disch := first | assumption | omega | (simp only [nx_push, nx_set, ne_eq] <;> omega) | (simp only [XSide, F45]; done) | decide) only [XWalk, XSl, ↓XPre, reduceIte, Nat.reduceEqDiff, Nat.reduceLT, Nat.reduceAdd, Nat.reduceSub, Nat.reduceMul, Nat.reduceBEq, reduceCtorEq, Int.reduceAdd, Int.reduceSub, Int.reduceMul, Int.reduceLT, Int.reduceLE, Int.reduceGT, Int.reduceGE, Int.reduceEq, Int.reduceNe, Int.reduceBEq, Int.reduceBNe, Int.reduceTMod, Int.reduceTDiv, ↓if_true, ↓if_false, F45, A45, Tryz.ntmps45]
  refine wcall_v specLoc (get_ct hw hx) hw ?_
  intro v m1 hw1 hn1 f1 hr
  have hp1 : Bs m1 pv p := hp.keep (keep_of hw f1)
  cases ho : acctOf n with
  | none =>
    unfold GotR at hr
    rw [ho] at hr
    subst hr
    simp (maxSteps := 2000000) (disch := first | assumption | omega | (simp only [nx_push, nx_set, ne_eq] <;> omega) | (simp only [XSide, F45]; done) | decide) only [XWalk, XSl, ↓XPre, reduceIte, Nat.reduceEqDiff, Nat.reduceLT, Nat.reduceAdd, Nat.reduceSub, Nat.reduceMul, Nat.reduceBEq, reduceCtorEq, Int.reduceAdd, Int.reduceSub, Int.reduceMul, Int.reduceLT, Int.reduceLE, Int.reduceGT, Int.reduceGE, Int.reduceEq, Int.reduceNe, Int.reduceBEq, Int.reduceBNe, Int.reduceTMod, Int.reduceTDiv, ↓if_true, ↓if_false, F45, A45, XAcc]
    refine ⟨_, rfl, ?_⟩
    unfold TagR
    rw [ho]
  | some kn =>
    obtain ⟨key, num⟩ := kn
    have lk := acctOf_len ho
    unfold GotR at hr
    rw [ho] at hr
    obtain ⟨kv, rfl, hk⟩ := hr
    obtain ⟨a, l, c, rfl⟩ := sl_shape hk
    have hp2 : ∀ o o', Bs ((m1.push o).set m1.next o') pv p := fun o o' => (hp1.keep (Keep.push hw1)).frame_at fun b hb => by
      have := hp1.blk_lt hw1 hb
      rw [get_set_ne (by omega)]
    have hk2 : ∀ o o', Bs ((m1.push o).set m1.next o') (.slice a l c) key := fun o o' => (hk.keep (Keep.push hw1)).frame_at fun b hb => by
      have := hk.blk_lt hw1 hb
      rw [get_set_ne (by omega)]
    simp (maxSteps := 2000000) (disch := first | assumption | omega | (simp only [nx_push, nx_set, ne_eq] <;> omega) | (simp only [XSide, F45]; done) | decide) only [XWalk, XSl, ↓XPre, reduceIte, Nat.reduceEqDiff, Nat.reduceLT, Nat.reduceAdd, Nat.reduceSub, Nat.reduceMul, Nat.reduceBEq, reduceCtorEq, Int.reduceAdd, Int.reduceSub, Int.reduceMul, Int.reduceLT, Int.reduceLE, Int.reduceGT, Int.reduceGE, Int.reduceEq, Int.reduceNe, Int.reduceBEq, Int.reduceBNe, Int.reduceTMod, Int.reduceTDiv, ↓if_true, ↓if_false, F45, A45, XAcc, alen_bs (hp2 _ _)]
    refine x_if (fun h => ?_) (fun h => ?_)
    · have h1 : 65536 < p.length := by have := of_decide_eq_true h; omega
      simp (maxSteps := 2000000) (disch := first | assumption | omega | (simp only [nx_push, nx_set, ne_eq] <;> omega) | (simp only [XSide, F45]; done) | decide) only [XWalk, XSl, ↓XPre, reduceIte, Nat.reduceEqDiff, Nat.reduceLT, Nat.reduceAdd, Nat.reduceSub, Nat.reduceMul, Nat.reduceBEq, reduceCtorEq, Int.reduceAdd, Int.reduceSub, Int.reduceMul, Int.reduceLT, Int.reduceLE, Int.reduceGT, Int.reduceGE, Int.reduceEq, Int.reduceNe, Int.reduceBEq, Int.reduceBNe, Int.reduceTMod, Int.reduceTDiv, ↓if_true, ↓if_false, F45, A45]
      refine ⟨_, rfl, ?_⟩
      unfold TagR
      rw [ho]
      simp only [if_pos h1]
    · have h1 : ¬ 65536 < p.length := by have := of_decide_eq_false h; omega
      simp (maxSteps := 2000000) (disch := first | assumption | omega | (simp only [nx_push, nx_set, ne_eq] <;> omega) | (simp only [XSide, F45]; done) | decide) only [XWalk, XSl, ↓XPre, reduceIte, Nat.reduceEqDiff, Nat.reduceLT, Nat.reduceAdd, Nat.reduceSub, Nat.reduceMul, Nat.reduceBEq, reduceCtorEq, Int.reduceAdd, Int.reduceSub, Int.reduceMul, Int.reduceLT, Int.reduceLE, Int.reduceGT, Int.reduceGE, Int.reduceEq, Int.reduceNe, Int.reduceBEq, Int.reduceBNe, Int.reduceTMod, Int.reduceTDiv, ↓if_true, ↓if_false, F45, A45, XAcc]
      refine wcall_x specLoc (keyed_ct (by (repeat (first | exact hw1 | apply WF.push | (refine WF.set ?_ (by first | omega | (simp only [Mem.next_set, Mem.next_push]; omega)))))) (hk2 _ _) (hp2 _ _) (by omega) (by omega)) (by (repeat (first | exact hw1 | apply WF.push | (refine WF.set ?_ (by first | omega | (simp only [Mem.next_set, Mem.next_push]; omega)))))) ?_
      rintro out m2 hw2 hn2 f2 rfl
      rw [if_neg (show ¬ (key.length = 0 ∨ 32 < key.length) by omega)]
      have lb := blakeB_length (key := key) (d := p)
      have bq : Nat.beq (u8s (blakeB key p)).length 32 = true := by rw [u8s_length, lb]; rfl
      have hob : (u8s (blakeB key p)).all oneCell = true := u8s_one
      have sb : (u8s (blakeB key p)).length = 32 := by rw [u8s_length]; exact lb
      simp only [Mem.next_set, Mem.next_push] at hn2
      simp (maxSteps := 2000000) (disch := first | assumption | omega | (simp only [nx_push, nx_set, ne_eq] <;> omega) | (simp only [XSide, F45]; done) | decide) only [XWalk, XSl, ↓XPre, reduceIte, Nat.reduceEqDiff, Nat.reduceLT, Nat.reduceAdd, Nat.reduceSub, Nat.reduceMul, Nat.reduceBEq, reduceCtorEq, Int.reduceAdd, Int.reduceSub, Int.reduceMul, Int.reduceLT, Int.reduceLE, Int.reduceGT, Int.reduceGE, Int.reduceEq, Int.reduceNe, Int.reduceBEq, Int.reduceBNe, Int.reduceTMod, Int.reduceTDiv, ↓if_true, ↓if_false, F45, A45, XAcc, bq]
      refine ⟨_, rfl, ?_⟩
      unfold TagR
      rw [ho]
      simp only [if_neg h1]
      exact ⟨_, rfl, agg_row get_set_self lb⟩

/-- The answer to a tag. -/
def verifyI (n p T : List UInt8) : Int :=
  match acctOf n with
  | some (key, _) => if 65536 < p.length then 5 else if blakeB key p == T then 0 else 10
  | none => 9

theorem verify_ct {m : Mem} (hw : WF m) {x pv tv : Value} {n p T : List UInt8} (hx : BookAt m x) (hp : Bs m pv p) (ht : Bs m tv T) (hl : p.length ≤ 1099511627000) : Ct Tryz.prog S0 35 [x, str n, pv, tv] m [] (fun out m' => out = .ret (.int .i64 (verifyI n p T))) := by
  refine ct_x (spec0 _) (by rfl) Tryz.func35 rfl ?_
  simp (maxSteps := 2000000) (disch := first | assumption | omega | (simp only [nx_push, nx_set, ne_eq] <;> omega) | (simp only [XSide, F35]; done) | decide) only [XWalk, XSl, ↓XPre, reduceIte, Nat.reduceEqDiff, Nat.reduceLT, Nat.reduceAdd, Nat.reduceSub, Nat.reduceMul, Nat.reduceBEq, reduceCtorEq, Int.reduceAdd, Int.reduceSub, Int.reduceMul, Int.reduceLT, Int.reduceLE, Int.reduceGT, Int.reduceGE, Int.reduceEq, Int.reduceNe, Int.reduceBEq, Int.reduceBNe, Int.reduceTMod, Int.reduceTDiv, ↓if_true, ↓if_false, F35, A35, Tryz.ntmps35]
  refine wcall_v specLoc (tag_ct hw hx hp hl) hw ?_
  intro v m1 hw1 hn1 f1 hr
  have ht1 : Bs m1 tv T := ht.keep (keep_of hw f1)
  unfold TagR at hr
  unfold verifyI
  cases ho : acctOf n with
  | none =>
    rw [ho] at hr
    subst hr
    simp (maxSteps := 2000000) (disch := first | assumption | omega | (simp only [nx_push, nx_set, ne_eq] <;> omega) | (simp only [XSide, F35]; done) | decide) only [XWalk, XSl, ↓XPre, reduceIte, Nat.reduceEqDiff, Nat.reduceLT, Nat.reduceAdd, Nat.reduceSub, Nat.reduceMul, Nat.reduceBEq, reduceCtorEq, Int.reduceAdd, Int.reduceSub, Int.reduceMul, Int.reduceLT, Int.reduceLE, Int.reduceGT, Int.reduceGE, Int.reduceEq, Int.reduceNe, Int.reduceBEq, Int.reduceBNe, Int.reduceTMod, Int.reduceTDiv, ↓if_true, ↓if_false, F35, A35]
  | some kn =>
    obtain ⟨key, num⟩ := kn
    rw [ho] at hr
    simp only at hr ⊢
    by_cases h1 : 65536 < p.length
    · rw [if_pos h1] at hr
      subst hr
      simp (maxSteps := 2000000) (disch := first | assumption | omega | (simp only [nx_push, nx_set, ne_eq] <;> omega) | (simp only [XSide, F35]; done) | decide) only [XWalk, XSl, ↓XPre, reduceIte, Nat.reduceEqDiff, Nat.reduceLT, Nat.reduceAdd, Nat.reduceSub, Nat.reduceMul, Nat.reduceBEq, reduceCtorEq, Int.reduceAdd, Int.reduceSub, Int.reduceMul, Int.reduceLT, Int.reduceLE, Int.reduceGT, Int.reduceGE, Int.reduceEq, Int.reduceNe, Int.reduceBEq, Int.reduceBNe, Int.reduceTMod, Int.reduceTDiv, ↓if_true, ↓if_false, F35, A35, if_pos h1]
    · rw [if_neg h1] at hr
      obtain ⟨dv, rfl, hd⟩ := hr
      simp (maxSteps := 2000000) (disch := first | assumption | omega | (simp only [nx_push, nx_set, ne_eq] <;> omega) | (simp only [XSide, F35]; done) | decide) only [XWalk, XSl, ↓XPre, reduceIte, Nat.reduceEqDiff, Nat.reduceLT, Nat.reduceAdd, Nat.reduceSub, Nat.reduceMul, Nat.reduceBEq, reduceCtorEq, Int.reduceAdd, Int.reduceSub, Int.reduceMul, Int.reduceLT, Int.reduceLE, Int.reduceGT, Int.reduceGE, Int.reduceEq, Int.reduceNe, Int.reduceBEq, Int.reduceBNe, Int.reduceTMod, Int.reduceTDiv, ↓if_true, ↓if_false, F35, A35, if_neg h1]
      refine wcall_pu (pu_of (equal_ct hd ht1)) ?_
      cases he : (blakeB key p == T) with
      | true => simp (maxSteps := 2000000) (disch := first | assumption | omega | (simp only [nx_push, nx_set, ne_eq] <;> omega) | (simp only [XSide, F35]; done) | decide) only [XWalk, XSl, ↓XPre, reduceIte, Nat.reduceEqDiff, Nat.reduceLT, Nat.reduceAdd, Nat.reduceSub, Nat.reduceMul, Nat.reduceBEq, reduceCtorEq, Int.reduceAdd, Int.reduceSub, Int.reduceMul, Int.reduceLT, Int.reduceLE, Int.reduceGT, Int.reduceGE, Int.reduceEq, Int.reduceNe, Int.reduceBEq, Int.reduceBNe, Int.reduceTMod, Int.reduceTDiv, ↓if_true, ↓if_false, F35, A35]
      | false => simp (maxSteps := 2000000) (disch := first | assumption | omega | (simp only [nx_push, nx_set, ne_eq] <;> omega) | (simp only [XSide, F35]; done) | decide) only [XWalk, XSl, ↓XPre, reduceIte, Nat.reduceEqDiff, Nat.reduceLT, Nat.reduceAdd, Nat.reduceSub, Nat.reduceMul, Nat.reduceBEq, reduceCtorEq, Int.reduceAdd, Int.reduceSub, Int.reduceMul, Int.reduceLT, Int.reduceLE, Int.reduceGT, Int.reduceGE, Int.reduceEq, Int.reduceNe, Int.reduceBEq, Int.reduceBNe, Int.reduceTMod, Int.reduceTDiv, ↓if_true, ↓if_false, F35, A35]

/-! ### The first of errors -/

def firstE : List Int → Int
  | [] => 0
  | a :: l => if a != 0 then a else firstE l

theorem first_ct {m : Mem} (hw : WF m) {fb c : Nat} {kd : Kind} {l : List Int} (hm : m.get fb = some (.row (l.map fun a => .int .i64 a) kd)) (hl : l.length < 1073741824) : Ct Tryz.prog S0 28 [.slice (some ⟨fb, 0, none⟩) l.length c] m [] (fun out m' => out = .ret (.int .i64 (firstE l)) ∧ m' = m) := by
  refine ct_x (spec0 _) (by rfl) Tryz.func28 rfl ?_
  simp (maxSteps := 2000000) (disch := first | assumption | omega | (simp only [nx_push, nx_set, ne_eq] <;> omega) | (simp only [XSide, F28]; done) | decide) only [XWalk, XSl, ↓XPre, reduceIte, Nat.reduceEqDiff, Nat.reduceLT, Nat.reduceAdd, Nat.reduceSub, Nat.reduceMul, Nat.reduceBEq, reduceCtorEq, Int.reduceAdd, Int.reduceSub, Int.reduceMul, Int.reduceLT, Int.reduceLE, Int.reduceGT, Int.reduceGE, Int.reduceEq, Int.reduceNe, Int.reduceBEq, Int.reduceBNe, Int.reduceTMod, Int.reduceTDiv, ↓if_true, ↓if_false, F28, A28, Tryz.ntmps28]
  refine x_loop (fun k e m1 => ∃ i, i + k = l.length ∧ firstE (l.drop i) = firstE l ∧ e.n = 15 ∧ e.get 5 = .slice (some ⟨fb, 0, none⟩) l.length c ∧ e.get 6 = .int .i64 (l.length : Int) ∧ e.get 7 = .int .i64 ((i : Nat) : Int) ∧ m1 = m) l.length ⟨0, by omega, rfl, by simp (maxSteps := 2000000) (disch := first | assumption | omega | (simp only [nx_push, nx_set, ne_eq] <;> omega) | (simp only [XSide]; done) | decide) only [XWalk, XSl, ↓XPre, reduceIte, Nat.reduceEqDiff, Nat.reduceLT, Nat.reduceAdd, Nat.reduceSub, Nat.reduceMul, Nat.reduceBEq, reduceCtorEq, Int.reduceAdd, Int.reduceSub, Int.reduceMul, Int.reduceLT, Int.reduceLE, Int.reduceGT, Int.reduceGE, Int.reduceEq, Int.reduceNe, Int.reduceBEq, Int.reduceBNe, Int.reduceTMod, Int.reduceTDiv, ↓if_true, ↓if_false], by simp (maxSteps := 2000000) (disch := first | assumption | omega | (simp only [nx_push, nx_set, ne_eq] <;> omega) | (simp only [XSide]; done) | decide) only [XWalk, XSl, ↓XPre, reduceIte, Nat.reduceEqDiff, Nat.reduceLT, Nat.reduceAdd, Nat.reduceSub, Nat.reduceMul, Nat.reduceBEq, reduceCtorEq, Int.reduceAdd, Int.reduceSub, Int.reduceMul, Int.reduceLT, Int.reduceLE, Int.reduceGT, Int.reduceGE, Int.reduceEq, Int.reduceNe, Int.reduceBEq, Int.reduceBNe, Int.reduceTMod, Int.reduceTDiv, ↓if_true, ↓if_false], by simp (maxSteps := 2000000) (disch := first | assumption | omega | (simp only [nx_push, nx_set, ne_eq] <;> omega) | (simp only [XSide]; done) | decide) only [XWalk, XSl, ↓XPre, reduceIte, Nat.reduceEqDiff, Nat.reduceLT, Nat.reduceAdd, Nat.reduceSub, Nat.reduceMul, Nat.reduceBEq, reduceCtorEq, Int.reduceAdd, Int.reduceSub, Int.reduceMul, Int.reduceLT, Int.reduceLE, Int.reduceGT, Int.reduceGE, Int.reduceEq, Int.reduceNe, Int.reduceBEq, Int.reduceBNe, Int.reduceTMod, Int.reduceTDiv, ↓if_true, ↓if_false], by simp (maxSteps := 2000000) (disch := first | assumption | omega | (simp only [nx_push, nx_set, ne_eq] <;> omega) | (simp only [XSide]; done) | decide) only [XWalk, XSl, ↓XPre, reduceIte, Nat.reduceEqDiff, Nat.reduceLT, Nat.reduceAdd, Nat.reduceSub, Nat.reduceMul, Nat.reduceBEq, reduceCtorEq, Int.reduceAdd, Int.reduceSub, Int.reduceMul, Int.reduceLT, Int.reduceLE, Int.reduceGT, Int.reduceGE, Int.reduceEq, Int.reduceNe, Int.reduceBEq, Int.reduceBNe, Int.reduceTMod, Int.reduceTDiv, ↓if_true, ↓if_false]; rfl, rfl⟩ ?_
  rintro k e m1 ⟨i, hi, hf, he, q5, q6, q7, rfl⟩
  simp (maxSteps := 2000000) (disch := first | assumption | omega | (simp only [nx_push, nx_set, ne_eq] <;> omega) | (simp only [XSide, F28]; done) | decide) only [XWalk, XSl, ↓XPre, reduceIte, Nat.reduceEqDiff, Nat.reduceLT, Nat.reduceAdd, Nat.reduceSub, Nat.reduceMul, Nat.reduceBEq, reduceCtorEq, Int.reduceAdd, Int.reduceSub, Int.reduceMul, Int.reduceLT, Int.reduceLE, Int.reduceGT, Int.reduceGE, Int.reduceEq, Int.reduceNe, Int.reduceBEq, Int.reduceBNe, Int.reduceTMod, Int.reduceTDiv, ↓if_true, ↓if_false, F28, A28, he, q6, q7]
  refine x_if (fun ht => ?_) (fun ht => ?_)
  · have hk : i < l.length := by have := of_decide_eq_true ht; omega
    have hg : (l.map fun a => Value.int .i64 a)[i]? = some (.int .i64 l[i]) := by simp [hk]
    rw [List.drop_eq_getElem_cons hk, firstE] at hf
    have e2 : IntKind.wrap .i64 ((i : Int) + 1) = ((i + 1 : Nat) : Int) := by rw [wrap_i64 (by omega) (by omega)]; omega
    simp (maxSteps := 2000000) (disch := first | assumption | omega | (simp only [nx_push, nx_set, ne_eq] <;> omega) | (simp only [XSide, F28]; done) | decide) only [XWalk, XSl, ↓XPre, reduceIte, Nat.reduceEqDiff, Nat.reduceLT, Nat.reduceAdd, Nat.reduceSub, Nat.reduceMul, Nat.reduceBEq, reduceCtorEq, Int.reduceAdd, Int.reduceSub, Int.reduceMul, Int.reduceLT, Int.reduceLE, Int.reduceGT, Int.reduceGE, Int.reduceEq, Int.reduceNe, Int.reduceBEq, Int.reduceBNe, Int.reduceTMod, Int.reduceTDiv, ↓if_true, ↓if_false, F28, A28, he, q5, q6, q7, hm, hg]
    refine x_if (fun hc => ?_) (fun hc => ?_)
    · rw [hc] at hf
      simp (maxSteps := 2000000) (disch := first | assumption | omega | (simp only [nx_push, nx_set, ne_eq] <;> omega) | (simp only [XSide, F28]; done) | decide) only [XWalk, XSl, ↓XPre, reduceIte, Nat.reduceEqDiff, Nat.reduceLT, Nat.reduceAdd, Nat.reduceSub, Nat.reduceMul, Nat.reduceBEq, reduceCtorEq, Int.reduceAdd, Int.reduceSub, Int.reduceMul, Int.reduceLT, Int.reduceLE, Int.reduceGT, Int.reduceGE, Int.reduceEq, Int.reduceNe, Int.reduceBEq, Int.reduceBNe, Int.reduceTMod, Int.reduceTDiv, ↓if_true, ↓if_false, F28, A28, he]
      rw [← hf]; rfl
    · rw [hc] at hf
      simp (maxSteps := 2000000) (disch := first | assumption | omega | (simp only [nx_push, nx_set, ne_eq] <;> omega) | (simp only [XSide, F28]; done) | decide) only [XWalk, XSl, ↓XPre, reduceIte, Nat.reduceEqDiff, Nat.reduceLT, Nat.reduceAdd, Nat.reduceSub, Nat.reduceMul, Nat.reduceBEq, reduceCtorEq, Int.reduceAdd, Int.reduceSub, Int.reduceMul, Int.reduceLT, Int.reduceLE, Int.reduceGT, Int.reduceGE, Int.reduceEq, Int.reduceNe, Int.reduceBEq, Int.reduceBNe, Int.reduceTMod, Int.reduceTDiv, ↓if_true, ↓if_false, F28, A28, he, q5, q6, q7, e2]
      exact ⟨k - 1, by omega, i + 1, by omega, hf, rfl⟩
  · have hk : i = l.length := by have := of_decide_eq_false ht; omega
    subst hk
    rw [List.drop_length] at hf
    simp (maxSteps := 2000000) (disch := first | assumption | omega | (simp only [nx_push, nx_set, ne_eq] <;> omega) | (simp only [XSide, F28]; done) | decide) only [XWalk, XSl, ↓XPre, reduceIte, Nat.reduceEqDiff, Nat.reduceLT, Nat.reduceAdd, Nat.reduceSub, Nat.reduceMul, Nat.reduceBEq, reduceCtorEq, Int.reduceAdd, Int.reduceSub, Int.reduceMul, Int.reduceLT, Int.reduceLE, Int.reduceGT, Int.reduceGE, Int.reduceEq, Int.reduceNe, Int.reduceBEq, Int.reduceBNe, Int.reduceTMod, Int.reduceTDiv, ↓if_true, ↓if_false, F28, A28, he]
    rw [← hf]; rfl

end Go.Big

/- Writing an encoding. -/
set_option linter.unusedSimpArgs false
set_option linter.unusedVariables false
set_option maxRecDepth 100000
set_option maxHeartbeats 2000000
namespace Go.Big
open Go.Proofs

/-- A writer at a block, without an error, with these bytes. -/
structure WrAt (n0 : Nat) (m : Mem) (wb : Nat) (ov : Value) (l : List UInt8) : Prop where
  row : m.get wb = some (.row [.int .i64 0, ov] .rw)
  app : Ab m n0 ov l
  ne : slBlk ov ≠ some wb

theorem WrAt.frame {n0 wb : Nat} {m m' : Mem} {ov : Value} {l : List UInt8} (h : WrAt n0 m wb ov l) (k : Keep m m') : WrAt n0 m' wb ov l :=
  ⟨by rw [k wb (by rw [h.row]; simp)]; exact h.row, h.app.keep k, h.ne⟩

theorem broken_ct {m : Mem} {wb : Nat} {ov : Value} (h : m.get wb = some (.row [.int .i64 0, ov] .rw)) : Ct Tryz.prog S0 95 [.pointer (some ⟨wb, 0, none⟩)] m [] (fun out m' => out = .ret (.bool false) ∧ m' = m) := by
  refine ct_x (spec0 _) (by rfl) Tryz.func95 rfl ?_
  simp (maxSteps := 2000000) (disch := first | assumption | omega | (simp only [nx_push, nx_set, ne_eq] <;> omega) | (simp only [XSide, F95]; done) | decide) only [XWalk, XSl, ↓XPre, reduceIte, Nat.reduceEqDiff, Nat.reduceLT, Nat.reduceAdd, Nat.reduceSub, Nat.reduceMul, Nat.reduceBEq, reduceCtorEq, Int.reduceAdd, Int.reduceSub, Int.reduceMul, Int.reduceLT, Int.reduceLE, Int.reduceGT, Int.reduceGE, Int.reduceEq, Int.reduceNe, Int.reduceBEq, Int.reduceBNe, Int.reduceTMod, Int.reduceTDiv, ↓if_true, ↓if_false, F95, A95, Tryz.ntmps95, h]

/-- What a step of writing leaves. -/
def Wrote (n0 : Nat) (m : Mem) (wb : Nat) (ov : Value) (l : List UInt8) : COut → Mem → Prop := fun out m' => out = .ret (.tuple #[]) ∧ ∃ ov', WrAt n0 m' wb ov' l ∧ ∀ b, slBlk ov' = some b → slBlk ov = some b ∨ m.next ≤ b

theorem put_ct {m : Mem} (hw : WF m) {n0 wb : Nat} {ov bv : Value} {l b : List UInt8} (h : WrAt n0 m wb ov l) (hb : Bs m bv b) (hn0 : n0 ≤ m.next) (hl : l.length + b.length ≤ 65536) :
    Ct Tryz.prog S0 93 [.pointer (some ⟨wb, 0, none⟩), bv] m (wb :: (slBlk ov).toList) (Wrote n0 m wb ov (l ++ b)) := by
  obtain ⟨hr, ha, hne⟩ := h
  have hwl : wb < m.next := hw.lt (by rw [hr]; simp)
  refine ct_x (spec0 _) (by rfl) Tryz.func93 rfl ?_
  simp (maxSteps := 2000000) (disch := first | assumption | omega | (simp only [nx_push, nx_set, ne_eq] <;> omega) | (simp only [XSide, F93]; done) | decide) only [XWalk, XSl, ↓XPre, reduceIte, Nat.reduceEqDiff, Nat.reduceLT, Nat.reduceAdd, Nat.reduceSub, Nat.reduceMul, Nat.reduceBEq, reduceCtorEq, Int.reduceAdd, Int.reduceSub, Int.reduceMul, Int.reduceLT, Int.reduceLE, Int.reduceGT, Int.reduceGE, Int.reduceEq, Int.reduceNe, Int.reduceBEq, Int.reduceBNe, Int.reduceTMod, Int.reduceTDiv, ↓if_true, ↓if_false, F93, A93, Tryz.ntmps93]
  refine wcall_pu (pu_of (broken_ct hr)) ?_
  have e1 : IntKind.wrap .i64 ((l.length : Int) + (b.length : Int)) = ((l.length + b.length : Nat) : Int) := by rw [wrap_i64 (by omega) (by omega)]; omega
  have e2 : decide (((l.length + b.length : Nat) : Int) > 65536) = false := by simp; omega
  simp (maxSteps := 2000000) (disch := first | assumption | omega | (simp only [nx_push, nx_set, ne_eq] <;> omega) | (simp only [XSide, F93]; done) | decide) only [XWalk, XSl, ↓XPre, reduceIte, Nat.reduceEqDiff, Nat.reduceLT, Nat.reduceAdd, Nat.reduceSub, Nat.reduceMul, Nat.reduceBEq, reduceCtorEq, Int.reduceAdd, Int.reduceSub, Int.reduceMul, Int.reduceLT, Int.reduceLE, Int.reduceGT, Int.reduceGE, Int.reduceEq, Int.reduceNe, Int.reduceBEq, Int.reduceBNe, Int.reduceTMod, Int.reduceTDiv, ↓if_true, ↓if_false, F93, A93, hr, alen_bs ha.sl, alen_bs hb, e1, e2]
  refine wappend (bytes := 1) (by simp only [F93]) ha hb (by omega) hn0 hw fun v' m' w hd ok => ?_
  have hwb : m'.get wb = some (.row [.int .i64 0, ov] .rw) := by rw [hd.frame wb hwl hne]; exact hr
  have okw : OkW m.next (wb :: (slBlk ov).toList) w := fun c hc hlt => by
    have := hd.wr c hc
    simp [this]
  have hob : oneCell v' = true := one_sl hd.app.sl
  have bq : Nat.beq v'.cells.size 1 = true := by obtain ⟨a, n, c, rfl⟩ := sl_shape hd.app.sl; rfl
  have cl : v'.cells.toList = [v'] := by obtain ⟨a, n, c, rfl⟩ := sl_shape hd.app.sl; rfl
  simp (maxSteps := 2000000) (disch := first | assumption | omega | (simp only [nx_push, nx_set, ne_eq] <;> omega) | (simp only [XSide, F93]; done) | decide) only [XWalk, XSl, ↓XPre, reduceIte, Nat.reduceEqDiff, Nat.reduceLT, Nat.reduceAdd, Nat.reduceSub, Nat.reduceMul, Nat.reduceBEq, reduceCtorEq, Int.reduceAdd, Int.reduceSub, Int.reduceMul, Int.reduceLT, Int.reduceLE, Int.reduceGT, Int.reduceGE, Int.reduceEq, Int.reduceNe, Int.reduceBEq, Int.reduceBNe, Int.reduceTMod, Int.reduceTDiv, ↓if_true, ↓if_false, F93, A93, okw, hwb, bq, cl, List.set_cons_zero, List.set_cons_succ, hob]
  have hne' : slBlk v' ≠ some wb := fun e => by
    rcases hd.blk wb e with h1 | h1
    · exact hne h1
    · omega
  refine ⟨rfl, v', ⟨get_set_self, hd.app.frame fun c hc => ?_, hne'⟩, hd.blk⟩
  rw [get_set_ne]
  rintro rfl
  exact hne' hc

theorem wuint_ct {m : Mem} (hw : WF m) {n0 wb : Nat} {ov : Value} {l : List UInt8} {n : Nat} (h : WrAt n0 m wb ov l) (hn0 : n0 ≤ m.next) (hn : n < 9223372036854775808) (hl : l.length + (groupB n).length ≤ 65536) :
    Ct Tryz.prog S0 91 [.pointer (some ⟨wb, 0, none⟩), .int .i64 (n : Int)] m (wb :: (slBlk ov).toList) (Wrote n0 m wb ov (l ++ groupB n)) := by
  have hwl : wb < m.next := hw.lt (by rw [h.row]; simp)
  refine ct_x (spec0 _) (by rfl) Tryz.func91 rfl ?_
  have e1 : decide ((n : Int) < 0) = false := decide_eq_false (by omega)
  have e2 : IntKind.wrap .u64 (n : Int) = (n : Int) := wrap_u64 (by omega) (by omega)
  simp (maxSteps := 2000000) (disch := first | assumption | omega | (simp only [nx_push, nx_set, ne_eq] <;> omega) | (simp only [XSide, F91]; done) | decide) only [XWalk, XSl, ↓XPre, reduceIte, Nat.reduceEqDiff, Nat.reduceLT, Nat.reduceAdd, Nat.reduceSub, Nat.reduceMul, Nat.reduceBEq, reduceCtorEq, Int.reduceAdd, Int.reduceSub, Int.reduceMul, Int.reduceLT, Int.reduceLE, Int.reduceGT, Int.reduceGE, Int.reduceEq, Int.reduceNe, Int.reduceBEq, Int.reduceBNe, Int.reduceTMod, Int.reduceTDiv, ↓if_true, ↓if_false, F91, A91, Tryz.ntmps91, e1, e2]
  refine wcall_x specLoc (ct_nil (group_ct hw (v := .slice none 0 0) (l := []) (n0 := m.next) .nil (Nat.le_refl _) (n := n) (by omega) (by simp only [List.length_nil]; omega)) rfl) hw ?_
  rintro out m1 hw1 hn1 f1 ⟨v', rfl, ho, hbk⟩
  rw [List.nil_append] at ho
  simp (maxSteps := 2000000) (disch := first | assumption | omega | (simp only [nx_push, nx_set, ne_eq] <;> omega) | (simp only [XSide, F91]; done) | decide) only [XWalk, XSl, ↓XPre, reduceIte, Nat.reduceEqDiff, Nat.reduceLT, Nat.reduceAdd, Nat.reduceSub, Nat.reduceMul, Nat.reduceBEq, reduceCtorEq, Int.reduceAdd, Int.reduceSub, Int.reduceMul, Int.reduceLT, Int.reduceLE, Int.reduceGT, Int.reduceGE, Int.reduceEq, Int.reduceNe, Int.reduceBEq, Int.reduceBNe, Int.reduceTMod, Int.reduceTDiv, ↓if_true, ↓if_false, F91, A91]
  refine wcall_of specLoc (put_ct hw1 (h.frame (keep_of hw f1)) ho.sl (by omega) hl) hw1 (fun b hb _ => hb) ?_
  rintro out m2 wr hwr hw2 hn2 hf2 _ ⟨rfl, ov', h2, h3⟩
  have okw : OkW m.next (wb :: (slBlk ov).toList) wr := fun c hc _ => hwr c hc
  simp (maxSteps := 2000000) (disch := first | assumption | omega | (simp only [nx_push, nx_set, ne_eq] <;> omega) | (simp only [XSide, F91]; done) | decide) only [XWalk, XSl, ↓XPre, reduceIte, Nat.reduceEqDiff, Nat.reduceLT, Nat.reduceAdd, Nat.reduceSub, Nat.reduceMul, Nat.reduceBEq, reduceCtorEq, Int.reduceAdd, Int.reduceSub, Int.reduceMul, Int.reduceLT, Int.reduceLE, Int.reduceGT, Int.reduceGE, Int.reduceEq, Int.reduceNe, Int.reduceBEq, Int.reduceBNe, Int.reduceTMod, Int.reduceTDiv, ↓if_true, ↓if_false, F91, A91, okw]
  exact ⟨rfl, ov', h2, fun b hb => (h3 b hb).imp_right fun h => by omega⟩

def strB (l : List UInt8) : List UInt8 := groupB l.length ++ l
theorem groupB_len : ∀ (k n : Nat), n < 128 ^ k → 0 < k → (groupB n).length ≤ k := by
  intro k
  induction k with
  | zero => intro n _ h; omega
  | succ k ih =>
    intro n hn _
    rw [groupB]
    split
    · simp
    · rw [List.length_cons]
      by_cases hk : k = 0
      · subst hk; simp at hn; omega
      · have := ih (n / 128) (by rw [Nat.div_lt_iff_lt_mul (by omega)]; rw [Nat.pow_succ] at hn; exact hn) (by omega)
        omega

theorem wbytes_ct {m : Mem} (hw : WF m) {n0 wb : Nat} {ov bv : Value} {l b : List UInt8} (h : WrAt n0 m wb ov l) (hb : Bs m bv b) (hn0 : n0 ≤ m.next) (hl : l.length + (strB b).length ≤ 65536) :
    Ct Tryz.prog S0 57 [.pointer (some ⟨wb, 0, none⟩), bv] m (wb :: (slBlk ov).toList) (Wrote n0 m wb ov (l ++ strB b)) := by
  have hwl : wb < m.next := hw.lt (by rw [h.row]; simp)
  have hl' := hl
  rw [strB, List.length_append] at hl'
  refine ct_x (spec0 _) (by rfl) Tryz.func57 rfl ?_
  have e2 : IntKind.wrap .u64 (b.length : Int) = (b.length : Int) := wrap_u64 (by omega) (by omega)
  simp (maxSteps := 2000000) (disch := first | assumption | omega | (simp only [nx_push, nx_set, ne_eq] <;> omega) | (simp only [XSide, F57]; done) | decide) only [XWalk, XSl, ↓XPre, reduceIte, Nat.reduceEqDiff, Nat.reduceLT, Nat.reduceAdd, Nat.reduceSub, Nat.reduceMul, Nat.reduceBEq, reduceCtorEq, Int.reduceAdd, Int.reduceSub, Int.reduceMul, Int.reduceLT, Int.reduceLE, Int.reduceGT, Int.reduceGE, Int.reduceEq, Int.reduceNe, Int.reduceBEq, Int.reduceBNe, Int.reduceTMod, Int.reduceTDiv, ↓if_true, ↓if_false, F57, A57, Tryz.ntmps57, alen_bs hb, e2]
  refine wcall_x specLoc (ct_nil (group_ct hw (v := .slice none 0 0) (l := []) (n0 := m.next) .nil (Nat.le_refl _) (n := b.length) (by omega) (by simp only [List.length_nil]; omega)) rfl) hw ?_
  rintro out m1 hw1 hn1 f1 ⟨v', rfl, ho, hbk⟩
  rw [List.nil_append] at ho
  have hb1 : Bs m1 bv b := hb.keep (keep_of hw f1)
  simp (maxSteps := 2000000) (disch := first | assumption | omega | (simp only [nx_push, nx_set, ne_eq] <;> omega) | (simp only [XSide, F57]; done) | decide) only [XWalk, XSl, ↓XPre, reduceIte, Nat.reduceEqDiff, Nat.reduceLT, Nat.reduceAdd, Nat.reduceSub, Nat.reduceMul, Nat.reduceBEq, reduceCtorEq, Int.reduceAdd, Int.reduceSub, Int.reduceMul, Int.reduceLT, Int.reduceLE, Int.reduceGT, Int.reduceGE, Int.reduceEq, Int.reduceNe, Int.reduceBEq, Int.reduceBNe, Int.reduceTMod, Int.reduceTDiv, ↓if_true, ↓if_false, F57, A57]
  refine wappend (bytes := 1) (by simp only [F57]) ho.app hb1 (by omega) (by omega) hw1 fun v2 m2 w hd ok => ?_
  simp (maxSteps := 2000000) (disch := first | assumption | omega | (simp only [nx_push, nx_set, ne_eq] <;> omega) | (simp only [XSide, F57]; done) | decide) only [XWalk, XSl, ↓XPre, reduceIte, Nat.reduceEqDiff, Nat.reduceLT, Nat.reduceAdd, Nat.reduceSub, Nat.reduceMul, Nat.reduceBEq, reduceCtorEq, Int.reduceAdd, Int.reduceSub, Int.reduceMul, Int.reduceLT, Int.reduceLE, Int.reduceGT, Int.reduceGE, Int.reduceEq, Int.reduceNe, Int.reduceBEq, Int.reduceBNe, Int.reduceTMod, Int.reduceTDiv, ↓if_true, ↓if_false, F57, A57, ok m.next _ (Nat.le_refl _)]
  have hold : ∀ c, c < m.next → m2.get c = m1.get c := fun c hc => hd.old (fun c hc => ho.app.blk_ge hc) c hc (by omega)
  have h2 : WrAt n0 m2 wb ov l := h.frame fun c hc => by have := hw.lt hc; rw [hold c this, f1 c this]
  have hnx := hd.next
  refine wcall_of specLoc (put_ct hd.wf h2 hd.app.sl (by omega) hl) hd.wf (fun b hb _ => hb) ?_
  rintro out m3 wr hwr hw3 hn3 hf3 _ ⟨rfl, ov', h3, h4⟩
  have okw : OkW m.next (wb :: (slBlk ov).toList) wr := fun c hc _ => hwr c hc
  simp (maxSteps := 2000000) (disch := first | assumption | omega | (simp only [nx_push, nx_set, ne_eq] <;> omega) | (simp only [XSide, F57]; done) | decide) only [XWalk, XSl, ↓XPre, reduceIte, Nat.reduceEqDiff, Nat.reduceLT, Nat.reduceAdd, Nat.reduceSub, Nat.reduceMul, Nat.reduceBEq, reduceCtorEq, Int.reduceAdd, Int.reduceSub, Int.reduceMul, Int.reduceLT, Int.reduceLE, Int.reduceGT, Int.reduceGE, Int.reduceEq, Int.reduceNe, Int.reduceBEq, Int.reduceBNe, Int.reduceTMod, Int.reduceTDiv, ↓if_true, ↓if_false, F57, A57, okw]
  exact ⟨rfl, ov', h3, fun b hb => (h4 b hb).imp_right fun h => by omega⟩

theorem wstring_ct {m : Mem} (hw : WF m) {n0 wb : Nat} {ov : Value} {l b : List UInt8} (h : WrAt n0 m wb ov l) (hn0 : n0 ≤ m.next) (hl : l.length + (strB b).length ≤ 65536) :
    Ct Tryz.prog S0 92 [.pointer (some ⟨wb, 0, none⟩), str b] m (wb :: (slBlk ov).toList) (Wrote n0 m wb ov (l ++ strB b)) := by
  have hl' := hl
  rw [strB, List.length_append] at hl'
  refine ct_x (spec0 _) (by rfl) Tryz.func92 rfl ?_
  simp (maxSteps := 2000000) (disch := first | assumption | omega | (simp only [nx_push, nx_set, ne_eq] <;> omega) | (simp only [XSide, F92]; done) | decide) only [XWalk, XSl, ↓XPre, reduceIte, Nat.reduceEqDiff, Nat.reduceLT, Nat.reduceAdd, Nat.reduceSub, Nat.reduceMul, Nat.reduceBEq, reduceCtorEq, Int.reduceAdd, Int.reduceSub, Int.reduceMul, Int.reduceLT, Int.reduceLE, Int.reduceGT, Int.reduceGE, Int.reduceEq, Int.reduceNe, Int.reduceBEq, Int.reduceBNe, Int.reduceTMod, Int.reduceTDiv, ↓if_true, ↓if_false, F92, A92, Tryz.ntmps92, aconv_str2]
  have hb : Bs (m.push (.row (u8s b) (.slack 1))) (.slice (some ⟨m.next, 0, none⟩) b.length b.length) b := .row get_push_self (by rw [List.drop_zero, List.take_of_length_le (by rw [u8s_length]; omega)]) (by rw [u8s_length]) (Nat.le_refl _) (fun s hs => by cases hs; exact ⟨rfl, by rw [u8s_length]; omega⟩)
  refine wcall_of specLoc (wbytes_ct hw.push (h.frame (Keep.push hw)) hb (by simp; omega) hl) hw.push (fun b hb _ => hb) ?_
  rintro out m3 wr hwr hw3 hn3 hf3 _ ⟨rfl, ov', h3, h4⟩
  have okw : OkW m.next (wb :: (slBlk ov).toList) wr := fun c hc _ => hwr c hc
  simp (maxSteps := 2000000) (disch := first | assumption | omega | (simp only [nx_push, nx_set, ne_eq] <;> omega) | (simp only [XSide, F92]; done) | decide) only [XWalk, XSl, ↓XPre, reduceIte, Nat.reduceEqDiff, Nat.reduceLT, Nat.reduceAdd, Nat.reduceSub, Nat.reduceMul, Nat.reduceBEq, reduceCtorEq, Int.reduceAdd, Int.reduceSub, Int.reduceMul, Int.reduceLT, Int.reduceLE, Int.reduceGT, Int.reduceGE, Int.reduceEq, Int.reduceNe, Int.reduceBEq, Int.reduceBNe, Int.reduceTMod, Int.reduceTDiv, ↓if_true, ↓if_false, F92, A92, okw]
  exact ⟨rfl, ov', h3, fun b hb => (h4 b hb).imp_right fun h => by simp at h; omega⟩

theorem wend_ct {m : Mem} (hw : WF m) {n0 wb : Nat} {ov : Value} {l : List UInt8} (h : WrAt n0 m wb ov l) (hl : l.length ≤ 65536) :
    Ct Tryz.prog S0 58 [.pointer (some ⟨wb, 0, none⟩)] m [] (Rv fun v m' => ∃ v', v = .tuple #[v', .int .i64 0] ∧ Ab m' m.next v' l) := by
  have hwl : wb < m.next := hw.lt (by rw [h.row]; simp)
  refine ct_x (spec0 _) (by rfl) Tryz.func58 rfl ?_
  simp (maxSteps := 2000000) (disch := first | assumption | omega | (simp only [nx_push, nx_set, ne_eq] <;> omega) | (simp only [XSide, F58]; done) | decide) only [XWalk, XSl, ↓XPre, reduceIte, Nat.reduceEqDiff, Nat.reduceLT, Nat.reduceAdd, Nat.reduceSub, Nat.reduceMul, Nat.reduceBEq, reduceCtorEq, Int.reduceAdd, Int.reduceSub, Int.reduceMul, Int.reduceLT, Int.reduceLE, Int.reduceGT, Int.reduceGE, Int.reduceEq, Int.reduceNe, Int.reduceBEq, Int.reduceBNe, Int.reduceTMod, Int.reduceTDiv, ↓if_true, ↓if_false, F58, A58, Tryz.ntmps58]
  refine wcall_pu (pu_of (broken_ct h.row)) ?_
  simp (maxSteps := 2000000) (disch := first | assumption | omega | (simp only [nx_push, nx_set, ne_eq] <;> omega) | (simp only [XSide, F58]; done) | decide) only [XWalk, XSl, ↓XPre, reduceIte, Nat.reduceEqDiff, Nat.reduceLT, Nat.reduceAdd, Nat.reduceSub, Nat.reduceMul, Nat.reduceBEq, reduceCtorEq, Int.reduceAdd, Int.reduceSub, Int.reduceMul, Int.reduceLT, Int.reduceLE, Int.reduceGT, Int.reduceGE, Int.reduceEq, Int.reduceNe, Int.reduceBEq, Int.reduceBNe, Int.reduceTMod, Int.reduceTDiv, ↓if_true, ↓if_false, F58, A58, h.row]
  refine wcall_v specLoc (clone_ct hw h.app.sl (by omega)) hw ?_
  intro v' m1 hw1 hn1 f1 hv
  simp (maxSteps := 2000000) (disch := first | assumption | omega | (simp only [nx_push, nx_set, ne_eq] <;> omega) | (simp only [XSide, F58]; done) | decide) only [XWalk, XSl, ↓XPre, reduceIte, Nat.reduceEqDiff, Nat.reduceLT, Nat.reduceAdd, Nat.reduceSub, Nat.reduceMul, Nat.reduceBEq, reduceCtorEq, Int.reduceAdd, Int.reduceSub, Int.reduceMul, Int.reduceLT, Int.reduceLE, Int.reduceGT, Int.reduceGE, Int.reduceEq, Int.reduceNe, Int.reduceBEq, Int.reduceBNe, Int.reduceTMod, Int.reduceTDiv, ↓if_true, ↓if_false, F58, A58]
  exact ⟨_, rfl, v', rfl, hv⟩

end Go.Big
