/- Accounts: looking up, tags. -/
import Derived.Test.YtobhnnbdobphfaaDoorJoined8
set_option linter.unusedSimpArgs false
set_option linter.unusedVariables false
set_option maxRecDepth 100000
set_option maxHeartbeats 2000000
namespace Go.Big
open Go.Proofs
set_option linter.defProp false

theorem findIdx2 {P : Program} {kt : TypeId} (hu : tyTag P kt = 6) {n a b : List UInt8} {v w : Value} {i j : Nat} :
    findIdx P kt (str n) [⟨str a, v, i⟩, ⟨str b, w, j⟩] = some (if n = a then some 0 else if n = b then some 1 else none) := by
  have h1 := tyTag_str hu
  unfold findIdx
  have hp : (plain (str n) && [(⟨str a, v, i⟩ : MapEntry), ⟨str b, w, j⟩].all fun e => plain e.key) = true := rfl
  rw [hp]
  have e1 : ∀ (em : Bool), eval0 P (Instr.checkKey em 10000 kt (str n)) = some () := by
    intro em
    rw [show (10000 : Nat) = 9999 + 1 from rfl, Instr.checkKey, ev0_bind, ev0_under h1]
    rfl
  simp only [cond_true, ev0_bind, e1, Option.bind_some]
  unfold Instr.findKey
  rw [ev0_bind, ev0_under h1]
  simp only [Option.bind_some, List.map_cons, List.map_nil, Instr.findNow, Instr.sameNow]
  have hb : ∀ x y : List UInt8, ((⟨x.toArray⟩ : ByteArray) == ⟨y.toArray⟩) = decide (x = y) := by
    intro x y
    show (x.toArray == y.toArray) = decide (x = y)
    rw [Bool.eq_iff_iff, beq_iff_eq, decide_eq_true_iff]
    constructor
    · intro h
      have := congrArg Array.toList h
      simpa using this
    · rintro rfl; rfl
  rw [hb, hb]
  by_cases h2 : n = a
  · subst h2; simp; rfl
  · by_cases h3 : n = b
    · subst h3; simp [h2]; rfl
    · simp [h2, h3]; rfl

theorem loadN5 {a b c d e : Value} : loadN [a, b, c, d, e] 0 5 = some [a, b, c, d, e] := id rfl
def XAcc := And.intro @loadN5 <| And.intro @loadRow_agg <| And.intro @List.set_cons_zero.{0} <| @List.set_cons_succ.{0}

/-- The names of the accounts of the laws. -/
def acmeN : List UInt8 := [97, 99, 109, 101]
def bellN : List UInt8 := [98, 101, 108, 108]
abbrev acctV (n : List UInt8) (role : Int) (kv : Value) (dep num : Int) : Value := .agg #[str n, .int .i64 role, kv, .int .i64 dep, .int .i64 num]

/-- The book of the laws. -/
def BookAt (m : Mem) (v : Value) : Prop := ∃ xb nv mb pv k1 k2, v = .pointer (some ⟨xb, 0, none⟩) ∧ m.get xb = some (.row [nv, .map (some mb), pv] .rw) ∧
  m.get mb = some (.map [⟨str acmeN, acctV acmeN 2 k1 0 0, 0⟩, ⟨str bellN, acctV bellN 2 k2 0 1, 1⟩] 2) ∧ Bs m k1 (List.replicate 32 8) ∧ Bs m k2 (List.replicate 32 9)
theorem BookAt.keep {m m' : Mem} {v : Value} (h : BookAt m v) (k : Keep m m') : BookAt m' v := by
  obtain ⟨xb, nv, mb, pv, k1, k2, h1, h2, h3, h4, h5⟩ := h
  exact ⟨xb, nv, mb, pv, k1, k2, h1, by rw [k xb (by rw [h2]; simp)]; exact h2, by rw [k mb (by rw [h3]; simp)]; exact h3, h4.keep k, h5.keep k⟩

/-- The key and the number of an account. -/
def acctOf (n : List UInt8) : Option (List UInt8 × Int) := if n = acmeN then some (List.replicate 32 8, 0) else if n = bellN then some (List.replicate 32 9, 1) else none

theorem aclone_ct {m : Mem} (hw : WF m) {n key : List UInt8} {role dep num : Int} {kv : Value} (hk : Bs m kv key) (lk : key.length ≤ 1073741824) : Ct Tryd.prog S0 33 [acctV n role kv dep num] m [] (Rv fun v m' => ∃ kv', v = acctV n role kv' dep num ∧ Bs m' kv' key ∧ ∀ b, slBlk kv' = some b → m.next ≤ b) := by
  have hone : [str n, .int .i64 role, kv, .int .i64 dep, .int .i64 num].all oneCell = true := by
    simp only [List.all_cons, List.all_nil, one_sl hk, one_str, one_int, Bool.and_self]
  refine ct_x (spec0 _) (by rfl) Tryd.func33 rfl ?_
  simp (maxSteps := 2000000) (disch := first | assumption | omega | (simp only [nx_push, nx_set, ne_eq] <;> omega) | (simp only [XSide, F33]; done) | decide) only [XWalk, XSl, ↓XPre, reduceIte, Nat.reduceEqDiff, Nat.reduceLT, Nat.reduceAdd, Nat.reduceSub, Nat.reduceMul, Nat.reduceBEq, reduceCtorEq, Int.reduceAdd, Int.reduceSub, Int.reduceMul, Int.reduceLT, Int.reduceLE, Int.reduceGT, Int.reduceGE, Int.reduceEq, Int.reduceNe, Int.reduceBEq, Int.reduceBNe, Int.reduceTMod, Int.reduceTDiv, ↓if_true, ↓if_false, F33, A33, Tryd.ntmps33]
  have hk1 : ∀ o o', Bs ((m.push o).push o') kv key := fun o o' => (hk.keep (Keep.push hw)).keep (Keep.push hw.push)
  refine wcall_v specLoc (clone_ct hw.push.push (hk1 _ _) lk) hw.push.push ?_
  intro kv' m1 hw1 hn1 f1 hk'
  simp only [Mem.next_push] at hn1 f1
  have hm1 : m1.get m.next = some (.row [str n, .int .i64 role, kv, .int .i64 dep, .int .i64 num] .rw) := by rw [f1 _ (by omega), get_push_ne (by simp), get_push_self]
  have hz1 : ∃ z, m1.get (m.next + 1) = some (.row z .rw) ∧ z.length = 5 := ⟨_, by rw [f1 _ (by omega), get_push_eq (by simp)], rfl⟩
  obtain ⟨z, hz1, lz⟩ := hz1
  obtain ⟨a, l, c, rfl⟩ := sl_shape hk'.sl
  have hone' : [str n, .int .i64 role, .slice a l c, .int .i64 dep, .int .i64 num].all oneCell = true := rfl
  have hl5 : [str n, .int .i64 role, .slice a l c, .int .i64 dep, .int .i64 num].length = z.length := by rw [lz]; rfl
  have b5 : Nat.beq [str n, .int .i64 role, .slice a l c, .int .i64 dep, .int .i64 num].length 5 = true := rfl
  simp (maxSteps := 2000000) (disch := first | assumption | omega | (simp only [nx_push, nx_set, ne_eq] <;> omega) | (simp only [XSide, F33]; done) | decide) only [XWalk, XSl, ↓XPre, reduceIte, Nat.reduceEqDiff, Nat.reduceLT, Nat.reduceAdd, Nat.reduceSub, Nat.reduceMul, Nat.reduceBEq, reduceCtorEq, Int.reduceAdd, Int.reduceSub, Int.reduceMul, Int.reduceLT, Int.reduceLE, Int.reduceGT, Int.reduceGE, Int.reduceEq, Int.reduceNe, Int.reduceBEq, Int.reduceBNe, Int.reduceTMod, Int.reduceTDiv, ↓if_true, ↓if_false, F33, A33, hm1, hz1, XAcc, b5]
  have hge : ∀ b, slBlk (.slice a l c) = some b → m.next + 2 ≤ b := fun b hb => by
    have := hk'.blk_ge hb
    simp only [Mem.next_push] at this
    omega
  exact ⟨_, rfl, _, rfl, hk'.sl.frame_at fun b hb => by
    have := hge b hb
    rw [get_set_ne (by omega), get_set_ne (by omega)], fun b hb => by have := hge b hb; omega⟩

/-! ### Looking up -/

def alk (P : Program) (t : TypeId) (x k : Value) (ok : Bool) (m : Mem) (other : Res) : Res := match x with | .map (some r) => alookup P t (.map (some r)) k ok m | _ => other
theorem aop_lookup {P : Program} {m : Mem} {ρ : Operand → Value} {d : Option Nat} {ty : TypeId} {ps : String} {af : Array Edge} {g : Option (Nat × Bool)} {t : TypeId} {x y : Operand} {ok : Bool} :
    aop P ρ ⟨d, .lookup t x y ok, ty, ps, af, g⟩ m = alk P t (ρ x) (ρ y) ok m (pv m (pureOp P ρ ⟨d, .lookup t x y ok, ty, ps, af, g⟩)) := by
  simp only [aop, alk]
  cases ρ x with
  | map r => cases r <;> rfl
  | _ => rfl
theorem alk_map {P : Program} {m : Mem} {t : TypeId} {r : Nat} {k : Value} {ok : Bool} {o : Res} : alk P t (.map (some r)) k ok m o = alookup P t (.map (some r)) k ok m := id rfl

theorem alookup2 {P : Program} {m : Mem} {t kt et : TypeId} (hu : P.underlying t = some (.map kt et)) (hk : tyTag P kt = 6) {z : Value} (hz : (P.info? et).bind (·.zero) = some z) (hp : plain z = true) {r i j c : Nat} {a b n : List UInt8} {v w : Value}
    (hm : m.get r = some (.map [⟨str a, v, i⟩, ⟨str b, w, j⟩] c)) :
    alookup P t (.map (some r)) (str n) true m = some (.tuple (if n = a then #[v, .bool true] else if n = b then #[w, .bool true] else #[z, .bool false]), m, [], .all) := by
  unfold alookup
  simp only [hu, hm, findIdx2 hk, hz]
  by_cases h1 : n = a
  · simp [h1]
  · by_cases h2 : n = b
    · subst h2; simp [h1]
    · simp [h1, h2, hp]

theorem zero64 : (Tryd.prog.info? 46).bind (·.zero) = some (acctV [] 0 (.slice none 0 0) 0 0) := by kernel_rfl
theorem abuild64 : abuild Tryd.prog 46 [] = some (acctV [] 0 (.slice none 0 0) 0 0) := by kernel_rfl

/-- What is known of an account that was got. -/
def GotR (n : List UInt8) : Value → Mem → Prop := fun v m' =>
  match acctOf n with
  | some (key, num) => ∃ kv, v = .tuple #[acctV n 2 kv 0 num, .int .i64 0] ∧ Bs m' kv key
  | none => v = .tuple #[acctV [] 0 (.slice none 0 0) 0 0, .int .i64 9]

theorem get_ct {m : Mem} (hw : WF m) {x : Value} {n : List UInt8} (hx : BookAt m x) : Ct Tryd.prog S0 17 [x, str n] m [] (Rv (GotR n)) := by
  obtain ⟨xb, nv, mb, pv, k1, k2, rfl, h2, h3, h4, h5⟩ := hx
  have hxl : xb < m.next := hw.lt (by rw [h2]; simp)
  have hml : mb < m.next := hw.lt (by rw [h3]; simp)
  refine ct_x (spec0 _) (by rfl) Tryd.func17 rfl ?_
  have hm' : ∀ o, (m.push o).get mb = some (.map [⟨str acmeN, acctV acmeN 2 k1 0 0, 0⟩, ⟨str bellN, acctV bellN 2 k2 0 1, 1⟩] 2) := fun o => by rw [get_push_ne (by omega)]; exact h3
  have hlk : ∀ o, alookup Tryd.prog 63 (.map (some mb)) (str n) true (m.push o) = _ := fun o => alookup2 (n := n) (show Tryd.prog.underlying 63 = some (.map 9 46) by kernel_rfl) (by simp only [F52]) zero64 rfl (hm' o)
  simp (maxSteps := 2000000) (disch := first | assumption | omega | (simp only [nx_push, nx_set, ne_eq] <;> omega) | (simp only [XSide, F17]; done) | decide) only [XWalk, XSl, ↓XPre, reduceIte, Nat.reduceEqDiff, Nat.reduceLT, Nat.reduceAdd, Nat.reduceSub, Nat.reduceMul, Nat.reduceBEq, reduceCtorEq, Int.reduceAdd, Int.reduceSub, Int.reduceMul, Int.reduceLT, Int.reduceLE, Int.reduceGT, Int.reduceGE, Int.reduceEq, Int.reduceNe, Int.reduceBEq, Int.reduceBNe, Int.reduceTMod, Int.reduceTDiv, ↓if_true, ↓if_false, F17, A17, Tryd.ntmps17, h2, aop_lookup, alk_map, hlk]
  by_cases ha : n = acmeN
  · subst ha
    obtain ⟨a, l, c, rfl⟩ := sl_shape h4
    simp (maxSteps := 2000000) (disch := first | assumption | omega | (simp only [nx_push, nx_set, ne_eq] <;> omega) | (simp only [XSide, F17]; done) | decide) only [XWalk, XSl, ↓XPre, reduceIte, Nat.reduceEqDiff, Nat.reduceLT, Nat.reduceAdd, Nat.reduceSub, Nat.reduceMul, Nat.reduceBEq, reduceCtorEq, Int.reduceAdd, Int.reduceSub, Int.reduceMul, Int.reduceLT, Int.reduceLE, Int.reduceGT, Int.reduceGE, Int.reduceEq, Int.reduceNe, Int.reduceBEq, Int.reduceBNe, Int.reduceTMod, Int.reduceTDiv, ↓if_true, ↓if_false, F17, A17, if_pos, XAcc]
    have hb1 : ∀ o o' o'', Bs (((m.push o).push o').set (m.next + 1) o'') (.slice a l c) (List.replicate 32 8) := fun o o' o'' => by
      refine Sl.frame_at h4 fun b hb => ?_
      have := h4.blk_lt hw hb
      rw [get_set_ne (by omega), get_push_ne (by simp; omega), get_push_ne (by omega)]
    refine wcall_v specLoc (aclone_ct (by (repeat (first | exact hw | apply WF.push | (refine WF.set ?_ (by first | omega | (simp only [Mem.next_set, Mem.next_push]; omega)))))) (hb1 _ _ _) (by simp)) (by (repeat (first | exact hw | apply WF.push | (refine WF.set ?_ (by first | omega | (simp only [Mem.next_set, Mem.next_push]; omega)))))) ?_
    rintro v' m1 hw1 hn1 f1 ⟨kv', rfl, hk', hge⟩
    simp only [Mem.next_push, Mem.next_set] at hn1 f1 hge
    have hz1 : m1.get m.next = some (.row [.string ⟨#[]⟩, .int .i64 0, .slice none 0 0, .int .i64 0, .int .i64 0] .rw) := by rw [f1 _ (by omega), get_set_ne (by omega), get_push_ne (by simp), get_push_self]
    obtain ⟨a', l', c', rfl⟩ := sl_shape hk'
    simp (maxSteps := 2000000) (disch := first | assumption | omega | (simp only [nx_push, nx_set, ne_eq] <;> omega) | (simp only [XSide, F17]; done) | decide) only [XWalk, XSl, ↓XPre, reduceIte, Nat.reduceEqDiff, Nat.reduceLT, Nat.reduceAdd, Nat.reduceSub, Nat.reduceMul, Nat.reduceBEq, reduceCtorEq, Int.reduceAdd, Int.reduceSub, Int.reduceMul, Int.reduceLT, Int.reduceLE, Int.reduceGT, Int.reduceGE, Int.reduceEq, Int.reduceNe, Int.reduceBEq, Int.reduceBNe, Int.reduceTMod, Int.reduceTDiv, ↓if_true, ↓if_false, F17, A17, hz1, XAcc]
    refine ⟨_, rfl, ?_⟩
    have hof : acctOf acmeN = some ((List.replicate 32 8), 0) := rfl
    unfold GotR
    rw [hof]
    exact ⟨_, rfl, Sl.frame_at hk' fun b hb => by rw [get_set_ne (by have := hge b hb; omega)]⟩
  · by_cases hb : n = bellN
    · subst hb
      obtain ⟨a, l, c, rfl⟩ := sl_shape h5
      simp (maxSteps := 2000000) (disch := first | assumption | omega | (simp only [nx_push, nx_set, ne_eq] <;> omega) | (simp only [XSide, F17]; done) | decide) only [XWalk, XSl, ↓XPre, reduceIte, Nat.reduceEqDiff, Nat.reduceLT, Nat.reduceAdd, Nat.reduceSub, Nat.reduceMul, Nat.reduceBEq, reduceCtorEq, Int.reduceAdd, Int.reduceSub, Int.reduceMul, Int.reduceLT, Int.reduceLE, Int.reduceGT, Int.reduceGE, Int.reduceEq, Int.reduceNe, Int.reduceBEq, Int.reduceBNe, Int.reduceTMod, Int.reduceTDiv, ↓if_true, ↓if_false, F17, A17, if_pos, if_neg ha, XAcc]
      have hb1 : ∀ o o' o'', Bs (((m.push o).push o').set (m.next + 1) o'') (.slice a l c) (List.replicate 32 9) := fun o o' o'' => by
        refine Sl.frame_at h5 fun b hb => ?_
        have := h5.blk_lt hw hb
        rw [get_set_ne (by omega), get_push_ne (by simp; omega), get_push_ne (by omega)]
      refine wcall_v specLoc (aclone_ct (by (repeat (first | exact hw | apply WF.push | (refine WF.set ?_ (by first | omega | (simp only [Mem.next_set, Mem.next_push]; omega)))))) (hb1 _ _ _) (by simp)) (by (repeat (first | exact hw | apply WF.push | (refine WF.set ?_ (by first | omega | (simp only [Mem.next_set, Mem.next_push]; omega)))))) ?_
      rintro v' m1 hw1 hn1 f1 ⟨kv', rfl, hk', hge⟩
      simp only [Mem.next_push, Mem.next_set] at hn1 f1 hge
      have hz1 : m1.get m.next = some (.row [.string ⟨#[]⟩, .int .i64 0, .slice none 0 0, .int .i64 0, .int .i64 0] .rw) := by rw [f1 _ (by omega), get_set_ne (by omega), get_push_ne (by simp), get_push_self]
      obtain ⟨a', l', c', rfl⟩ := sl_shape hk'
      simp (maxSteps := 2000000) (disch := first | assumption | omega | (simp only [nx_push, nx_set, ne_eq] <;> omega) | (simp only [XSide, F17]; done) | decide) only [XWalk, XSl, ↓XPre, reduceIte, Nat.reduceEqDiff, Nat.reduceLT, Nat.reduceAdd, Nat.reduceSub, Nat.reduceMul, Nat.reduceBEq, reduceCtorEq, Int.reduceAdd, Int.reduceSub, Int.reduceMul, Int.reduceLT, Int.reduceLE, Int.reduceGT, Int.reduceGE, Int.reduceEq, Int.reduceNe, Int.reduceBEq, Int.reduceBNe, Int.reduceTMod, Int.reduceTDiv, ↓if_true, ↓if_false, F17, A17, hz1, XAcc]
      refine ⟨_, rfl, ?_⟩
      have hof : acctOf bellN = some ((List.replicate 32 9), 1) := rfl
      unfold GotR
      rw [hof]
      exact ⟨_, rfl, Sl.frame_at hk' fun b hb => by rw [get_set_ne (by have := hge b hb; omega)]⟩
    · simp (maxSteps := 2000000) (disch := first | assumption | omega | (simp only [nx_push, nx_set, ne_eq] <;> omega) | (simp only [XSide, F17]; done) | decide) only [XWalk, XSl, ↓XPre, reduceIte, Nat.reduceEqDiff, Nat.reduceLT, Nat.reduceAdd, Nat.reduceSub, Nat.reduceMul, Nat.reduceBEq, reduceCtorEq, Int.reduceAdd, Int.reduceSub, Int.reduceMul, Int.reduceLT, Int.reduceLE, Int.reduceGT, Int.reduceGE, Int.reduceEq, Int.reduceNe, Int.reduceBEq, Int.reduceBNe, Int.reduceTMod, Int.reduceTDiv, ↓if_true, ↓if_false, F17, A17, if_neg ha, if_neg hb, XAcc, abuild64]
      refine ⟨_, rfl, ?_⟩
      have hof : acctOf n = none := by rw [acctOf, if_neg ha, if_neg hb]
      unfold GotR
      rw [hof]

end Go.Big

/- Accounts: tags; the first of errors. -/
set_option linter.unusedSimpArgs false
set_option linter.unusedVariables false
set_option maxRecDepth 100000
set_option maxHeartbeats 2000000
namespace Go.Big
open Go.Proofs

theorem get_nil_ct {m : Mem} (hw : WF m) {n : List UInt8} : Ct Tryd.prog S0 17 [.pointer none, str n] m [] (fun out m' => out = .ret (.tuple #[acctV [] 0 (.slice none 0 0) 0 0, .int .i64 1])) := by
  refine ct_x (spec0 _) (by rfl) Tryd.func17 rfl ?_
  simp (maxSteps := 2000000) (disch := first | assumption | omega | (simp only [nx_push, nx_set, ne_eq] <;> omega) | (simp only [XSide, F17]; done) | decide) only [XWalk, XSl, ↓XPre, reduceIte, Nat.reduceEqDiff, Nat.reduceLT, Nat.reduceAdd, Nat.reduceSub, Nat.reduceMul, Nat.reduceBEq, reduceCtorEq, Int.reduceAdd, Int.reduceSub, Int.reduceMul, Int.reduceLT, Int.reduceLE, Int.reduceGT, Int.reduceGE, Int.reduceEq, Int.reduceNe, Int.reduceBEq, Int.reduceBNe, Int.reduceTMod, Int.reduceTDiv, ↓if_true, ↓if_false, F17, A17, Tryd.ntmps17, XAcc]

/-- What is known of a tag. -/
def TagR (n p : List UInt8) : Value → Mem → Prop := fun v m' =>
  match acctOf n with
  | some (key, _) => if 65536 < p.length then v = .tuple #[.slice none 0 0, .int .i64 5] else ∃ tv, v = .tuple #[tv, .int .i64 0] ∧ Bs m' tv (blakeB key p)
  | none => v = .tuple #[.slice none 0 0, .int .i64 9]

theorem acctOf_len {n key : List UInt8} {num : Int} (h : acctOf n = some (key, num)) : key.length = 32 := by
  unfold acctOf at h
  split at h
  · cases h; rfl
  · split at h
    · cases h; rfl
    · cases h

theorem agg_row {m : Mem} {b : Nat} {l : List UInt8} (h : m.get b = some (.row (u8s l) .rw)) (hl : l.length = 32) : Bs m (.slice (some ⟨b, 0, none⟩) 32 32) l :=
  Sl.of_row h (by rw [List.drop_zero, List.take_of_length_le (by rw [u8s_length]; omega)]) (by rw [u8s_length]; exact hl) (Nat.le_refl _)

theorem tag_ct {m : Mem} (hw : WF m) {x pv : Value} {n p : List UInt8} (hx : BookAt m x) (hp : Bs m pv p) (hl : p.length ≤ 1099511627000) : Ct Tryd.prog S0 23 [x, str n, pv] m [] (Rv (TagR n p)) := by
  refine ct_x (spec0 _) (by rfl) Tryd.func23 rfl ?_
  simp (maxSteps := 2000000) (disch := first | assumption | omega | (simp only [nx_push, nx_set, ne_eq] <;> omega) | (simp only [XSide, F23]; done) | decide) only [XWalk, XSl, ↓XPre, reduceIte, Nat.reduceEqDiff, Nat.reduceLT, Nat.reduceAdd, Nat.reduceSub, Nat.reduceMul, Nat.reduceBEq, reduceCtorEq, Int.reduceAdd, Int.reduceSub, Int.reduceMul, Int.reduceLT, Int.reduceLE, Int.reduceGT, Int.reduceGE, Int.reduceEq, Int.reduceNe, Int.reduceBEq, Int.reduceBNe, Int.reduceTMod, Int.reduceTDiv, ↓if_true, ↓if_false, F23, A23, Tryd.ntmps23]
  refine wcall_v specLoc (get_ct hw hx) hw ?_
  intro v m1 hw1 hn1 f1 hr
  have hp1 : Bs m1 pv p := hp.keep (keep_of hw f1)
  cases ho : acctOf n with
  | none =>
    unfold GotR at hr
    rw [ho] at hr
    subst hr
    simp (maxSteps := 2000000) (disch := first | assumption | omega | (simp only [nx_push, nx_set, ne_eq] <;> omega) | (simp only [XSide, F23]; done) | decide) only [XWalk, XSl, ↓XPre, reduceIte, Nat.reduceEqDiff, Nat.reduceLT, Nat.reduceAdd, Nat.reduceSub, Nat.reduceMul, Nat.reduceBEq, reduceCtorEq, Int.reduceAdd, Int.reduceSub, Int.reduceMul, Int.reduceLT, Int.reduceLE, Int.reduceGT, Int.reduceGE, Int.reduceEq, Int.reduceNe, Int.reduceBEq, Int.reduceBNe, Int.reduceTMod, Int.reduceTDiv, ↓if_true, ↓if_false, F23, A23, XAcc]
    refine ⟨_, rfl, ?_⟩
    unfold TagR
    rw [ho]
  | some kn =>
    obtain ⟨key, num⟩ := kn
    have lk := acctOf_len ho
    unfold GotR at hr
    rw [ho] at hr
    obtain ⟨kv, rfl, hk⟩ := hr
    obtain ⟨a, l, c, rfl⟩ := sl_shape hk
    have hp2 : ∀ o o', Bs ((m1.push o).set m1.next o') pv p := fun o o' => (hp1.keep (Keep.push hw1)).frame_at fun b hb => by
      have := hp1.blk_lt hw1 hb
      rw [get_set_ne (by omega)]
    have hk2 : ∀ o o', Bs ((m1.push o).set m1.next o') (.slice a l c) key := fun o o' => (hk.keep (Keep.push hw1)).frame_at fun b hb => by
      have := hk.blk_lt hw1 hb
      rw [get_set_ne (by omega)]
    simp (maxSteps := 2000000) (disch := first | assumption | omega | (simp only [nx_push, nx_set, ne_eq] <;> omega) | (simp only [XSide, F23]; done) | decide) only [XWalk, XSl, ↓XPre, reduceIte, Nat.reduceEqDiff, Nat.reduceLT, Nat.reduceAdd, Nat.reduceSub, Nat.reduceMul, Nat.reduceBEq, reduceCtorEq, Int.reduceAdd, Int.reduceSub, Int.reduceMul, Int.reduceLT, Int.reduceLE, Int.reduceGT, Int.reduceGE, Int.reduceEq, Int.reduceNe, Int.reduceBEq, Int.reduceBNe, Int.reduceTMod, Int.reduceTDiv, ↓if_true, ↓if_false, F23, A23, XAcc, alen_bs (hp2 _ _)]
    refine x_if (fun h => ?_) (fun h => ?_)
    · have h1 : 65536 < p.length := by have := of_decide_eq_true h; omega
      simp (maxSteps := 2000000) (disch := first | assumption | omega | (simp only [nx_push, nx_set, ne_eq] <;> omega) | (simp only [XSide, F23]; done) | decide) only [XWalk, XSl, ↓XPre, reduceIte, Nat.reduceEqDiff, Nat.reduceLT, Nat.reduceAdd, Nat.reduceSub, Nat.reduceMul, Nat.reduceBEq, reduceCtorEq, Int.reduceAdd, Int.reduceSub, Int.reduceMul, Int.reduceLT, Int.reduceLE, Int.reduceGT, Int.reduceGE, Int.reduceEq, Int.reduceNe, Int.reduceBEq, Int.reduceBNe, Int.reduceTMod, Int.reduceTDiv, ↓if_true, ↓if_false, F23, A23]
      refine ⟨_, rfl, ?_⟩
      unfold TagR
      rw [ho]
      simp only [if_pos h1]
    · have h1 : ¬ 65536 < p.length := by have := of_decide_eq_false h; omega
      simp (maxSteps := 2000000) (disch := first | assumption | omega | (simp only [nx_push, nx_set, ne_eq] <;> omega) | (simp only [XSide, F23]; done) | decide) only [XWalk, XSl, ↓XPre, reduceIte, Nat.reduceEqDiff, Nat.reduceLT, Nat.reduceAdd, Nat.reduceSub, Nat.reduceMul, Nat.reduceBEq, reduceCtorEq, Int.reduceAdd, Int.reduceSub, Int.reduceMul, Int.reduceLT, Int.reduceLE, Int.reduceGT, Int.reduceGE, Int.reduceEq, Int.reduceNe, Int.reduceBEq, Int.reduceBNe, Int.reduceTMod, Int.reduceTDiv, ↓if_true, ↓if_false, F23, A23, XAcc]
      refine wcall_x specLoc (keyed_ct (by (repeat (first | exact hw1 | apply WF.push | (refine WF.set ?_ (by first | omega | (simp only [Mem.next_set, Mem.next_push]; omega)))))) (hk2 _ _) (hp2 _ _) (by omega) (by omega)) (by (repeat (first | exact hw1 | apply WF.push | (refine WF.set ?_ (by first | omega | (simp only [Mem.next_set, Mem.next_push]; omega)))))) ?_
      rintro out m2 hw2 hn2 f2 rfl
      rw [if_neg (show ¬ (key.length = 0 ∨ 32 < key.length) by omega)]
      have lb := blakeB_length (key := key) (d := p)
      have bq : Nat.beq (u8s (blakeB key p)).length 32 = true := by rw [u8s_length, lb]; rfl
      have hob : (u8s (blakeB key p)).all oneCell = true := u8s_one
      have sb : (u8s (blakeB key p)).length = 32 := by rw [u8s_length]; exact lb
      simp only [Mem.next_set, Mem.next_push] at hn2
      simp (maxSteps := 2000000) (disch := first | assumption | omega | (simp only [nx_push, nx_set, ne_eq] <;> omega) | (simp only [XSide, F23]; done) | decide) only [XWalk, XSl, ↓XPre, reduceIte, Nat.reduceEqDiff, Nat.reduceLT, Nat.reduceAdd, Nat.reduceSub, Nat.reduceMul, Nat.reduceBEq, reduceCtorEq, Int.reduceAdd, Int.reduceSub, Int.reduceMul, Int.reduceLT, Int.reduceLE, Int.reduceGT, Int.reduceGE, Int.reduceEq, Int.reduceNe, Int.reduceBEq, Int.reduceBNe, Int.reduceTMod, Int.reduceTDiv, ↓if_true, ↓if_false, F23, A23, XAcc, bq]
      refine ⟨_, rfl, ?_⟩
      unfold TagR
      rw [ho]
      simp only [if_neg h1]
      exact ⟨_, rfl, agg_row get_set_self lb⟩

theorem tag_nil_ct {m : Mem} (hw : WF m) {pv : Value} {n : List UInt8} : Ct Tryd.prog S0 23 [.pointer none, str n, pv] m [] (fun out m' => out = .ret (.tuple #[.slice none 0 0, .int .i64 1])) := by
  refine ct_x (spec0 _) (by rfl) Tryd.func23 rfl ?_
  simp (maxSteps := 2000000) (disch := first | assumption | omega | (simp only [nx_push, nx_set, ne_eq] <;> omega) | (simp only [XSide, F23]; done) | decide) only [XWalk, XSl, ↓XPre, reduceIte, Nat.reduceEqDiff, Nat.reduceLT, Nat.reduceAdd, Nat.reduceSub, Nat.reduceMul, Nat.reduceBEq, reduceCtorEq, Int.reduceAdd, Int.reduceSub, Int.reduceMul, Int.reduceLT, Int.reduceLE, Int.reduceGT, Int.reduceGE, Int.reduceEq, Int.reduceNe, Int.reduceBEq, Int.reduceBNe, Int.reduceTMod, Int.reduceTDiv, ↓if_true, ↓if_false, F23, A23, Tryd.ntmps23]
  refine wcall_x specLoc (get_nil_ct hw) hw ?_
  rintro out m1 hw1 hn1 f1 rfl
  simp (maxSteps := 2000000) (disch := first | assumption | omega | (simp only [nx_push, nx_set, ne_eq] <;> omega) | (simp only [XSide, F23]; done) | decide) only [XWalk, XSl, ↓XPre, reduceIte, Nat.reduceEqDiff, Nat.reduceLT, Nat.reduceAdd, Nat.reduceSub, Nat.reduceMul, Nat.reduceBEq, reduceCtorEq, Int.reduceAdd, Int.reduceSub, Int.reduceMul, Int.reduceLT, Int.reduceLE, Int.reduceGT, Int.reduceGE, Int.reduceEq, Int.reduceNe, Int.reduceBEq, Int.reduceBNe, Int.reduceTMod, Int.reduceTDiv, ↓if_true, ↓if_false, F23, A23, XAcc]

/-- The answer to a tag. -/
def verifyI (n p T : List UInt8) : Int :=
  match acctOf n with
  | some (key, _) => if 65536 < p.length then 5 else if blakeB key p == T then 0 else 10
  | none => 9

theorem verify_ct {m : Mem} (hw : WF m) {x pv tv : Value} {n p T : List UInt8} (hx : BookAt m x) (hp : Bs m pv p) (ht : Bs m tv T) (hl : p.length ≤ 1099511627000) : Ct Tryd.prog S0 26 [x, str n, pv, tv] m [] (fun out m' => out = .ret (.int .i64 (verifyI n p T))) := by
  refine ct_x (spec0 _) (by rfl) Tryd.func26 rfl ?_
  simp (maxSteps := 2000000) (disch := first | assumption | omega | (simp only [nx_push, nx_set, ne_eq] <;> omega) | (simp only [XSide, F26]; done) | decide) only [XWalk, XSl, ↓XPre, reduceIte, Nat.reduceEqDiff, Nat.reduceLT, Nat.reduceAdd, Nat.reduceSub, Nat.reduceMul, Nat.reduceBEq, reduceCtorEq, Int.reduceAdd, Int.reduceSub, Int.reduceMul, Int.reduceLT, Int.reduceLE, Int.reduceGT, Int.reduceGE, Int.reduceEq, Int.reduceNe, Int.reduceBEq, Int.reduceBNe, Int.reduceTMod, Int.reduceTDiv, ↓if_true, ↓if_false, F26, A26, Tryd.ntmps26]
  refine wcall_v specLoc (tag_ct hw hx hp hl) hw ?_
  intro v m1 hw1 hn1 f1 hr
  have ht1 : Bs m1 tv T := ht.keep (keep_of hw f1)
  unfold TagR at hr
  unfold verifyI
  cases ho : acctOf n with
  | none =>
    rw [ho] at hr
    subst hr
    simp (maxSteps := 2000000) (disch := first | assumption | omega | (simp only [nx_push, nx_set, ne_eq] <;> omega) | (simp only [XSide, F26]; done) | decide) only [XWalk, XSl, ↓XPre, reduceIte, Nat.reduceEqDiff, Nat.reduceLT, Nat.reduceAdd, Nat.reduceSub, Nat.reduceMul, Nat.reduceBEq, reduceCtorEq, Int.reduceAdd, Int.reduceSub, Int.reduceMul, Int.reduceLT, Int.reduceLE, Int.reduceGT, Int.reduceGE, Int.reduceEq, Int.reduceNe, Int.reduceBEq, Int.reduceBNe, Int.reduceTMod, Int.reduceTDiv, ↓if_true, ↓if_false, F26, A26]
  | some kn =>
    obtain ⟨key, num⟩ := kn
    rw [ho] at hr
    simp only at hr ⊢
    by_cases h1 : 65536 < p.length
    · rw [if_pos h1] at hr
      subst hr
      simp (maxSteps := 2000000) (disch := first | assumption | omega | (simp only [nx_push, nx_set, ne_eq] <;> omega) | (simp only [XSide, F26]; done) | decide) only [XWalk, XSl, ↓XPre, reduceIte, Nat.reduceEqDiff, Nat.reduceLT, Nat.reduceAdd, Nat.reduceSub, Nat.reduceMul, Nat.reduceBEq, reduceCtorEq, Int.reduceAdd, Int.reduceSub, Int.reduceMul, Int.reduceLT, Int.reduceLE, Int.reduceGT, Int.reduceGE, Int.reduceEq, Int.reduceNe, Int.reduceBEq, Int.reduceBNe, Int.reduceTMod, Int.reduceTDiv, ↓if_true, ↓if_false, F26, A26, if_pos h1]
    · rw [if_neg h1] at hr
      obtain ⟨dv, rfl, hd⟩ := hr
      simp (maxSteps := 2000000) (disch := first | assumption | omega | (simp only [nx_push, nx_set, ne_eq] <;> omega) | (simp only [XSide, F26]; done) | decide) only [XWalk, XSl, ↓XPre, reduceIte, Nat.reduceEqDiff, Nat.reduceLT, Nat.reduceAdd, Nat.reduceSub, Nat.reduceMul, Nat.reduceBEq, reduceCtorEq, Int.reduceAdd, Int.reduceSub, Int.reduceMul, Int.reduceLT, Int.reduceLE, Int.reduceGT, Int.reduceGE, Int.reduceEq, Int.reduceNe, Int.reduceBEq, Int.reduceBNe, Int.reduceTMod, Int.reduceTDiv, ↓if_true, ↓if_false, F26, A26, if_neg h1]
      refine wcall_pu (pu_of (equal_ct hd ht1)) ?_
      cases he : (blakeB key p == T) with
      | true => simp (maxSteps := 2000000) (disch := first | assumption | omega | (simp only [nx_push, nx_set, ne_eq] <;> omega) | (simp only [XSide, F26]; done) | decide) only [XWalk, XSl, ↓XPre, reduceIte, Nat.reduceEqDiff, Nat.reduceLT, Nat.reduceAdd, Nat.reduceSub, Nat.reduceMul, Nat.reduceBEq, reduceCtorEq, Int.reduceAdd, Int.reduceSub, Int.reduceMul, Int.reduceLT, Int.reduceLE, Int.reduceGT, Int.reduceGE, Int.reduceEq, Int.reduceNe, Int.reduceBEq, Int.reduceBNe, Int.reduceTMod, Int.reduceTDiv, ↓if_true, ↓if_false, F26, A26]
      | false => simp (maxSteps := 2000000) (disch := first | assumption | omega | (simp only [nx_push, nx_set, ne_eq] <;> omega) | (simp only [XSide, F26]; done) | decide) only [XWalk, XSl, ↓XPre, reduceIte, Nat.reduceEqDiff, Nat.reduceLT, Nat.reduceAdd, Nat.reduceSub, Nat.reduceMul, Nat.reduceBEq, reduceCtorEq, Int.reduceAdd, Int.reduceSub, Int.reduceMul, Int.reduceLT, Int.reduceLE, Int.reduceGT, Int.reduceGE, Int.reduceEq, Int.reduceNe, Int.reduceBEq, Int.reduceBNe, Int.reduceTMod, Int.reduceTDiv, ↓if_true, ↓if_false, F26, A26]

/-! ### The first of errors -/

def firstE : List Int → Int
  | [] => 0
  | a :: l => if a != 0 then a else firstE l

theorem first_ct {m : Mem} (hw : WF m) {fb c : Nat} {kd : Kind} {l : List Int} (hm : m.get fb = some (.row (l.map fun a => .int .i64 a) kd)) (hl : l.length < 1073741824) : Ct Tryd.prog S0 18 [.slice (some ⟨fb, 0, none⟩) l.length c] m [] (fun out m' => out = .ret (.int .i64 (firstE l)) ∧ m' = m) := by
  refine ct_x (spec0 _) (by rfl) Tryd.func18 rfl ?_
  simp (maxSteps := 2000000) (disch := first | assumption | omega | (simp only [nx_push, nx_set, ne_eq] <;> omega) | (simp only [XSide, F18]; done) | decide) only [XWalk, XSl, ↓XPre, reduceIte, Nat.reduceEqDiff, Nat.reduceLT, Nat.reduceAdd, Nat.reduceSub, Nat.reduceMul, Nat.reduceBEq, reduceCtorEq, Int.reduceAdd, Int.reduceSub, Int.reduceMul, Int.reduceLT, Int.reduceLE, Int.reduceGT, Int.reduceGE, Int.reduceEq, Int.reduceNe, Int.reduceBEq, Int.reduceBNe, Int.reduceTMod, Int.reduceTDiv, ↓if_true, ↓if_false, F18, A18, Tryd.ntmps18]
  refine x_loop (fun k e m1 => ∃ i, i + k = l.length ∧ firstE (l.drop i) = firstE l ∧ e.n = 15 ∧ e.get 5 = .slice (some ⟨fb, 0, none⟩) l.length c ∧ e.get 6 = .int .i64 (l.length : Int) ∧ e.get 7 = .int .i64 ((i : Nat) : Int) ∧ m1 = m) l.length ⟨0, by omega, rfl, by simp (maxSteps := 2000000) (disch := first | assumption | omega | (simp only [nx_push, nx_set, ne_eq] <;> omega) | (simp only [XSide]; done) | decide) only [XWalk, XSl, ↓XPre, reduceIte, Nat.reduceEqDiff, Nat.reduceLT, Nat.reduceAdd, Nat.reduceSub, Nat.reduceMul, Nat.reduceBEq, reduceCtorEq, Int.reduceAdd, Int.reduceSub, Int.reduceMul, Int.reduceLT, Int.reduceLE, Int.reduceGT, Int.reduceGE, Int.reduceEq, Int.reduceNe, Int.reduceBEq, Int.reduceBNe, Int.reduceTMod, Int.reduceTDiv, ↓if_true, ↓if_false], by simp (maxSteps := 2000000) (disch := first | assumption | omega | (simp only [nx_push, nx_set, ne_eq] <;> omega) | (simp only [XSide]; done) | decide) only [XWalk, XSl, ↓XPre, reduceIte, Nat.reduceEqDiff, Nat.reduceLT, Nat.reduceAdd, Nat.reduceSub, Nat.reduceMul, Nat.reduceBEq, reduceCtorEq, Int.reduceAdd, Int.reduceSub, Int.reduceMul, Int.reduceLT, Int.reduceLE, Int.reduceGT, Int.reduceGE, Int.reduceEq, Int.reduceNe, Int.reduceBEq, Int.reduceBNe, Int.reduceTMod, Int.reduceTDiv, ↓if_true, ↓if_false], by simp (maxSteps := 2000000) (disch := first | assumption | omega | (simp only [nx_push, nx_set, ne_eq] <;> omega) | (simp only [XSide]; done) | decide) only [XWalk, XSl, ↓XPre, reduceIte, Nat.reduceEqDiff, Nat.reduceLT, Nat.reduceAdd, Nat.reduceSub, Nat.reduceMul, Nat.reduceBEq, reduceCtorEq, Int.reduceAdd, Int.reduceSub, Int.reduceMul, Int.reduceLT, Int.reduceLE, Int.reduceGT, Int.reduceGE, Int.reduceEq, Int.reduceNe, Int.reduceBEq, Int.reduceBNe, Int.reduceTMod, Int.reduceTDiv, ↓if_true, ↓if_false], by simp (maxSteps := 2000000) (disch := first | assumption | omega | (simp only [nx_push, nx_set, ne_eq] <;> omega) | (simp only [XSide]; done) | decide) only [XWalk, XSl, ↓XPre, reduceIte, Nat.reduceEqDiff, Nat.reduceLT, Nat.reduceAdd, Nat.reduceSub, Nat.reduceMul, Nat.reduceBEq, reduceCtorEq, Int.reduceAdd, Int.reduceSub, Int.reduceMul, Int.reduceLT, Int.reduceLE, Int.reduceGT, Int.reduceGE, Int.reduceEq, Int.reduceNe, Int.reduceBEq, Int.reduceBNe, Int.reduceTMod, Int.reduceTDiv, ↓if_true, ↓if_false]; rfl, rfl⟩ ?_
  rintro k e m1 ⟨i, hi, hf, he, q5, q6, q7, rfl⟩
  simp (maxSteps := 2000000) (disch := first | assumption | omega | (simp only [nx_push, nx_set, ne_eq] <;> omega) | (simp only [XSide, F18]; done) | decide) only [XWalk, XSl, ↓XPre, reduceIte, Nat.reduceEqDiff, Nat.reduceLT, Nat.reduceAdd, Nat.reduceSub, Nat.reduceMul, Nat.reduceBEq, reduceCtorEq, Int.reduceAdd, Int.reduceSub, Int.reduceMul, Int.reduceLT, Int.reduceLE, Int.reduceGT, Int.reduceGE, Int.reduceEq, Int.reduceNe, Int.reduceBEq, Int.reduceBNe, Int.reduceTMod, Int.reduceTDiv, ↓if_true, ↓if_false, F18, A18, he, q6, q7]
  refine x_if (fun ht => ?_) (fun ht => ?_)
  · have hk : i < l.length := by have := of_decide_eq_true ht; omega
    have hg : (l.map fun a => Value.int .i64 a)[i]? = some (.int .i64 l[i]) := by simp [hk]
    rw [List.drop_eq_getElem_cons hk, firstE] at hf
    have e2 : IntKind.wrap .i64 ((i : Int) + 1) = ((i + 1 : Nat) : Int) := by rw [wrap_i64 (by omega) (by omega)]; omega
    simp (maxSteps := 2000000) (disch := first | assumption | omega | (simp only [nx_push, nx_set, ne_eq] <;> omega) | (simp only [XSide, F18]; done) | decide) only [XWalk, XSl, ↓XPre, reduceIte, Nat.reduceEqDiff, Nat.reduceLT, Nat.reduceAdd, Nat.reduceSub, Nat.reduceMul, Nat.reduceBEq, reduceCtorEq, Int.reduceAdd, Int.reduceSub, Int.reduceMul, Int.reduceLT, Int.reduceLE, Int.reduceGT, Int.reduceGE, Int.reduceEq, Int.reduceNe, Int.reduceBEq, Int.reduceBNe, Int.reduceTMod, Int.reduceTDiv, ↓if_true, ↓if_false, F18, A18, he, q5, q6, q7, hm, hg]
    refine x_if (fun hc => ?_) (fun hc => ?_)
    · rw [hc] at hf
      simp (maxSteps := 2000000) (disch := first | assumption | omega | (simp only [nx_push, nx_set, ne_eq] <;> omega) | (simp only [XSide, F18]; done) | decide) only [XWalk, XSl, ↓XPre, reduceIte, Nat.reduceEqDiff, Nat.reduceLT, Nat.reduceAdd, Nat.reduceSub, Nat.reduceMul, Nat.reduceBEq, reduceCtorEq, Int.reduceAdd, Int.reduceSub, Int.reduceMul, Int.reduceLT, Int.reduceLE, Int.reduceGT, Int.reduceGE, Int.reduceEq, Int.reduceNe, Int.reduceBEq, Int.reduceBNe, Int.reduceTMod, Int.reduceTDiv, ↓if_true, ↓if_false, F18, A18, he]
      rw [← hf]; rfl
    · rw [hc] at hf
      simp (maxSteps := 2000000) (disch := first | assumption | omega | (simp only [nx_push, nx_set, ne_eq] <;> omega) | (simp only [XSide, F18]; done) | decide) only [XWalk, XSl, ↓XPre, reduceIte, Nat.reduceEqDiff, Nat.reduceLT, Nat.reduceAdd, Nat.reduceSub, Nat.reduceMul, Nat.reduceBEq, reduceCtorEq, Int.reduceAdd, Int.reduceSub, Int.reduceMul, Int.reduceLT, Int.reduceLE, Int.reduceGT, Int.reduceGE, Int.reduceEq, Int.reduceNe, Int.reduceBEq, Int.reduceBNe, Int.reduceTMod, Int.reduceTDiv, ↓if_true, ↓if_false, F18, A18, he, q5, q6, q7, e2]
      exact ⟨k - 1, by omega, i + 1, by omega, hf, rfl⟩
  · have hk : i = l.length := by have := of_decide_eq_false ht; omega
    subst hk
    rw [List.drop_length] at hf
    simp (maxSteps := 2000000) (disch := first | assumption | omega | (simp only [nx_push, nx_set, ne_eq] <;> omega) | (simp only [XSide, F18]; done) | decide) only [XWalk, XSl, ↓XPre, reduceIte, Nat.reduceEqDiff, Nat.reduceLT, Nat.reduceAdd, Nat.reduceSub, Nat.reduceMul, Nat.reduceBEq, reduceCtorEq, Int.reduceAdd, Int.reduceSub, Int.reduceMul, Int.reduceLT, Int.reduceLE, Int.reduceGT, Int.reduceGE, Int.reduceEq, Int.reduceNe, Int.reduceBEq, Int.reduceBNe, Int.reduceTMod, Int.reduceTDiv, ↓if_true, ↓if_false, F18, A18, he]
    rw [← hf]; rfl

end Go.Big

/- Writing an encoding. -/
set_option linter.unusedSimpArgs false
set_option linter.unusedVariables false
set_option maxRecDepth 100000
set_option maxHeartbeats 2000000
namespace Go.Big
open Go.Proofs

/-- A writer at a block, without an error, with these bytes. -/
structure WrAt (n0 : Nat) (m : Mem) (wb : Nat) (ov : Value) (l : List UInt8) : Prop where
  row : m.get wb = some (.row [.int .i64 0, ov] .rw)
  app : Ab m n0 ov l
  ne : slBlk ov ≠ some wb

theorem WrAt.frame {n0 wb : Nat} {m m' : Mem} {ov : Value} {l : List UInt8} (h : WrAt n0 m wb ov l) (k : Keep m m') : WrAt n0 m' wb ov l :=
  ⟨by rw [k wb (by rw [h.row]; simp)]; exact h.row, h.app.keep k, h.ne⟩

theorem broken_ct {m : Mem} {wb : Nat} {ov : Value} (h : m.get wb = some (.row [.int .i64 0, ov] .rw)) : Ct Tryd.prog S0 51 [.pointer (some ⟨wb, 0, none⟩)] m [] (fun out m' => out = .ret (.bool false) ∧ m' = m) := by
  refine ct_x (spec0 _) (by rfl) Tryd.func51 rfl ?_
  simp (maxSteps := 2000000) (disch := first | assumption | omega | (simp only [nx_push, nx_set, ne_eq] <;> omega) | (simp only [XSide, F51]; done) | decide) only [XWalk, XSl, ↓XPre, reduceIte, Nat.reduceEqDiff, Nat.reduceLT, Nat.reduceAdd, Nat.reduceSub, Nat.reduceMul, Nat.reduceBEq, reduceCtorEq, Int.reduceAdd, Int.reduceSub, Int.reduceMul, Int.reduceLT, Int.reduceLE, Int.reduceGT, Int.reduceGE, Int.reduceEq, Int.reduceNe, Int.reduceBEq, Int.reduceBNe, Int.reduceTMod, Int.reduceTDiv, ↓if_true, ↓if_false, F51, A51, Tryd.ntmps51, h]

/-- What a step of writing leaves. -/
def Wrote (n0 : Nat) (m : Mem) (wb : Nat) (ov : Value) (l : List UInt8) : COut → Mem → Prop := fun out m' => out = .ret (.tuple #[]) ∧ ∃ ov', WrAt n0 m' wb ov' l ∧ ∀ b, slBlk ov' = some b → slBlk ov = some b ∨ m.next ≤ b

theorem put_ct {m : Mem} (hw : WF m) {n0 wb : Nat} {ov bv : Value} {l b : List UInt8} (h : WrAt n0 m wb ov l) (hb : Bs m bv b) (hn0 : n0 ≤ m.next) (hl : l.length + b.length ≤ 65536) :
    Ct Tryd.prog S0 63 [.pointer (some ⟨wb, 0, none⟩), bv] m (wb :: (slBlk ov).toList) (Wrote n0 m wb ov (l ++ b)) := by
  obtain ⟨hr, ha, hne⟩ := h
  have hwl : wb < m.next := hw.lt (by rw [hr]; simp)
  refine ct_x (spec0 _) (by rfl) Tryd.func63 rfl ?_
  simp (maxSteps := 2000000) (disch := first | assumption | omega | (simp only [nx_push, nx_set, ne_eq] <;> omega) | (simp only [XSide, F63]; done) | decide) only [XWalk, XSl, ↓XPre, reduceIte, Nat.reduceEqDiff, Nat.reduceLT, Nat.reduceAdd, Nat.reduceSub, Nat.reduceMul, Nat.reduceBEq, reduceCtorEq, Int.reduceAdd, Int.reduceSub, Int.reduceMul, Int.reduceLT, Int.reduceLE, Int.reduceGT, Int.reduceGE, Int.reduceEq, Int.reduceNe, Int.reduceBEq, Int.reduceBNe, Int.reduceTMod, Int.reduceTDiv, ↓if_true, ↓if_false, F63, A63, Tryd.ntmps63]
  refine wcall_pu (pu_of (broken_ct hr)) ?_
  have e1 : IntKind.wrap .i64 ((l.length : Int) + (b.length : Int)) = ((l.length + b.length : Nat) : Int) := by rw [wrap_i64 (by omega) (by omega)]; omega
  have e2 : decide (((l.length + b.length : Nat) : Int) > 65536) = false := by simp; omega
  simp (maxSteps := 2000000) (disch := first | assumption | omega | (simp only [nx_push, nx_set, ne_eq] <;> omega) | (simp only [XSide, F63]; done) | decide) only [XWalk, XSl, ↓XPre, reduceIte, Nat.reduceEqDiff, Nat.reduceLT, Nat.reduceAdd, Nat.reduceSub, Nat.reduceMul, Nat.reduceBEq, reduceCtorEq, Int.reduceAdd, Int.reduceSub, Int.reduceMul, Int.reduceLT, Int.reduceLE, Int.reduceGT, Int.reduceGE, Int.reduceEq, Int.reduceNe, Int.reduceBEq, Int.reduceBNe, Int.reduceTMod, Int.reduceTDiv, ↓if_true, ↓if_false, F63, A63, hr, alen_bs ha.sl, alen_bs hb, e1, e2]
  refine wappend (bytes := 1) (by simp only [F63]) ha hb (by omega) hn0 hw fun v' m' w hd ok => ?_
  have hwb : m'.get wb = some (.row [.int .i64 0, ov] .rw) := by rw [hd.frame wb hwl hne]; exact hr
  have okw : OkW m.next (wb :: (slBlk ov).toList) w := fun c hc hlt => by
    have := hd.wr c hc
    simp [this]
  have hob : oneCell v' = true := one_sl hd.app.sl
  have bq : Nat.beq v'.cells.size 1 = true := by obtain ⟨a, n, c, rfl⟩ := sl_shape hd.app.sl; rfl
  have cl : v'.cells.toList = [v'] := by obtain ⟨a, n, c, rfl⟩ := sl_shape hd.app.sl; rfl
  simp (maxSteps := 2000000) (disch := first | assumption | omega | (simp only [nx_push, nx_set, ne_eq] <;> omega) | (simp only [XSide, F63]; done) | decide) only [XWalk, XSl, ↓XPre, reduceIte, Nat.reduceEqDiff, Nat.reduceLT, Nat.reduceAdd, Nat.reduceSub, Nat.reduceMul, Nat.reduceBEq, reduceCtorEq, Int.reduceAdd, Int.reduceSub, Int.reduceMul, Int.reduceLT, Int.reduceLE, Int.reduceGT, Int.reduceGE, Int.reduceEq, Int.reduceNe, Int.reduceBEq, Int.reduceBNe, Int.reduceTMod, Int.reduceTDiv, ↓if_true, ↓if_false, F63, A63, okw, hwb, bq, cl, List.set_cons_zero, List.set_cons_succ, hob]
  have hne' : slBlk v' ≠ some wb := fun e => by
    rcases hd.blk wb e with h1 | h1
    · exact hne h1
    · omega
  refine ⟨rfl, v', ⟨get_set_self, hd.app.frame fun c hc => ?_, hne'⟩, hd.blk⟩
  rw [get_set_ne]
  rintro rfl
  exact hne' hc

theorem wuint_ct {m : Mem} (hw : WF m) {n0 wb : Nat} {ov : Value} {l : List UInt8} {n : Nat} (h : WrAt n0 m wb ov l) (hn0 : n0 ≤ m.next) (hn : n < 9223372036854775808) (hl : l.length + (groupB n).length ≤ 65536) :
    Ct Tryd.prog S0 48 [.pointer (some ⟨wb, 0, none⟩), .int .i64 (n : Int)] m (wb :: (slBlk ov).toList) (Wrote n0 m wb ov (l ++ groupB n)) := by
  have hwl : wb < m.next := hw.lt (by rw [h.row]; simp)
  refine ct_x (spec0 _) (by rfl) Tryd.func48 rfl ?_
  have e1 : decide ((n : Int) < 0) = false := decide_eq_false (by omega)
  have e2 : IntKind.wrap .u64 (n : Int) = (n : Int) := wrap_u64 (by omega) (by omega)
  simp (maxSteps := 2000000) (disch := first | assumption | omega | (simp only [nx_push, nx_set, ne_eq] <;> omega) | (simp only [XSide, F48]; done) | decide) only [XWalk, XSl, ↓XPre, reduceIte, Nat.reduceEqDiff, Nat.reduceLT, Nat.reduceAdd, Nat.reduceSub, Nat.reduceMul, Nat.reduceBEq, reduceCtorEq, Int.reduceAdd, Int.reduceSub, Int.reduceMul, Int.reduceLT, Int.reduceLE, Int.reduceGT, Int.reduceGE, Int.reduceEq, Int.reduceNe, Int.reduceBEq, Int.reduceBNe, Int.reduceTMod, Int.reduceTDiv, ↓if_true, ↓if_false, F48, A48, Tryd.ntmps48, e1, e2]
  refine wcall_x specLoc (ct_nil (group_ct hw (v := .slice none 0 0) (l := []) (n0 := m.next) .nil (Nat.le_refl _) (n := n) (by omega) (by simp only [List.length_nil]; omega)) rfl) hw ?_
  rintro out m1 hw1 hn1 f1 ⟨v', rfl, ho, hbk⟩
  rw [List.nil_append] at ho
  simp (maxSteps := 2000000) (disch := first | assumption | omega | (simp only [nx_push, nx_set, ne_eq] <;> omega) | (simp only [XSide, F48]; done) | decide) only [XWalk, XSl, ↓XPre, reduceIte, Nat.reduceEqDiff, Nat.reduceLT, Nat.reduceAdd, Nat.reduceSub, Nat.reduceMul, Nat.reduceBEq, reduceCtorEq, Int.reduceAdd, Int.reduceSub, Int.reduceMul, Int.reduceLT, Int.reduceLE, Int.reduceGT, Int.reduceGE, Int.reduceEq, Int.reduceNe, Int.reduceBEq, Int.reduceBNe, Int.reduceTMod, Int.reduceTDiv, ↓if_true, ↓if_false, F48, A48]
  refine wcall_of specLoc (put_ct hw1 (h.frame (keep_of hw f1)) ho.sl (by omega) hl) hw1 (fun b hb _ => hb) ?_
  rintro out m2 wr hwr hw2 hn2 hf2 _ ⟨rfl, ov', h2, h3⟩
  have okw : OkW m.next (wb :: (slBlk ov).toList) wr := fun c hc _ => hwr c hc
  simp (maxSteps := 2000000) (disch := first | assumption | omega | (simp only [nx_push, nx_set, ne_eq] <;> omega) | (simp only [XSide, F48]; done) | decide) only [XWalk, XSl, ↓XPre, reduceIte, Nat.reduceEqDiff, Nat.reduceLT, Nat.reduceAdd, Nat.reduceSub, Nat.reduceMul, Nat.reduceBEq, reduceCtorEq, Int.reduceAdd, Int.reduceSub, Int.reduceMul, Int.reduceLT, Int.reduceLE, Int.reduceGT, Int.reduceGE, Int.reduceEq, Int.reduceNe, Int.reduceBEq, Int.reduceBNe, Int.reduceTMod, Int.reduceTDiv, ↓if_true, ↓if_false, F48, A48, okw]
  exact ⟨rfl, ov', h2, fun b hb => (h3 b hb).imp_right fun h => by omega⟩

def strB (l : List UInt8) : List UInt8 := groupB l.length ++ l
theorem groupB_len : ∀ (k n : Nat), n < 128 ^ k → 0 < k → (groupB n).length ≤ k := by
  intro k
  induction k with
  | zero => intro n _ h; omega
  | succ k ih =>
    intro n hn _
    rw [groupB]
    split
    · simp
    · rw [List.length_cons]
      by_cases hk : k = 0
      · subst hk; simp at hn; omega
      · have := ih (n / 128) (by rw [Nat.div_lt_iff_lt_mul (by omega)]; rw [Nat.pow_succ] at hn; exact hn) (by omega)
        omega

theorem wbytes_ct {m : Mem} (hw : WF m) {n0 wb : Nat} {ov bv : Value} {l b : List UInt8} (h : WrAt n0 m wb ov l) (hb : Bs m bv b) (hn0 : n0 ≤ m.next) (hl : l.length + (strB b).length ≤ 65536) :
    Ct Tryd.prog S0 50 [.pointer (some ⟨wb, 0, none⟩), bv] m (wb :: (slBlk ov).toList) (Wrote n0 m wb ov (l ++ strB b)) := by
  have hwl : wb < m.next := hw.lt (by rw [h.row]; simp)
  have hl' := hl
  rw [strB, List.length_append] at hl'
  refine ct_x (spec0 _) (by rfl) Tryd.func50 rfl ?_
  have e2 : IntKind.wrap .u64 (b.length : Int) = (b.length : Int) := wrap_u64 (by omega) (by omega)
  simp (maxSteps := 2000000) (disch := first | assumption | omega | (simp only [nx_push, nx_set, ne_eq] <;> omega) | (simp only [XSide, F50]; done) | decide) only [XWalk, XSl, ↓XPre, reduceIte, Nat.reduceEqDiff, Nat.reduceLT, Nat.reduceAdd, Nat.reduceSub, Nat.reduceMul, Nat.reduceBEq, reduceCtorEq, Int.reduceAdd, Int.reduceSub, Int.reduceMul, Int.reduceLT, Int.reduceLE, Int.reduceGT, Int.reduceGE, Int.reduceEq, Int.reduceNe, Int.reduceBEq, Int.reduceBNe, Int.reduceTMod, Int.reduceTDiv, ↓if_true, ↓if_false, F50, A50, Tryd.ntmps50, alen_bs hb, e2]
  refine wcall_x specLoc (ct_nil (group_ct hw (v := .slice none 0 0) (l := []) (n0 := m.next) .nil (Nat.le_refl _) (n := b.length) (by omega) (by simp only [List.length_nil]; omega)) rfl) hw ?_
  rintro out m1 hw1 hn1 f1 ⟨v', rfl, ho, hbk⟩
  rw [List.nil_append] at ho
  have hb1 : Bs m1 bv b := hb.keep (keep_of hw f1)
  simp (maxSteps := 2000000) (disch := first | assumption | omega | (simp only [nx_push, nx_set, ne_eq] <;> omega) | (simp only [XSide, F50]; done) | decide) only [XWalk, XSl, ↓XPre, reduceIte, Nat.reduceEqDiff, Nat.reduceLT, Nat.reduceAdd, Nat.reduceSub, Nat.reduceMul, Nat.reduceBEq, reduceCtorEq, Int.reduceAdd, Int.reduceSub, Int.reduceMul, Int.reduceLT, Int.reduceLE, Int.reduceGT, Int.reduceGE, Int.reduceEq, Int.reduceNe, Int.reduceBEq, Int.reduceBNe, Int.reduceTMod, Int.reduceTDiv, ↓if_true, ↓if_false, F50, A50]
  refine wappend (bytes := 1) (by simp only [F50]) ho.app hb1 (by omega) (by omega) hw1 fun v2 m2 w hd ok => ?_
  simp (maxSteps := 2000000) (disch := first | assumption | omega | (simp only [nx_push, nx_set, ne_eq] <;> omega) | (simp only [XSide, F50]; done) | decide) only [XWalk, XSl, ↓XPre, reduceIte, Nat.reduceEqDiff, Nat.reduceLT, Nat.reduceAdd, Nat.reduceSub, Nat.reduceMul, Nat.reduceBEq, reduceCtorEq, Int.reduceAdd, Int.reduceSub, Int.reduceMul, Int.reduceLT, Int.reduceLE, Int.reduceGT, Int.reduceGE, Int.reduceEq, Int.reduceNe, Int.reduceBEq, Int.reduceBNe, Int.reduceTMod, Int.reduceTDiv, ↓if_true, ↓if_false, F50, A50, ok m.next _ (Nat.le_refl _)]
  have hold : ∀ c, c < m.next → m2.get c = m1.get c := fun c hc => hd.old (fun c hc => ho.app.blk_ge hc) c hc (by omega)
  have h2 : WrAt n0 m2 wb ov l := h.frame fun c hc => by have := hw.lt hc; rw [hold c this, f1 c this]
  have hnx := hd.next
  refine wcall_of specLoc (put_ct hd.wf h2 hd.app.sl (by omega) hl) hd.wf (fun b hb _ => hb) ?_
  rintro out m3 wr hwr hw3 hn3 hf3 _ ⟨rfl, ov', h3, h4⟩
  have okw : OkW m.next (wb :: (slBlk ov).toList) wr := fun c hc _ => hwr c hc
  simp (maxSteps := 2000000) (disch := first | assumption | omega | (simp only [nx_push, nx_set, ne_eq] <;> omega) | (simp only [XSide, F50]; done) | decide) only [XWalk, XSl, ↓XPre, reduceIte, Nat.reduceEqDiff, Nat.reduceLT, Nat.reduceAdd, Nat.reduceSub, Nat.reduceMul, Nat.reduceBEq, reduceCtorEq, Int.reduceAdd, Int.reduceSub, Int.reduceMul, Int.reduceLT, Int.reduceLE, Int.reduceGT, Int.reduceGE, Int.reduceEq, Int.reduceNe, Int.reduceBEq, Int.reduceBNe, Int.reduceTMod, Int.reduceTDiv, ↓if_true, ↓if_false, F50, A50, okw]
  exact ⟨rfl, ov', h3, fun b hb => (h4 b hb).imp_right fun h => by omega⟩

theorem wstring_ct {m : Mem} (hw : WF m) {n0 wb : Nat} {ov : Value} {l b : List UInt8} (h : WrAt n0 m wb ov l) (hn0 : n0 ≤ m.next) (hl : l.length + (strB b).length ≤ 65536) :
    Ct Tryd.prog S0 49 [.pointer (some ⟨wb, 0, none⟩), str b] m (wb :: (slBlk ov).toList) (Wrote n0 m wb ov (l ++ strB b)) := by
  have hl' := hl
  rw [strB, List.length_append] at hl'
  refine ct_x (spec0 _) (by rfl) Tryd.func49 rfl ?_
  simp (maxSteps := 2000000) (disch := first | assumption | omega | (simp only [nx_push, nx_set, ne_eq] <;> omega) | (simp only [XSide, F49]; done) | decide) only [XWalk, XSl, ↓XPre, reduceIte, Nat.reduceEqDiff, Nat.reduceLT, Nat.reduceAdd, Nat.reduceSub, Nat.reduceMul, Nat.reduceBEq, reduceCtorEq, Int.reduceAdd, Int.reduceSub, Int.reduceMul, Int.reduceLT, Int.reduceLE, Int.reduceGT, Int.reduceGE, Int.reduceEq, Int.reduceNe, Int.reduceBEq, Int.reduceBNe, Int.reduceTMod, Int.reduceTDiv, ↓if_true, ↓if_false, F49, A49, Tryd.ntmps49, aconv_str2]
  have hb : Bs (m.push (.row (u8s b) (.slack 1))) (.slice (some ⟨m.next, 0, none⟩) b.length b.length) b := .row get_push_self (by rw [List.drop_zero, List.take_of_length_le (by rw [u8s_length]; omega)]) (by rw [u8s_length]) (Nat.le_refl _) (fun s hs => by cases hs; exact ⟨rfl, by rw [u8s_length]; omega⟩)
  refine wcall_of specLoc (wbytes_ct hw.push (h.frame (Keep.push hw)) hb (by simp; omega) hl) hw.push (fun b hb _ => hb) ?_
  rintro out m3 wr hwr hw3 hn3 hf3 _ ⟨rfl, ov', h3, h4⟩
  have okw : OkW m.next (wb :: (slBlk ov).toList) wr := fun c hc _ => hwr c hc
  simp (maxSteps := 2000000) (disch := first | assumption | omega | (simp only [nx_push, nx_set, ne_eq] <;> omega) | (simp only [XSide, F49]; done) | decide) only [XWalk, XSl, ↓XPre, reduceIte, Nat.reduceEqDiff, Nat.reduceLT, Nat.reduceAdd, Nat.reduceSub, Nat.reduceMul, Nat.reduceBEq, reduceCtorEq, Int.reduceAdd, Int.reduceSub, Int.reduceMul, Int.reduceLT, Int.reduceLE, Int.reduceGT, Int.reduceGE, Int.reduceEq, Int.reduceNe, Int.reduceBEq, Int.reduceBNe, Int.reduceTMod, Int.reduceTDiv, ↓if_true, ↓if_false, F49, A49, okw]
  exact ⟨rfl, ov', h3, fun b hb => (h4 b hb).imp_right fun h => by simp at h; omega⟩

theorem wend_ct {m : Mem} (hw : WF m) {n0 wb : Nat} {ov : Value} {l : List UInt8} (h : WrAt n0 m wb ov l) (hl : l.length ≤ 65536) :
    Ct Tryd.prog S0 39 [.pointer (some ⟨wb, 0, none⟩)] m [] (Rv fun v m' => ∃ v', v = .tuple #[v', .int .i64 0] ∧ Ab m' m.next v' l) := by
  have hwl : wb < m.next := hw.lt (by rw [h.row]; simp)
  refine ct_x (spec0 _) (by rfl) Tryd.func39 rfl ?_
  simp (maxSteps := 2000000) (disch := first | assumption | omega | (simp only [nx_push, nx_set, ne_eq] <;> omega) | (simp only [XSide, F39]; done) | decide) only [XWalk, XSl, ↓XPre, reduceIte, Nat.reduceEqDiff, Nat.reduceLT, Nat.reduceAdd, Nat.reduceSub, Nat.reduceMul, Nat.reduceBEq, reduceCtorEq, Int.reduceAdd, Int.reduceSub, Int.reduceMul, Int.reduceLT, Int.reduceLE, Int.reduceGT, Int.reduceGE, Int.reduceEq, Int.reduceNe, Int.reduceBEq, Int.reduceBNe, Int.reduceTMod, Int.reduceTDiv, ↓if_true, ↓if_false, F39, A39, Tryd.ntmps39]
  refine wcall_pu (pu_of (broken_ct h.row)) ?_
  simp (maxSteps := 2000000) (disch := first | assumption | omega | (simp only [nx_push, nx_set, ne_eq] <;> omega) | (simp only [XSide, F39]; done) | decide) only [XWalk, XSl, ↓XPre, reduceIte, Nat.reduceEqDiff, Nat.reduceLT, Nat.reduceAdd, Nat.reduceSub, Nat.reduceMul, Nat.reduceBEq, reduceCtorEq, Int.reduceAdd, Int.reduceSub, Int.reduceMul, Int.reduceLT, Int.reduceLE, Int.reduceGT, Int.reduceGE, Int.reduceEq, Int.reduceNe, Int.reduceBEq, Int.reduceBNe, Int.reduceTMod, Int.reduceTDiv, ↓if_true, ↓if_false, F39, A39, h.row]
  refine wcall_v specLoc (clone_ct hw h.app.sl (by omega)) hw ?_
  intro v' m1 hw1 hn1 f1 hv
  simp (maxSteps := 2000000) (disch := first | assumption | omega | (simp only [nx_push, nx_set, ne_eq] <;> omega) | (simp only [XSide, F39]; done) | decide) only [XWalk, XSl, ↓XPre, reduceIte, Nat.reduceEqDiff, Nat.reduceLT, Nat.reduceAdd, Nat.reduceSub, Nat.reduceMul, Nat.reduceBEq, reduceCtorEq, Int.reduceAdd, Int.reduceSub, Int.reduceMul, Int.reduceLT, Int.reduceLE, Int.reduceGT, Int.reduceGE, Int.reduceEq, Int.reduceNe, Int.reduceBEq, Int.reduceBNe, Int.reduceTMod, Int.reduceTDiv, ↓if_true, ↓if_false, F39, A39]
  exact ⟨_, rfl, v', rfl, hv⟩

end Go.Big

/- The signed bytes of an envelope; its encoding. -/
set_option linter.unusedSimpArgs false
set_option linter.unusedVariables false
set_option maxRecDepth 100000
set_option maxHeartbeats 2000000
namespace Go.Big
open Go.Proofs

def signedB (n : List UInt8) (r s : Nat) (S : List UInt8) : List UInt8 := ((strB n ++ groupB r) ++ groupB s) ++ strB S

theorem write_ct {m : Mem} (hw : WF m) {wb : Nat} {n S : List UInt8} {r s : Nat} {sv tv : Value} (h : m.get wb = some (.row [.int .i64 0, .slice none 0 0] .rw)) (hs : Bs m sv S) (hsw : slBlk sv ≠ some wb) (ht : oneCell tv = true) (hr : r < 9223372036854775808) (hs' : s < 9223372036854775808) (hl : (signedB n r s S).length ≤ 65536) :
    Ct Tryd.prog S0 38 [.pointer (some ⟨wb, 0, none⟩), envV n r s sv tv] m [wb] (Wrote m.next m wb (.slice none 0 0) (signedB n r s S)) := by
  have hwl : wb < m.next := hw.lt (by rw [h]; simp)
  have hone : [str n, .int .i64 (r : Int), .int .i64 (s : Int), sv, tv].all oneCell = true := by
    simp only [List.all_cons, List.all_nil, one_sl hs, ht, one_str, one_int, Bool.and_self]
  have hll := hl
  simp only [signedB, List.length_append] at hll
  refine ct_x (spec0 _) (by rfl) Tryd.func38 rfl ?_
  simp (maxSteps := 2000000) (disch := first | assumption | omega | (simp only [nx_push, nx_set, ne_eq] <;> omega) | (simp only [XSide, F38]; done) | decide) only [XWalk, XSl, ↓XPre, reduceIte, Nat.reduceEqDiff, Nat.reduceLT, Nat.reduceAdd, Nat.reduceSub, Nat.reduceMul, Nat.reduceBEq, reduceCtorEq, Int.reduceAdd, Int.reduceSub, Int.reduceMul, Int.reduceLT, Int.reduceLE, Int.reduceGT, Int.reduceGE, Int.reduceEq, Int.reduceNe, Int.reduceBEq, Int.reduceBNe, Int.reduceTMod, Int.reduceTDiv, ↓if_true, ↓if_false, F38, A38, Tryd.ntmps38, List.map_toArray, List.toList_toArray, List.singleton_append]
  have step : ∀ (ov : Value) (wr : List Nat), (∀ b ∈ wr, b ∈ wb :: (slBlk ov).toList) → (∀ b, slBlk ov = some b → m.next + 1 ≤ b) → OkW m.next [wb] wr := fun ov wr h1 h2 b hb hlt => by
    have := h1 b hb
    rw [List.mem_cons] at this
    rcases this with rfl | h3
    · simp
    · rw [Option.mem_toList] at h3
      have := h2 b h3
      omega
  have row0 : (m.push (.row [str n, .int .i64 (r : Int), .int .i64 (s : Int), sv, tv] .rw)).get m.next = some (.row [str n, .int .i64 (r : Int), .int .i64 (s : Int), sv, tv] .rw) := get_push_self
  have hw0 : WF (m.push (.row [str n, .int .i64 (r : Int), .int .i64 (s : Int), sv, tv] .rw)) := hw.push
  have hs0 : Bs (m.push (.row [str n, .int .i64 (r : Int), .int .i64 (s : Int), sv, tv] .rw)) sv S := hs.keep (Keep.push hw)
  have hr0 : WrAt (m.next + 1) (m.push (.row [str n, .int .i64 (r : Int), .int .i64 (s : Int), sv, tv] .rw)) wb (.slice none 0 0) [] := ⟨by rw [get_push_ne (by omega)]; exact h, .nil, by simp [slBlk]⟩
  have hx0 : m.next + 1 ≤ (m.push (.row [str n, .int .i64 (r : Int), .int .i64 (s : Int), sv, tv] .rw)).next := Nat.le_refl _
  have hb0 : ∀ b, slBlk (.slice none 0 0) = some b → m.next + 1 ≤ b := fun b hb => by simp [slBlk] at hb
  generalize hm0 : m.push (.row [str n, .int .i64 (r : Int), .int .i64 (s : Int), sv, tv] .rw) = m0 at *
  have keepS : ∀ (ma mb : Mem) (ov : Value), Bs ma sv S → WF ma → (∀ b, b < ma.next → b ∉ wb :: (slBlk ov).toList → mb.get b = ma.get b) → (∀ b, slBlk ov = some b → m.next + 1 ≤ b) → Bs mb sv S := fun ma mb ov h1 h2 h3 h4 =>
    h1.frame_at fun b hb => h3 b (h1.blk_lt h2 hb) (by
      rw [List.mem_cons, Option.mem_toList]
      rintro (rfl | h5)
      · exact hsw hb
      · have := h4 b h5; have := hs.blk_lt hw hb; omega)
  have keepR : ∀ (ma mb : Mem) (ov : Value), ma.get m.next = some (.row [str n, .int .i64 (r : Int), .int .i64 (s : Int), sv, tv] .rw) → WF ma → (∀ b, b < ma.next → b ∉ wb :: (slBlk ov).toList → mb.get b = ma.get b) → (∀ b, slBlk ov = some b → m.next + 1 ≤ b) → mb.get m.next = some (.row [str n, .int .i64 (r : Int), .int .i64 (s : Int), sv, tv] .rw) := fun ma mb ov h1 h2 h3 h4 => by
    rw [h3 m.next (h2.lt (by rw [h1]; simp)) (by
      rw [List.mem_cons, Option.mem_toList]
      rintro (rfl | h5)
      · omega
      · have := h4 _ h5; omega)]
    exact h1
  refine wcall_of specLoc (wstring_ct hw0 (b := n) hr0 hx0 (by rw [List.length_nil]; omega)) hw0 (fun b hb hlt => step (.slice none 0 0) [b] (fun c hc => by simp at hc; subst hc; exact hb) hb0 b (by simp) hlt) ?_
  rintro out m1 wr1 hwr1 hw1 hn1 hf1 _ ⟨rfl, ov1, hr1, hk1⟩
  have hb1 : ∀ b, slBlk ov1 = some b → m.next + 1 ≤ b := fun b hb => by
    rcases hk1 b hb with h1 | h1
    · exact hb0 b h1
    · omega
  have hs1 := keepS _ _ _ hs0 hw0 hf1 hb0
  have row1 := keepR _ _ _ row0 hw0 hf1 hb0
  have hx1 : m.next + 1 ≤ m1.next := by omega
  have ok1 := step _ _ hwr1 hb0
  simp (maxSteps := 2000000) (disch := first | assumption | omega | (simp only [nx_push, nx_set, ne_eq] <;> omega) | (simp only [XSide, F38]; done) | decide) only [XWalk, XSl, ↓XPre, reduceIte, Nat.reduceEqDiff, Nat.reduceLT, Nat.reduceAdd, Nat.reduceSub, Nat.reduceMul, Nat.reduceBEq, reduceCtorEq, Int.reduceAdd, Int.reduceSub, Int.reduceMul, Int.reduceLT, Int.reduceLE, Int.reduceGT, Int.reduceGE, Int.reduceEq, Int.reduceNe, Int.reduceBEq, Int.reduceBNe, Int.reduceTMod, Int.reduceTDiv, ↓if_true, ↓if_false, F38, A38, ok1, row1, List.map_toArray, List.toList_toArray, List.singleton_append]
  refine wcall_of specLoc (wuint_ct hw1 (n := r) hr1 hx1 hr (by rw [List.nil_append]; omega)) hw1 (fun b hb hlt => step ov1 [b] (fun c hc => by simp at hc; subst hc; exact hb) hb1 b (by simp) hlt) ?_
  rintro out m2 wr2 hwr2 hw2 hn2 hf2 _ ⟨rfl, ov2, hr2, hk2⟩
  have hb2 : ∀ b, slBlk ov2 = some b → m.next + 1 ≤ b := fun b hb => by
    rcases hk2 b hb with h1 | h1
    · exact hb1 b h1
    · omega
  have hs2 := keepS _ _ _ hs1 hw1 hf2 hb1
  have row2 := keepR _ _ _ row1 hw1 hf2 hb1
  have hx2 : m.next + 1 ≤ m2.next := by omega
  have ok2 := step _ _ hwr2 hb1
  simp (maxSteps := 2000000) (disch := first | assumption | omega | (simp only [nx_push, nx_set, ne_eq] <;> omega) | (simp only [XSide, F38]; done) | decide) only [XWalk, XSl, ↓XPre, reduceIte, Nat.reduceEqDiff, Nat.reduceLT, Nat.reduceAdd, Nat.reduceSub, Nat.reduceMul, Nat.reduceBEq, reduceCtorEq, Int.reduceAdd, Int.reduceSub, Int.reduceMul, Int.reduceLT, Int.reduceLE, Int.reduceGT, Int.reduceGE, Int.reduceEq, Int.reduceNe, Int.reduceBEq, Int.reduceBNe, Int.reduceTMod, Int.reduceTDiv, ↓if_true, ↓if_false, F38, A38, ok2, row2, List.map_toArray, List.toList_toArray, List.singleton_append]
  refine wcall_of specLoc (wuint_ct hw2 (n := s) hr2 hx2 hs' (by simp only [List.nil_append, List.length_append]; omega)) hw2 (fun b hb hlt => step ov2 [b] (fun c hc => by simp at hc; subst hc; exact hb) hb2 b (by simp) hlt) ?_
  rintro out m3 wr3 hwr3 hw3 hn3 hf3 _ ⟨rfl, ov3, hr3, hk3⟩
  have hb3 : ∀ b, slBlk ov3 = some b → m.next + 1 ≤ b := fun b hb => by
    rcases hk3 b hb with h1 | h1
    · exact hb2 b h1
    · omega
  have hs3 := keepS _ _ _ hs2 hw2 hf3 hb2
  have row3 := keepR _ _ _ row2 hw2 hf3 hb2
  have hx3 : m.next + 1 ≤ m3.next := by omega
  have ok3 := step _ _ hwr3 hb2
  simp (maxSteps := 2000000) (disch := first | assumption | omega | (simp only [nx_push, nx_set, ne_eq] <;> omega) | (simp only [XSide, F38]; done) | decide) only [XWalk, XSl, ↓XPre, reduceIte, Nat.reduceEqDiff, Nat.reduceLT, Nat.reduceAdd, Nat.reduceSub, Nat.reduceMul, Nat.reduceBEq, reduceCtorEq, Int.reduceAdd, Int.reduceSub, Int.reduceMul, Int.reduceLT, Int.reduceLE, Int.reduceGT, Int.reduceGE, Int.reduceEq, Int.reduceNe, Int.reduceBEq, Int.reduceBNe, Int.reduceTMod, Int.reduceTDiv, ↓if_true, ↓if_false, F38, A38, ok3, row3, List.map_toArray, List.toList_toArray, List.singleton_append]
  refine wcall_of specLoc (wbytes_ct hw3 hr3 hs3 hx3 (by simp only [List.nil_append, List.length_append]; omega)) hw3 (fun b hb hlt => step ov3 [b] (fun c hc => by simp at hc; subst hc; exact hb) hb3 b (by simp) hlt) ?_
  rintro out m4 wr4 hwr4 hw4 hn4 hf4 _ ⟨rfl, ov4, hr4, hk4⟩
  have hb4 : ∀ b, slBlk ov4 = some b → m.next + 1 ≤ b := fun b hb => by
    rcases hk4 b hb with h1 | h1
    · exact hb3 b h1
    · omega
  have hs4 := keepS _ _ _ hs3 hw3 hf4 hb3
  have row4 := keepR _ _ _ row3 hw3 hf4 hb3
  have hx4 : m.next + 1 ≤ m4.next := by omega
  have ok4 := step _ _ hwr4 hb3
  simp (maxSteps := 2000000) (disch := first | assumption | omega | (simp only [nx_push, nx_set, ne_eq] <;> omega) | (simp only [XSide, F38]; done) | decide) only [XWalk, XSl, ↓XPre, reduceIte, Nat.reduceEqDiff, Nat.reduceLT, Nat.reduceAdd, Nat.reduceSub, Nat.reduceMul, Nat.reduceBEq, reduceCtorEq, Int.reduceAdd, Int.reduceSub, Int.reduceMul, Int.reduceLT, Int.reduceLE, Int.reduceGT, Int.reduceGE, Int.reduceEq, Int.reduceNe, Int.reduceBEq, Int.reduceBNe, Int.reduceTMod, Int.reduceTDiv, ↓if_true, ↓if_false, F38, A38, ok4, row4, List.map_toArray, List.toList_toArray, List.singleton_append]
  refine ⟨rfl, ov4, ⟨hr4.row, ?_, hr4.ne⟩, fun b hb => .inr (by have := hb4 b hb; omega)⟩
  have := hr4.app.mono (Nat.le_succ m.next)
  rw [List.nil_append] at this
  exact this

theorem signed_ct {m : Mem} (hw : WF m) {n S : List UInt8} {r s : Nat} {sv tv : Value} (hs : Bs m sv S) (ht : oneCell tv = true) (hr : r < 9223372036854775808) (hs' : s < 9223372036854775808) (hl : (signedB n r s S).length ≤ 65536) :
    Ct Tryd.prog S0 24 [envV n r s sv tv] m [] (Rv fun v m' => Ab m' m.next v (signedB n r s S)) := by
  have hone : [str n, .int .i64 (r : Int), .int .i64 (s : Int), sv, tv].all oneCell = true := by
    simp only [List.all_cons, List.all_nil, one_sl hs, ht, one_str, one_int, Bool.and_self]
  refine ct_x (spec0 _) (by rfl) Tryd.func24 rfl ?_
  simp (maxSteps := 2000000) (disch := first | assumption | omega | (simp only [nx_push, nx_set, ne_eq] <;> omega) | (simp only [XSide, F24]; done) | decide) only [XWalk, XSl, ↓XPre, reduceIte, Nat.reduceEqDiff, Nat.reduceLT, Nat.reduceAdd, Nat.reduceSub, Nat.reduceMul, Nat.reduceBEq, reduceCtorEq, Int.reduceAdd, Int.reduceSub, Int.reduceMul, Int.reduceLT, Int.reduceLE, Int.reduceGT, Int.reduceGE, Int.reduceEq, Int.reduceNe, Int.reduceBEq, Int.reduceBNe, Int.reduceTMod, Int.reduceTDiv, ↓if_true, ↓if_false, F24, A24, Tryd.ntmps24, XAcc]
  have hsl := fun b hb => hs.blk_lt (b := b) hw hb
  refine wcall_of specLoc (write_ct (n := n) (S := S) (r := r) (s := s) (sv := sv) (tv := tv) (by (repeat (first | exact hw | apply WF.push | (refine WF.set ?_ (by first | omega | (simp only [Mem.next_set, Mem.next_push]; omega)))))) (by rw [get_push_eq (by simp)]) ((hs.keep (Keep.push hw)).keep (Keep.push hw.push)) (fun e => by have := hsl _ e; omega) ht hr hs' hl) (by (repeat (first | exact hw | apply WF.push | (refine WF.set ?_ (by first | omega | (simp only [Mem.next_set, Mem.next_push]; omega)))))) (fun b hb hlt => by simp at hb; omega) ?_
  rintro out m1 wr hwr hw1 hn1 hf1 _ ⟨rfl, ov, hr1, hk1⟩
  simp only [Mem.next_push] at hn1 hf1
  have ok1 : OkW m.next [] wr := fun b hb hlt => by have := hwr b hb; simp at this; omega
  simp (maxSteps := 2000000) (disch := first | assumption | omega | (simp only [nx_push, nx_set, ne_eq] <;> omega) | (simp only [XSide, F24]; done) | decide) only [XWalk, XSl, ↓XPre, reduceIte, Nat.reduceEqDiff, Nat.reduceLT, Nat.reduceAdd, Nat.reduceSub, Nat.reduceMul, Nat.reduceBEq, reduceCtorEq, Int.reduceAdd, Int.reduceSub, Int.reduceMul, Int.reduceLT, Int.reduceLE, Int.reduceGT, Int.reduceGE, Int.reduceEq, Int.reduceNe, Int.reduceBEq, Int.reduceBNe, Int.reduceTMod, Int.reduceTDiv, ↓if_true, ↓if_false, F24, A24, ok1]
  refine wcall_v specLoc (wend_ct hw1 hr1 hl) hw1 ?_
  rintro v m2 hw2 hn2 f2 ⟨v', rfl, hv⟩
  simp (maxSteps := 2000000) (disch := first | assumption | omega | (simp only [nx_push, nx_set, ne_eq] <;> omega) | (simp only [XSide, F24]; done) | decide) only [XWalk, XSl, ↓XPre, reduceIte, Nat.reduceEqDiff, Nat.reduceLT, Nat.reduceAdd, Nat.reduceSub, Nat.reduceMul, Nat.reduceBEq, reduceCtorEq, Int.reduceAdd, Int.reduceSub, Int.reduceMul, Int.reduceLT, Int.reduceLE, Int.reduceGT, Int.reduceGE, Int.reduceEq, Int.reduceNe, Int.reduceBEq, Int.reduceBNe, Int.reduceTMod, Int.reduceTDiv, ↓if_true, ↓if_false, F24, A24]
  exact ⟨_, rfl, hv.mono (by omega)⟩

end Go.Big

/- Sealing: keys, streams. -/
set_option linter.unusedSimpArgs false
set_option linter.unusedVariables false
set_option maxRecDepth 100000
set_option maxHeartbeats 2000000
namespace Go.Big
open Go.Proofs

theorem derive_ct {m : Mem} (hw : WF m) {kv : Value} {key label : List UInt8} (hk : Bs m kv key) (lk : key.length = 32) (l1 : 1 ≤ label.length) (l2 : label.length ≤ 64) :
    Ct Tryd.prog S0 21 [kv, str label] m [] (Rv fun v m' => ∃ d, v = .tuple #[d, .int .i64 0] ∧ Bs m' d (blakeB key label)) := by
  refine ct_x (spec0 _) (by rfl) Tryd.func21 rfl ?_
  have e1 : ((label.length : Int) < 1) = False := by simp; omega
  have e2 : ((label.length : Int) > 64) = False := by simp; omega
  simp (maxSteps := 2000000) (disch := first | assumption | omega | (simp only [nx_push, nx_set, ne_eq] <;> omega) | (simp only [XSide, F21]; done) | decide) only [XWalk, XSl, ↓XPre, reduceIte, Nat.reduceEqDiff, Nat.reduceLT, Nat.reduceAdd, Nat.reduceSub, Nat.reduceMul, Nat.reduceBEq, reduceCtorEq, Int.reduceAdd, Int.reduceSub, Int.reduceMul, Int.reduceLT, Int.reduceLE, Int.reduceGT, Int.reduceGE, Int.reduceEq, Int.reduceNe, Int.reduceBEq, Int.reduceBNe, Int.reduceTMod, Int.reduceTDiv, ↓if_true, ↓if_false, F21, A21, Tryd.ntmps21, alen_bs hk, lk, cast_lit, e1, e2, aconv_str2]
  have hl : Bs (m.push (.row (u8s label) (.slack 1))) (.slice (some ⟨m.next, 0, none⟩) label.length label.length) label := .row get_push_self (by rw [List.drop_zero, List.take_of_length_le (by rw [u8s_length]; omega)]) (by rw [u8s_length]) (Nat.le_refl _) (fun s hs => by cases hs; exact ⟨rfl, by rw [u8s_length]; omega⟩)
  refine wcall_x specLoc (keyed_ct hw.push (hk.keep (Keep.push hw)) hl (by omega) (by omega)) hw.push ?_
  rintro out m1 hw1 hn1 f1 rfl
  rw [if_neg (show ¬ (key.length = 0 ∨ 32 < key.length) by omega)]
  have lb := blakeB_length (key := key) (d := label)
  have bq : Nat.beq (u8s (blakeB key label)).length 32 = true := by rw [u8s_length, lb]; rfl
  have hob : (u8s (blakeB key label)).all oneCell = true := u8s_one
  have sb : (u8s (blakeB key label)).length = 32 := by rw [u8s_length]; exact lb
  simp only [Mem.next_push] at hn1
  simp (maxSteps := 2000000) (disch := first | assumption | omega | (simp only [nx_push, nx_set, ne_eq] <;> omega) | (simp only [XSide, F21]; done) | decide) only [XWalk, XSl, ↓XPre, reduceIte, Nat.reduceEqDiff, Nat.reduceLT, Nat.reduceAdd, Nat.reduceSub, Nat.reduceMul, Nat.reduceBEq, reduceCtorEq, Int.reduceAdd, Int.reduceSub, Int.reduceMul, Int.reduceLT, Int.reduceLE, Int.reduceGT, Int.reduceGE, Int.reduceEq, Int.reduceNe, Int.reduceBEq, Int.reduceBNe, Int.reduceTMod, Int.reduceTDiv, ↓if_true, ↓if_false, F21, A21, XAcc, bq]
  exact ⟨_, rfl, _, rfl, agg_row get_set_self lb⟩

def be64 (i : Nat) : List UInt8 := [UInt8.ofNat (i / 72057594037927936), UInt8.ofNat (i / 281474976710656), UInt8.ofNat (i / 1099511627776), UInt8.ofNat (i / 4294967296), UInt8.ofNat (i / 16777216), UInt8.ofNat (i / 65536), UInt8.ofNat (i / 256), UInt8.ofNat i]
def streamN (own nonce : List UInt8) (k : Nat) : List UInt8 := (List.range k).flatMap fun i => blakeB own (nonce ++ be64 i)
def streamB (own nonce : List UInt8) (n : Nat) : List UInt8 := (streamN own nonce (n / 32 + 1)).take n

theorem streamN_succ {own nonce : List UInt8} {k : Nat} : streamN own nonce (k + 1) = streamN own nonce k ++ blakeB own (nonce ++ be64 k) := by
  simp [streamN, List.range_succ, List.flatMap_append]
theorem streamN_length {own nonce : List UInt8} {k : Nat} : (streamN own nonce k).length = 32 * k := by
  induction k with
  | zero => rfl
  | succ k ih => rw [streamN_succ, List.length_append, ih, blakeB_length]; omega
theorem streamN_take {own nonce : List UInt8} {n : Nat} : ∀ {k j : Nat}, n ≤ 32 * k → (streamN own nonce (k + j)).take n = (streamN own nonce k).take n
  | k, 0, h => rfl
  | k, j + 1, h => by
    rw [← Nat.add_assoc, streamN_succ, List.take_append_of_le_length (by rw [streamN_length]; omega)]
    exact streamN_take h

/-- Appending where there is room. -/
theorem append_buf {P : Program} {m : Mem} {aT : Array TypeId} {bytes : Nat} (h : appK P aT = some bytes) {b n c : Nat} {R new : List UInt8} {x : Value} (hm : m.get b = some (.row (u8s R) .rw)) (hx : Bs m x new) (hc : n + new.length ≤ c) (hR : c ≤ R.length) :
    aappend P aT (.slice (some ⟨b, 0, none⟩) n c) x m = some (.slice (some ⟨b, 0, none⟩) (n + new.length) c, (if new = [] then m else m.set b (.row (u8s (R.take n ++ new ++ R.drop (n + new.length))) .rw)), (if new = [] then [] else [b]), .all) := by
  have he := hx.elems
  rw [u8s_length] at he
  rw [aappend_of h he]
  by_cases hn : new = []
  · subst hn
    have e1 : Nat.ble n c = true := by rw [ble_dec]; simp at hc; simpa using hc
    simp [appendTo, e1]
  · have hnl : new.length ≠ 0 := by simpa using hn
    have hst : storeN (u8s R) (0 + n * 1) (u8s new) = some (u8s (R.take n ++ new ++ R.drop (n + new.length))) := by
      unfold storeN
      rw [show 0 + n * 1 = n from by omega, u8s_length, u8s_length, ble_dec, decide_eq_true (by omega), cond_true]
      simp only [u8s_append, u8s_take, u8s_drop]
    have e3 : Nat.ble (n + new.length) c = true := by rw [ble_dec]; simpa using hc
    simp only [appendTo, beq_dec, decide_eq_false hnl, Bool.false_and, cond_false, e3, cond_true, putCells, hm, writable_rw, u8s_one, Bool.and_self, hst, Option.map_some, if_neg hn]

/-- A slice of bytes of the call's own that can be written. -/
def Wb (m : Mem) (n0 : Nat) (v : Value) (l : List UInt8) : Prop := ∃ b c R, v = .slice (some ⟨b, 0, none⟩) l.length c ∧ n0 ≤ b ∧ m.get b = some (.row (u8s R) .rw) ∧ R.take l.length = l ∧ l.length ≤ c ∧ c ≤ R.length
theorem Wb.bs {m : Mem} {n0 : Nat} {v : Value} {l : List UInt8} (h : Wb m n0 v l) : Bs m v l := by
  obtain ⟨b, c, R, rfl, h1, h2, h3, h4, h5⟩ := h
  exact Sl.of_row h2 (by rw [List.drop_zero, u8s_take, h3]) (by rw [u8s_length]) h4

end Go.Big

/- Sealing: the key stream. -/
set_option linter.unusedSimpArgs false
set_option linter.unusedVariables false
set_option maxRecDepth 100000
set_option maxHeartbeats 4000000
namespace Go.Big
open Go.Proofs

def streamL : List UInt8 := [115, 116, 114, 101, 97, 109]
def tagL : List UInt8 := [116, 97, 103]

theorem be64_at {i : Nat} (n : Nat) (h : n ≤ 64) : shrK .u64 (i : Int) (n : Int) = ((i / 2 ^ n : Nat) : Int) := shrK_nat (k := .u64) (a := i) (n := n) h

theorem be64_row {k : Nat} : [Value.int .u8 (shrK .u64 (k : Int) 56 % 256), Value.int .u8 (shrK .u64 (k : Int) 48 % 256), Value.int .u8 (shrK .u64 (k : Int) 40 % 256), Value.int .u8 (shrK .u64 (k : Int) 32 % 256), Value.int .u8 (shrK .u64 (k : Int) 24 % 256), Value.int .u8 (shrK .u64 (k : Int) 16 % 256), Value.int .u8 (shrK .u64 (k : Int) 8 % 256), Value.int .u8 ((k : Int) % 256)] = u8s (be64 k) := by
  have h56 : shrK .u64 (k : Int) 56 = ((k / 72057594037927936 : Nat) : Int) := be64_at 56 (by omega)
  have h48 : shrK .u64 (k : Int) 48 = ((k / 281474976710656 : Nat) : Int) := be64_at 48 (by omega)
  have h40 : shrK .u64 (k : Int) 40 = ((k / 1099511627776 : Nat) : Int) := be64_at 40 (by omega)
  have h32 : shrK .u64 (k : Int) 32 = ((k / 4294967296 : Nat) : Int) := be64_at 32 (by omega)
  have h24 : shrK .u64 (k : Int) 24 = ((k / 16777216 : Nat) : Int) := be64_at 24 (by omega)
  have h16 : shrK .u64 (k : Int) 16 = ((k / 65536 : Nat) : Int) := be64_at 16 (by omega)
  have h8 : shrK .u64 (k : Int) 8 = ((k / 256 : Nat) : Int) := be64_at 8 (by omega)
  rw [h56, h48, h40, h32, h24, h16, h8]
  simp only [u8_mod]
  rfl

theorem aslice_hi_rw {P : Program} {m : Mem} {t : TypeId} {b off len cap h : Nat} {rs : List Value} {k : IntKind} (hm : m.get b = some (.row rs .rw)) (ht : idxSl P t = some 1) (hh : h ≤ cap) :
    aslice P t (.slice (some ⟨b, off, none⟩) len cap) none (some (.int k (h : Int))) none m = some (.slice (some ⟨b, off, none⟩) h cap) := by
  unfold idxSl at ht
  split at ht
  case h_2 => cases ht
  rename_i elem hu
  have hb : bounds len cap none (some (.int k (h : Int))) none = some (0, h, cap) := bounds_of rfl rfl (Nat.zero_le _) hh
  by_cases h0 : cap = 0
  · subst h0
    simp [aslice, hu, hb, ht, hm, isOpen, closedS]
  · have e4 : Nat.beq cap 0 = false := by rw [beq_dec]; simp [h0]
    simp [aslice, hu, hb, ht, hm, isOpen, closedS, e4, addr_add]

theorem stream_ct {m : Mem} (hw : WF m) {kv nv : Value} {key nonce : List UInt8} {n : Nat} (hk : Bs m kv key) (lk : key.length = 32) (hn : Bs m nv nonce) (ln : nonce.length = 16) (hnn : n ≤ 65504) :
    Ct Tryd.prog S0 47 [kv, nv, .int .i64 (n : Int)] m [] (Rv fun v m' => ∃ s, v = .tuple #[s, .int .i64 0] ∧ Wb m' m.next s (streamB (blakeB key streamL) nonce n)) := by
  refine ct_x (spec0 _) (by rfl) Tryd.func47 rfl ?_
  simp (maxSteps := 2000000) (disch := first | assumption | omega | (simp only [nx_push, nx_set, ne_eq] <;> omega) | (simp only [XSide, F47]; done) | decide) only [XWalk, XSl, ↓XPre, reduceIte, Nat.reduceEqDiff, Nat.reduceLT, Nat.reduceAdd, Nat.reduceSub, Nat.reduceMul, Nat.reduceBEq, reduceCtorEq, Int.reduceAdd, Int.reduceSub, Int.reduceMul, Int.reduceLT, Int.reduceLE, Int.reduceGT, Int.reduceGE, Int.reduceEq, Int.reduceNe, Int.reduceBEq, Int.reduceBNe, Int.reduceTMod, Int.reduceTDiv, ↓if_true, ↓if_false, F47, A47, Tryd.ntmps47]
  refine wcall_v specLoc (derive_ct (label := streamL) hw hk lk (by decide) (by decide)) hw ?_
  rintro v m1 hw1 hn1 f1 ⟨d, rfl, hd⟩
  have hno1 : Bs m1 nv nonce := hn.keep (keep_of hw f1)
  have e1 : ((n : Int) < 0) = False := by simp
  have e2 : ((n : Int) > 65504) = False := by simp; omega
  simp (maxSteps := 2000000) (disch := first | assumption | omega | (simp only [nx_push, nx_set, ne_eq] <;> omega) | (simp only [XSide, F47]; done) | decide) only [XWalk, XSl, ↓XPre, reduceIte, Nat.reduceEqDiff, Nat.reduceLT, Nat.reduceAdd, Nat.reduceSub, Nat.reduceMul, Nat.reduceBEq, reduceCtorEq, Int.reduceAdd, Int.reduceSub, Int.reduceMul, Int.reduceLT, Int.reduceLE, Int.reduceGT, Int.reduceGE, Int.reduceEq, Int.reduceNe, Int.reduceBEq, Int.reduceBNe, Int.reduceTMod, Int.reduceTDiv, ↓if_true, ↓if_false, F47, A47, alen_bs hno1, ln, cast_lit, e1, e2]
  refine wcall_x specLoc (hnew_ct hw1 hd (by rw [blakeB_length]; omega)) hw1 ?_
  intro out m2 hw2 hn2 f2 hr
  rw [if_neg (by rw [blakeB_length]; omega)] at hr
  obtain ⟨hp, rfl, hb, rfl, hbn, hh⟩ := hr
  rw [blakeB_length] at hh
  have hno2 : Bs m2 nv nonce := hno1.keep (keep_of hw1 f2)
  have hkb : keyBlock (blakeB key streamL) = pad64 (blakeB key streamL) := by
    rw [keyBlock, if_neg]
    intro e
    have := congrArg List.length e
    rw [blakeB_length] at this
    simp at this
  have lkb : (keyBlock (blakeB key streamL)).length = 64 := by rw [hkb, pad64, List.length_append, List.length_replicate, blakeB_length]
  have hblt := hh.lt hw2
  simp (maxSteps := 2000000) (disch := first | assumption | omega | (simp only [nx_push, nx_set, ne_eq] <;> omega) | (simp only [XSide, F47]; done) | decide) only [XWalk, XSl, ↓XPre, reduceIte, Nat.reduceEqDiff, Nat.reduceLT, Nat.reduceAdd, Nat.reduceSub, Nat.reduceMul, Nat.reduceBEq, reduceCtorEq, Int.reduceAdd, Int.reduceSub, Int.reduceMul, Int.reduceLT, Int.reduceLE, Int.reduceGT, Int.reduceGE, Int.reduceEq, Int.reduceNe, Int.reduceBEq, Int.reduceBNe, Int.reduceTMod, Int.reduceTDiv, ↓if_true, ↓if_false, F47, A47]
  refine wcall_of specLoc (hwrite_ct hw2 hh hno2 (fun e => by have := hno1.blk_lt hw1 e; omega) (by omega)) hw2 (fun b hb' hlt => by simp at hb'; omega) ?_
  rintro out m3 wr hwr hw3 hn3 hf3 _ ⟨rfl, hh3⟩
  have ok3 : OkW m.next [] wr := fun b hb' hlt => by have := hwr b hb'; simp at this; omega
  have e3 : IntKind.wrap .i64 ((n : Int) + 32) = ((n + 32 : Nat) : Int) := by rw [wrap_i64 (by omega) (by omega)]; omega
  have hmk : ∀ m' : Mem, amkS Tryd.prog 22 (.int .i64 0) (.int .i64 ((n + 32 : Nat) : Int)) m' = _ := fun m' => amkS_bytes (l := 0) (c := n + 32) (show mkK Tryd.prog 22 = true by kernel_rfl) (by omega) (by omega)
  simp (maxSteps := 2000000) (disch := first | assumption | omega | (simp only [nx_push, nx_set, ne_eq] <;> omega) | (simp only [XSide, F47]; done) | decide) only [XWalk, XSl, ↓XPre, reduceIte, Nat.reduceEqDiff, Nat.reduceLT, Nat.reduceAdd, Nat.reduceSub, Nat.reduceMul, Nat.reduceBEq, reduceCtorEq, Int.reduceAdd, Int.reduceSub, Int.reduceMul, Int.reduceLT, Int.reduceLE, Int.reduceGT, Int.reduceGE, Int.reduceEq, Int.reduceNe, Int.reduceBEq, Int.reduceBNe, Int.reduceTMod, Int.reduceTDiv, ↓if_true, ↓if_false, F47, A47, ok3, e3, hmk]
  refine x_loop (fun q e m4 => ∃ k R, 32 * k ≤ n + 31 ∧ q + 32 * k = n + 31 ∧ e.n = 95 ∧ e.get 2 = .int .i64 (n : Int) ∧ e.get 10 = .pointer (some ⟨hb, 0, none⟩) ∧ e.get 11 = .slice (some ⟨m3.next, 0, none⟩) (32 * k) (n + 32) ∧ e.get 12 = .int .u64 ((k : Nat) : Int) ∧ WF m4 ∧ m3.next < m4.next ∧
    HashAt m4 hb (key0 32) (keyBlock (blakeB key streamL) ++ nonce) ∧ m4.get m3.next = some (.row (u8s R) .rw) ∧ R.length = n + 32 ∧ R.take (32 * k) = streamN (blakeB key streamL) nonce k) (n + 31)
    ⟨0, List.replicate (n + 32) 0, by omega, by omega, by simp (maxSteps := 2000000) (disch := first | assumption | omega | (simp only [nx_push, nx_set, ne_eq] <;> omega) | (simp only [XSide]; done) | decide) only [XWalk, XSl, ↓XPre, reduceIte, Nat.reduceEqDiff, Nat.reduceLT, Nat.reduceAdd, Nat.reduceSub, Nat.reduceMul, Nat.reduceBEq, reduceCtorEq, Int.reduceAdd, Int.reduceSub, Int.reduceMul, Int.reduceLT, Int.reduceLE, Int.reduceGT, Int.reduceGE, Int.reduceEq, Int.reduceNe, Int.reduceBEq, Int.reduceBNe, Int.reduceTMod, Int.reduceTDiv, ↓if_true, ↓if_false], by simp (maxSteps := 2000000) (disch := first | assumption | omega | (simp only [nx_push, nx_set, ne_eq] <;> omega) | (simp only [XSide]; done) | decide) only [XWalk, XSl, ↓XPre, reduceIte, Nat.reduceEqDiff, Nat.reduceLT, Nat.reduceAdd, Nat.reduceSub, Nat.reduceMul, Nat.reduceBEq, reduceCtorEq, Int.reduceAdd, Int.reduceSub, Int.reduceMul, Int.reduceLT, Int.reduceLE, Int.reduceGT, Int.reduceGE, Int.reduceEq, Int.reduceNe, Int.reduceBEq, Int.reduceBNe, Int.reduceTMod, Int.reduceTDiv, ↓if_true, ↓if_false], by simp (maxSteps := 2000000) (disch := first | assumption | omega | (simp only [nx_push, nx_set, ne_eq] <;> omega) | (simp only [XSide]; done) | decide) only [XWalk, XSl, ↓XPre, reduceIte, Nat.reduceEqDiff, Nat.reduceLT, Nat.reduceAdd, Nat.reduceSub, Nat.reduceMul, Nat.reduceBEq, reduceCtorEq, Int.reduceAdd, Int.reduceSub, Int.reduceMul, Int.reduceLT, Int.reduceLE, Int.reduceGT, Int.reduceGE, Int.reduceEq, Int.reduceNe, Int.reduceBEq, Int.reduceBNe, Int.reduceTMod, Int.reduceTDiv, ↓if_true, ↓if_false], by simp (maxSteps := 2000000) (disch := first | assumption | omega | (simp only [nx_push, nx_set, ne_eq] <;> omega) | (simp only [XSide]; done) | decide) only [XWalk, XSl, ↓XPre, reduceIte, Nat.reduceEqDiff, Nat.reduceLT, Nat.reduceAdd, Nat.reduceSub, Nat.reduceMul, Nat.reduceBEq, reduceCtorEq, Int.reduceAdd, Int.reduceSub, Int.reduceMul, Int.reduceLT, Int.reduceLE, Int.reduceGT, Int.reduceGE, Int.reduceEq, Int.reduceNe, Int.reduceBEq, Int.reduceBNe, Int.reduceTMod, Int.reduceTDiv, ↓if_true, ↓if_false], by simp (maxSteps := 2000000) (disch := first | assumption | omega | (simp only [nx_push, nx_set, ne_eq] <;> omega) | (simp only [XSide]; done) | decide) only [XWalk, XSl, ↓XPre, reduceIte, Nat.reduceEqDiff, Nat.reduceLT, Nat.reduceAdd, Nat.reduceSub, Nat.reduceMul, Nat.reduceBEq, reduceCtorEq, Int.reduceAdd, Int.reduceSub, Int.reduceMul, Int.reduceLT, Int.reduceLE, Int.reduceGT, Int.reduceGE, Int.reduceEq, Int.reduceNe, Int.reduceBEq, Int.reduceBNe, Int.reduceTMod, Int.reduceTDiv, ↓if_true, ↓if_false]; rfl, hw3.push, by simp, hh3.frame (by rw [get_push_ne (by omega)]), get_push_self, by simp, by simp [streamN]⟩ ?_
  rintro q e m4 ⟨k, R, hkn, hq, he, q2, q10, q11, q12, hw4, hn4, hh4, hm4, lR, hR⟩
  have hb3 : hb < m3.next := by omega
  simp (maxSteps := 2000000) (disch := first | assumption | omega | (simp only [nx_push, nx_set, ne_eq] <;> omega) | (simp only [XSide, F47]; done) | decide) only [XWalk, XSl, ↓XPre, reduceIte, Nat.reduceEqDiff, Nat.reduceLT, Nat.reduceAdd, Nat.reduceSub, Nat.reduceMul, Nat.reduceBEq, reduceCtorEq, Int.reduceAdd, Int.reduceSub, Int.reduceMul, Int.reduceLT, Int.reduceLE, Int.reduceGT, Int.reduceGE, Int.reduceEq, Int.reduceNe, Int.reduceBEq, Int.reduceBNe, Int.reduceTMod, Int.reduceTDiv, ↓if_true, ↓if_false, F47, A47, he, q2, q11]
  refine x_if (fun ht => ?_) (fun ht => ?_)
  · have hlt : 32 * k < n := by have := of_decide_eq_true ht; omega
    simp (maxSteps := 2000000) (disch := first | assumption | omega | (simp only [nx_push, nx_set, ne_eq] <;> omega) | (simp only [XSide, F47]; done) | decide) only [XWalk, XSl, ↓XPre, reduceIte, Nat.reduceEqDiff, Nat.reduceLT, Nat.reduceAdd, Nat.reduceSub, Nat.reduceMul, Nat.reduceBEq, reduceCtorEq, Int.reduceAdd, Int.reduceSub, Int.reduceMul, Int.reduceLT, Int.reduceLE, Int.reduceGT, Int.reduceGE, Int.reduceEq, Int.reduceNe, Int.reduceBEq, Int.reduceBNe, Int.reduceTMod, Int.reduceTDiv, ↓if_true, ↓if_false, F47, A47, he, q10]
    refine wcall_v specLoc (hcopy_ct hw4 hh4) hw4 ?_
    rintro v m5 hw5 hn5 f5 ⟨hc, rfl, hcn, hh5⟩
    have hclt := hh5.lt hw5
    simp (maxSteps := 2000000) (disch := first | assumption | omega | (simp only [nx_push, nx_set, ne_eq] <;> omega) | (simp only [XSide, F47]; done) | decide) only [XWalk, XSl, ↓XPre, reduceIte, Nat.reduceEqDiff, Nat.reduceLT, Nat.reduceAdd, Nat.reduceSub, Nat.reduceMul, Nat.reduceBEq, reduceCtorEq, Int.reduceAdd, Int.reduceSub, Int.reduceMul, Int.reduceLT, Int.reduceLE, Int.reduceGT, Int.reduceGE, Int.reduceEq, Int.reduceNe, Int.reduceBEq, Int.reduceBNe, Int.reduceTMod, Int.reduceTDiv, ↓if_true, ↓if_false, F47, A47, he, q12]
    rw [be64_row]
    have hb8 : Bs (m5.push (.row (u8s (be64 k)) .rw)) (.slice (some ⟨m5.next, 0, none⟩) 8 8) (be64 k) := Sl.of_row get_push_self rfl rfl (Nat.le_refl _)
    refine wcall_of specLoc (hwrite_ct (k := key0 32) (p := keyBlock (blakeB key streamL) ++ nonce) (l := be64 k) hw5.push (hh5.frame (by rw [get_push_ne (by omega)])) hb8 (by simp [slBlk]; omega) (by rw [List.length_append, lkb, ln]; simp [be64])) hw5.push (fun b hb' hlt => by simp at hb'; omega) ?_
    rintro out m6 wr6 hwr6 hw6 hn6 hf6 _ ⟨rfl, hh6⟩
    simp only [Mem.next_push] at hn6 hf6
    have ok6 : OkW m.next [] wr6 := fun b hb' hlt => by have := hwr6 b hb'; simp at this; omega
    simp (maxSteps := 2000000) (disch := first | assumption | omega | (simp only [nx_push, nx_set, ne_eq] <;> omega) | (simp only [XSide, F47]; done) | decide) only [XWalk, XSl, ↓XPre, reduceIte, Nat.reduceEqDiff, Nat.reduceLT, Nat.reduceAdd, Nat.reduceSub, Nat.reduceMul, Nat.reduceBEq, reduceCtorEq, Int.reduceAdd, Int.reduceSub, Int.reduceMul, Int.reduceLT, Int.reduceLE, Int.reduceGT, Int.reduceGE, Int.reduceEq, Int.reduceNe, Int.reduceBEq, Int.reduceBNe, Int.reduceTMod, Int.reduceTDiv, ↓if_true, ↓if_false, F47, A47, ok6, he]
    refine wcall_x specLoc (hsum_ct hw6 hh6 (by rw [List.length_append, List.length_append, lkb, ln]; simp [be64])) hw6 ?_
    rintro out m7 hw7 hn7 f7 rfl
    have hbl : wordsB (hashFin (key0 32) 0 (keyBlock (blakeB key streamL) ++ nonce ++ be64 k)) = blakeB (blakeB key streamL) (nonce ++ be64 k) := by
      rw [List.append_assoc]
      show _ = wordsB (hashFin (key0 (blakeB key streamL).length) 0 (keyBlock (blakeB key streamL) ++ (nonce ++ be64 k)))
      rw [blakeB_length]
    rw [hbl]
    have lbl : (blakeB (blakeB key streamL) (nonce ++ be64 k)).length = 32 := blakeB_length
    generalize hB : blakeB (blakeB key streamL) (nonce ++ be64 k) = B at *
    have bq : Nat.beq (u8s B).length 32 = true := by rw [u8s_length, lbl]; rfl
    have hob : (u8s B).all oneCell = true := u8s_one
    have sb : (u8s B).length = 32 := by rw [u8s_length]; exact lbl
    have hm7 : m7.get m3.next = some (.row (u8s R) .rw) := by rw [f7 _ (by omega), hf6 _ (by omega) (by simp; omega), get_push_ne (by omega), f5 _ (by omega)]; exact hm4
    have hh7 : HashAt m7 hb (key0 32) (keyBlock (blakeB key streamL) ++ nonce) := hh4.frame (by rw [f7 _ (by omega), hf6 _ (by omega) (by simp; omega), get_push_ne (by omega), f5 _ (by omega)])
    simp (maxSteps := 2000000) (disch := first | assumption | omega | (simp only [nx_push, nx_set, ne_eq] <;> omega) | (simp only [XSide, F47]; done) | decide) only [XWalk, XSl, ↓XPre, reduceIte, Nat.reduceEqDiff, Nat.reduceLT, Nat.reduceAdd, Nat.reduceSub, Nat.reduceMul, Nat.reduceBEq, reduceCtorEq, Int.reduceAdd, Int.reduceSub, Int.reduceMul, Int.reduceLT, Int.reduceLE, Int.reduceGT, Int.reduceGE, Int.reduceEq, Int.reduceNe, Int.reduceBEq, Int.reduceBNe, Int.reduceTMod, Int.reduceTDiv, ↓if_true, ↓if_false, F47, A47, he, bq, q11]
    have hsl : Bs ((m7.push (.row (u8s (List.replicate 32 0)) .rw)).set m7.next (.row (u8s B) .rw)) (.slice (some ⟨m7.next, 0, none⟩) 32 32) B := agg_row get_set_self lbl
    have hBn : B ≠ [] := by rintro rfl; simp at lbl
    have hap := append_buf (P := Tryd.prog) (aT := #[22, 22]) (bytes := 1) (b := m3.next) (n := 32 * k) (c := n + 32) (R := R) (by simp only [F47]) (by rw [get_set_ne (by omega), get_push_ne (by omega)]; exact hm7) hsl (by rw [lbl]; omega) (by omega)
    rw [if_neg hBn, if_neg hBn, lbl] at hap
    have hzl : u8s (List.replicate 32 0) = [Value.int .u8 0, Value.int .u8 0, Value.int .u8 0, Value.int .u8 0, Value.int .u8 0, Value.int .u8 0, Value.int .u8 0, Value.int .u8 0, Value.int .u8 0, Value.int .u8 0, Value.int .u8 0, Value.int .u8 0, Value.int .u8 0, Value.int .u8 0, Value.int .u8 0, Value.int .u8 0, Value.int .u8 0, Value.int .u8 0, Value.int .u8 0, Value.int .u8 0, Value.int .u8 0, Value.int .u8 0, Value.int .u8 0, Value.int .u8 0, Value.int .u8 0, Value.int .u8 0, Value.int .u8 0, Value.int .u8 0, Value.int .u8 0, Value.int .u8 0, Value.int .u8 0, Value.int .u8 0] := rfl
    rw [hzl] at hap
    have e4 : IntKind.wrap .u64 ((k : Int) + 1) = ((k + 1 : Nat) : Int) := by rw [wrap_u64 (by omega) (by omega)]; omega
    have ok7 : OkW m.next [] [m3.next] := OkW.fresh (by omega)
    simp (maxSteps := 2000000) (disch := first | assumption | omega | (simp only [nx_push, nx_set, ne_eq] <;> omega) | (simp only [XSide, F47]; done) | decide) only [XWalk, XSl, ↓XPre, reduceIte, Nat.reduceEqDiff, Nat.reduceLT, Nat.reduceAdd, Nat.reduceSub, Nat.reduceMul, Nat.reduceBEq, reduceCtorEq, Int.reduceAdd, Int.reduceSub, Int.reduceMul, Int.reduceLT, Int.reduceLE, Int.reduceGT, Int.reduceGE, Int.reduceEq, Int.reduceNe, Int.reduceBEq, Int.reduceBNe, Int.reduceTMod, Int.reduceTDiv, ↓if_true, ↓if_false, F47, A47, hap, he, q2, q10, q12, e4, ok7]
    refine ⟨q - 32, by omega, k + 1, R.take (32 * k) ++ B ++ R.drop (32 * k + 32), by omega, by omega, by rw [show 32 * (k + 1) = 32 * k + 32 from by omega], rfl, by (repeat (first | exact hw7 | apply WF.push | (refine WF.set ?_ (by first | omega | (simp only [Mem.next_set, Mem.next_push]; omega))))), by omega, hh7.frame (by rw [get_set_ne (by omega), get_set_ne (by omega), get_push_ne (by omega)]), rfl, ?_, ?_⟩
    · rw [List.length_append, List.length_append, List.length_take, List.length_drop, lbl, lR]; omega
    · rw [streamN_succ, hB, ← hR, List.take_left' (by rw [List.length_append, List.length_take, lbl, lR]; omega)]
  · have hge : n ≤ 32 * k := by have := of_decide_eq_false ht; omega
    simp (maxSteps := 2000000) (disch := first | assumption | omega | (simp only [nx_push, nx_set, ne_eq] <;> omega) | (simp only [XSide, F47]; done) | decide) only [XWalk, XSl, ↓XPre, reduceIte, Nat.reduceEqDiff, Nat.reduceLT, Nat.reduceAdd, Nat.reduceSub, Nat.reduceMul, Nat.reduceBEq, reduceCtorEq, Int.reduceAdd, Int.reduceSub, Int.reduceMul, Int.reduceLT, Int.reduceLE, Int.reduceGT, Int.reduceGE, Int.reduceEq, Int.reduceNe, Int.reduceBEq, Int.reduceBNe, Int.reduceTMod, Int.reduceTDiv, ↓if_true, ↓if_false, F47, A47, he, q2, q11, aslice_hi_rw hm4 (show idxSl Tryd.prog 22 = some 1 by simp only [F47]) (show n ≤ n + 32 by omega)]
    refine ⟨_, rfl, _, rfl, ?_⟩
    have hS : streamB (blakeB key streamL) nonce n = R.take n := by
      have h1 : (streamN (blakeB key streamL) nonce (n / 32 + 1)).take n = (streamN (blakeB key streamL) nonce k).take n := by
        obtain ⟨j, hj⟩ : ∃ j, n / 32 + 1 = k + j := ⟨n / 32 + 1 - k, by omega⟩
        rw [hj]
        exact streamN_take hge
      rw [streamB, h1, ← hR, List.take_take, Nat.min_eq_left hge]
    have hSl : (R.take n).length = n := by rw [List.length_take, lR]; omega
    rw [hS]
    refine ⟨m3.next, n + 32, R, by rw [hSl], by omega, hm4, by rw [hSl], by rw [hSl]; omega, by omega⟩

end Go.Big

/- Sealing: with the stream; tags. -/
set_option linter.unusedSimpArgs false
set_option linter.unusedVariables false
set_option maxRecDepth 100000
set_option maxHeartbeats 4000000
namespace Go.Big
open Go.Proofs

def xorB (s b : List UInt8) : List UInt8 := List.zipWith (fun x y => x ^^^ y) s b

theorem u8s_at {l : List UInt8} {i : Nat} (h : i < l.length) : (u8s l)[i]? = some (.int .u8 ((l[i]).toNat : Int)) := u8s_get (List.getElem?_eq_getElem h)
theorem u8s_set {l : List UInt8} {i : Nat} {x : UInt8} : (u8s l).set i (.int .u8 (x.toNat : Int)) = u8s (l.set i x) := by simp [u8s, List.map_set]

theorem streamB_length {own nonce : List UInt8} {n : Nat} : (streamB own nonce n).length = n := by
  rw [streamB, List.length_take, streamN_length]; omega

theorem xored_ct {m : Mem} (hw : WF m) {kv nv bv : Value} {key nonce b : List UInt8} (hk : Bs m kv key) (lk : key.length = 32) (hn : Bs m nv nonce) (ln : nonce.length = 16) (hb : Bs m bv b) (hbl : b.length ≤ 65504) :
    Ct Tryd.prog S0 35 [kv, nv, bv] m [] (Rv fun v m' => ∃ s, v = .tuple #[s, .int .i64 0] ∧ Wb m' m.next s (xorB (streamB (blakeB key streamL) nonce b.length) b)) := by
  refine ct_x (spec0 _) (by rfl) Tryd.func35 rfl ?_
  simp (maxSteps := 2000000) (disch := first | assumption | omega | (simp only [nx_push, nx_set, ne_eq] <;> omega) | (simp only [XSide, F35]; done) | decide) only [XWalk, XSl, ↓XPre, reduceIte, Nat.reduceEqDiff, Nat.reduceLT, Nat.reduceAdd, Nat.reduceSub, Nat.reduceMul, Nat.reduceBEq, reduceCtorEq, Int.reduceAdd, Int.reduceSub, Int.reduceMul, Int.reduceLT, Int.reduceLE, Int.reduceGT, Int.reduceGE, Int.reduceEq, Int.reduceNe, Int.reduceBEq, Int.reduceBNe, Int.reduceTMod, Int.reduceTDiv, ↓if_true, ↓if_false, F35, A35, Tryd.ntmps35, alen_bs hb]
  refine wcall_v specLoc (stream_ct hw hk lk hn ln hbl) hw ?_
  rintro v m1 hw1 hn1 f1 ⟨sv, rfl, hs⟩
  have hb1 : Bs m1 bv b := hb.keep (keep_of hw f1)
  have ls : (streamB (blakeB key streamL) nonce b.length).length = b.length := streamB_length
  generalize streamB (blakeB key streamL) nonce b.length = S at *
  obtain ⟨sb, sc, R, rfl, hsb, hm1, hR, hc1, hc2⟩ := hs
  have hsl : sb < m1.next := hw1.lt (by rw [hm1]; simp)
  rw [ls] at hR hc1
  simp (maxSteps := 2000000) (disch := first | assumption | omega | (simp only [nx_push, nx_set, ne_eq] <;> omega) | (simp only [XSide, F35]; done) | decide) only [XWalk, XSl, ↓XPre, reduceIte, Nat.reduceEqDiff, Nat.reduceLT, Nat.reduceAdd, Nat.reduceSub, Nat.reduceMul, Nat.reduceBEq, reduceCtorEq, Int.reduceAdd, Int.reduceSub, Int.reduceMul, Int.reduceLT, Int.reduceLE, Int.reduceGT, Int.reduceGE, Int.reduceEq, Int.reduceNe, Int.reduceBEq, Int.reduceBNe, Int.reduceTMod, Int.reduceTDiv, ↓if_true, ↓if_false, F35, A35, ls]
  refine x_loop (fun q e m4 => ∃ i Ri, i + q = b.length ∧ e.n = 37 ∧ e.get 2 = bv ∧ e.get 8 = .slice (some ⟨sb, 0, none⟩) b.length sc ∧ e.get 9 = .int .i64 0 ∧ e.get 20 = .int .i64 (b.length : Int) ∧ e.get 21 = .int .i64 ((i : Nat) : Int) ∧ WF m4 ∧ m4.next = m1.next ∧ (∀ c, c ≠ sb → m4.get c = m1.get c) ∧
    m4.get sb = some (.row (u8s Ri) .rw) ∧ Ri.length = R.length ∧ ∀ j (hj : j < b.length), Ri[j]? = some (if j < i then S[j]'(by omega) ^^^ b[j] else S[j]'(by omega))) b.length
    ⟨0, R, by omega, by simp (maxSteps := 2000000) (disch := first | assumption | omega | (simp only [nx_push, nx_set, ne_eq] <;> omega) | (simp only [XSide]; done) | decide) only [XWalk, XSl, ↓XPre, reduceIte, Nat.reduceEqDiff, Nat.reduceLT, Nat.reduceAdd, Nat.reduceSub, Nat.reduceMul, Nat.reduceBEq, reduceCtorEq, Int.reduceAdd, Int.reduceSub, Int.reduceMul, Int.reduceLT, Int.reduceLE, Int.reduceGT, Int.reduceGE, Int.reduceEq, Int.reduceNe, Int.reduceBEq, Int.reduceBNe, Int.reduceTMod, Int.reduceTDiv, ↓if_true, ↓if_false], by simp (maxSteps := 2000000) (disch := first | assumption | omega | (simp only [nx_push, nx_set, ne_eq] <;> omega) | (simp only [XSide]; done) | decide) only [XWalk, XSl, ↓XPre, reduceIte, Nat.reduceEqDiff, Nat.reduceLT, Nat.reduceAdd, Nat.reduceSub, Nat.reduceMul, Nat.reduceBEq, reduceCtorEq, Int.reduceAdd, Int.reduceSub, Int.reduceMul, Int.reduceLT, Int.reduceLE, Int.reduceGT, Int.reduceGE, Int.reduceEq, Int.reduceNe, Int.reduceBEq, Int.reduceBNe, Int.reduceTMod, Int.reduceTDiv, ↓if_true, ↓if_false], by simp (maxSteps := 2000000) (disch := first | assumption | omega | (simp only [nx_push, nx_set, ne_eq] <;> omega) | (simp only [XSide]; done) | decide) only [XWalk, XSl, ↓XPre, reduceIte, Nat.reduceEqDiff, Nat.reduceLT, Nat.reduceAdd, Nat.reduceSub, Nat.reduceMul, Nat.reduceBEq, reduceCtorEq, Int.reduceAdd, Int.reduceSub, Int.reduceMul, Int.reduceLT, Int.reduceLE, Int.reduceGT, Int.reduceGE, Int.reduceEq, Int.reduceNe, Int.reduceBEq, Int.reduceBNe, Int.reduceTMod, Int.reduceTDiv, ↓if_true, ↓if_false], by simp (maxSteps := 2000000) (disch := first | assumption | omega | (simp only [nx_push, nx_set, ne_eq] <;> omega) | (simp only [XSide]; done) | decide) only [XWalk, XSl, ↓XPre, reduceIte, Nat.reduceEqDiff, Nat.reduceLT, Nat.reduceAdd, Nat.reduceSub, Nat.reduceMul, Nat.reduceBEq, reduceCtorEq, Int.reduceAdd, Int.reduceSub, Int.reduceMul, Int.reduceLT, Int.reduceLE, Int.reduceGT, Int.reduceGE, Int.reduceEq, Int.reduceNe, Int.reduceBEq, Int.reduceBNe, Int.reduceTMod, Int.reduceTDiv, ↓if_true, ↓if_false], by simp (maxSteps := 2000000) (disch := first | assumption | omega | (simp only [nx_push, nx_set, ne_eq] <;> omega) | (simp only [XSide]; done) | decide) only [XWalk, XSl, ↓XPre, reduceIte, Nat.reduceEqDiff, Nat.reduceLT, Nat.reduceAdd, Nat.reduceSub, Nat.reduceMul, Nat.reduceBEq, reduceCtorEq, Int.reduceAdd, Int.reduceSub, Int.reduceMul, Int.reduceLT, Int.reduceLE, Int.reduceGT, Int.reduceGE, Int.reduceEq, Int.reduceNe, Int.reduceBEq, Int.reduceBNe, Int.reduceTMod, Int.reduceTDiv, ↓if_true, ↓if_false], by simp (maxSteps := 2000000) (disch := first | assumption | omega | (simp only [nx_push, nx_set, ne_eq] <;> omega) | (simp only [XSide]; done) | decide) only [XWalk, XSl, ↓XPre, reduceIte, Nat.reduceEqDiff, Nat.reduceLT, Nat.reduceAdd, Nat.reduceSub, Nat.reduceMul, Nat.reduceBEq, reduceCtorEq, Int.reduceAdd, Int.reduceSub, Int.reduceMul, Int.reduceLT, Int.reduceLE, Int.reduceGT, Int.reduceGE, Int.reduceEq, Int.reduceNe, Int.reduceBEq, Int.reduceBNe, Int.reduceTMod, Int.reduceTDiv, ↓if_true, ↓if_false]; rfl, hw1, rfl, fun _ _ => rfl, hm1, rfl, fun j hj => ?_⟩ ?_
  · rw [if_neg (by omega)]
    have : R[j]? = (R.take b.length)[j]? := by rw [List.getElem?_take, if_pos hj]
    rw [this, hR]
    exact List.getElem?_eq_getElem _
  rintro q e m4 ⟨i, Ri, hi, he, q2, q8, q9, q20, q21, hw4, hn4, hf4, hm4, lRi, hRi⟩
  simp (maxSteps := 2000000) (disch := first | assumption | omega | (simp only [nx_push, nx_set, ne_eq] <;> omega) | (simp only [XSide, F35]; done) | decide) only [XWalk, XSl, ↓XPre, reduceIte, Nat.reduceEqDiff, Nat.reduceLT, Nat.reduceAdd, Nat.reduceSub, Nat.reduceMul, Nat.reduceBEq, reduceCtorEq, Int.reduceAdd, Int.reduceSub, Int.reduceMul, Int.reduceLT, Int.reduceLE, Int.reduceGT, Int.reduceGE, Int.reduceEq, Int.reduceNe, Int.reduceBEq, Int.reduceBNe, Int.reduceTMod, Int.reduceTDiv, ↓if_true, ↓if_false, F35, A35, he, q20, q21]
  refine x_if (fun ht => ?_) (fun ht => ?_)
  · have hk' : i < b.length := by have := of_decide_eq_true ht; omega
    have hb4 : Bs m4 bv b := hb1.frame_at fun c hc => hf4 c (by have := hb.blk_lt hw hc; omega)
    obtain ⟨bb, off, c, rs, k, hbv, hbm, hbr, hbc, hbk⟩ := hb4.inv (by intro e; have := congrArg List.length e; rw [u8s_length] at this; simp at this; subst this; simp at hk')
    rw [u8s_length] at hbv hbr
    have hbi : rs[off + i]? = some (.int .u8 ((b[i]).toNat : Int)) := by rw [take_drop_get hbr (by rw [u8s_length]; exact hk')]; exact u8s_at hk'
    have hRi' : i < Ri.length := by omega
    have hri := hRi i hk'
    rw [if_neg (by omega)] at hri
    have hsi : (u8s Ri)[i]? = some (.int .u8 ((S[i]'(by omega)).toNat : Int)) := u8s_get hri
    have e2 : IntKind.wrap .i64 ((i : Int) + 1) = ((i + 1 : Nat) : Int) := by rw [wrap_i64 (by omega) (by omega)]; omega
    simp (maxSteps := 2000000) (disch := first | assumption | omega | (simp only [nx_push, nx_set, ne_eq] <;> omega) | (simp only [XSide, F35]; done) | decide) only [XWalk, XSl, ↓XPre, reduceIte, Nat.reduceEqDiff, Nat.reduceLT, Nat.reduceAdd, Nat.reduceSub, Nat.reduceMul, Nat.reduceBEq, reduceCtorEq, Int.reduceAdd, Int.reduceSub, Int.reduceMul, Int.reduceLT, Int.reduceLE, Int.reduceGT, Int.reduceGE, Int.reduceEq, Int.reduceNe, Int.reduceBEq, Int.reduceBNe, Int.reduceTMod, Int.reduceTDiv, ↓if_true, ↓if_false, F35, A35, he, q2, q8, q9, q20, q21]
    refine x_draw [0, 0, 3, 7, 0, 0, 48, 112, 255, 511, 1023] (by kernel_rfl) ?_
    simp (maxSteps := 2000000) (disch := first | assumption | omega | (simp only [nx_push, nx_set, ne_eq] <;> omega) | (simp only [XSide, F35]; done) | decide) only [XWalk, XSl, ↓XPre, reduceIte, Nat.reduceEqDiff, Nat.reduceLT, Nat.reduceAdd, Nat.reduceSub, Nat.reduceMul, Nat.reduceBEq, reduceCtorEq, Int.reduceAdd, Int.reduceSub, Int.reduceMul, Int.reduceLT, Int.reduceLE, Int.reduceGT, Int.reduceGE, Int.reduceEq, Int.reduceNe, Int.reduceBEq, Int.reduceBNe, Int.reduceTMod, Int.reduceTDiv, ↓if_true, ↓if_false, F35, A35, he, q2, q8, q9, q20, q21, hbv, hbm, hbi, hm4, hsi, xorI_8, u8s_length, u8s_set, e2, OkW.fresh hsb]
    refine ⟨q - 1, by omega, i + 1, Ri.set i (S[i]'(by omega) ^^^ b[i]), by omega, rfl, hw4.set (by omega), hn4, fun c hc => by rw [get_set_ne hc]; exact hf4 c hc, rfl, by rw [List.length_set]; exact lRi, fun j hj => ?_⟩
    by_cases hji : j = i
    · subst hji
      rw [set_self, if_pos hRi', if_pos (by omega)]
    · rw [List.getElem?_set_ne (Ne.symm hji), hRi j hj]
      by_cases h2 : j < i
      · rw [if_pos h2, if_pos (by omega)]
      · rw [if_neg h2, if_neg (by omega)]
  · have hk' : i = b.length := by have := of_decide_eq_false ht; omega
    subst hk'
    simp (maxSteps := 2000000) (disch := first | assumption | omega | (simp only [nx_push, nx_set, ne_eq] <;> omega) | (simp only [XSide, F35]; done) | decide) only [XWalk, XSl, ↓XPre, reduceIte, Nat.reduceEqDiff, Nat.reduceLT, Nat.reduceAdd, Nat.reduceSub, Nat.reduceMul, Nat.reduceBEq, reduceCtorEq, Int.reduceAdd, Int.reduceSub, Int.reduceMul, Int.reduceLT, Int.reduceLE, Int.reduceGT, Int.reduceGE, Int.reduceEq, Int.reduceNe, Int.reduceBEq, Int.reduceBNe, Int.reduceTMod, Int.reduceTDiv, ↓if_true, ↓if_false, F35, A35, he, q8, q9]
    refine ⟨_, rfl, _, rfl, ?_⟩
    have lx : (xorB S b).length = b.length := by rw [xorB, List.length_zipWith, ls]; simp
    refine ⟨sb, sc, Ri, by rw [lx], hsb, hm4, ?_, by rw [lx]; exact hc1, by omega⟩
    rw [lx]
    apply List.ext_getElem?
    intro j
    by_cases hj : j < b.length
    · rw [List.getElem?_take, if_pos hj, hRi j hj, if_pos hj, xorB, List.getElem?_zipWith]
      have e1 : S[j]? = some (S[j]'(by omega)) := List.getElem?_eq_getElem _
      have e2 : b[j]? = some b[j] := List.getElem?_eq_getElem hj
      rw [e1, e2]
    · rw [List.getElem?_eq_none (by rw [List.length_take]; omega), List.getElem?_eq_none (by omega)]

theorem stag_ct {m : Mem} (hw : WF m) {kv bv : Value} {key b : List UInt8} (hk : Bs m kv key) (lk : key.length = 32) (hb : Bs m bv b) (hbl : b.length ≤ 1099511627000) :
    Ct Tryd.prog S0 37 [kv, bv] m [] (Rv fun v m' => ∃ s, v = .tuple #[s, .int .i64 0] ∧ Bs m' s ((blakeB (blakeB key tagL) b).take 16)) := by
  refine ct_x (spec0 _) (by rfl) Tryd.func37 rfl ?_
  simp (maxSteps := 2000000) (disch := first | assumption | omega | (simp only [nx_push, nx_set, ne_eq] <;> omega) | (simp only [XSide, F37]; done) | decide) only [XWalk, XSl, ↓XPre, reduceIte, Nat.reduceEqDiff, Nat.reduceLT, Nat.reduceAdd, Nat.reduceSub, Nat.reduceMul, Nat.reduceBEq, reduceCtorEq, Int.reduceAdd, Int.reduceSub, Int.reduceMul, Int.reduceLT, Int.reduceLE, Int.reduceGT, Int.reduceGE, Int.reduceEq, Int.reduceNe, Int.reduceBEq, Int.reduceBNe, Int.reduceTMod, Int.reduceTDiv, ↓if_true, ↓if_false, F37, A37, Tryd.ntmps37]
  refine wcall_v specLoc (derive_ct (label := tagL) hw hk lk (by decide) (by decide)) hw ?_
  rintro v m1 hw1 hn1 f1 ⟨d, rfl, hd⟩
  have hb1 : Bs m1 bv b := hb.keep (keep_of hw f1)
  simp (maxSteps := 2000000) (disch := first | assumption | omega | (simp only [nx_push, nx_set, ne_eq] <;> omega) | (simp only [XSide, F37]; done) | decide) only [XWalk, XSl, ↓XPre, reduceIte, Nat.reduceEqDiff, Nat.reduceLT, Nat.reduceAdd, Nat.reduceSub, Nat.reduceMul, Nat.reduceBEq, reduceCtorEq, Int.reduceAdd, Int.reduceSub, Int.reduceMul, Int.reduceLT, Int.reduceLE, Int.reduceGT, Int.reduceGE, Int.reduceEq, Int.reduceNe, Int.reduceBEq, Int.reduceBNe, Int.reduceTMod, Int.reduceTDiv, ↓if_true, ↓if_false, F37, A37]
  have ld := blakeB_length (key := key) (d := tagL)
  refine wcall_x specLoc (keyed_ct hw1 hd hb1 (by omega) (by omega)) hw1 ?_
  rintro out m2 hw2 hn2 f2 rfl
  rw [if_neg (show ¬ ((blakeB key tagL).length = 0 ∨ 32 < (blakeB key tagL).length) by omega)]
  have lb := blakeB_length (key := blakeB key tagL) (d := b)
  have bq : Nat.beq (u8s (blakeB (blakeB key tagL) b)).length 32 = true := by rw [u8s_length, lb]; rfl
  have hob : (u8s (blakeB (blakeB key tagL) b)).all oneCell = true := u8s_one
  have sb : (u8s (blakeB (blakeB key tagL) b)).length = 32 := by rw [u8s_length]; exact lb
  simp (maxSteps := 2000000) (disch := first | assumption | omega | (simp only [nx_push, nx_set, ne_eq] <;> omega) | (simp only [XSide, F37]; done) | decide) only [XWalk, XSl, ↓XPre, reduceIte, Nat.reduceEqDiff, Nat.reduceLT, Nat.reduceAdd, Nat.reduceSub, Nat.reduceMul, Nat.reduceBEq, reduceCtorEq, Int.reduceAdd, Int.reduceSub, Int.reduceMul, Int.reduceLT, Int.reduceLE, Int.reduceGT, Int.reduceGE, Int.reduceEq, Int.reduceNe, Int.reduceBEq, Int.reduceBNe, Int.reduceTMod, Int.reduceTDiv, ↓if_true, ↓if_false, F37, A37, XAcc, bq]
  exact ⟨_, rfl, _, rfl, Sl.of_row get_set_self (by rw [List.drop_zero, u8s_take]) (by rw [u8s_length, List.length_take, lb]; rfl) (by omega)⟩

def cipherB (key nonce plain : List UInt8) : List UInt8 := nonce ++ xorB (streamB (blakeB key streamL) nonce plain.length) plain
def sealB (key nonce plain : List UInt8) : List UInt8 := cipherB key nonce plain ++ (blakeB (blakeB key tagL) (cipherB key nonce plain)).take 16

theorem xorB_length {s b : List UInt8} (h : s.length = b.length) : (xorB s b).length = b.length := by rw [xorB, List.length_zipWith, h]; simp

theorem sseal_ct {m : Mem} (hw : WF m) {kv nv bv : Value} {key nonce b : List UInt8} (hk : Bs m kv key) (lk : key.length = 32) (hn : Bs m nv nonce) (ln : nonce.length = 16) (hb : Bs m bv b) (hbl : b.length ≤ 65504) :
    Ct Tryd.prog S0 22 [kv, nv, bv] m [] (Rv fun v m' => ∃ s, v = .tuple #[s, .int .i64 0] ∧ Bs m' s (sealB key nonce b)) := by
  refine ct_x (spec0 _) (by rfl) Tryd.func22 rfl ?_
  simp (maxSteps := 2000000) (disch := first | assumption | omega | (simp only [nx_push, nx_set, ne_eq] <;> omega) | (simp only [XSide, F22]; done) | decide) only [XWalk, XSl, ↓XPre, reduceIte, Nat.reduceEqDiff, Nat.reduceLT, Nat.reduceAdd, Nat.reduceSub, Nat.reduceMul, Nat.reduceBEq, reduceCtorEq, Int.reduceAdd, Int.reduceSub, Int.reduceMul, Int.reduceLT, Int.reduceLE, Int.reduceGT, Int.reduceGE, Int.reduceEq, Int.reduceNe, Int.reduceBEq, Int.reduceBNe, Int.reduceTMod, Int.reduceTDiv, ↓if_true, ↓if_false, F22, A22, Tryd.ntmps22]
  refine wcall_v specLoc (xored_ct hw hk lk hn ln hb hbl) hw ?_
  rintro v m1 hw1 hn1 f1 ⟨cv, rfl, hc⟩
  have hk1 : Bs m1 kv key := hk.keep (keep_of hw f1)
  have hno1 : Bs m1 nv nonce := hn.keep (keep_of hw f1)
  have lx : (xorB (streamB (blakeB key streamL) nonce b.length) b).length = b.length := xorB_length streamB_length
  simp (maxSteps := 2000000) (disch := first | assumption | omega | (simp only [nx_push, nx_set, ne_eq] <;> omega) | (simp only [XSide, F22]; done) | decide) only [XWalk, XSl, ↓XPre, reduceIte, Nat.reduceEqDiff, Nat.reduceLT, Nat.reduceAdd, Nat.reduceSub, Nat.reduceMul, Nat.reduceBEq, reduceCtorEq, Int.reduceAdd, Int.reduceSub, Int.reduceMul, Int.reduceLT, Int.reduceLE, Int.reduceGT, Int.reduceGE, Int.reduceEq, Int.reduceNe, Int.reduceBEq, Int.reduceBNe, Int.reduceTMod, Int.reduceTDiv, ↓if_true, ↓if_false, F22, A22]
  refine wcall_v specLoc (clone_ct hw1 hno1 (by omega)) hw1 ?_
  intro ov m2 hw2 hn2 f2 ho
  have hk2 : Bs m2 kv key := hk1.keep (keep_of hw1 f2)
  have hc2 : Bs m2 cv _ := hc.bs.keep (keep_of hw1 f2)
  simp (maxSteps := 2000000) (disch := first | assumption | omega | (simp only [nx_push, nx_set, ne_eq] <;> omega) | (simp only [XSide, F22]; done) | decide) only [XWalk, XSl, ↓XPre, reduceIte, Nat.reduceEqDiff, Nat.reduceLT, Nat.reduceAdd, Nat.reduceSub, Nat.reduceMul, Nat.reduceBEq, reduceCtorEq, Int.reduceAdd, Int.reduceSub, Int.reduceMul, Int.reduceLT, Int.reduceLE, Int.reduceGT, Int.reduceGE, Int.reduceEq, Int.reduceNe, Int.reduceBEq, Int.reduceBNe, Int.reduceTMod, Int.reduceTDiv, ↓if_true, ↓if_false, F22, A22]
  refine wappend (bytes := 1) (by simp only [F22]) ho hc2 (by rw [lx]; omega) (by omega) hw2 fun v3 m3 w hd ok => ?_
  have hk3 : Bs m3 kv key := hd.keep hw2 hk2 fun c hc' e => by have := ho.blk_ge hc'; have := hk.blk_lt hw e; omega
  have lc : (cipherB key nonce b).length = 16 + b.length := by rw [cipherB, List.length_append, lx, ln]
  have hn3 := hd.next
  simp (maxSteps := 2000000) (disch := first | assumption | omega | (simp only [nx_push, nx_set, ne_eq] <;> omega) | (simp only [XSide, F22]; done) | decide) only [XWalk, XSl, ↓XPre, reduceIte, Nat.reduceEqDiff, Nat.reduceLT, Nat.reduceAdd, Nat.reduceSub, Nat.reduceMul, Nat.reduceBEq, reduceCtorEq, Int.reduceAdd, Int.reduceSub, Int.reduceMul, Int.reduceLT, Int.reduceLE, Int.reduceGT, Int.reduceGE, Int.reduceEq, Int.reduceNe, Int.reduceBEq, Int.reduceBNe, Int.reduceTMod, Int.reduceTDiv, ↓if_true, ↓if_false, F22, A22, ok m.next _ (by omega)]
  refine wcall_v specLoc (stag_ct (b := cipherB key nonce b) hd.wf hk3 lk hd.app.sl (by rw [lc]; omega)) hd.wf ?_
  rintro v m4 hw4 hn4 f4 ⟨tv, rfl, ht⟩
  have hd4 : Ab m4 m1.next v3 (cipherB key nonce b) := hd.app.keep (keep_of hd.wf f4)
  have lt : ((blakeB (blakeB key tagL) (cipherB key nonce b)).take 16).length = 16 := by rw [List.length_take, blakeB_length]; rfl
  simp (maxSteps := 2000000) (disch := first | assumption | omega | (simp only [nx_push, nx_set, ne_eq] <;> omega) | (simp only [XSide, F22]; done) | decide) only [XWalk, XSl, ↓XPre, reduceIte, Nat.reduceEqDiff, Nat.reduceLT, Nat.reduceAdd, Nat.reduceSub, Nat.reduceMul, Nat.reduceBEq, reduceCtorEq, Int.reduceAdd, Int.reduceSub, Int.reduceMul, Int.reduceLT, Int.reduceLE, Int.reduceGT, Int.reduceGE, Int.reduceEq, Int.reduceNe, Int.reduceBEq, Int.reduceBNe, Int.reduceTMod, Int.reduceTDiv, ↓if_true, ↓if_false, F22, A22]
  refine wappend (bytes := 1) (by simp only [F22]) hd4 ht (by rw [lt, lc]; omega) (by omega) hw4 fun v5 m5 w5 hd5 ok5 => ?_
  simp (maxSteps := 2000000) (disch := first | assumption | omega | (simp only [nx_push, nx_set, ne_eq] <;> omega) | (simp only [XSide, F22]; done) | decide) only [XWalk, XSl, ↓XPre, reduceIte, Nat.reduceEqDiff, Nat.reduceLT, Nat.reduceAdd, Nat.reduceSub, Nat.reduceMul, Nat.reduceBEq, reduceCtorEq, Int.reduceAdd, Int.reduceSub, Int.reduceMul, Int.reduceLT, Int.reduceLE, Int.reduceGT, Int.reduceGE, Int.reduceEq, Int.reduceNe, Int.reduceBEq, Int.reduceBNe, Int.reduceTMod, Int.reduceTDiv, ↓if_true, ↓if_false, F22, A22, ok5 m.next _ (by omega)]
  exact ⟨_, rfl, _, rfl, hd5.app.sl⟩

def openB (key sealed : List UInt8) : Option (List UInt8) :=
  if (blakeB (blakeB key tagL) (sealed.take (sealed.length - 16))).take 16 == sealed.drop (sealed.length - 16) then
    some (xorB (streamB (blakeB key streamL) (sealed.take 16) (sealed.length - 32)) ((sealed.drop 16).take (sealed.length - 32)))
  else none

theorem sopen_ct {m : Mem} (hw : WF m) {kv sv : Value} {key S : List UInt8} (hk : Bs m kv key) (lk : key.length = 32) (hs : Bs m sv S) (l1 : 32 ≤ S.length) (l2 : S.length ≤ 65536) :
    Ct Tryd.prog S0 25 [kv, sv] m [] (Rv fun v m' => match openB key S with | some p => ∃ s, v = .tuple #[s, .int .i64 0] ∧ Bs m' s p | none => v = .tuple #[.slice none 0 0, .int .i64 10]) := by
  refine ct_x (spec0 _) (by rfl) Tryd.func25 rfl ?_
  have e1 : ((S.length : Int) < 32) = False := by simp; omega
  have e2 : ((S.length : Int) > 65536) = False := by simp; omega
  have e3 : IntKind.wrap .i64 ((S.length : Int) - 16) = ((S.length - 16 : Nat) : Int) := by rw [wrap_i64 (by omega) (by omega)]; omega
  simp (maxSteps := 2000000) (disch := first | assumption | omega | (simp only [nx_push, nx_set, ne_eq] <;> omega) | (simp only [XSide, F25]; done) | decide) only [XWalk, XSl, ↓XPre, reduceIte, Nat.reduceEqDiff, Nat.reduceLT, Nat.reduceAdd, Nat.reduceSub, Nat.reduceMul, Nat.reduceBEq, reduceCtorEq, Int.reduceAdd, Int.reduceSub, Int.reduceMul, Int.reduceLT, Int.reduceLE, Int.reduceGT, Int.reduceGE, Int.reduceEq, Int.reduceNe, Int.reduceBEq, Int.reduceBNe, Int.reduceTMod, Int.reduceTDiv, ↓if_true, ↓if_false, F25, A25, Tryd.ntmps25, alen_bs hk, lk, cast_lit, alen_bs hs, e1, e2, e3]
  refine hs.wslice (a := 0) (b := S.length - 16) (by simp only [F25]) (hs.not_nil (by omega)) rfl rfl (by omega) (by omega) fun v1 hv1 hb1 => ?_
  rw [List.drop_zero, Nat.sub_zero] at hv1
  simp (maxSteps := 2000000) (disch := first | assumption | omega | (simp only [nx_push, nx_set, ne_eq] <;> omega) | (simp only [XSide, F25]; done) | decide) only [XWalk, XSl, ↓XPre, reduceIte, Nat.reduceEqDiff, Nat.reduceLT, Nat.reduceAdd, Nat.reduceSub, Nat.reduceMul, Nat.reduceBEq, reduceCtorEq, Int.reduceAdd, Int.reduceSub, Int.reduceMul, Int.reduceLT, Int.reduceLE, Int.reduceGT, Int.reduceGE, Int.reduceEq, Int.reduceNe, Int.reduceBEq, Int.reduceBNe, Int.reduceTMod, Int.reduceTDiv, ↓if_true, ↓if_false, F25, A25]
  refine wcall_v specLoc (stag_ct hw hk lk hv1 (by rw [List.length_take]; omega)) hw ?_
  rintro v m1 hw1 hn1 f1 ⟨tv, rfl, ht⟩
  have hs1 : Bs m1 sv S := hs.keep (keep_of hw f1)
  have hk1 : Bs m1 kv key := hk.keep (keep_of hw f1)
  simp (maxSteps := 2000000) (disch := first | assumption | omega | (simp only [nx_push, nx_set, ne_eq] <;> omega) | (simp only [XSide, F25]; done) | decide) only [XWalk, XSl, ↓XPre, reduceIte, Nat.reduceEqDiff, Nat.reduceLT, Nat.reduceAdd, Nat.reduceSub, Nat.reduceMul, Nat.reduceBEq, reduceCtorEq, Int.reduceAdd, Int.reduceSub, Int.reduceMul, Int.reduceLT, Int.reduceLE, Int.reduceGT, Int.reduceGE, Int.reduceEq, Int.reduceNe, Int.reduceBEq, Int.reduceBNe, Int.reduceTMod, Int.reduceTDiv, ↓if_true, ↓if_false, F25, A25]
  refine hs1.wslice (a := S.length - 16) (b := S.length) (by simp only [F25]) (hs.not_nil (by omega)) rfl rfl (by omega) (by omega) fun v2 hv2 hb2 => ?_
  rw [List.take_of_length_le (by rw [List.length_drop]; omega)] at hv2
  simp (maxSteps := 2000000) (disch := first | assumption | omega | (simp only [nx_push, nx_set, ne_eq] <;> omega) | (simp only [XSide, F25]; done) | decide) only [XWalk, XSl, ↓XPre, reduceIte, Nat.reduceEqDiff, Nat.reduceLT, Nat.reduceAdd, Nat.reduceSub, Nat.reduceMul, Nat.reduceBEq, reduceCtorEq, Int.reduceAdd, Int.reduceSub, Int.reduceMul, Int.reduceLT, Int.reduceLE, Int.reduceGT, Int.reduceGE, Int.reduceEq, Int.reduceNe, Int.reduceBEq, Int.reduceBNe, Int.reduceTMod, Int.reduceTDiv, ↓if_true, ↓if_false, F25, A25]
  refine wcall_pu (pu_of (equal_ct ht hv2)) ?_
  unfold openB
  cases ((blakeB (blakeB key tagL) (S.take (S.length - 16))).take 16 == S.drop (S.length - 16)) with
  | false =>
    simp (maxSteps := 2000000) (disch := first | assumption | omega | (simp only [nx_push, nx_set, ne_eq] <;> omega) | (simp only [XSide, F25]; done) | decide) only [XWalk, XSl, ↓XPre, reduceIte, Nat.reduceEqDiff, Nat.reduceLT, Nat.reduceAdd, Nat.reduceSub, Nat.reduceMul, Nat.reduceBEq, reduceCtorEq, Int.reduceAdd, Int.reduceSub, Int.reduceMul, Int.reduceLT, Int.reduceLE, Int.reduceGT, Int.reduceGE, Int.reduceEq, Int.reduceNe, Int.reduceBEq, Int.reduceBNe, Int.reduceTMod, Int.reduceTDiv, ↓if_true, ↓if_false, F25, A25]
    exact ⟨_, rfl, rfl⟩
  | true =>
    simp (maxSteps := 2000000) (disch := first | assumption | omega | (simp only [nx_push, nx_set, ne_eq] <;> omega) | (simp only [XSide, F25]; done) | decide) only [XWalk, XSl, ↓XPre, reduceIte, Nat.reduceEqDiff, Nat.reduceLT, Nat.reduceAdd, Nat.reduceSub, Nat.reduceMul, Nat.reduceBEq, reduceCtorEq, Int.reduceAdd, Int.reduceSub, Int.reduceMul, Int.reduceLT, Int.reduceLE, Int.reduceGT, Int.reduceGE, Int.reduceEq, Int.reduceNe, Int.reduceBEq, Int.reduceBNe, Int.reduceTMod, Int.reduceTDiv, ↓if_true, ↓if_false, F25, A25]
    refine x_draw [0, 0, 2, 0, 0, 24, 63, 127, 127, 511, 1023] (by kernel_rfl) ?_
    simp (maxSteps := 2000000) (disch := first | assumption | omega | (simp only [nx_push, nx_set, ne_eq] <;> omega) | (simp only [XSide, F25]; done) | decide) only [XWalk, XSl, ↓XPre, reduceIte, Nat.reduceEqDiff, Nat.reduceLT, Nat.reduceAdd, Nat.reduceSub, Nat.reduceMul, Nat.reduceBEq, reduceCtorEq, Int.reduceAdd, Int.reduceSub, Int.reduceMul, Int.reduceLT, Int.reduceLE, Int.reduceGT, Int.reduceGE, Int.reduceEq, Int.reduceNe, Int.reduceBEq, Int.reduceBNe, Int.reduceTMod, Int.reduceTDiv, ↓if_true, ↓if_false, F25, A25]
    refine hs1.wslice (a := 0) (b := 16) (by simp only [F25]) (hs.not_nil (by omega)) rfl rfl (by omega) (by omega) fun v3 hv3 hb3 => ?_
    rw [List.drop_zero, Nat.sub_zero] at hv3
    simp (maxSteps := 2000000) (disch := first | assumption | omega | (simp only [nx_push, nx_set, ne_eq] <;> omega) | (simp only [XSide, F25]; done) | decide) only [XWalk, XSl, ↓XPre, reduceIte, Nat.reduceEqDiff, Nat.reduceLT, Nat.reduceAdd, Nat.reduceSub, Nat.reduceMul, Nat.reduceBEq, reduceCtorEq, Int.reduceAdd, Int.reduceSub, Int.reduceMul, Int.reduceLT, Int.reduceLE, Int.reduceGT, Int.reduceGE, Int.reduceEq, Int.reduceNe, Int.reduceBEq, Int.reduceBNe, Int.reduceTMod, Int.reduceTDiv, ↓if_true, ↓if_false, F25, A25]
    refine hs1.wslice (a := 16) (b := S.length - 16) (by simp only [F25]) (hs.not_nil (by omega)) rfl rfl (by omega) (by omega) fun v4 hv4 hb4 => ?_
    rw [show S.length - 16 - 16 = S.length - 32 from by omega] at hv4
    have l4 : ((S.drop 16).take (S.length - 32)).length = S.length - 32 := by rw [List.length_take, List.length_drop]; omega
    simp (maxSteps := 2000000) (disch := first | assumption | omega | (simp only [nx_push, nx_set, ne_eq] <;> omega) | (simp only [XSide, F25]; done) | decide) only [XWalk, XSl, ↓XPre, reduceIte, Nat.reduceEqDiff, Nat.reduceLT, Nat.reduceAdd, Nat.reduceSub, Nat.reduceMul, Nat.reduceBEq, reduceCtorEq, Int.reduceAdd, Int.reduceSub, Int.reduceMul, Int.reduceLT, Int.reduceLE, Int.reduceGT, Int.reduceGE, Int.reduceEq, Int.reduceNe, Int.reduceBEq, Int.reduceBNe, Int.reduceTMod, Int.reduceTDiv, ↓if_true, ↓if_false, F25, A25]
    refine wcall_v specLoc (xored_ct hw1 hk1 lk hv3 (by rw [List.length_take]; omega) hv4 (by omega)) hw1 ?_
    rintro v m2 hw2 hn2 f2 ⟨s, rfl, hx⟩
    rw [l4] at hx
    simp (maxSteps := 2000000) (disch := first | assumption | omega | (simp only [nx_push, nx_set, ne_eq] <;> omega) | (simp only [XSide, F25]; done) | decide) only [XWalk, XSl, ↓XPre, reduceIte, Nat.reduceEqDiff, Nat.reduceLT, Nat.reduceAdd, Nat.reduceSub, Nat.reduceMul, Nat.reduceBEq, reduceCtorEq, Int.reduceAdd, Int.reduceSub, Int.reduceMul, Int.reduceLT, Int.reduceLE, Int.reduceGT, Int.reduceGE, Int.reduceEq, Int.reduceNe, Int.reduceBEq, Int.reduceBNe, Int.reduceTMod, Int.reduceTDiv, ↓if_true, ↓if_false, F25, A25]
    exact ⟨_, rfl, s, rfl, hx.bs⟩

end Go.Big
