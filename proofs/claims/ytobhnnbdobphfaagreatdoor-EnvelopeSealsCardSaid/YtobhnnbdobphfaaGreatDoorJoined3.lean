/- A region whose order is drawn: every order that its edges allow comes to the same end. -/
import Derived.Test.YtobhnnbdobphfaaGreatDoorJoined2
import Derived.LoopN
import Derived.Laws.Sem
set_option linter.unusedSimpArgs false
set_option linter.unusedVariables false
namespace Go.Big

/-! ### The orders -/

/-- An order of a region's operations that its edges allow. -/
structure Valid (ops : Array Oper) (l : List Nat) : Prop where
  nodup : l.Nodup
  lt : ∀ i ∈ l, i < ops.size
  pre : ∀ a j b o, l = a ++ j :: b → ops[j]? = some o → ∀ e ∈ o.after, Region.binds .any e = true → e.on ∈ a

theorem Valid.nil (ops : Array Oper) : Valid ops [] := ⟨List.nodup_nil, by simp, fun a j b o h => by simp at h⟩

theorem Valid.snoc {ops : Array Oper} {l : List Nat} (h : Valid ops l) {i : Nat} (hi : i < ops.size) (hn : i ∉ l) (hp : ∀ o, ops[i]? = some o → ∀ e ∈ o.after, Region.binds .any e = true → e.on ∈ l) :
    Valid ops (l ++ [i]) := by
  refine ⟨?_, fun j hj => ?_, fun a j b o he ho e hem hb => ?_⟩
  · rw [List.nodup_append]
    exact ⟨h.nodup, by simp, fun x hx y hy => by simp at hy; subst hy; exact fun e => hn (e ▸ hx)⟩
  · rw [List.mem_append] at hj
    rcases hj with hj | hj
    · exact h.lt j hj
    · simp at hj; subst hj; exact hi
  · rcases List.eq_nil_or_concat b with rfl | ⟨b', x, rfl⟩
    · have h1 := List.append_inj' he (by simp)
      simp at h1
      obtain ⟨rfl, rfl⟩ := h1
      exact hp o ho e hem hb
    · have h1 : l ++ [i] = (a ++ j :: b') ++ [x] := by rw [he]; simp
      have h2 := List.append_inj' h1 (by simp)
      exact h.pre a j b' o h2.1 ho e hem hb

theorem getD_set_iff {a : Array Bool} {i j : Nat} (hj : j < a.size) : (a.setIfInBounds i true).getD j false = true ↔ i = j ∨ a.getD j false = true := by
  by_cases h : i = j
  · subst h
    simp [hj]
  · rw [getD_set_ne false h]
    simp [h]

theorem linearise_valid {ops : Array Oper} (hback : ∀ i o, ops[i]? = some o → ∀ e ∈ o.after, Region.binds .any e = true → e.on < i) :
    ∀ (fuel t : Nat) (listed : Array Bool) (acc : List Nat), listed.size = ops.size → (∀ i, i < ops.size → (listed.getD i false = true ↔ i ∈ acc)) → acc.length + fuel = ops.size → Valid ops acc.reverse →
      Valid ops (Region.linearise.go .any ops fuel t listed acc) ∧ (Region.linearise.go .any ops fuel t listed acc).length = ops.size := by
  intro fuel
  induction fuel with
  | zero =>
    intro t listed acc hs hl hlen hv
    simp only [Region.linearise.go]
    exact ⟨hv, by simp; omega⟩
  | succ fuel ih =>
    intro t listed acc hs hl hlen hv
    simp only [Region.linearise.go]
    -- some operation is ready
    have hex : ∃ i, i < ops.size ∧ i ∉ acc := by
      apply Classical.byContradiction
      intro hno
      have hsub : ∀ i ∈ List.range ops.size, i ∈ acc := fun i hi => Classical.byContradiction fun hn => hno ⟨i, by simpa using hi, hn⟩
      have := (List.nodup_range (n := ops.size)).length_le_of_subset hsub
      simp at this
      omega
    have hmin : ∃ i, i < ops.size ∧ i ∉ acc ∧ ∀ j, j < i → j ∈ acc := by
      obtain ⟨i, h1, h2⟩ := hex
      induction i using Nat.strongRecOn with
      | _ i ihi =>
        by_cases hall : ∀ j, j < i → j ∈ acc
        · exact ⟨i, h1, h2, hall⟩
        · simp only [Classical.not_forall] at hall
          obtain ⟨j, hj, hjn⟩ := hall
          exact ihi j hj (by omega) hjn
    obtain ⟨i0, hi0, hi0n, hi0p⟩ := hmin
    have hready : ∀ i, i ∈ (List.range ops.size).filter (fun i => !listed.getD i true && ((ops[i]?).map (·.after.all fun e => !Region.binds .any e || listed.getD e.on false)).getD false) ↔
        i < ops.size ∧ i ∉ acc ∧ ∀ o, ops[i]? = some o → ∀ e ∈ o.after, Region.binds .any e = true → listed.getD e.on false = true := by
      intro i
      rw [List.mem_filter, List.mem_range, Bool.and_eq_true]
      constructor
      · rintro ⟨h1, h2, h3⟩
        refine ⟨h1, fun hm => ?_, fun o ho e he hb => ?_⟩
        · have := (hl i h1).2 hm
          have hsz : i < listed.size := by omega
          simp [hsz] at this h2
          rw [this] at h2; cases h2
        · rw [ho] at h3
          simp only [Option.map_some, Option.getD_some] at h3
          have := Array.all_eq_true_iff_forall_mem.1 h3 e he
          rw [hb] at this
          simpa using this
      · rintro ⟨h1, h2, h3⟩
        refine ⟨h1, ?_, ?_⟩
        · have hsz : i < listed.size := by omega
          have : ¬ (listed.getD i false = true) := fun hx => h2 ((hl i h1).1 hx)
          simp [hsz] at this ⊢
          exact this
        · rw [Array.getElem?_eq_getElem h1]
          simp only [Option.map_some, Option.getD_some]
          rw [Array.all_eq_true_iff_forall_mem]
          intro e he
          cases hb : Region.binds .any e with
          | false => rfl
          | true => simp [h3 _ (Array.getElem?_eq_getElem h1) e he hb]
    have hi0r := (hready i0).2 ⟨hi0, hi0n, fun o ho e he hb => by
      have := hback i0 o ho e he hb
      exact (hl e.on (by omega)).2 (hi0p _ this)⟩
    generalize hrs : (List.range ops.size).filter (fun i => !listed.getD i true && ((ops[i]?).map (·.after.all fun e => !Region.binds .any e || listed.getD e.on false)).getD false) = rs at hready hi0r
    have hlenpos : 0 < rs.length := List.length_pos_of_mem hi0r
    have hlt : t % rs.length < rs.length := Nat.mod_lt _ hlenpos
    rw [List.getElem?_eq_getElem hlt]
    simp only
    have hm := (hready _).1 (List.getElem_mem hlt)
    obtain ⟨h1, h2, h3⟩ := hm
    refine ih _ _ _ (by simpa using hs) (fun j hj => ?_) (by simp; omega) ?_
    · rw [getD_set_iff (by omega), hl j hj, List.mem_cons, eq_comm]
    · rw [List.reverse_cons]
      exact hv.snoc h1 (by simpa using h2) fun o ho e he hb => by
        have h4 := h3 o ho e he hb
        have h5 := hback _ o ho e he hb
        simpa using (hl e.on (by omega)).1 h4

/-- What is ahead of an operation. -/
inductive Anc (ops : Array Oper) : Nat → Nat → Prop where
  | edge {j : Nat} {o : Oper} {e : Edge} : ops[j]? = some o → e ∈ o.after → Region.binds .any e = true → Anc ops e.on j
  | trans {i j : Nat} {o : Oper} {e : Edge} : ops[j]? = some o → e ∈ o.after → Region.binds .any e = true → Anc ops i e.on → Anc ops i j

theorem Valid.anc {ops : Array Oper} {l : List Nat} (h : Valid ops l) {i j : Nat} (ha : Anc ops i j) : ∀ a b, l = a ++ j :: b → i ∈ a := by
  induction ha with
  | edge ho he hb => exact fun a b hl => h.pre a _ b _ hl ho _ he hb
  | @trans i2 j2 o2 e2 ho he hb _ ih =>
    intro a b hl
    have h1 := h.pre a _ b _ hl ho _ he hb
    obtain ⟨a1, a2, rfl⟩ := List.append_of_mem h1
    have := ih a1 (a2 ++ j2 :: b) (by rw [hl]; simp)
    exact List.mem_append.2 (.inl this)

theorem mask_anc {ops : Array Oper} {pre : T Nat} {o : Oper} {j : Nat} (ho : ops[j]? = some o) (hpre : ∀ k mk, pre.get k = some mk → ∀ i, Nat.testBit mk i = true → Anc ops i k) {i : Nat}
    (h : Nat.testBit (maskOf pre o) i = true) : Anc ops i j := by
  unfold maskOf at h
  have key : ∀ (l : List Edge), (∀ e ∈ l, e ∈ o.after) → ∀ s, Nat.testBit (l.foldl (fun s e => bif Region.binds .any e then Nat.lor s (Nat.lor (2 ^ e.on) ((pre.get e.on).getD 0)) else s) s) i = true →
      Nat.testBit s i = true ∨ Anc ops i j := by
    intro l
    induction l with
    | nil => intro _ s hs; exact .inl hs
    | cons e l ih =>
      intro hl s hs
      rw [List.foldl_cons] at hs
      rcases ih (fun x hx => hl x (by simp [hx])) _ hs with h1 | h1
      · cases hb : Region.binds .any e with
        | false => rw [hb] at h1; exact .inl h1
        | true =>
          rw [hb] at h1
          simp only [cond_true] at h1
          have h2 : Nat.testBit (s ||| (2 ^ e.on ||| (pre.get e.on).getD 0)) i = true := h1
          rw [Nat.testBit_or, Nat.testBit_or, Bool.or_eq_true, Bool.or_eq_true] at h2
          have hem := hl e (by simp)
          rcases h2 with h2 | h2 | h2
          · exact .inl h2
          · rw [Nat.testBit_two_pow] at h2
            have : e.on = i := by simpa using h2
            subst this
            exact .inr (.edge ho hem hb)
          · cases hg : pre.get e.on with
            | none => rw [hg] at h2; simp at h2
            | some mk =>
              rw [hg] at h2
              exact .inr (.trans ho hem hb (hpre _ _ hg i h2))
      · exact .inr h1
  rcases key o.after.toList (fun e he => by simpa using he) 0 h with h1 | h1
  · simp at h1
  · exact h1


/-! ### Records of a region's operations, carried out in the order of the text -/

abbrev St := Env × Mem

structure Rec where
  i : Nat
  o : Oper
  e0 : Env
  src : Mem
  res : Mem
  v : Value
  fp : Fp
  want : Bool

structure RecOk (P : Program) (call : CallF) (ops : Array Oper) (N : Nat) (r : Rec) : Prop where
  op : ops[r.i]? = some r.o
  n : r.e0.n = N
  dst : ∀ d, r.o.dst = some d → d < N
  w : r.want = Region.wanted r.o (yieldedA ops r.e0)
  wf : WF r.src
  lo : r.fp.lo = r.src.next
  hi : r.fp.hi = r.res.next
  run : r.want = true → runOp P call r.o r.e0 r.src = some (.val r.v r.res r.fp.wr r.fp.rd)
  not_ : r.want = false → r.v = undef ∧ r.res = r.src ∧ r.fp.wr = [] ∧ r.fp.rd = .no
  facts : OpFacts r.src r.res r.fp.wr

/-- One operation from whatever state has what it looks at. -/
structure StepR (ops : Array Oper) (r : Rec) (s s' : St) : Prop where
  look : ∀ d ∈ r.o.looksAt ops, s.1.get d = r.e0.get d
  agr : agree r.fp.rd r.src s.2
  env : s'.1.n = s.1.n ∧ ∀ d, s'.1.get d = if r.o.dst = some d then r.v else s.1.get d
  upd : ∀ b, (b ∈ r.fp.wr ∨ (r.fp.lo ≤ b ∧ b < r.fp.hi)) → s'.2.get b = r.res.get b
  same : ∀ b, b ∉ r.fp.wr → ¬ (r.fp.lo ≤ b ∧ b < r.fp.hi) → s'.2.get b = s.2.get b

def Eqv (s t : St) : Prop := s.1.n = t.1.n ∧ (∀ d, s.1.get d = t.1.get d) ∧ ∀ b, s.2.get b = t.2.get b
theorem Eqv.refl (s : St) : Eqv s s := ⟨rfl, fun _ => rfl, fun _ => rfl⟩
theorem Eqv.trans {s t u : St} (h : Eqv s t) (k : Eqv t u) : Eqv s u := ⟨h.1.trans k.1, fun d => (h.2.1 d).trans (k.2.1 d), fun b => (h.2.2 b).trans (k.2.2 b)⟩
theorem Eqv.symm {s t : St} (h : Eqv s t) : Eqv t s := ⟨h.1.symm, fun d => (h.2.1 d).symm, fun b => (h.2.2 b).symm⟩

inductive Chain (ops : Array Oper) : List Rec → St → St → Prop where
  | nil {s : St} : Chain ops [] s s
  | cons {r : Rec} {l : List Rec} {s t u : St} : StepR ops r s t → Chain ops l t u → Chain ops (r :: l) s u

/-- The first, the earlier one in the text, may change places with the second. -/
structure FreeR (ops : Array Oper) (f g : Rec) : Prop where
  fp : Fp.free f.fp g.fp = true
  apart : Oper.apart ops f.o g.o = true
  le : f.fp.hi ≤ g.fp.lo

section
variable {P : Program} {call : CallF} {ops : Array Oper} {N : Nat}

theorem looks_eval {o : Oper} {e e' : Env} (h : ∀ d ∈ o.looksAt ops, e'.get d = e.get d) : ∀ x ∈ o.op.operands, e'.eval x = e.eval x := by
  intro x hx
  cases x with
  | tmp d =>
    refine h d ?_
    unfold Oper.looksAt
    rw [List.mem_append]
    left
    rw [List.mem_filterMap]
    exact ⟨.tmp d, by simpa using hx, rfl⟩
  | _ => rfl

theorem looks_wanted {o : Oper} {e e' : Env} (h : ∀ d ∈ o.looksAt ops, e'.get d = e.get d) : Region.wanted o (yieldedA ops e') = Region.wanted o (yieldedA ops e) := by
  unfold Region.wanted
  cases hg : o.guard with
  | none => rfl
  | some q =>
    obtain ⟨j, want⟩ := q
    simp only
    have : yieldedA ops e' j = yieldedA ops e j := by
      unfold yieldedA
      cases hd : (ops[j]?).bind (·.dst) with
      | none => rfl
      | some d =>
        simp only
        rw [h d (by unfold Oper.looksAt; simp [hg, hd])]
    rw [this]

/-- The state that an operation leaves. -/
theorem exists_step (hc : CallLoc call) {r : Rec} (hr : RecOk P call ops N r) {s : St} (hn : s.1.n = N) (hl : ∀ d ∈ r.o.looksAt ops, s.1.get d = r.e0.get d) (ha : agree r.fp.rd r.src s.2) :
    ∃ s', StepR ops r s s' := by
  have henv : ∃ e' : Env, e'.n = s.1.n ∧ ∀ d, e'.get d = if r.o.dst = some d then r.v else s.1.get d := by
    cases hd : r.o.dst with
    | none => exact ⟨s.1, rfl, fun d => by simp⟩
    | some d0 =>
      refine ⟨s.1.set d0 r.v, rfl, fun d => ?_⟩
      rw [Env.get_set]
      by_cases h : d = d0
      · subst h; simp
      · simp [h, Ne.symm h]
  obtain ⟨e', he1, he2⟩ := henv
  cases hw : r.want with
  | true =>
    obtain ⟨_, h2⟩ := runOp_loc hc (hr.run hw) hr.wf
    obtain ⟨t', _, h4⟩ := h2 (s.2.at_ r.src.next) rfl (by
      cases hrd : r.fp.rd with
      | no => trivial
      | one b => rw [hrd] at ha; exact ha
      | all => rw [hrd] at ha; exact ha)
    refine ⟨(e', t'), hl, ha, ⟨he1, he2⟩, fun b hb => h4.2.1 b (by rw [← hr.lo, ← hr.hi]; exact hb), fun b h1 h2 => ?_⟩
    rw [h4.2.2 b h1 (by rw [← hr.lo, ← hr.hi]; exact h2)]
    rfl
  | false =>
    obtain ⟨_, h2, h3, h4⟩ := hr.not_ hw
    refine ⟨(e', s.2), hl, ha, ⟨he1, he2⟩, fun b hb => ?_, fun _ _ _ => rfl⟩
    rw [h3, hr.lo, hr.hi, h2] at hb
    simp at hb
    omega

theorem StepR.eqv {r : Rec} {s s' t : St} (h : StepR ops r s s') (he : Eqv s t) : StepR ops r t s' :=
  ⟨fun d hd => (he.2.1 d).symm.trans (h.look d hd), by
    have := h.agr
    cases hr : r.fp.rd with
    | no => trivial
    | one b => rw [hr] at this; exact fun o ho => (he.2.2 b).symm.trans (this o ho)
    | all => rw [hr] at this; exact fun b o ho => (he.2.2 b).symm.trans (this b o ho),
    ⟨h.env.1.trans he.1, fun d => by rw [h.env.2 d, he.2.1 d]⟩, h.upd, fun b h1 h2 => (h.same b h1 h2).trans (he.2.2 b)⟩

theorem Chain.eqv {l : List Rec} {s s' t : St} (h : Chain ops l s s') (he : Eqv s t) : ∃ t', Chain ops l t t' ∧ Eqv s' t' := by
  cases h with
  | nil => exact ⟨t, .nil, he⟩
  | cons h1 h2 => exact ⟨s', .cons (h1.eqv he) h2, Eqv.refl _⟩

theorem memNat_iff {b : Nat} {l : List Nat} : memNat b l = true ↔ b ∈ l := by
  unfold memNat
  simp [beq_dec, List.any_eq_true]

structure FreeP (f g : Fp) : Prop where
  ww : ∀ b, b ∈ f.wr → b ∉ g.wr
  wr : ∀ b, b ∈ f.wr → g.rd.has b = false
  nr1 : ∀ b, g.rd = .one b → ¬ (f.lo ≤ b ∧ b < f.hi)
  nra : g.rd = .all → f.lo = f.hi
  rw_ : ∀ b, b ∈ g.wr → f.rd.has b = false
  nw : ∀ b, b ∈ g.wr → ¬ (f.lo ≤ b ∧ b < f.hi)
  rn : ∀ b, f.rd = .one b → ¬ (g.lo ≤ b ∧ b < g.hi)

theorem free_spec {f g : Fp} (h : Fp.free f g = true) : FreeP f g := by
  unfold Fp.free at h
  simp only [Bool.and_eq_true] at h
  obtain ⟨⟨⟨h1, h2⟩, h3⟩, h4⟩ := h
  rw [List.all_eq_true] at h1 h3
  refine ⟨fun b hb hg => ?_, fun b hb => ?_, fun b hb => ?_, fun hb => ?_, fun b hb => ?_, fun b hb => ?_, fun b hb => ?_⟩
  · have := h1 b hb
    rw [memNat_iff.2 hg] at this; simp at this
  · have := h1 b hb
    cases hh : g.rd.has b with
    | false => rfl
    | true => rw [hh] at this; simp at this
  · rw [hb] at h2
    simp only [ble_dec, blt_dec] at h2
    simp at h2; omega
  · rw [hb] at h2
    simp only [beq_dec, decide_eq_true_eq] at h2
    exact h2
  · have := h3 b hb
    cases hh : f.rd.has b with
    | false => rfl
    | true => rw [hh] at this; simp at this
  · have := h3 b hb
    simp only [ble_dec, blt_dec] at this
    simp at this; omega
  · rw [hb] at h4
    simp only [ble_dec, blt_dec] at h4
    simp at h4; omega

/-- Two neighbours change places. -/
theorem swap_step (hc : CallLoc call) {k j : Rec} (hk : RecOk P call ops N k) (hj : RecOk P call ops N j) (hf : FreeR ops k j) {s s1 s2 : St} (hn : s.1.n = N) (h1 : StepR ops k s s1) (h2 : StepR ops j s1 s2) :
    ∃ t1 t2, StepR ops j s t1 ∧ StepR ops k t1 t2 ∧ Eqv s2 t2 := by
  have F := free_spec hf.fp
  obtain ⟨A1, A2, A3⟩ := Oper.apart_spec hf.apart
  -- the blocks that the two make and write do not meet
  have hkw : ∀ b ∈ k.fp.wr, b < k.fp.lo := fun b hb => by rw [hk.lo]; exact hk.wf.lt (hk.facts.wr b hb).1
  have hkl : k.fp.lo ≤ k.fp.hi := by rw [hk.lo, hk.hi]; exact hk.facts.next_le
  have hle := hf.le
  have lj : ∀ d ∈ j.o.looksAt ops, s.1.get d = j.e0.get d := fun d hd => by
    rw [← h2.look d hd, h1.env.2 d, if_neg (fun e => A1 d e hd)]
  have aj : agree j.fp.rd j.src s.2 := by
    have := h2.agr
    cases hr : j.fp.rd with
    | no => trivial
    | one b =>
      rw [hr] at this
      intro o ho
      rw [← this o ho]
      refine (h1.same b (fun hb => ?_) (F.nr1 b hr)).symm
      have := F.wr b hb
      rw [hr] at this; simp [Rd.has, beq_dec] at this
    | all =>
      rw [hr] at this
      intro b o ho
      rw [← this b o ho]
      refine (h1.same b (fun hb => ?_) (fun hx => by have := F.nra hr; omega)).symm
      have := F.wr b hb
      rw [hr] at this; simp [Rd.has] at this
  obtain ⟨t1, ht1⟩ := exists_step hc hj hn lj aj
  have lk : ∀ d ∈ k.o.looksAt ops, t1.1.get d = k.e0.get d := fun d hd => by
    rw [ht1.env.2 d, if_neg (fun e => A3 d e hd)]
    exact h1.look d hd
  have ak : agree k.fp.rd k.src t1.2 := by
    have := h1.agr
    cases hr : k.fp.rd with
    | no => trivial
    | one b =>
      rw [hr] at this
      intro o ho
      rw [← this o ho]
      refine ht1.same b (fun hb => ?_) (F.rn b hr)
      have := F.rw_ b hb
      rw [hr] at this; simp [Rd.has, beq_dec] at this
    | all =>
      rw [hr] at this
      intro b o ho
      rw [← this b o ho]
      refine ht1.same b (fun hb => ?_) (fun hx => ?_)
      · have := F.rw_ b hb
        rw [hr] at this; simp [Rd.has] at this
      · have : b < k.src.next := hk.wf.lt (by rw [ho]; simp)
        rw [← hk.lo] at this
        omega
  obtain ⟨t2, ht2⟩ := exists_step hc hk (by rw [ht1.env.1]; exact hn) lk ak
  refine ⟨t1, t2, ht1, ht2, ?_, fun d => ?_, fun b => ?_⟩
  · rw [h2.env.1, h1.env.1, ht2.env.1, ht1.env.1]
  · rw [h2.env.2 d, h1.env.2 d, ht2.env.2 d, ht1.env.2 d]
    by_cases e1 : k.o.dst = some d
    · rw [if_pos e1, if_pos e1, if_neg (A2 d e1)]
    · rw [if_neg e1, if_neg e1]
  · by_cases c1 : b ∈ j.fp.wr ∨ (j.fp.lo ≤ b ∧ b < j.fp.hi)
    · rw [h2.upd b c1]
      have n1 : b ∉ k.fp.wr := fun hb => by
        rcases c1 with c1 | c1
        · exact F.ww b hb c1
        · have := hkw b hb; omega
      have n2 : ¬ (k.fp.lo ≤ b ∧ b < k.fp.hi) := by
        rcases c1 with c1 | c1
        · exact F.nw b c1
        · omega
      rw [ht2.same b n1 n2, ht1.upd b c1]
    · have c2 : b ∉ j.fp.wr := fun x => c1 (.inl x)
      have c3 : ¬ (j.fp.lo ≤ b ∧ b < j.fp.hi) := fun x => c1 (.inr x)
      rw [h2.same b c2 c3]
      by_cases c4 : b ∈ k.fp.wr ∨ (k.fp.lo ≤ b ∧ b < k.fp.hi)
      · rw [h1.upd b c4, ht2.upd b c4]
      · have c5 : b ∉ k.fp.wr := fun x => c4 (.inl x)
        have c6 : ¬ (k.fp.lo ≤ b ∧ b < k.fp.hi) := fun x => c4 (.inr x)
        rw [h1.same b c5 c6, ht2.same b c5 c6, ht1.same b c2 c3]

theorem bubble (hc : CallLoc call) {k : Rec} (hk : RecOk P call ops N k) : ∀ (l1 : List Rec) {l2 : List Rec} {s u : St}, (∀ j ∈ l1, RecOk P call ops N j ∧ FreeR ops k j) → s.1.n = N →
    Chain ops (k :: (l1 ++ l2)) s u → ∃ u', Chain ops (l1 ++ k :: l2) s u' ∧ Eqv u u'
  | [], l2, s, u, _, _, h => ⟨u, h, Eqv.refl _⟩
  | j :: l1, l2, s, u, hl, hn, h => by
    cases h with
    | cons h1 h' =>
      cases h' with
      | cons h2 h3 =>
        obtain ⟨hj, hf⟩ := hl j (by simp)
        obtain ⟨t1, t2, g1, g2, g3⟩ := swap_step hc hk hj hf hn h1 h2
        obtain ⟨u1, h4, h5⟩ := h3.eqv g3
        obtain ⟨u2, h6, h7⟩ := bubble hc hk l1 (fun x hx => hl x (by simp [hx])) (by rw [g1.env.1]; exact hn) (.cons g2 h4)
        exact ⟨u2, .cons g1 h6, h5.trans h7⟩

theorem reorder (hc : CallLoc call) : ∀ (L : List Rec) {T : List Rec} {s u : St}, (∀ r ∈ L, RecOk P call ops N r) → L.Pairwise (fun a b => a.i < b.i) → T.Perm L →
    T.Pairwise (fun x y => y.i < x.i → FreeR ops y x) → s.1.n = N → Chain ops L s u → ∃ u', Chain ops T s u' ∧ Eqv u u'
  | [], T, s, u, _, _, hp, _, _, h => by
    rw [List.perm_nil] at hp
    subst hp
    exact ⟨u, h, Eqv.refl _⟩
  | r :: L, T, s, u, hL, hs, hp, ht, hn, h => by
    have hr : r ∈ T := hp.mem_iff.2 (by simp)
    obtain ⟨T1, T2, rfl⟩ := List.append_of_mem hr
    have hp' : (T1 ++ T2).Perm L := by
      have := hp.symm.trans List.perm_middle
      exact (List.Perm.cons_inv this).symm
    cases h with
    | cons h1 h2 =>
      rw [List.pairwise_cons] at hs
      have ht' : (T1 ++ T2).Pairwise (fun x y => y.i < x.i → FreeR ops y x) := ht.sublist (by simp)
      obtain ⟨u1, h3, h4⟩ := reorder hc L (fun x hx => hL x (by simp [hx])) hs.2 hp' ht' (by rw [h1.env.1]; exact hn) h2
      have hfree : ∀ j ∈ T1, RecOk P call ops N j ∧ FreeR ops r j := fun j hj => by
        have hjL : j ∈ L := hp'.mem_iff.1 (by simp [hj])
        refine ⟨hL j (by simp [hjL]), ?_⟩
        rw [List.pairwise_append] at ht
        exact ht.2.2 j hj r (by simp) (hs.1 j hjL)
      obtain ⟨u2, h5, h6⟩ := bubble hc (hL r (by simp)) T1 hfree hn (.cons h1 h3)
      exact ⟨u2, h5, h4.trans h6⟩

end
end Go.Big

/- The evaluator is sound: operations and regions. -/
namespace Go.Big
open Go.RowKit

def EnvRel (φ : Place) (e : Env) (a : Act) : Prop := e.n ≤ a.tmps.size ∧ ∀ d, VRel φ (e.get d) (a.tmps.getD d undef)

def EndRel (ψ : Place) : COut → Ending → Prop
  | .ret v, e => ∃ v', e = .returned v' ∧ VRel ψ v v'
  | .panic v, e => ∃ v', e = .panicked [{ v := v', recovered := false }] ∧ VRel ψ v v'

def ExRel (ψ : Place) : Ex → Exit → Prop
  | .normal, x => x = .normal
  | .exit id, x => x = .exit id
  | .ret, x => x = .ret
  | .panic v, x => ∃ v', x = .panic [{ v := v', recovered := false }] ∧ VRel ψ v v'

def Enterable (P : Program) (f : FuncId) : Prop := ∃ fn, P.funcs[f]? = some fn ∧ fn.body.isSome = true ∧ (fn.name == "runtime.NumGoroutine") = false

/-- A call is sound: over any memory that holds at least what the call was seen to run over. -/
def SimCall (P : Program) (H : Nat) (call : CallF) : Prop := ∀ f args m out m' W t t', call f args m = some (out, m', W) → WF m → t.next = m.next → Ext m t → call f args t = some (out, t', W) →
  (∀ b, m.next ≤ b → b < m'.next → t.get b = none) →
  Enterable P f ∧ ∀ φ w (args' : Array Value), Sim H φ t w → LRel φ args args'.toList → Calls P f args' w (fun e w' => ∃ ψ, φ.le ψ ∧ Sim H ψ t' w' ∧ Below H w w' ∧ EndRel ψ out e)

section
variable {P : Program} {H : Nat} {φ : Place}

theorem EnvRel.mono {ψ : Place} (h : φ.le ψ) {e : Env} {a : Act} (he : EnvRel φ e a) : EnvRel ψ e a := ⟨he.1, fun d => (he.2 d).mono h⟩

theorem EnvRel.eval {e : Env} {a : Act} (h : EnvRel φ e a) {x : Operand} (hx : okOperand x = true) : VRel φ (e.eval x) (a.eval x) := by
  cases x with
  | tmp d => exact h.2 d
  | const v => exact .of_plain hx
  | global g => cases hx
  | func f => exact .func rfl (fun i hi => by simp at hi) rfl (fun i hi => by simp at hi)

theorem EnvRel.put {e e' : Env} {a : Act} (h : EnvRel φ e a) {dst : Option Nat} {v v' : Value} (hv : VRel φ v v') (hp : e.put dst v = some e') : EnvRel φ e' (a.put dst v') := by
  cases dst with
  | none =>
    simp only [Env.put] at hp
    cases hp; exact h
  | some d =>
    simp only [Env.put, blt_dec, cond_eq_ite, decide_eq_true_eq] at hp
    split at hp
    case isFalse => cases hp
    rename_i hd
    cases hp
    refine ⟨by simpa [Act.put] using h.1, fun j => ?_⟩
    rw [Env.get_set]
    have hs : d < a.tmps.size := Nat.lt_of_lt_of_le hd h.1
    by_cases hj : j = d
    · subst hj
      simpa [Act.put, hs] using hv
    · have := h.2 j
      simp only [if_neg hj, Act.put]
      simpa [Array.getElem?_setIfInBounds_ne (Ne.symm hj)] using this

theorem VRel.bool_inv {v : Value} {b : Bool} (h : VRel φ v (.bool b)) : v = .bool b := by
  cases h with
  | base hs => rfl

theorem EnvRel.yielded {e : Env} {a : Act} (h : EnvRel φ e a) (ops : Array Oper) (j : Nat) : yieldedA ops e j = Go.yielded ops a.tmps j := by
  unfold yieldedA Go.yielded
  cases hd : (ops[j]?).bind (·.dst) with
  | none => rfl
  | some d =>
    simp only [Option.bind_some]
    have hr := h.2 d
    by_cases hs : d < a.tmps.size
    · have e1 : a.tmps.getD d undef = a.tmps[d] := by simp [hs]
      rw [e1] at hr
      rw [Array.getElem?_eq_getElem hs]
      generalize a.tmps[d] = u at hr
      cases hu : e.get d with
      | bool b =>
        rw [hu] at hr
        rw [hr.scalar_eq rfl]
      | _ =>
        cases u with
        | bool b => rw [hr.bool_inv] at hu; cases hu
        | _ => rfl
    · have e1 : a.tmps.getD d undef = undef := by simp [Nat.le_of_not_lt hs]
      rw [e1] at hr
      rw [Array.getElem?_eq_none (Nat.le_of_not_lt hs)]
      cases hu : e.get d with
      | bool b =>
        rw [hu] at hr
        have := hr.scalar_eq rfl
        cases this
      | _ => rfl

theorem EnvRel.wanted {e : Env} {a : Act} (h : EnvRel φ e a) (ops : Array Oper) (o : Oper) : Region.wanted o (yieldedA ops e) = Region.wanted o (Go.yielded ops a.tmps) := by
  unfold Region.wanted
  cases o.guard with
  | none => rfl
  | some q => obtain ⟨j, want⟩ := q; simp only; rw [h.yielded]

/-- What an operation that ends well owes. -/
theorem runOp_sim {call : CallF} (hc : SimCall P H call) (hcl : CallLoc call) {o : Oper} {e : Env} {m m' t t' : Mem} {v : Value} {W : List Nat} {r : Rd} {w : World} {a : Act}
    (h : runOp P call o e m = some (.val v m' W r)) (hw : WF m) (ht : t.next = m.next) (hag : agree r m t) (h' : runOp P call o e t = some (.val v t' W r))
    (hnone : ∀ b, m.next ≤ b → b < m'.next → t.get b = none) (hS : Sim H φ t w) (hv : ∀ x ∈ o.op.operands, VRel φ (e.eval x) (a.eval x))
    {K : Act → World → Prop} {Q : Exit → Act → World → Prop} (hK : ∀ v' w' ψ, φ.le ψ → Sim H ψ t' w' → Below H w w' → VRel ψ v v' → K (a.put o.dst v') w') : o.wp P a w K Q := by
  obtain ⟨hF, htr⟩ := runOp_loc hcl h hw
  obtain ⟨t2, ht2, hsync⟩ := htr t ht hag
  rw [h'] at ht2
  have htt : t2 = t' := by cases ht2; rfl
  subst htt
  have hnx : t2.next = m'.next := hsync.1
  unfold runOp at h h'
  split at h
  · rename_i f args aT hop
    split at h
    case h_2 => cases h
    rename_i g first cap hf
    simp only [hop, hf] at h'
    split at h
    · rename_i v0 m2 w2 hcall
      cases h
      split at h'
      · rename_i v1 t3 w3 hcall'
        cases h'
        obtain ⟨⟨fn, hfn, hbody, hname⟩, hcalls⟩ := hc _ _ _ _ _ _ _ _ hcall hw ht hag hcall' hnone
        -- the callee
        have hfv := hv f (by rw [hop]; simp [Op.operands, Call.operands])
        rw [hf] at hfv
        obtain ⟨first', cap', hf', hfr, hcr⟩ := hfv.func_inv
        have hargs : LRel φ (first.toList ++ args.toList.map e.eval ++ cap.toList) (first' ++ args.map a.eval ++ cap').toList := by
          simp only [Array.toList_append, Array.toList_map]
          exact (hfr.list.append (LRel.map_of fun x hx => hv x (by rw [hop]; simp [Op.operands, Call.operands]; exact .inr (by simpa using hx)))).append hcr.list
        have hrun : (execOp a.eval o).run P w = .ok (.enter g (first' ++ args.map a.eval ++ cap')) w := by
          unfold execOp
          have hbn : fn.body.isNone = false := by cases hb : fn.body <;> simp_all
          simp only [hop, resolve, hf', Deferred.ofValue, Sem.run_bind, Sem.run_pure, Result.andThen_ok, invoke, callFunc, run_program, hfn, hname, hbn, Bool.false_eq_true, if_false]
        unfold Oper.wp
        rw [hrun, Oper.upon_enter]
        refine (hcalls φ w _ hS hargs).mono ?_
        rintro en w' ⟨ψ, h1, h2, h3, v', rfl, h4⟩
        exact hK v' w' ψ h1 h2 h3 h4
      · cases h'
      · cases h'
    · cases h
    · cases h
  · split at h <;> cases h
  · rename_i hn1 hn2
    split at h
    case h_2 => cases h
    rename_i v0 m2 w2 r2 hop
    cases h
    have hop' : aop P e.eval o t = some (v, t2, W, r) := by
      split at h'
      · rename_i heq; exact absurd heq (hn1 _ _ _)
      · rename_i heq; exact absurd heq (hn2 _)
      · split at h'
        · rename_i hq; rw [hq]; cases h'; rfl
        · cases h'
    obtain ⟨n, v', w', ψ, h1, h2, h3, h4, h5, h6⟩ := aop_sim hS hop' hv (fun hlt => hnone t.next (by omega) (by omega))
    unfold Oper.wp
    rw [h1]
    rcases h2 with rfl | ⟨rfl, rfl⟩
    · exact hK v' w' ψ h3 h4 h5 h6
    · exact hK undef w' ψ h3 h4 h5 h6

theorem runOp_panic_sim {call : CallF} (hc : SimCall P H call) {o : Oper} {e : Env} {m m' t t' : Mem} {v : Value} {W : List Nat} {w : World} {a : Act}
    (h : runOp P call o e m = some (.panic v m' W)) (hw : WF m) (ht : t.next = m.next) (hx : Ext m t) (h' : runOp P call o e t = some (.panic v t' W))
    (hnone : ∀ b, m.next ≤ b → b < m'.next → t.get b = none) (hS : Sim H φ t w) (hv : ∀ x ∈ o.op.operands, VRel φ (e.eval x) (a.eval x))
    {K : Act → World → Prop} {Q : Exit → Act → World → Prop} (hK : ∀ v' w' ψ, φ.le ψ → Sim H ψ t' w' → Below H w w' → VRel ψ v v' → Q (.panic [{ v := v', recovered := false }]) a w') : o.wp P a w K Q := by
  unfold runOp at h h'
  split at h
  · rename_i f args aT hop
    split at h
    case h_2 => cases h
    rename_i g first cap hf
    simp only [hop, hf] at h'
    split at h
    · cases h
    · rename_i v0 m2 w2 hcall
      cases h
      split at h'
      · cases h'
      · rename_i v1 t3 w3 hcall'
        cases h'
        obtain ⟨⟨fn, hfn, hbody, hname⟩, hcalls⟩ := hc _ _ _ _ _ _ _ _ hcall hw ht hx hcall' hnone
        have hfv := hv f (by rw [hop]; simp [Op.operands, Call.operands])
        rw [hf] at hfv
        obtain ⟨first', cap', hf', hfr, hcr⟩ := hfv.func_inv
        have hargs : LRel φ (first.toList ++ args.toList.map e.eval ++ cap.toList) (first' ++ args.map a.eval ++ cap').toList := by
          simp only [Array.toList_append, Array.toList_map]
          exact (hfr.list.append (LRel.map_of fun x hx => hv x (by rw [hop]; simp [Op.operands, Call.operands]; exact .inr (by simpa using hx)))).append hcr.list
        have hrun : (execOp a.eval o).run P w = .ok (.enter g (first' ++ args.map a.eval ++ cap')) w := by
          unfold execOp
          have hbn : fn.body.isNone = false := by cases hb : fn.body <;> simp_all
          simp only [hop, resolve, hf', Deferred.ofValue, Sem.run_bind, Sem.run_pure, Result.andThen_ok, invoke, callFunc, run_program, hfn, hname, hbn, Bool.false_eq_true, if_false]
        unfold Oper.wp
        rw [hrun, Oper.upon_enter]
        refine (hcalls φ w _ hS hargs).mono ?_
        rintro en w' ⟨ψ, h1, h2, h3, v', rfl, h4⟩
        exact hK v' w' ψ h1 h2 h3 h4
      · cases h'
    · cases h
  · rename_i x hop
    simp only [hop] at h'
    split at h
    case h_2 => cases h
    rename_i ty u hu
    rw [hu] at h'
    cases h; cases h'
    have hxv := hv x (by rw [hop]; simp [Op.operands])
    rw [hu] at hxv
    obtain ⟨u', hu', hr⟩ := hxv.iface_inv
    have hrun : (execOp a.eval o).run P w = .halt (.panic (.iface ty u')) w := by
      unfold execOp
      simp [hop, hu', Instr.panic]
    unfold Oper.wp
    rw [hrun, Oper.upon_panic]
    exact hK _ w φ (Place.le_refl φ) hS (Below.refl H w) (.iface hr)
  · split at h <;> cases h

def okOper (o : Oper) : Bool := o.op.operands.toList.all okOperand

theorem ops_rel {o : Oper} {e : Env} {a : Act} (ho : okOper o = true) (he : EnvRel φ e a) : ∀ x ∈ o.op.operands, VRel φ (e.eval x) (a.eval x) := fun x hx =>
  he.eval (List.all_eq_true.1 ho x (by simpa using hx))

/-- A region whose order is fixed. -/
theorem runOps_sim {call : CallF} (hc : SimCall P H call) (hcl : CallLoc call) {base : Nat} {ops : Array Oper} {Q : Exit → Act → World → Prop} : ∀ {l : List Oper} {i : Nat} {e : Env} {m t : Mem} {o : Out} {t' : Mem} {φ : Place} {w : World} {a : Act},
    runOps P base call ops l e m = some o → WF m → base ≤ m.next → t.next = m.next → Ext m t → runOps P base call ops l e t = some ⟨o.ex, o.env, t', o.wr⟩ →
    (∀ b, m.next ≤ b → b < o.mem.next → t.get b = none) → (∀ k, k < l.length → ops[i + k]? = l[k]?) → l.all okOper = true → Sim H φ t w → EnvRel φ e a →
    (∀ x a' w' ψ, φ.le ψ → Sim H ψ t' w' → Below H w w' → EnvRel ψ o.env a' → a'.defers = a.defers → ExRel ψ o.ex x → Q x a' w') → wpOps P ops Q (List.range' i l.length) a w
  | [], i, e, m, t, o, t', φ, w, a, h, hw, hb, ht, hx, h', hnone, hl, hok, hS, he, hQ => by
    cases h; cases h'
    exact hQ .normal a w φ (Place.le_refl φ) hS (Below.refl H w) he rfl rfl
  | x :: rest, i, e, m, t, o, t', φ, w, a, h, hw, hb, ht, hx, h', hnone, hl, hok, hS, he, hQ => by
    rw [List.length_cons, List.range'_succ]
    have hi : ops[i]? = some x := by have := hl 0 (by simp); simpa using this
    rw [List.all_cons, Bool.and_eq_true] at hok
    have hl' : ∀ k, k < rest.length → ops[i + 1 + k]? = rest[k]? := fun k hk => by
      have := hl (k + 1) (by simp; omega)
      rw [show i + 1 + k = i + (k + 1) from by omega, this]; simp
    simp only [wpOps, hi]
    rw [← he.wanted ops x]
    simp only [runOps, cond_eq_ite] at h h'
    split at h
    · rename_i hwant
      rw [if_pos hwant] at h'
      rw [if_pos hwant]
      left
      split at h
      · rename_i v m1 w1 r1 hop
        split at h
        case h_2 => cases h
        rename_i e' hput
        split at h
        case h_2 => cases h
        rename_i o1 hrest
        cases h
        obtain ⟨h1, h2⟩ := runOp_loc hcl hop hw
        obtain ⟨t1, h3, h4⟩ := h2 t ht (agree_of_ext hx)
        obtain ⟨h5, h6⟩ := runOps_loc hcl hrest (h1.wf hw) (Nat.le_trans hb h1.next_le)
        obtain ⟨t2, h7, h8⟩ := h6 t1 h4.1 (h4.ext h1 hx)
        simp only [h3, hput, h7] at h'
        cases h'
        refine runOp_sim hc hcl hop hw ht (agree_of_ext hx) h3 (fun b hb1 hb2 => hnone b hb1 (Nat.lt_of_lt_of_le hb2 h5.next_le)) hS (ops_rel hok.1 he) ?_
        intro v' w' ψ g1 g2 g3 g4
        refine runOps_sim hc hcl hrest (h1.wf hw) (Nat.le_trans hb h1.next_le) h4.1 (h4.ext h1 hx) h7 (fun b hb1 hb2 => ?_) hl' hok.2 g2 ((he.mono g1).put g4 hput) ?_
        · have hle := h1.next_le
          rw [h4.2.2 b (fun hm => by have := hw.lt (h1.wr b hm).1; omega) (by omega)]
          exact hnone b (by omega) hb2
        · intro x2 a2 w2 χ k1 k2 k3 k4 k5 k6
          refine hQ x2 a2 w2 χ (g1.trans_le k1) k2 (g3.trans k3) k4 ?_ k6
          rw [k5]
          cases x.dst <;> rfl
      · rename_i v m1 w1 hop
        cases h
        obtain ⟨h1, h2⟩ := runOp_panic_loc hcl hop hw
        obtain ⟨t1, h3, h4⟩ := h2 t ht hx
        simp only [h3] at h'
        cases h'
        refine runOp_panic_sim hc hop hw ht hx h3 hnone hS (ops_rel hok.1 he) ?_
        intro v' w' ψ g1 g2 g3 g4
        exact hQ _ a w' ψ g1 g2 g3 (he.mono g1) rfl ⟨v', rfl, g4⟩
      · cases h
    · rename_i hwant
      rw [if_neg hwant] at h'
      rw [if_neg hwant]
      split at h
      case h_2 => cases h
      rename_i e' hput
      simp only [hput] at h'
      exact runOps_sim hc hcl h hw hb ht hx h' hnone hl' hok.2 hS (he.put VRel.undef_ hput) fun x2 a2 w2 χ k1 k2 k3 k4 k5 k6 =>
        hQ x2 a2 w2 χ k1 k2 k3 k4 (by rw [k5]; cases x.dst <;> rfl) k6

end
end Go.Big

/- The evaluator is sound: regions whose order is drawn. -/
namespace Go.Big
open Go.RowKit

/-- The text's own look at a region whose order is drawn: its edges lead back, and two operations that may change places share no temporary. -/
def drawOk (ops : Array Oper) : List Oper → Nat → T Nat → List (Nat × Oper) → Bool
  | [], _, _, _ => true
  | o :: rest, i, pre, prev =>
    let mask := maskOf pre o
    o.after.toList.all (fun e => !(Region.binds .any e) || Nat.blt e.on i) && prev.all (fun p => Nat.testBit mask p.1 || Oper.apart ops p.2 o) && okOper o &&
      drawOk ops rest (i + 1) (T.set 8 pre i mask) ((i, o) :: prev)

section
variable {P : Program} {H : Nat} {call : CallF} {ops : Array Oper}

theorem boring_free {f g : Fp} (h : f.boring = true ∨ g.boring = true) : Fp.free f g = true := by
  unfold Fp.boring at h
  simp only [Bool.and_eq_true, List.isEmpty_iff] at h
  unfold Fp.free
  rcases h with ⟨⟨h1, h2⟩, h3⟩ | ⟨⟨h1, h2⟩, h3⟩
  · rw [h2]
    have h1' := Nat.eq_of_beq_eq_true h1
    have h4 : f.rd = .no := by cases hr : f.rd <;> simp_all
    rw [h4]
    have key : ∀ b, (Nat.ble f.lo b && Nat.blt b f.hi) = false := fun b => by
      rw [ble_dec, blt_dec, h1']; simp
    cases hg : g.rd with
    | no => simp [Rd.has, key]
    | one b => simp [Rd.has, key]
    | all =>
      have hb : Nat.beq f.lo f.hi = true := h1
      simp [Rd.has, key, hb]
  · rw [h2]
    have h1' := Nat.eq_of_beq_eq_true h1
    have h4 : g.rd = .no := by cases hr : g.rd <;> simp_all
    rw [h4]
    have key : ∀ b, (Nat.ble g.lo b && Nat.blt b g.hi) = false := fun b => by
      rw [ble_dec, blt_dec, h1']; simp
    cases hf : f.rd with
    | one b => simp [Rd.has, key, memNat]
    | _ => simp [Rd.has, memNat]

/-- The records that a run in the order of the text leaves. -/
structure Recs (P : Program) (call : CallF) (ops : Array Oper) (N i : Nat) (l : List Oper) (fps : List (Nat × Fp)) (prev : List (Nat × Oper)) (m : Mem) (L : List Rec) : Prop where
  len : L.length = l.length
  idx : ∀ k r, L[k]? = some r → r.i = i + k
  ok : ∀ r ∈ L, RecOk P call ops N r
  lo : ∀ r ∈ L, m.next ≤ r.fp.lo
  fps : ∀ r ∈ L, ∀ p ∈ fps, Anc ops p.1 r.i ∨ Fp.free p.2 r.fp = true
  prev : ∀ r ∈ L, ∀ p ∈ prev, Anc ops p.1 r.i ∨ Oper.apart ops p.2 r.o = true
  pair : L.Pairwise fun a b => (Anc ops a.i b.i ∨ Fp.free a.fp b.fp = true) ∧ (Anc ops a.i b.i ∨ Oper.apart ops a.o b.o = true) ∧ a.fp.hi ≤ b.fp.lo ∧ a.i < b.i
  okop : ∀ r ∈ L, okOper r.o = true

theorem put_env {e e' : Env} {dst : Option Nat} {v : Value} (h : e.put dst v = some e') : e'.n = e.n ∧ (∀ d, e'.get d = if dst = some d then v else e.get d) ∧ ∀ d, dst = some d → d < e.n := by
  cases dst with
  | none =>
    simp only [Env.put] at h
    cases h
    exact ⟨rfl, fun d => by simp, fun d hd => by cases hd⟩
  | some d0 =>
    simp only [Env.put, blt_dec, cond_eq_ite, decide_eq_true_eq] at h
    split at h
    case isFalse => cases h
    rename_i hd
    cases h
    refine ⟨rfl, fun d => ?_, fun d hd' => by cases hd'; exact hd⟩
    rw [Env.get_set]
    by_cases hj : d = d0
    · subst hj; simp
    · simp [hj, Ne.symm hj]

theorem Recs.cons {N i : Nat} {x : Oper} {rest : List Oper} {fps fps' : List (Nat × Fp)} {prev : List (Nat × Oper)} {m m1 : Mem} {L : List Rec} {r : Rec} (hr : RecOk P call ops N r) (hri : r.i = i) (hro : r.o = x)
    (hsrc : r.src = m) (hres : r.res = m1) (hL : Recs P call ops N (i + 1) rest fps' ((i, x) :: prev) m1 L) (hsub : ∀ p ∈ fps, p ∈ fps') (hself : r.fp.boring = true ∨ (i, r.fp) ∈ fps')
    (hf : ∀ p ∈ fps, Anc ops p.1 i ∨ Fp.free p.2 r.fp = true) (hp : ∀ p ∈ prev, Anc ops p.1 i ∨ Oper.apart ops p.2 x = true) (hok : okOper x = true) : Recs P call ops N i (x :: rest) fps prev m (r :: L) := by
  have hnx : m.next ≤ m1.next := by rw [← hsrc, ← hres]; exact hr.facts.next_le
  refine ⟨by simp [hL.len], fun k r' hk => ?_, fun r' h' => ?_, fun r' h' => ?_, fun r' h' p hpf => ?_, fun r' h' p hpp => ?_, ?_, fun r' h' => ?_⟩
  · cases k with
    | zero => simp at hk; subst hk; simp [hri]
    | succ k => have := hL.idx k r' (by simpa using hk); omega
  · rcases List.mem_cons.1 h' with rfl | h'
    · exact hr
    · exact hL.ok r' h'
  · rcases List.mem_cons.1 h' with rfl | h'
    · rw [hr.lo, hsrc]; exact Nat.le_refl _
    · exact Nat.le_trans hnx (hL.lo r' h')
  · rcases List.mem_cons.1 h' with rfl | h'
    · rw [hri]; exact hf p hpf
    · exact hL.fps r' h' p (hsub p hpf)
  · rcases List.mem_cons.1 h' with rfl | h'
    · rw [hri, hro]; exact hp p hpp
    · exact hL.prev r' h' p (by simp [hpp])
  · rw [List.pairwise_cons]
    refine ⟨fun r' h' => ⟨?_, ?_, ?_, ?_⟩, hL.pair⟩
    · rcases hself with hb | hm
      · exact .inr (boring_free (.inl hb))
      · rw [hri]; exact hL.fps r' h' _ hm
    · rw [hri, hro]; exact hL.prev r' h' (i, x) (by simp)
    · rw [hr.hi, hres]; exact hL.lo r' h'
    · obtain ⟨k, hk⟩ := List.getElem?_of_mem h'
      have := hL.idx k r' hk
      omega
  · rcases List.mem_cons.1 h' with rfl | h'
    · rw [hro]; exact hok
    · exact hL.okop r' h'

theorem runDraw_recs (hcl : CallLoc call) {base : Nat} : ∀ {l : List Oper} {i : Nat} {pre : T Nat} {fps : List (Nat × Fp)} {prev : List (Nat × Oper)} {e : Env} {m : Mem} {o : Out},
    runDraw P base call ops l i pre fps e m = some o → drawOk ops l i pre prev = true → WF m → base ≤ m.next → (∀ k, k < l.length → ops[i + k]? = l[k]?) →
    (∀ k mk, pre.get k = some mk → ∀ j, Nat.testBit mk j = true → Anc ops j k) → o.ex = .normal ∧ ∃ L, Recs P call ops e.n i l fps prev m L ∧ (∀ r ∈ L, r.fp.hi ≤ o.mem.next) ∧ m.next ≤ o.mem.next ∧
      ∀ t t' : Mem, t.next = m.next → Ext m t → runDraw P base call ops l i pre fps e t = some ⟨o.ex, o.env, t', o.wr⟩ → Chain ops L (e, t) (o.env, t')
  | [], i, pre, fps, prev, e, m, o, h, hd, hw, hb, hl, hpre => by
    cases h
    exact ⟨rfl, [], ⟨rfl, by simp, by simp, by simp, by simp, by simp, .nil, by simp⟩, by simp, Nat.le_refl _, fun t t' _ _ h' => by cases h'; exact .nil⟩
  | x :: rest, i, pre, fps, prev, e, m, o, h, hd, hw, hb, hl, hpre => by
    have hi : ops[i]? = some x := by have := hl 0 (by simp); simpa using this
    have hl' : ∀ k, k < rest.length → ops[i + 1 + k]? = rest[k]? := fun k hk => by
      have := hl (k + 1) (by simp; omega)
      rw [show i + 1 + k = i + (k + 1) from by omega, this]; simp
    have hmask : ∀ j, Nat.testBit (maskOf pre x) j = true → Anc ops j i := fun j hj => mask_anc hi hpre hj
    have hpre' : ∀ k mk, (T.set 8 pre i (maskOf pre x)).get k = some mk → ∀ j, Nat.testBit mk j = true → Anc ops j k := fun k mk hk j hj => by
      rw [T.get_set] at hk
      split at hk
      · rename_i e; subst e; cases hk; exact hmask j hj
      · exact hpre k mk hk j hj
    simp only [drawOk, Bool.and_eq_true] at hd
    obtain ⟨⟨⟨hd1, hd2⟩, hd3⟩, hd4⟩ := hd
    rw [List.all_eq_true] at hd2
    have hprev : ∀ p ∈ prev, Anc ops p.1 i ∨ Oper.apart ops p.2 x = true := fun p hp => by
      have := hd2 p hp
      rw [Bool.or_eq_true] at this
      rcases this with h1 | h1
      · exact .inl (hmask _ h1)
      · exact .inr h1
    simp only [runDraw, cond_eq_ite] at h
    split at h
    · rename_i hwant
      split at h
      case h_2 => cases h
      rename_i v m1 w1 r1 hop
      obtain ⟨hF, hT⟩ := runOp_loc hcl hop hw
      split at h
      · rename_i hbor
        split at h
        case h_2 => cases h
        rename_i e' hput
        split at h
        case h_2 => cases h
        rename_i o1 hrest
        cases h
        obtain ⟨hp1, hp2, hp3⟩ := put_env hput
        obtain ⟨g1, L, g2, g4, g5, g3⟩ := runDraw_recs hcl hrest hd4 (hF.wf hw) (Nat.le_trans hb hF.next_le) hl' hpre'
        rw [hp1] at g2
        refine ⟨g1, ⟨i, x, e, m, m1, v, ⟨m.next, m1.next, w1, r1⟩, true⟩ :: L, ?_, fun r hr => ?_, Nat.le_trans hF.next_le g5, fun t t' ht hx h' => ?_⟩
        · exact Recs.cons ⟨hi, rfl, hp3, hwant.symm, hw, rfl, rfl, fun _ => hop, fun h => (by cases h), hF⟩ rfl rfl rfl rfl g2 (fun p hp => hp) (.inl hbor)
            (fun p hp => .inr (boring_free (.inr hbor))) hprev hd3
        · rcases List.mem_cons.1 hr with rfl | hr
          · exact g5
          · exact g4 r hr
        · obtain ⟨t1, h3, h4⟩ := hT t ht (agree_of_ext hx)
          simp only [runDraw, cond_eq_ite, if_pos hwant, h3, ht, h4.1, if_pos hbor, hput] at h'
          split at h'
          case h_2 => cases h'
          rename_i o2 hrest2
          have hw2 : o2 = ⟨o1.ex, o1.env, t', o1.wr⟩ := by
            obtain ⟨h5, h6⟩ := runDraw_loc hcl hrest (hF.wf hw) (Nat.le_trans hb hF.next_le)
            obtain ⟨t2, h7, _⟩ := h6 t1 h4.1 (h4.ext hF hx)
            rw [hrest2] at h7
            cases h7; cases h'; rfl
          subst hw2
          exact .cons (t := (e', t1)) ⟨fun _ _ => rfl, agree_of_ext hx, ⟨hp1, hp2⟩, fun b hb => h4.2.1 b hb, fun b h1 h2 => h4.2.2 b h1 h2⟩ (g3 t1 t' h4.1 (h4.ext hF hx) hrest2)
      · rename_i hbor
        split at h
        case isFalse => cases h
        rename_i hfree
        split at h
        case h_2 => cases h
        rename_i e' hput
        split at h
        case h_2 => cases h
        rename_i o1 hrest
        cases h
        obtain ⟨hp1, hp2, hp3⟩ := put_env hput
        obtain ⟨g1, L, g2, g4, g5, g3⟩ := runDraw_recs hcl hrest hd4 (hF.wf hw) (Nat.le_trans hb hF.next_le) hl' hpre'
        rw [hp1] at g2
        have hfree0 := hfree
        rw [List.all_eq_true] at hfree
        refine ⟨g1, ⟨i, x, e, m, m1, v, ⟨m.next, m1.next, w1, r1⟩, true⟩ :: L, ?_, fun r hr => ?_, Nat.le_trans hF.next_le g5, fun t t' ht hx h' => ?_⟩
        · refine Recs.cons ⟨hi, rfl, hp3, hwant.symm, hw, rfl, rfl, fun _ => hop, fun h => (by cases h), hF⟩ rfl rfl rfl rfl g2 (fun p hp => by simp [hp]) (.inr (by simp))
            (fun p hp => ?_) hprev hd3
          have := hfree p hp
          rw [Bool.or_eq_true] at this
          rcases this with h1 | h1
          · exact .inl (hmask _ h1)
          · exact .inr h1
        · rcases List.mem_cons.1 hr with rfl | hr
          · exact g5
          · exact g4 r hr
        · obtain ⟨t1, h3, h4⟩ := hT t ht (agree_of_ext hx)
          simp only [runDraw, cond_eq_ite, if_pos hwant, h3, ht, h4.1, if_neg hbor, if_pos hfree0, hput] at h'
          split at h'
          case h_2 => cases h'
          rename_i o2 hrest2
          have hw2 : o2 = ⟨o1.ex, o1.env, t', o1.wr⟩ := by
            obtain ⟨h5, h6⟩ := runDraw_loc hcl hrest (hF.wf hw) (Nat.le_trans hb hF.next_le)
            obtain ⟨t2, h7, _⟩ := h6 t1 h4.1 (h4.ext hF hx)
            rw [hrest2] at h7
            cases h7; cases h'; rfl
          subst hw2
          exact .cons (t := (e', t1)) ⟨fun _ _ => rfl, agree_of_ext hx, ⟨hp1, hp2⟩, fun b hb => h4.2.1 b hb, fun b h1 h2 => h4.2.2 b h1 h2⟩ (g3 t1 t' h4.1 (h4.ext hF hx) hrest2)
    · rename_i hwant
      split at h
      case h_2 => cases h
      rename_i e' hput
      obtain ⟨hp1, hp2, hp3⟩ := put_env hput
      obtain ⟨g1, L, g2, g4, g5, g3⟩ := runDraw_recs hcl h hd4 hw hb hl' hpre'
      rw [hp1] at g2
      have hwf : Region.wanted x (yieldedA ops e) = false := by simpa using hwant
      have hF : OpFacts m m [] := ⟨Nat.le_refl _, by simp, fun _ _ _ => rfl, fun b h1 h2 => by omega⟩
      refine ⟨g1, ⟨i, x, e, m, m, undef, ⟨m.next, m.next, [], .no⟩, false⟩ :: L, ?_, fun r hr => ?_, g5, fun t t' ht hx h' => ?_⟩
      · exact Recs.cons ⟨hi, rfl, hp3, hwf.symm, hw, rfl, rfl, fun h => (by cases h), fun _ => ⟨rfl, rfl, rfl, rfl⟩, hF⟩ rfl rfl rfl rfl g2 (fun p hp => hp)
          (.inl (by simp [Fp.boring])) (fun p hp => .inr (boring_free (.inr (by simp [Fp.boring])))) hprev hd3
      · rcases List.mem_cons.1 hr with rfl | hr
        · exact g5
        · exact g4 r hr
      · simp only [runDraw, cond_eq_ite, if_neg hwant, hput] at h'
        exact .cons (t := (e', t)) ⟨fun _ _ => rfl, trivial, ⟨hp1, hp2⟩, fun b hb => by simp at hb; omega, fun _ _ _ => rfl⟩ (g3 t t' ht hx h')

theorem drawOk_back : ∀ {l : List Oper} {i : Nat} {pre : T Nat} {prev : List (Nat × Oper)}, drawOk ops l i pre prev = true → (∀ k, k < l.length → ops[i + k]? = l[k]?) →
    ∀ j o, i ≤ j → j < i + l.length → ops[j]? = some o → ∀ e ∈ o.after, Region.binds .any e = true → e.on < j
  | [], i, pre, prev, h, hl, j, o, h1, h2, ho => by simp at h2; omega
  | x :: rest, i, pre, prev, h, hl, j, o, h1, h2, ho => by
    simp only [drawOk, Bool.and_eq_true] at h
    obtain ⟨⟨⟨hd1, hd2⟩, hd3⟩, hd4⟩ := h
    have hi : ops[i]? = some x := by have := hl 0 (by simp); simpa using this
    have hl' : ∀ k, k < rest.length → ops[i + 1 + k]? = rest[k]? := fun k hk => by
      have := hl (k + 1) (by simp; omega)
      rw [show i + 1 + k = i + (k + 1) from by omega, this]; simp
    by_cases hj : j = i
    · subst hj
      rw [hi] at ho; cases ho
      intro e he hb
      have := List.all_eq_true.1 hd1 e (by simpa using he)
      rw [hb, blt_dec] at this
      simpa using this
    · exact drawOk_back hd4 hl' j o (by omega) (by simp at h2; omega) ho

/-- The records in an order that the edges allow, over the model. -/
theorem chain_sim (hc : SimCall P H call) (hcl : CallLoc call) {N : Nat} {Q : Exit → Act → World → Prop} : ∀ {T : List Rec} {s u : St} {φ : Place} {w : World} {a : Act}, Chain ops T s u → (∀ r ∈ T, RecOk P call ops N r ∧ okOper r.o = true) →
    T.Pairwise (fun x y => (y.i < x.i → FreeR ops y x) ∧ (x.i < y.i → x.fp.hi ≤ y.fp.lo) ∧ x.i ≠ y.i) → s.1.n = N → Sim H φ s.2 w → EnvRel φ s.1 a →
    (∀ r ∈ T, ∀ b, r.fp.lo ≤ b → b < r.fp.hi → s.2.get b = none) →
    (∀ a' w' ψ, φ.le ψ → Sim H ψ u.2 w' → Below H w w' → EnvRel ψ u.1 a' → a'.defers = a.defers → Q .normal a' w') → wpOps P ops Q (T.map (·.i)) a w
  | [], s, u, φ, w, a, h, _, _, _, hS, he, _, hQ => by
    cases h
    exact hQ a w φ (Place.le_refl φ) hS (Below.refl H w) he rfl
  | r :: T, s, u, φ, w, a, h, hok, hp, hn, hS, he, hfr, hQ => by
    cases h with
    | cons h1 h2 =>
      rename_i s1
      obtain ⟨hr, hro⟩ := hok r (by simp)
      rw [List.pairwise_cons] at hp
      have hlook := h1.look
      have hevl := looks_eval hlook
      have hwr : ∀ b ∈ r.fp.wr, b < r.fp.lo := fun b hb => by rw [hr.lo]; exact hr.wf.lt (hr.facts.wr b hb).1
      have hfresh : ∀ r' ∈ T, ∀ b, r'.fp.lo ≤ b → b < r'.fp.hi → s1.2.get b = none := fun r' hr' b hb1 hb2 => by
        obtain ⟨q1, q2, q3⟩ := hp.1 r' hr'
        rw [h1.same b (fun hb => ?_) (fun hb => ?_)]
        · exact hfr r' (by simp [hr']) b hb1 hb2
        · rcases Nat.lt_or_ge r.i r'.i with c | c
          · have h4 := hwr b hb
            have h5 := q2 c
            have h6 : r.fp.lo ≤ r.fp.hi := by rw [hr.lo, hr.hi]; exact hr.facts.next_le
            omega
          · exact (free_spec (q1 (by omega)).fp).nw b hb ⟨hb1, hb2⟩
        · rcases Nat.lt_or_ge r.i r'.i with c | c
          · have h5 := q2 c; omega
          · have h5 := (q1 (by omega)).le; omega
      have henv1 : ∀ ψ v' a', EnvRel ψ s.1 a → VRel ψ r.v v' → a' = a.put r.o.dst v' → EnvRel ψ s1.1 a' := by
        intro ψ v' a' hea hv ha'
        subst ha'
        have hdn : ∀ d, r.o.dst = some d → d < s.1.n := fun d hd => by rw [hn]; exact hr.dst d hd
        obtain ⟨e', hput⟩ : ∃ e', s.1.put r.o.dst r.v = some e' := by
          cases hd : r.o.dst with
          | none => exact ⟨s.1, rfl⟩
          | some d => exact ⟨_, by simp only [Env.put, blt_dec, decide_eq_true (hdn d hd), cond_true]; rfl⟩
        have h3 := hea.put hv hput
        obtain ⟨p1, p2, _⟩ := put_env hput
        exact ⟨by rw [h1.env.1, ← p1]; exact h3.1, fun d => by rw [h1.env.2 d, ← p2 d]; exact h3.2 d⟩
      simp only [List.map_cons, wpOps, hr.op]
      rw [← he.wanted ops r.o, looks_wanted hlook, ← hr.w]
      cases hw : r.want with
      | true =>
        rw [if_pos rfl]
        left
        have hrun := hr.run hw
        obtain ⟨hF, htr⟩ := runOp_loc hcl hrun hr.wf
        obtain ⟨t', h3, h4⟩ := htr (s.2.at_ r.src.next) rfl (by
          have := h1.agr
          cases hrd : r.fp.rd with
          | no => trivial
          | one b => rw [hrd] at this; exact this
          | all => rw [hrd] at this; exact this)
        refine runOp_sim (φ := φ) hc hcl hrun hr.wf (t := s.2.at_ r.src.next) rfl (by
          have := h1.agr
          cases hrd : r.fp.rd with
          | no => trivial
          | one b => rw [hrd] at this; exact this
          | all => rw [hrd] at this; exact this) h3 (fun b hb1 hb2 => hfr r (by simp) b (by rw [hr.lo]; exact hb1) (by rw [hr.hi]; exact hb2)) (hS.congr_mem fun _ => rfl)
          (fun x hx => by rw [← hevl x hx]; exact ops_rel hro he x hx) ?_
        intro v' w' ψ g1 g2 g3 g4
        have hs1 : ∀ b, s1.2.get b = t'.get b := fun b => by
          by_cases c : b ∈ r.fp.wr ∨ (r.fp.lo ≤ b ∧ b < r.fp.hi)
          · rw [h1.upd b c, h4.2.1 b (by rw [← hr.lo, ← hr.hi]; exact c)]
          · have c1 : b ∉ r.fp.wr := fun x => c (.inl x)
            have c2 : ¬ (r.fp.lo ≤ b ∧ b < r.fp.hi) := fun x => c (.inr x)
            rw [h1.same b c1 c2, h4.2.2 b c1 (by rw [← hr.lo, ← hr.hi]; exact c2)]
            rfl
        refine chain_sim hc hcl h2 (fun x hx => hok x (by simp [hx])) hp.2 (by rw [h1.env.1]; exact hn) (g2.congr_mem hs1) (henv1 ψ v' _ (he.mono g1) g4 rfl) hfresh ?_
        intro a2 w2 χ k1 k2 k3 k4 k5
        exact hQ a2 w2 χ (g1.trans_le k1) k2 (g3.trans k3) k4 (by rw [k5]; cases r.o.dst <;> rfl)
      | false =>
        rw [if_neg (by simp)]
        obtain ⟨q1, q2, q3, q4⟩ := hr.not_ hw
        have hs1 : ∀ b, s1.2.get b = s.2.get b := fun b => h1.same b (by rw [q3]; simp) (by rw [hr.lo, hr.hi, q2]; omega)
        refine chain_sim hc hcl h2 (fun x hx => hok x (by simp [hx])) hp.2 (by rw [h1.env.1]; exact hn) (hS.congr_mem hs1) (henv1 φ undef _ he (by rw [q1]; exact VRel.undef_) rfl) hfresh ?_
        intro a2 w2 χ k1 k2 k3 k4 k5
        exact hQ a2 w2 χ k1 k2 k3 k4 (by rw [k5]; cases r.o.dst <;> rfl)

end
end Go.Big

/- The evaluator is sound: code, calls. -/
namespace Go.Big
open Go.RowKit

/-- The text's own look at a piece of code. -/
def codeOk : Code → Bool
  | .region _ ops d => ops.toList.all okOper && (!d || drawOk ops ops.toList 0 .nil [])
  | .seq a b => codeOk a && codeOk b
  | .cond c a b => okOperand c && codeOk a && codeOk b
  | .block _ b => codeOk b
  | .loop b => codeOk b
  | _ => true

section
variable {P : Program} {H : Nat}

theorem perm_range {l : List Nat} {n : Nat} (hn : l.Nodup) (hlt : ∀ i ∈ l, i < n) (hlen : l.length = n) : l.Perm (List.range n) := by
  rw [List.perm_iff_count]
  intro a
  have hr := List.nodup_range (n := n)
  by_cases h : a ∈ l
  · rw [hn.count, hr.count]
    simp [h, hlt a h]
  · by_cases h2 : a < n
    · exfalso
      have h3 : (a :: l).Nodup := List.nodup_cons.2 ⟨h, hn⟩
      have := h3.length_le_of_subset (l₂ := List.range n) (fun x hx => by
        rcases List.mem_cons.1 hx with rfl | hx
        · simpa using h2
        · simpa using hlt x hx)
      simp at this
      omega
    · rw [List.count_eq_zero_of_not_mem h, List.count_eq_zero_of_not_mem (by simpa using h2)]

theorem draw_sim {call : CallF} (hc : SimCall P H call) (hcl : CallLoc call) (hmix : P.follows .mixedOrders = true) {base id : Nat} {ops : Array Oper} {Q : Exit → Act → World → Prop} {e : Env} {m t t' : Mem} {o : Out} {φ : Place} {w : World} {a : Act}
    (h : runDraw P base call ops ops.toList 0 .nil [] e m = some o) (hd : drawOk ops ops.toList 0 .nil [] = true) (hw : WF m) (hb : base ≤ m.next) (ht : t.next = m.next) (hx : Ext m t)
    (h' : runDraw P base call ops ops.toList 0 .nil [] e t = some ⟨o.ex, o.env, t', o.wr⟩) (hnone : ∀ b, m.next ≤ b → b < o.mem.next → t.get b = none) (hS : Sim H φ t w) (he : EnvRel φ e a)
    (hQ : ∀ x a' w' ψ, φ.le ψ → Sim H ψ t' w' → Below H w w' → EnvRel ψ o.env a' → a'.defers = a.defers → ExRel ψ o.ex x → Q x a' w') : (Code.region id ops true).wp P Q a w := by
  have hl : ∀ k, k < ops.toList.length → ops[0 + k]? = ops.toList[k]? := fun k _ => by simp
  obtain ⟨hex, L, hL, hhi, hnx, hch⟩ := runDraw_recs hcl h hd hw hb hl (fun k mk hk => by simp [T.get] at hk)
  have hback : ∀ i o, ops[i]? = some o → ∀ e ∈ o.after, Region.binds .any e = true → e.on < i := fun i o ho => by
    have hi : i < ops.size := by
      rcases Nat.lt_or_ge i ops.size with h1 | h1
      · exact h1
      · rw [Array.getElem?_eq_none h1] at ho; cases ho
    exact drawOk_back hd hl i o (Nat.zero_le _) (by simpa using hi) ho
  refine wp_region_draw fun tp => ?_
  simp only [Region.schedule, hmix, Bool.true_or, if_true]
  obtain ⟨hv, hlen⟩ := linearise_valid hback ops.size tp (Array.replicate ops.size false) [] (by simp) (fun i hi => by simp [hi]) (by simp) (Valid.nil ops)
  unfold Region.linearise
  generalize Region.linearise.go .any ops ops.size tp (Array.replicate ops.size false) [] = σ at hv hlen
  have hLlen : L.length = ops.size := by rw [hL.len]; simp
  by_cases h0 : ops.size = 0
  · have : σ = [] := List.eq_nil_of_length_eq_zero (by omega)
    subst this
    have hLn : L = [] := List.eq_nil_of_length_eq_zero (by omega)
    subst hLn
    -- nothing happens
    have hon : ops.toList = [] := List.eq_nil_of_length_eq_zero (by simpa using h0)
    rw [hon] at h h'
    cases h; cases h'
    exact hQ .normal a _ φ (Place.le_refl φ) (hS.congr rfl) (Below.refl H w).drew he rfl rfl
  · obtain ⟨r0, hr0⟩ : ∃ r0, L[0]? = some r0 := ⟨_, List.getElem?_eq_getElem (by omega)⟩
    let rec_ : Nat → Rec := fun i => L.getD i r0
    have hrec : ∀ i, i < ops.size → L[i]? = some (rec_ i) ∧ (rec_ i).i = i := fun i hi => by
      have h1 : L[i]? = some (rec_ i) := by
        have : i < L.length := by omega
        simp [rec_, List.getElem?_eq_getElem this]
      exact ⟨h1, by have := hL.idx i _ h1; omega⟩
    have hTL : (σ.map rec_).Perm L := by
      have h1 := (perm_range hv.nodup hv.lt hlen).map rec_
      have h2 : (List.range ops.size).map rec_ = L := by
        apply List.ext_getElem?
        intro i
        by_cases hi : i < ops.size
        · rw [(hrec i hi).1]
          simp [hi]
        · rw [List.getElem?_eq_none (by simpa using hi), List.getElem?_eq_none (by omega)]
      rw [h2] at h1
      exact h1
    have hmap : (σ.map rec_).map (·.i) = σ := by
      rw [List.map_map]
      have : ∀ i ∈ σ, ((fun r : Rec => r.i) ∘ rec_) i = _root_.id i := fun i hi => (hrec i (hv.lt i hi)).2
      rw [List.map_congr_left this, List.map_id]
    -- any two records, in the text's order
    have hpairs : ∀ i j, i < j → j < ops.size → ((Anc ops i j ∨ Fp.free (rec_ i).fp (rec_ j).fp = true) ∧ (Anc ops i j ∨ Oper.apart ops (rec_ i).o (rec_ j).o = true) ∧ (rec_ i).fp.hi ≤ (rec_ j).fp.lo) := by
      intro i j hij hj
      have hp := hL.pair
      rw [List.pairwise_iff_getElem] at hp
      have hi' : i < L.length := by omega
      have hj' : j < L.length := by omega
      have := hp i j hi' hj' hij
      have e1 : L[i] = rec_ i := by have := (hrec i (by omega)).1; rw [List.getElem?_eq_getElem hi'] at this; exact Option.some.inj this
      have e2 : L[j] = rec_ j := by have := (hrec j hj).1; rw [List.getElem?_eq_getElem hj'] at this; exact Option.some.inj this
      rw [e1, e2, (hrec i (by omega)).2, (hrec j hj).2] at this
      exact ⟨this.1, this.2.1, this.2.2.1⟩
    have hσ : σ.Pairwise fun x y => (y < x → ¬ Anc ops y x) ∧ x ≠ y := by
      rw [List.pairwise_iff_forall_sublist]
      intro x y hxy
      have hne : x ≠ y := by
        have := hv.nodup.sublist hxy
        intro e; subst e; simp at this
      refine ⟨fun _ hanc => ?_, hne⟩
      obtain ⟨l1, l2, rfl, h2⟩ : ∃ l1 l2, σ = l1 ++ x :: l2 ∧ y ∈ l2 := by
        obtain ⟨r1, r2, h3, h4, h5⟩ := List.cons_sublist_iff.1 hxy
        obtain ⟨s1, s2, rfl⟩ := List.append_of_mem h4
        exact ⟨s1, s2 ++ r2, by rw [h3]; simp, List.mem_append.2 (.inr (by simpa using h5))⟩
      have h3 := hv.anc hanc l1 l2 rfl
      have hnd := hv.nodup
      rw [List.nodup_append] at hnd
      exact hnd.2.2 y h3 y (by simp [h2]) rfl
    have hT : (σ.map rec_).Pairwise fun x y => (y.i < x.i → FreeR ops y x) ∧ (x.i < y.i → x.fp.hi ≤ y.fp.lo) ∧ x.i ≠ y.i := by
      rw [List.pairwise_map]
      refine List.Pairwise.imp_of_mem ?_ hσ
      intro x y hx hy hxy
      have hx' := hv.lt x hx
      have hy' := hv.lt y hy
      rw [(hrec x hx').2, (hrec y hy').2]
      refine ⟨fun hlt => ?_, fun hlt => (hpairs x y hlt hy').2.2, hxy.2⟩
      obtain ⟨q1, q2, q3⟩ := hpairs y x hlt hx'
      exact ⟨q1.resolve_left (hxy.1 hlt), q2.resolve_left (hxy.1 hlt), q3⟩
    have hLi : L.Pairwise fun a b => a.i < b.i := hL.pair.imp fun h => h.2.2.2
    -- the run over t, in the text's order
    have hc2 := hch t t' ht hx h'
    obtain ⟨u3, hc3, hev⟩ := reorder hcl L hL.ok hLi hTL (hT.imp fun h => h.1) rfl hc2
    rw [← hmap]
    refine chain_sim hc hcl (N := e.n) hc3 (fun r hr => ?_) hT rfl (hS.congr rfl : Sim H φ t w.drew) he (fun r hr b hb1 hb2 => ?_) ?_
    · have := hTL.mem_iff.1 hr
      exact ⟨hL.ok r this, hL.okop r this⟩
    · have hrL := hTL.mem_iff.1 hr
      exact hnone b (Nat.le_trans (hL.lo r hrL) hb1) (Nat.lt_of_lt_of_le hb2 (hhi r hrL))
    · intro a2 w2 χ k1 k2 k3 k4 k5
      refine hQ .normal a2 w2 χ k1 (k2.congr_mem fun b => hev.2.2 b) ((Below.refl H w).drew.trans k3) ⟨?_, fun d => ?_⟩ k5 (by rw [hex]; rfl)
      · have := hev.1; simp only at this; rw [this]; exact k4.1
      · have := hev.2.1 d; simp only at this; rw [this]; exact k4.2 d

end
end Go.Big

/- The evaluator is sound: code. -/
namespace Go.Big
open Go.RowKit

section
variable {P : Program} {H : Nat}

/-- Code is sound; and a loop comes to its end within as many rounds as there is fuel. -/
def SimExec (P : Program) (H : Nat) (n : Nat) (exec : Nat → Code → Env → Mem → Option Out) : Prop := ∀ base c e m o t t' (Q : Exit → Act → World → Prop) φ w a, exec base c e m = some o → codeOk c = true → WF m → base ≤ m.next → t.next = m.next → Ext m t →
  exec base c e t = some ⟨o.ex, o.env, t', o.wr⟩ → (∀ b, m.next ≤ b → b < o.mem.next → t.get b = none) → Sim H φ t w → EnvRel φ e a →
  (∀ x a' w' ψ, φ.le ψ → Sim H ψ t' w' → Below H w w' → EnvRel ψ o.env a' → a'.defers = a.defers → ExRel ψ o.ex x → Q x a' w') → c.wp P Q a w ∧ ∀ b, c = .loop b → Code.rounds P b Q n a w

theorem ExRel.not_normal {ψ : Place} {ex : Ex} {x : Exit} (h : ExRel ψ ex x) (hn : ex ≠ .normal) : x ≠ .normal := by
  cases ex with
  | normal => exact absurd rfl hn
  | exit id => rw [show x = .exit id from h]; simp
  | ret => rw [show x = .ret from h]; simp
  | panic v => obtain ⟨v', rfl, _⟩ := h; simp

theorem then_other {K : Act → World → Prop} {Q : Exit → Act → World → Prop} {x : Exit} {a : Act} {w : World} (hx : x ≠ .normal) (h : Q x a w) : Exit.then K Q x a w := by
  cases x <;> first | exact absurd rfl hx | exact h

theorem two_sim {n : Nat} {self : Nat → Code → Env → Mem → Option Out} (hs : SimExec P H n self) (hl : ExecLoc self) {base : Nat} {c1 c2 : Code} {e e1 : Env} {m m1 t t' : Mem} {w1 : List Nat} {o2 : Out} {Q : Exit → Act → World → Prop} {φ : Place} {w : World} {a : Act}
    (h1 : self base c1 e m = some ⟨.normal, e1, m1, w1⟩) (h2 : self base c2 e1 m1 = some o2) (ok1 : codeOk c1 = true) (ok2 : codeOk c2 = true) (hw : WF m) (hb : base ≤ m.next) (ht : t.next = m.next) (hx : Ext m t)
    (h' : ∀ t1, self base c1 e t = some ⟨.normal, e1, t1, w1⟩ → self base c2 e1 t1 = some ⟨o2.ex, o2.env, t', o2.wr⟩)
    (hnone : ∀ b, m.next ≤ b → b < o2.mem.next → t.get b = none) (hS : Sim H φ t w) (he : EnvRel φ e a)
    (hQ : ∀ x a' w' ψ, φ.le ψ → Sim H ψ t' w' → Below H w w' → EnvRel ψ o2.env a' → a'.defers = a.defers → ExRel ψ o2.ex x → Q x a' w') :
    (c1.wp P (Exit.then (c2.wp P Q) Q) a w) ∧ ∀ b, c2 = .loop b → (c1.wp P (Exit.then (Code.rounds P b Q n) Q) a w) := by
  obtain ⟨f1, g1⟩ := hl _ _ _ _ _ h1 hw hb
  obtain ⟨t1, q1, q2⟩ := g1 t ht hx
  have q3 := h' t1 q1
  obtain ⟨f2, g2⟩ := hl _ _ _ _ _ h2 f1.wf (Nat.le_trans hb f1.next_le)
  have hn1 : ∀ b, m1.next ≤ b → b < o2.mem.next → t1.get b = none := fun b hb1 hb2 => by
    have hle := f1.next_le
    rw [q2.2.2 b (fun hx hm => by have := hw.lt (f1.wr b hm).2.1; simp only at hle hb1; omega) (fun _ => hb1)]
    exact hnone b (Nat.le_trans hle hb1) hb2
  have run2 : ∀ a' w' ψ, φ.le ψ → Sim H ψ t1 w' → Below H w w' → EnvRel ψ e1 a' → a'.defers = a.defers → c2.wp P Q a' w' ∧ ∀ b, c2 = .loop b → Code.rounds P b Q n a' w' := by
    intro a' w' ψ k1 k2 k3 k4 k5
    exact hs base c2 e1 m1 o2 t1 t' Q ψ w' a' h2 ok2 f1.wf (Nat.le_trans hb f1.next_le) q2.1 q2.2.1 q3 hn1 k2 k4
      fun x a2 w2 χ l1 l2 l3 l4 l5 l6 => hQ x a2 w2 χ (k1.trans_le l1) l2 (k3.trans l3) l4 (l5.trans k5) l6
  have hn0 : ∀ b, m.next ≤ b → b < (⟨.normal, e1, m1, w1⟩ : Out).mem.next → t.get b = none := fun b hb1 hb2 => hnone b hb1 (Nat.lt_of_lt_of_le hb2 f2.next_le)
  refine ⟨(hs base c1 e m _ t t1 _ φ w a h1 ok1 hw hb ht hx q1 hn0 hS he ?_).1, fun b hcb => (hs base c1 e m _ t t1 _ φ w a h1 ok1 hw hb ht hx q1 hn0 hS he ?_).1⟩
  · intro x a' w' ψ k1 k2 k3 k4 k5 k6
    rw [show x = .normal from k6]
    exact (run2 a' w' ψ k1 k2 k3 k4 k5).1
  · intro x a' w' ψ k1 k2 k3 k4 k5 k6
    rw [show x = .normal from k6]
    exact (run2 a' w' ψ k1 k2 k3 k4 k5).2 b hcb

theorem exec_sim {call : CallF} (hc : SimCall P H call) (hcl : CallLoc call) (hmix : P.follows .mixedOrders = true) {n : Nat} {self : Nat → Code → Env → Mem → Option Out} (hs : SimExec P H n self) (hl : ExecLoc self) : SimExec P H (n + 1) (execStep P call self) := by
  intro base c e m o t t' Q φ w a h hok hw hb ht hx h' hnone hS he hQ
  cases c with
  | skip =>
    cases h; cases h'
    exact ⟨wp_skip (hQ .normal a w φ (Place.le_refl φ) hS (Below.refl H w) he rfl rfl), fun b hb => by cases hb⟩
  | label l =>
    cases h; cases h'
    exact ⟨wp_label (hQ .normal a w φ (Place.le_refl φ) hS (Below.refl H w) he rfl rfl), fun b hb => by cases hb⟩
  | exit id =>
    cases h; cases h'
    exact ⟨wp_exit (hQ (.exit id) a w φ (Place.le_refl φ) hS (Below.refl H w) he rfl rfl), fun b hb => by cases hb⟩
  | ret =>
    cases h; cases h'
    exact ⟨wp_ret (hQ .ret a w φ (Place.le_refl φ) hS (Below.refl H w) he rfl rfl), fun b hb => by cases hb⟩
  | region id ops d =>
    refine ⟨?_, fun b hb => by cases hb⟩
    simp only [codeOk, Bool.and_eq_true] at hok
    cases d with
    | true => exact draw_sim hc hcl hmix h (by simpa using hok.2) hw hb ht hx h' hnone hS he hQ
    | false =>
      have := runOps_sim hc hcl (i := 0) (ops := ops) (l := ops.toList) h hw hb ht hx h' hnone (fun k _ => by simp) hok.1 hS he hQ
      exact wp_region (by rw [List.range_eq_range']; simpa using this)
  | seq a1 b1 =>
    refine ⟨?_, fun b hb => by cases hb⟩
    simp only [codeOk, Bool.and_eq_true] at hok
    simp only [execStep] at h h'
    split at h
    · rename_i e1 m1 w1 ha
      split at h
      case h_2 => cases h
      rename_i o2 hb2
      cases h
      refine wp_seq (two_sim hs hl ha hb2 hok.1 hok.2 hw hb ht hx (fun t1 q1 => ?_) hnone hS he hQ).1
      rw [q1] at h'
      simp only at h'
      split at h'
      case h_2 => cases h'
      rename_i o3 ho3
      rw [ho3]
      obtain ⟨f1, g1⟩ := hl _ _ _ _ _ ha hw hb
      obtain ⟨t2, q2, q3⟩ := g1 t ht hx
      rw [q1] at q2; cases q2
      obtain ⟨f2, g2⟩ := hl _ _ _ _ _ hb2 f1.wf (Nat.le_trans hb f1.next_le)
      obtain ⟨t3, q4, q5⟩ := g2 t1 q3.1 q3.2.1
      rw [ho3] at q4
      cases q4; cases h'; rfl
    · rename_i hnn
      have hne : o.ex ≠ .normal := by
        obtain ⟨ex, env, mem, wr⟩ := o
        rintro rfl
        exact hnn _ _ _ h
      have h2 : self base a1 e t = some ⟨o.ex, o.env, t', o.wr⟩ := by
        split at h'
        · rename_i e1 m1 w1 ha
          obtain ⟨f1, g1⟩ := hl _ _ _ _ _ h hw hb
          obtain ⟨t2, q2, q3⟩ := g1 t ht hx
          rw [ha] at q2
          cases hq : o.ex <;> rw [hq] at q2 hne <;> first | exact absurd rfl hne | cases q2
        · exact h'
      refine wp_seq (hs base a1 e m o t t' _ φ w a h hok.1 hw hb ht hx h2 hnone hS he ?_).1
      intro x a' w' ψ k1 k2 k3 k4 k5 k6
      exact then_other (k6.not_normal hne) (hQ x a' w' ψ k1 k2 k3 k4 k5 k6)
  | cond c a1 b1 =>
    refine ⟨?_, fun b hb => by cases hb⟩
    simp only [codeOk, Bool.and_eq_true] at hok
    obtain ⟨⟨ok1, ok2⟩, ok3⟩ := hok
    simp only [execStep, cond_eq_ite] at h h'
    split at h
    case h_2 => cases h
    rename_i tt htt
    have hr := he.eval ok1
    rw [htt] at hr
    have hev : a.eval c = .bool tt := hr.scalar_eq rfl
    rw [htt] at h'
    simp only at h'
    refine wp_cond hev ?_
    cases tt with
    | true =>
      rw [if_pos rfl] at h h' ⊢
      exact (hs base a1 e m o t t' Q φ w a h ok2 hw hb ht hx h' hnone hS he hQ).1
    | false =>
      rw [if_neg (by simp)] at h h' ⊢
      exact (hs base b1 e m o t t' Q φ w a h ok3 hw hb ht hx h' hnone hS he hQ).1
  | block id b1 =>
    refine ⟨?_, fun b hb => by cases hb⟩
    have hok1 : codeOk b1 = true := hok
    -- the inner run
    obtain ⟨oi, hi, hoi⟩ : ∃ oi, self base b1 e m = some oi ∧ o = (match oi with | ⟨.exit i, e1, m1, w1⟩ => (if i = id then ⟨.normal, e1, m1, w1⟩ else ⟨.exit i, e1, m1, w1⟩) | r => r) := by
      simp only [execStep] at h
      cases hr : self base b1 e m with
      | none => rw [hr] at h; cases h
      | some oi =>
        refine ⟨oi, rfl, ?_⟩
        rw [hr] at h
        obtain ⟨ex, env, mem, wr⟩ := oi
        cases ex with
        | exit i =>
          simp only [cond_eq_ite, beq_dec, decide_eq_true_eq] at h
          simp only
          split at h <;> rename_i hii <;> simp [hii] <;> cases h <;> rfl
        | _ => simp only at h; cases h; rfl
    obtain ⟨f1, g1⟩ := hl _ _ _ _ _ hi hw hb
    obtain ⟨t1, q1, q2⟩ := g1 t ht hx
    have hmem : o.mem = oi.mem ∧ o.env = oi.env := by
      subst hoi
      obtain ⟨ex, env, mem, wr⟩ := oi
      cases ex with
      | exit i => simp only; split <;> exact ⟨rfl, rfl⟩
      | _ => exact ⟨rfl, rfl⟩
    have htt : t1 = t' := by
      simp only [execStep, q1] at h'
      obtain ⟨ex, env, mem, wr⟩ := oi
      cases ex with
      | exit i =>
        simp only [cond_eq_ite] at h'
        split at h' <;> exact congrArg Out.mem (Option.some.inj h')
      | _ => simp only at h'; exact congrArg Out.mem (Option.some.inj h')
    subst htt
    refine wp_block (hs base b1 e m oi t t1 _ φ w a hi hok1 hw hb ht hx q1 (by rw [← hmem.1]; exact hnone) hS he ?_).1
    intro x a' w' ψ k1 k2 k3 k4 k5 k6
    have hfin : ∀ y, ExRel ψ o.ex y → Q y a' w' := fun y hy => hQ y a' w' ψ k1 k2 k3 (by rw [hmem.2]; exact k4) k5 hy
    obtain ⟨ex, env, mem, wr⟩ := oi
    cases ex with
    | exit i =>
      rw [show x = .exit i from k6]
      simp only at hoi
      simp only [Exit.inBlock]
      split
      · rename_i hii
        rw [if_pos hii] at hoi
        exact hfin .normal (by rw [hoi]; rfl)
      · rename_i hii
        rw [if_neg hii] at hoi
        exact hfin (.exit i) (by rw [hoi]; rfl)
    | normal => rw [show x = .normal from k6]; exact hfin .normal (by rw [hoi]; rfl)
    | ret => rw [show x = .ret from k6]; exact hfin .ret (by rw [hoi]; rfl)
    | panic v =>
      obtain ⟨v', hx', hv'⟩ := k6
      subst hx'
      exact hfin _ (by rw [hoi]; exact ⟨v', rfl, hv'⟩)
  | loop b1 =>
    have hok1 : codeOk b1 = true := hok
    have key : Code.rounds P b1 Q (n + 1) a w := by
      rw [rounds_succ]
      simp only [execStep] at h h'
      split at h
      · rename_i e1 m1 w1 ha
        split at h
        case h_2 => cases h
        rename_i o2 hb2
        cases h
        refine (two_sim hs hl ha hb2 hok1 hok1 hw hb ht hx (fun t1 q1 => ?_) hnone hS he hQ).2 b1 rfl
        rw [q1] at h'
        simp only at h'
        split at h'
        case h_2 => cases h'
        rename_i o3 ho3
        rw [ho3]
        obtain ⟨f1, g1⟩ := hl _ _ _ _ _ ha hw hb
        obtain ⟨t2, q2, q3⟩ := g1 t ht hx
        rw [q1] at q2; cases q2
        obtain ⟨f2, g2⟩ := hl _ _ _ _ _ hb2 f1.wf (Nat.le_trans hb f1.next_le)
        obtain ⟨t3, q4, q5⟩ := g2 t1 q3.1 q3.2.1
        rw [ho3] at q4
        cases q4; cases h'; rfl
      · rename_i hnn
        have hne : o.ex ≠ .normal := by
          obtain ⟨ex, env, mem, wr⟩ := o
          rintro rfl
          exact hnn _ _ _ h
        have h2 : self base b1 e t = some ⟨o.ex, o.env, t', o.wr⟩ := by
          split at h'
          · rename_i e1 m1 w1 ha
            obtain ⟨f1, g1⟩ := hl _ _ _ _ _ h hw hb
            obtain ⟨t2, q2, q3⟩ := g1 t ht hx
            rw [ha] at q2
            cases hq : o.ex <;> rw [hq] at q2 hne <;> first | exact absurd rfl hne | cases q2
          · exact h'
        refine (hs base b1 e m o t t' _ φ w a h hok1 hw hb ht hx h2 hnone hS he ?_).1
        intro x a' w' ψ k1 k2 k3 k4 k5 k6
        exact then_other (k6.not_normal hne) (hQ x a' w' ψ k1 k2 k3 k4 k5 k6)
    exact ⟨wp_loop_rounds (n + 1) key, fun b hb => by cases hb; exact key⟩
  | _ => simp [execStep] at h

end
end Go.Big

/- The evaluator is sound: calls; the whole. -/
namespace Go.Big
open Go.RowKit

section
variable {P : Program} {H : Nat} {φ : Place}

theorem get_ofArgs {n : Nat} : ∀ {l : List Value} {i : Nat}, ∀ d, (Env.ofArgs n i l).get d = if i ≤ d then (l[d - i]?).getD undef else undef
  | [], i, d => by simp [Env.ofArgs, Env.get, T.get]
  | v :: r, i, d => by
    simp only [Env.ofArgs, Env.get_set]
    rw [get_ofArgs]
    by_cases h1 : d = i
    · subst h1; simp
    · rw [if_neg h1]
      by_cases h2 : i + 1 ≤ d
      · rw [if_pos h2, if_pos (by omega)]
        rw [show d - i = (d - (i + 1)) + 1 from by omega]
        simp
      · rw [if_neg h2, if_neg (by omega)]

theorem n_ofArgs {n : Nat} : ∀ {l : List Value} {i : Nat}, (Env.ofArgs n i l).n = n
  | [], i => rfl
  | v :: r, i => by simp only [Env.ofArgs, Env.n_set]; exact n_ofArgs

theorem envRel_args {args : List Value} {args' : Array Value} (h : LRel φ args args'.toList) (n : Nat) : EnvRel φ (Env.ofArgs n 0 args) { tmps := args' ++ Array.replicate (n - args'.size) undef, defers := [] } := by
  refine ⟨by rw [n_ofArgs]; simp; omega, fun d => ?_⟩
  rw [get_ofArgs, if_pos (Nat.zero_le _), Nat.sub_zero]
  have hlen : args.length = args'.size := by simpa using h.1
  by_cases hd : d < args.length
  · obtain ⟨v', hv', hr⟩ := h.get (List.getElem?_eq_getElem hd)
    have e1 : args[d]?.getD undef = args[d] := by simp [hd]
    have e2 : (args' ++ Array.replicate (n - args'.size) undef).getD d undef = v' := by
      have hd' : d < args'.size := by omega
      have : args'[d]? = some v' := by simpa using hv'
      rw [Array.getElem?_eq_getElem hd'] at this
      have h3 : d < args'.size + (n - args'.size) := by omega
      simp [hd', h3]
      exact Option.some.inj this
    rw [e1]
    simp only [e2]
    exact hr
  · have e1 : args[d]?.getD undef = undef := by simp [Nat.le_of_not_lt hd]
    have e2 : (args' ++ Array.replicate (n - args'.size) undef).getD d undef = undef := by
      by_cases h3 : d < args'.size + (n - args'.size)
      · have hd' : ¬ d < args'.size := by omega
        simp [Array.getElem_append, hd', h3]
      · simp [h3]
    rw [e1]
    simp only [e2]
    exact VRel.undef_

def resF (a : Act) : ResultVar → Sem Value
  | .tmp t => pure (a.tmps.getD t undef)
  | .cell x t => do loadVar t (← asAddr (a.tmps.getD x undef))

theorem results_eq (fn : Func) (a : Act) : results fn a.tmps = (do let vs ← fn.results.mapM (resF a); pure (if h : vs.size = 1 then vs[0] else .tuple vs)) := by
  unfold results
  have : (fun x : ResultVar => match x with | .tmp t => (pure (a.tmps.getD t undef) : Sem Value) | .cell x t => (do loadVar t (← asAddr (a.tmps.getD x undef)))) = resF a := by
    funext r; cases r <;> rfl
  rw [← this]
  rfl

theorem result_sim {m : Mem} {w : World} {e : Env} {a : Act} (hS : Sim H φ m w) (he : EnvRel φ e a) {r : ResultVar} {v : Value} (h : aresult P e m r = some v) :
    ∃ v', (resF a r).run P w = .ok v' w ∧ VRel φ v v' := by
  cases r with
  | tmp t =>
    cases h
    exact ⟨_, rfl, he.2 t⟩
  | cell x t =>
    simp only [aresult] at h
    split at h
    case h_2 => cases h
    rename_i ad had
    have hr := he.2 x
    rw [had] at hr
    obtain ⟨p, hs, hp, hv⟩ := hr.ptr_inv
    obtain ⟨v', h1, h2⟩ := load_sim hS h hp
    refine ⟨v', ?_, h2⟩
    simp only [resF, hv, asAddr, Sem.run_bind, Sem.run_pure, Result.andThen_ok]
    exact h1

theorem results_list {m : Mem} {w : World} {e : Env} {a : Act} (hS : Sim H φ m w) (he : EnvRel φ e a) : ∀ {l : List ResultVar} {vs : List Value}, l.mapM (aresult P e m) = some vs →
    ∃ vs', (l.mapM (resF a)).run P w = .ok vs' w ∧ LRel φ vs vs'
  | [], vs, h => by
    cases h
    exact ⟨[], by simp, .nil⟩
  | r :: l, vs, h => by
    rw [List.mapM_cons] at h
    simp only [Option.bind_eq_bind, Option.bind_eq_some_iff] at h
    obtain ⟨v, hv, vs1, hvs, h⟩ := h
    cases h
    obtain ⟨v', g1, g2⟩ := result_sim hS he hv
    obtain ⟨vs', g3, g4⟩ := results_list hS he hvs
    refine ⟨v' :: vs', ?_, .cons g2 g4⟩
    rw [List.mapM_cons, Sem.run_bind, g1]
    simp only [Result.andThen_ok, Sem.run_bind, g3, Sem.run_pure]

theorem results_sim {m : Mem} {w : World} {e : Env} {a : Act} (hS : Sim H φ m w) (he : EnvRel φ e a) {fn : Func} {v : Value} (h : aresults P fn e m = some v) :
    ∃ v', (results fn a.tmps).run P w = .ok v' w ∧ VRel φ v v' := by
  unfold aresults at h
  cases hm : fn.results.toList.mapM (aresult P e m) with
  | none => rw [hm] at h; cases h
  | some vs =>
    rw [hm] at h
    obtain ⟨vs', h1, h2⟩ := results_list (P := P) hS he hm
    have h3 : (fn.results.mapM (resF a)).run P w = .ok vs'.toArray w := by
      rw [Array.mapM_eq_mapM_toList, ← bind_pure_comp, Sem.run_bind, h1]; rfl
    refine ⟨if h : vs'.toArray.size = 1 then vs'.toArray[0] else .tuple vs'.toArray, ?_, ?_⟩
    · rw [results_eq, Sem.run_bind, h3]; rfl
    · match vs, vs', h2, h with
      | [x], [x'], h2, h => cases h; exact h2.head
      | [], [], h2, h => cases h; exact h2.arr.tuple
      | x :: y :: r, x' :: y' :: r', h2, h => cases h; exact h2.arr.tuple
      | [], _ :: _, h2, _ => have := h2.1; simp at this
      | [_], [], h2, _ => have := h2.1; simp at this
      | [_], _ :: _ :: _, h2, _ => have := h2.1; simp at this
      | _ :: _ :: _, [], h2, _ => have := h2.1; simp at this
      | _ :: _ :: _, [_], h2, _ => have := h2.1; simp at this

/-- What is asked of the functions that may be entered. -/
def FuncsOk (P : Program) (S : Cfg) : Prop := ∀ f fn c, S.spec f = none → Nat.testBit S.ok f = true → P.funcs[f]? = some fn → fn.body = some c → (fn.name == "runtime.NumGoroutine") = false ∧ codeOk c = true

def SpecSim (P : Program) (H : Nat) (S : Spec) : Prop := ∀ f G, S f = some G → ∀ args m out m' W t t', G args m = some (out, m', W) → WF m → t.next = m.next → Ext m t → G args t = some (out, t', W) →
  (∀ b, m.next ≤ b → b < m'.next → t.get b = none) →
  Enterable P f ∧ ∀ φ w (args' : Array Value), Sim H φ t w → LRel φ args args'.toList → Calls P f args' w (fun e w' => ∃ ψ, φ.le ψ ∧ Sim H ψ t' w' ∧ Below H w w' ∧ EndRel ψ out e)

theorem call_sim {S : Cfg} (hS : SpecSim P H S.spec) (hF : FuncsOk P S) {n : Nat} {exec : Nat → Code → Env → Mem → Option Out} (he : SimExec P H n exec) (hl : ExecLoc exec) : SimCall P H (callStep P S exec) := by
  intro f args m out m' W t t' h hw ht hx h' hnone
  unfold callStep at h h'
  split at h
  · rename_i G hG
    rw [hG] at h'
    exact hS f G hG args m out m' W t t' h hw ht hx h' hnone
  · rename_i hG
    simp only [hG] at h'
    simp only [cond_eq_ite] at h h'
    split at h
    case isFalse => cases h
    rename_i hok
    rw [if_pos hok] at h'
    split at h
    case h_2 => cases h
    rename_i fn hfn
    split at h
    case h_2 => cases h
    rename_i c hc
    simp only [hfn, hc, ht] at h'
    obtain ⟨hname, hcode⟩ := hF f fn c hG hok hfn hc
    refine ⟨⟨fn, hfn, by rw [hc]; rfl, hname⟩, fun φ w args' hSim hargs => ?_⟩
    -- the run of the body
    obtain ⟨o, hex, hm'⟩ : ∃ o, exec m.next c (Env.ofArgs fn.ntmps 0 args) m = some o ∧ o.mem = m' := by
      split at h
      · rename_i hex; cases h; exact ⟨_, hex, rfl⟩
      · cases h
      · rename_i hex
        split at h
        case h_2 => cases h
        cases h; exact ⟨_, hex, rfl⟩
      · cases h
    obtain ⟨fr, tr⟩ := hl _ _ _ _ _ hex hw (Nat.le_refl _)
    obtain ⟨t2, htr, hst⟩ := tr t ht hx
    rw [hex] at h
    rw [htr] at h'
    obtain ⟨ex, env, mem, wr⟩ := o
    simp only at hm' h h' htr hst
    subst hm'
    have key : ∀ (Q : Exit → Act → World → Prop), (∀ x a' w' ψ, φ.le ψ → Sim H ψ t2 w' → Below H w w' → EnvRel ψ env a' → a'.defers = [] → ExRel ψ ex x → Q x a' w') →
        c.wp P Q { tmps := args' ++ Array.replicate (fn.ntmps - args'.size) undef, defers := [] } w := fun Q hQ =>
      (he m.next c _ m _ t t2 Q φ w _ hex hcode hw (Nat.le_refl _) ht hx htr hnone hSim (envRel_args hargs fn.ntmps) fun x a' w' ψ k1 k2 k3 k4 k5 k6 => hQ x a' w' ψ k1 k2 k3 k4 k5 k6).1
    refine calls_of_wp hfn hc (key _ ?_)
    intro x a' w' ψ k1 k2 k3 k4 k5 k6
    cases ex with
    | exit i => cases h
    | panic v =>
      cases h; cases h'
      obtain ⟨v', rfl, hv⟩ := k6
      exact ⟨k5, ψ, k1, k2, k3, v', rfl, hv⟩
    | normal =>
      rw [show x = .normal from k6]
      simp only at h h'
      split at h
      case h_2 => cases h
      rename_i v hv
      split at h'
      case h_2 => cases h'
      rename_i v2 hv2
      cases h; cases h'
      obtain ⟨v', g1, g2⟩ := results_sim (P := P) k2 k4 hv2
      exact ⟨k5, v', g1, ψ, k1, k2, k3, v', rfl, g2⟩
    | ret =>
      rw [show x = .ret from k6]
      simp only at h h'
      split at h
      case h_2 => cases h
      rename_i v hv
      split at h'
      case h_2 => cases h'
      rename_i v2 hv2
      cases h; cases h'
      obtain ⟨v', g1, g2⟩ := results_sim (P := P) k2 k4 hv2
      exact ⟨k5, v', g1, ψ, k1, k2, k3, v', rfl, g2⟩

theorem ev_sim {S : Cfg} (hS : SpecSim P H S.spec) (hL : SpecLoc S.spec) (hF : FuncsOk P S) (hmix : P.follows .mixedOrders = true) : ∀ n, SimCall P H (ev P S n).call ∧ SimExec P H n (ev P S n).exec
  | 0 => by
    constructor
    · intro f args m out m' W t t' h
      cases h
    · intro base c e m o t t' Q φ w a h
      cases h
  | n + 1 =>
    ⟨call_sim hS hF (ev_sim hS hL hF hmix n).2 (ev_loc hL n).2, exec_sim (ev_sim hS hL hF hmix n).1 (ev_loc hL n).1 hmix (ev_sim hS hL hF hmix n).2 (ev_loc hL n).2⟩

/-- THE EVALUATOR IS SOUND. -/
theorem ev_calls {S : Cfg} (hS : SpecSim P H S.spec) (hL : SpecLoc S.spec) (hF : FuncsOk P S) (hmix : P.follows .mixedOrders = true) {n : Nat} {f : FuncId} {args : List Value} {m m' : Mem} {out : COut} {W : List Nat}
    (h : (ev P S n).call f args m = some (out, m', W)) (hw : WF m) {w : World} {args' : Array Value} (hs : Sim H φ m w) (ha : LRel φ args args'.toList) :
    Calls P f args' w fun e w' => ∃ ψ, φ.le ψ ∧ Sim H ψ m' w' ∧ Below H w w' ∧ EndRel ψ out e :=
  (((ev_sim hS hL hF hmix n).1 f args m out m' W m m' h hw rfl (fun _ _ h => h) h (fun b hb _ => hw b hb)).2 φ w args' hs ha)

end
end Go.Big

/- The evaluator without fuel. -/
namespace Go.Big

abbrev ExecF := Nat → Code → Env → Mem → Option Out

def CallLe (c c' : CallF) : Prop := ∀ f args m r, c f args m = some r → c' f args m = some r
def ExecLe (x x' : ExecF) : Prop := ∀ base c e m r, x base c e m = some r → x' base c e m = some r

section
variable {P : Program}

theorem runOp_mono {c c' : CallF} (h : CallLe c c') {o : Oper} {e : Env} {m : Mem} {r : OpOut} (hr : runOp P c o e m = some r) : runOp P c' o e m = some r := by
  unfold runOp at hr
  split at hr
  · rename_i f args aT hop
    split at hr
    case h_2 => cases hr
    rename_i g first cap hf
    split at hr
    · rename_i hc; simp only [runOp, hop, hf, h _ _ _ _ hc]; exact hr
    · rename_i hc; simp only [runOp, hop, hf, h _ _ _ _ hc]; exact hr
    · cases hr
  · rename_i hop; simp only [runOp, hop]; exact hr
  · rename_i h1 h2
    unfold runOp
    split
    · rename_i hq; exact absurd hq (h1 _ _ _)
    · rename_i hq; exact absurd hq (h2 _)
    · exact hr

theorem runOps_mono {c c' : CallF} (h : CallLe c c') {base : Nat} {ops : Array Oper} : ∀ {l : List Oper} {e : Env} {m : Mem} {r : Out}, runOps P base c ops l e m = some r → runOps P base c' ops l e m = some r
  | [], e, m, r, hr => hr
  | o :: rest, e, m, r, hr => by
    simp only [runOps, cond_eq_ite] at hr
    split at hr
    · rename_i hw
      split at hr
      · rename_i hop
        split at hr
        case h_2 => cases hr
        rename_i hput
        split at hr
        case h_2 => cases hr
        rename_i hrest
        simp only [runOps, cond_eq_ite, if_pos hw, runOp_mono h hop, hput, runOps_mono h hrest]
        exact hr
      · rename_i hop
        simp only [runOps, cond_eq_ite, if_pos hw, runOp_mono h hop]
        exact hr
      · cases hr
    · rename_i hw
      split at hr
      case h_2 => cases hr
      rename_i hput
      simp only [runOps, cond_eq_ite, if_neg hw, hput]
      exact runOps_mono h hr

theorem runDraw_mono {c c' : CallF} (h : CallLe c c') {base : Nat} {ops : Array Oper} : ∀ {l : List Oper} {i : Nat} {pre : T Nat} {fps : List (Nat × Fp)} {e : Env} {m : Mem} {r : Out},
    runDraw P base c ops l i pre fps e m = some r → runDraw P base c' ops l i pre fps e m = some r
  | [], i, pre, fps, e, m, r, hr => hr
  | o :: rest, i, pre, fps, e, m, r, hr => by
    simp only [runDraw, cond_eq_ite] at hr
    split at hr
    · rename_i hw
      split at hr
      case h_2 => cases hr
      rename_i hop
      split at hr
      · rename_i hb
        split at hr
        case h_2 => cases hr
        rename_i hput
        split at hr
        case h_2 => cases hr
        rename_i hrest
        simp only [runDraw, cond_eq_ite, if_pos hw, runOp_mono h hop, if_pos hb, hput, runDraw_mono h hrest]
        exact hr
      · rename_i hb
        split at hr
        case isFalse => cases hr
        rename_i hfree
        split at hr
        case h_2 => cases hr
        rename_i hput
        split at hr
        case h_2 => cases hr
        rename_i hrest
        simp only [runDraw, cond_eq_ite, if_pos hw, runOp_mono h hop, if_neg hb, if_pos hfree, hput, runDraw_mono h hrest]
        exact hr
    · rename_i hw
      split at hr
      case h_2 => cases hr
      rename_i hput
      simp only [runDraw, cond_eq_ite, if_neg hw, hput]
      exact runDraw_mono h hr

theorem two_mono {x x' : ExecF} (hx : ExecLe x x') {base : Nat} {a b : Code} {e : Env} {m : Mem} {r : Out}
    (hr : (match x base a e m with
      | some ⟨.normal, e1, m1, w1⟩ => (match x base b e1 m1 with | some r => some { r with wr := w1 ++ r.wr } | none => none)
      | r => r) = some r) :
    (match x' base a e m with
      | some ⟨.normal, e1, m1, w1⟩ => (match x' base b e1 m1 with | some r => some { r with wr := w1 ++ r.wr } | none => none)
      | r => r) = some r := by
  cases ha : x base a e m with
  | none => rw [ha] at hr; cases hr
  | some oa =>
    rw [ha] at hr
    rw [hx _ _ _ _ _ ha]
    obtain ⟨ex, e1, m1, w1⟩ := oa
    cases ex with
    | normal =>
      simp only at hr ⊢
      cases hb : x base b e1 m1 with
      | none => rw [hb] at hr; cases hr
      | some ob => rw [hb] at hr; rw [hx _ _ _ _ _ hb]; exact hr
    | _ => exact hr

theorem execStep_mono {c c' : CallF} (h : CallLe c c') {x x' : ExecF} (hx : ExecLe x x') : ExecLe (execStep P c x) (execStep P c' x') := by
  intro base k e m r hr
  cases k with
  | region id ops d =>
    cases d with
    | true => exact runDraw_mono h hr
    | false => exact runOps_mono h hr
  | seq a b => exact two_mono hx hr
  | cond cc a b =>
    simp only [execStep] at hr ⊢
    cases hv : e.eval cc with
    | bool t =>
      rw [hv] at hr
      cases t with
      | true => exact hx _ _ _ _ _ hr
      | false => exact hx _ _ _ _ _ hr
    | _ => rw [hv] at hr; cases hr
  | block id b =>
    simp only [execStep] at hr ⊢
    cases hb : x base b e m with
    | none => rw [hb] at hr; cases hr
    | some o => rw [hb] at hr; rw [hx _ _ _ _ _ hb]; exact hr
  | loop b => exact two_mono hx hr
  | _ => exact hr

theorem callStep_mono {S : Cfg} {x x' : ExecF} (hx : ExecLe x x') : CallLe (callStep P S x) (callStep P S x') := by
  intro f args m r hr
  unfold callStep at hr
  split at hr
  · rename_i hG
    simp only [callStep, hG]; exact hr
  · rename_i hG
    simp only [cond_eq_ite] at hr
    split at hr
    case isFalse => cases hr
    rename_i hok
    split at hr
    case h_2 => cases hr
    rename_i fn hfn
    split at hr
    case h_2 => cases hr
    rename_i c hc
    simp only [callStep, hG, cond_eq_ite, if_pos hok, hfn, hc]
    cases hx2 : x m.next c (Env.ofArgs fn.ntmps 0 args) m with
    | none => rw [hx2] at hr; cases hr
    | some o => rw [hx2] at hr; rw [hx _ _ _ _ _ hx2]; exact hr

theorem ev_succ (S : Cfg) : ∀ n, CallLe (ev P S n).call (ev P S (n + 1)).call ∧ ExecLe (ev P S n).exec (ev P S (n + 1)).exec
  | 0 => by
    constructor
    · intro f args m r h
      cases h
    · intro base c e m r h
      cases h
  | n + 1 => ⟨callStep_mono (ev_succ S n).2, execStep_mono (ev_succ S n).1 (ev_succ S n).2⟩

theorem ev_mono (S : Cfg) {n k : Nat} (h : n ≤ k) : CallLe (ev P S n).call (ev P S k).call ∧ ExecLe (ev P S n).exec (ev P S k).exec := by
  induction h with
  | refl => exact ⟨fun _ _ _ _ h => h, fun _ _ _ _ _ h => h⟩
  | step _ ih => exact ⟨fun _ _ _ _ h => (ev_succ S _).1 _ _ _ _ (ih.1 _ _ _ _ h), fun _ _ _ _ _ h => (ev_succ S _).2 _ _ _ _ _ (ih.2 _ _ _ _ _ h)⟩

open Classical in
noncomputable def lim {α : Type} (g : Nat → Option α) : Option α := if h : ∃ n, (g n).isSome = true then g (Classical.choose h) else none

theorem lim_iff {α : Type} {g : Nat → Option α} (hm : ∀ n k a, n ≤ k → g n = some a → g k = some a) {a : α} : lim g = some a ↔ ∃ n, g n = some a := by
  unfold lim
  constructor
  · intro h
    split at h
    · exact ⟨_, h⟩
    · cases h
  · rintro ⟨n, hn⟩
    have hex : ∃ n, (g n).isSome = true := ⟨n, by rw [hn]; rfl⟩
    rw [dif_pos hex]
    have hc := Classical.choose_spec hex
    cases hg : g (Classical.choose hex) with
    | none => rw [hg] at hc; cases hc
    | some b =>
      rcases Nat.le_total n (Classical.choose hex) with h1 | h1
      · have := hm _ _ _ h1 hn; rw [hg] at this; exact this
      · have := hm _ _ _ h1 hg; rw [hn] at this; exact this.symm

noncomputable def acall (P : Program) (S : Cfg) : CallF := fun f args m => lim fun n => (ev P S n).call f args m
noncomputable def aexec (P : Program) (S : Cfg) : ExecF := fun base c e m => lim fun n => (ev P S n).exec base c e m

variable {S : Cfg}

theorem acall_iff {f : FuncId} {args : List Value} {m : Mem} {r : COut × Mem × List Nat} : acall P S f args m = some r ↔ ∃ n, (ev P S n).call f args m = some r :=
  lim_iff fun _ _ _ h hr => (ev_mono S h).1 _ _ _ _ hr
theorem aexec_iff {base : Nat} {c : Code} {e : Env} {m : Mem} {r : Out} : aexec P S base c e m = some r ↔ ∃ n, (ev P S n).exec base c e m = some r :=
  lim_iff fun _ _ _ h hr => (ev_mono S h).2 _ _ _ _ _ hr

theorem acall_le (n : Nat) : CallLe (ev P S n).call (acall P S) := fun _ _ _ _ h => acall_iff.2 ⟨n, h⟩
theorem aexec_le (n : Nat) : ExecLe (ev P S n).exec (aexec P S) := fun _ _ _ _ _ h => aexec_iff.2 ⟨n, h⟩

theorem runOp_cont {o : Oper} {e : Env} {m : Mem} {r : OpOut} (hr : runOp P (acall P S) o e m = some r) : ∃ n, runOp P (ev P S n).call o e m = some r := by
  unfold runOp at hr
  split at hr
  · rename_i f args aT hop
    split at hr
    case h_2 => cases hr
    rename_i g first cap hf
    split at hr
    · rename_i hc
      obtain ⟨n, hn⟩ := acall_iff.1 hc
      exact ⟨n, by simp only [runOp, hop, hf, hn]; exact hr⟩
    · rename_i hc
      obtain ⟨n, hn⟩ := acall_iff.1 hc
      exact ⟨n, by simp only [runOp, hop, hf, hn]; exact hr⟩
    · cases hr
  · rename_i hop; exact ⟨0, by simp only [runOp, hop]; exact hr⟩
  · rename_i h1 h2
    refine ⟨0, ?_⟩
    unfold runOp
    split
    · rename_i hq; exact absurd hq (h1 _ _ _)
    · rename_i hq; exact absurd hq (h2 _)
    · exact hr

theorem up_call {n k : Nat} (h : n ≤ k) : CallLe (ev P S n).call (ev P S k).call := (ev_mono S h).1
theorem up_exec {n k : Nat} (h : n ≤ k) : ExecLe (ev P S n).exec (ev P S k).exec := (ev_mono S h).2

theorem runOps_cont {base : Nat} {ops : Array Oper} : ∀ {l : List Oper} {e : Env} {m : Mem} {r : Out}, runOps P base (acall P S) ops l e m = some r → ∃ n, runOps P base (ev P S n).call ops l e m = some r
  | [], e, m, r, hr => ⟨0, hr⟩
  | o :: rest, e, m, r, hr => by
    simp only [runOps, cond_eq_ite] at hr
    split at hr
    · rename_i hw
      split at hr
      · rename_i hop
        obtain ⟨n1, h1⟩ := runOp_cont hop
        split at hr
        case h_2 => cases hr
        rename_i hput
        split at hr
        case h_2 => cases hr
        rename_i hrest
        obtain ⟨n2, h2⟩ := runOps_cont hrest
        refine ⟨max n1 n2, ?_⟩
        simp only [runOps, cond_eq_ite, if_pos hw, runOp_mono (up_call (Nat.le_max_left n1 n2)) h1, hput, runOps_mono (up_call (Nat.le_max_right n1 n2)) h2]
        exact hr
      · rename_i hop
        obtain ⟨n1, h1⟩ := runOp_cont hop
        refine ⟨n1, ?_⟩
        simp only [runOps, cond_eq_ite, if_pos hw, h1]; exact hr
      · cases hr
    · rename_i hw
      split at hr
      case h_2 => cases hr
      rename_i hput
      obtain ⟨n2, h2⟩ := runOps_cont hr
      refine ⟨n2, ?_⟩
      simp only [runOps, cond_eq_ite, if_neg hw, hput]
      exact h2

theorem runDraw_cont {base : Nat} {ops : Array Oper} : ∀ {l : List Oper} {i : Nat} {pre : T Nat} {fps : List (Nat × Fp)} {e : Env} {m : Mem} {r : Out},
    runDraw P base (acall P S) ops l i pre fps e m = some r → ∃ n, runDraw P base (ev P S n).call ops l i pre fps e m = some r
  | [], i, pre, fps, e, m, r, hr => ⟨0, hr⟩
  | o :: rest, i, pre, fps, e, m, r, hr => by
    simp only [runDraw, cond_eq_ite] at hr
    split at hr
    · rename_i hw
      split at hr
      case h_2 => cases hr
      rename_i hop
      obtain ⟨n1, h1⟩ := runOp_cont hop
      split at hr
      · rename_i hb
        split at hr
        case h_2 => cases hr
        rename_i hput
        split at hr
        case h_2 => cases hr
        rename_i hrest
        obtain ⟨n2, h2⟩ := runDraw_cont hrest
        refine ⟨max n1 n2, ?_⟩
        simp only [runDraw, cond_eq_ite, if_pos hw, runOp_mono (up_call (Nat.le_max_left n1 n2)) h1, if_pos hb, hput, runDraw_mono (up_call (Nat.le_max_right n1 n2)) h2]
        exact hr
      · rename_i hb
        split at hr
        case isFalse => cases hr
        rename_i hfree
        split at hr
        case h_2 => cases hr
        rename_i hput
        split at hr
        case h_2 => cases hr
        rename_i hrest
        obtain ⟨n2, h2⟩ := runDraw_cont hrest
        refine ⟨max n1 n2, ?_⟩
        simp only [runDraw, cond_eq_ite, if_pos hw, runOp_mono (up_call (Nat.le_max_left n1 n2)) h1, if_neg hb, if_pos hfree, hput, runDraw_mono (up_call (Nat.le_max_right n1 n2)) h2]
        exact hr
    · rename_i hw
      split at hr
      case h_2 => cases hr
      rename_i hput
      obtain ⟨n2, h2⟩ := runDraw_cont hr
      refine ⟨n2, ?_⟩
      simp only [runDraw, cond_eq_ite, if_neg hw, hput]
      exact h2

theorem two_cont {base : Nat} {a b : Code} {e : Env} {m : Mem} {r : Out}
    (hr : (match aexec P S base a e m with
      | some ⟨.normal, e1, m1, w1⟩ => (match aexec P S base b e1 m1 with | some r => some { r with wr := w1 ++ r.wr } | none => none)
      | r => r) = some r) :
    ∃ n, (match (ev P S n).exec base a e m with
      | some ⟨.normal, e1, m1, w1⟩ => (match (ev P S n).exec base b e1 m1 with | some r => some { r with wr := w1 ++ r.wr } | none => none)
      | r => r) = some r := by
  cases ha : aexec P S base a e m with
  | none => rw [ha] at hr; cases hr
  | some oa =>
    obtain ⟨n1, h1⟩ := aexec_iff.1 ha
    rw [ha] at hr
    obtain ⟨ex, e1, m1, w1⟩ := oa
    cases ex with
    | normal =>
      simp only at hr
      cases hb : aexec P S base b e1 m1 with
      | none => rw [hb] at hr; cases hr
      | some ob =>
        obtain ⟨n2, h2⟩ := aexec_iff.1 hb
        rw [hb] at hr
        refine ⟨max n1 n2, ?_⟩
        rw [up_exec (Nat.le_max_left n1 n2) _ _ _ _ _ h1]
        simp only [up_exec (Nat.le_max_right n1 n2) _ _ _ _ _ h2]
        exact hr
    | _ => exact ⟨n1, by rw [h1]; exact hr⟩

theorem execStep_cont {base : Nat} {c : Code} {e : Env} {m : Mem} {r : Out} (hr : execStep P (acall P S) (aexec P S) base c e m = some r) : ∃ n, execStep P (ev P S n).call (ev P S n).exec base c e m = some r := by
  cases c with
  | region id ops d =>
    cases d with
    | true => exact runDraw_cont hr
    | false => exact runOps_cont hr
  | seq a b => exact two_cont hr
  | cond cc a b =>
    simp only [execStep] at hr ⊢
    cases hv : e.eval cc with
    | bool t =>
      rw [hv] at hr
      cases t with
      | true => exact aexec_iff.1 hr
      | false => exact aexec_iff.1 hr
    | _ => rw [hv] at hr; cases hr
  | block id b =>
    simp only [execStep] at hr ⊢
    cases hb : aexec P S base b e m with
    | none => rw [hb] at hr; cases hr
    | some o =>
      obtain ⟨n, hn⟩ := aexec_iff.1 hb
      exact ⟨n, by rw [hn]; rw [hb] at hr; exact hr⟩
  | loop b => exact two_cont hr
  | _ => exact ⟨0, hr⟩

theorem callStep_cont {f : FuncId} {args : List Value} {m : Mem} {r : COut × Mem × List Nat} (hr : callStep P S (aexec P S) f args m = some r) : ∃ n, callStep P S (ev P S n).exec f args m = some r := by
  unfold callStep at hr
  split at hr
  · rename_i hG
    exact ⟨0, by simp only [callStep, hG]; exact hr⟩
  · rename_i hG
    simp only [cond_eq_ite] at hr
    split at hr
    case isFalse => cases hr
    rename_i hok
    split at hr
    case h_2 => cases hr
    rename_i fn hfn
    split at hr
    case h_2 => cases hr
    rename_i c hc
    cases hx : aexec P S m.next c (Env.ofArgs fn.ntmps 0 args) m with
    | none => rw [hx] at hr; cases hr
    | some o =>
      obtain ⟨n, hn⟩ := aexec_iff.1 hx
      refine ⟨n, ?_⟩
      simp only [callStep, hG, cond_eq_ite, if_pos hok, hfn, hc, hn]
      rw [hx] at hr; exact hr

theorem opt_ext {α : Type} {x y : Option α} (h : ∀ a, x = some a ↔ y = some a) : x = y := by
  cases x with
  | none =>
    cases y with
    | none => rfl
    | some b => exact ((h b).2 rfl)
  | some a => exact ((h a).1 rfl).symm

/-- THE EVALUATOR UNFOLDS. -/
theorem aexec_eq (base : Nat) (c : Code) (e : Env) (m : Mem) : aexec P S base c e m = execStep P (acall P S) (aexec P S) base c e m := by
  apply opt_ext
  intro r
  rw [aexec_iff]
  constructor
  · rintro ⟨n, hn⟩
    cases n with
    | zero => cases hn
    | succ n => exact execStep_mono (acall_le n) (aexec_le n) _ _ _ _ _ hn
  · intro h
    obtain ⟨n, hn⟩ := execStep_cont h
    exact ⟨n + 1, hn⟩

theorem acall_eq (f : FuncId) (args : List Value) (m : Mem) : acall P S f args m = callStep P S (aexec P S) f args m := by
  apply opt_ext
  intro r
  rw [acall_iff]
  constructor
  · rintro ⟨n, hn⟩
    cases n with
    | zero => cases hn
    | succ n => exact callStep_mono (aexec_le n) _ _ _ _ hn
  · intro h
    obtain ⟨n, hn⟩ := callStep_cont h
    exact ⟨n + 1, hn⟩

theorem acall_loc (hL : SpecLoc S.spec) : CallLoc (acall P S) := by
  intro f args m out m' W h hw
  obtain ⟨n, hn⟩ := acall_iff.1 h
  obtain ⟨h1, h2⟩ := (ev_loc hL n).1 _ _ _ _ _ _ hn hw
  refine ⟨h1, fun t ht hx => ?_⟩
  obtain ⟨t', h3, h4⟩ := h2 t ht hx
  exact ⟨t', acall_iff.2 ⟨n, h3⟩, h4⟩

end
end Go.Big

/- Rules for going through code by hand, over the evaluator without fuel. -/
namespace Go.Big

def OkW (base : Nat) (L : List Nat) (w : List Nat) : Prop := ∀ b ∈ w, b < base → b ∈ L

theorem OkW.nil {base : Nat} {L : List Nat} : OkW base L [] := fun b hb => by simp at hb
theorem OkW.fresh {base c : Nat} {L : List Nat} (h : base ≤ c) : OkW base L [c] := fun b hb hlt => by simp at hb; omega
theorem OkW.mem {base c : Nat} {L : List Nat} (h : c ∈ L) : OkW base L [c] := fun b hb _ => by simp at hb; subst hb; exact h
theorem OkW.keep {base : Nat} {L w : List Nat} (h : OkW base L w) : ∀ b ∈ Big.keep base w, b ∈ L := fun b hb => h b (mem_keep.1 hb).1 (mem_keep.1 hb).2

def WPut (e : Env) (dst : Option Nat) (v : Value) (K : Env → Prop) : Prop :=
  match dst with
  | none => K e
  | some d => d < e.n ∧ K (e.set d v)

/-- What comes next (as an instance: rewriting does not go into it). -/
class Cont (α : Type) where
  k : α

def WV (r : Res) [K : Cont (Value → Mem → List Nat → Rd → Prop)] : Prop :=
  match r with
  | some (v, m, w, r) => K.k v m w r
  | none => False

def WCall (P : Program) (S : Cfg) (base : Nat) (L : List Nat) (g : FuncId) (args : List Value) (m : Mem) [K : Cont (COut → Mem → List Nat → Prop)] : Prop :=
  ∃ out m' wr, acall P S g args m = some (out, m', wr) ∧ OkW base L wr ∧ K.k out m' wr

/-- The operations of a region whose order is fixed. -/
def WO (P : Program) (S : Cfg) (base : Nat) (L : List Nat) (ops : Array Oper) (Q : Ex → Env → Mem → Prop) : List Oper → Env → Mem → Prop
  | [], e, m => Q .normal e m
  | o :: rest, e, m =>
    bif Region.wanted o (yieldedA ops e) then
      match o.op with
      | .call { callee := .value f, args, argTypes := _ } =>
        (match e.eval f with
        | .func (.func g) first captured =>
          @WCall P S base L g (first.toList ++ args.toList.map e.eval ++ captured.toList) m ⟨fun out m' _ =>
            (match out with | .ret v => WPut e o.dst v fun e' => WO P S base L ops Q rest e' m' | .panic v => Q (.panic v) e m')⟩
        | _ => False)
      | .panic x => (match e.eval x with | .iface t v => Q (.panic (.iface t v)) e m | _ => False)
      | _ => @WV (aop P e.eval o m) ⟨fun v m' w _ => OkW base L w ∧ WPut e o.dst v fun e' => WO P S base L ops Q rest e' m'⟩
    else WPut e o.dst undef fun e' => WO P S base L ops Q rest e' m

/-- The operations that are surely ahead of each. -/
def planOf (ops : Array Oper) : List Oper → Nat → T Nat → List Nat
  | [], _, _ => []
  | o :: rest, i, pre => maskOf pre o :: planOf ops rest (i + 1) (T.set 8 pre i (maskOf pre o))

def FpsFree (mask : Nat) (f : Fp) : List (Nat × Fp) → Prop
  | [] => True
  | p :: rest => (Nat.testBit mask p.1 = true ∨ Fp.free p.2 f = true) ∧ FpsFree mask f rest

/-- The operations of a region whose order is drawn. -/
def WD (P : Program) (S : Cfg) (base : Nat) (L : List Nat) (ops : Array Oper) (Q : Ex → Env → Mem → Prop) : List Oper → Nat → List Nat → List (Nat × Fp) → Env → Mem → Prop
  | o :: rest, i, mask :: plan, fps, e, m =>
    bif Region.wanted o (yieldedA ops e) then
      match o.op with
      | .call { callee := .value f, args, argTypes := _ } =>
        (match e.eval f with
        | .func (.func g) first captured =>
          @WCall P S base L g (first.toList ++ args.toList.map e.eval ++ captured.toList) m ⟨fun out m' wr =>
            (match out with
            | .ret v => FpsFree mask ⟨m.next, m'.next, wr, .all⟩ fps ∧ WPut e o.dst v fun e' => WD P S base L ops Q rest (i + 1) plan ((i, ⟨m.next, m'.next, wr, .all⟩) :: fps) e' m'
            | .panic _ => False)⟩
        | _ => False)
      | .panic _ => False
      | _ => @WV (aop P e.eval o m) ⟨fun v m' w r => OkW base L w ∧
          (bif Fp.boring ⟨m.next, m'.next, w, r⟩ then WPut e o.dst v fun e' => WD P S base L ops Q rest (i + 1) plan fps e' m'
           else FpsFree mask ⟨m.next, m'.next, w, r⟩ fps ∧ WPut e o.dst v fun e' => WD P S base L ops Q rest (i + 1) plan ((i, ⟨m.next, m'.next, w, r⟩) :: fps) e' m')⟩
    else WPut e o.dst undef fun e' => WD P S base L ops Q rest (i + 1) plan fps e' m
  | _, _, _, _, e, m => Q .normal e m

/-- A piece of code. -/
def W (P : Program) (S : Cfg) (base : Nat) (L : List Nat) (c : Code) (e : Env) (m : Mem) (Q : Ex → Env → Mem → Prop) : Prop :=
  ∃ o, aexec P S base c e m = some o ∧ (∀ b ∈ o.wr, b ∈ L) ∧ Q o.ex o.env o.mem

/-- A call. -/
def Ct (P : Program) (S : Cfg) (g : FuncId) (args : List Value) (m : Mem) (L : List Nat) (Q : COut → Mem → Prop) : Prop :=
  ∃ out m' wr, acall P S g args m = some (out, m', wr) ∧ (∀ b ∈ wr, b ∈ L) ∧ Q out m'

@[congr] theorem wv_congr {r r' : Res} {K : Cont (Value → Mem → List Nat → Rd → Prop)} (h : r = r') : @WV r K = @WV r' K := by rw [h]
@[congr] theorem wcall_congr {P : Program} {S : Cfg} {base : Nat} {L : List Nat} {g : FuncId} {args args' : List Value} {m m' : Mem} {K : Cont (COut → Mem → List Nat → Prop)} (h : args = args') (h2 : m = m') : @WCall P S base L g args m K = @WCall P S base L g args' m' K := by rw [h, h2]
@[congr] theorem wo_congr {P : Program} {S : Cfg} {base : Nat} {L : List Nat} {ops : Array Oper} {Q : Ex → Env → Mem → Prop} {l : List Oper} {e e' : Env} {m m' : Mem} (h : e = e') (h2 : m = m') : WO P S base L ops Q l e m = WO P S base L ops Q l e' m' := by rw [h, h2]
@[congr] theorem wd_congr {P : Program} {S : Cfg} {base : Nat} {L : List Nat} {ops : Array Oper} {Q : Ex → Env → Mem → Prop} {l : List Oper} {i : Nat} {plan : List Nat} {fps : List (Nat × Fp)} {e e' : Env} {m m' : Mem} (h : e = e') (h2 : m = m') : WD P S base L ops Q l i plan fps e m = WD P S base L ops Q l i plan fps e' m' := by rw [h, h2]
@[congr] theorem w_congr {P : Program} {S : Cfg} {base : Nat} {L : List Nat} {c : Code} {Q : Ex → Env → Mem → Prop} {e e' : Env} {m m' : Mem} (h : e = e') (h2 : m = m') : W P S base L c e m Q = W P S base L c e' m' Q := by rw [h, h2]

section
variable {P : Program} {S : Cfg} {base : Nat} {L : List Nat} {e : Env} {m : Mem} {Q : Ex → Env → Mem → Prop}

theorem WPut.put {dst : Option Nat} {v : Value} {K : Env → Prop} (h : WPut e dst v K) : ∃ e', e.put dst v = some e' ∧ K e' := by
  cases dst with
  | none => exact ⟨e, rfl, h⟩
  | some d => exact ⟨e.set d v, by simp [Env.put, blt_dec, h.1], h.2⟩

theorem WO.sound {ops : Array Oper} : ∀ {l : List Oper} {e : Env} {m : Mem}, WO P S base L ops Q l e m → ∃ o, runOps P base (acall P S) ops l e m = some o ∧ (∀ b ∈ o.wr, b ∈ L) ∧ Q o.ex o.env o.mem
  | [], e, m, h => ⟨_, rfl, by simp, h⟩
  | o :: rest, e, m, h => by
    unfold WO at h
    simp only [cond_eq_ite] at h
    split at h
    · rename_i hw
      have fin : ∀ (v : Value) (m' : Mem) (w : List Nat) (r : Rd), runOp P (acall P S) o e m = some (.val v m' w r) → OkW base L w → (WPut e o.dst v fun e' => WO P S base L ops Q rest e' m') →
          ∃ o_1, runOps P base (acall P S) ops (o :: rest) e m = some o_1 ∧ (∀ b ∈ o_1.wr, b ∈ L) ∧ Q o_1.ex o_1.env o_1.mem := by
        intro v m' w r hop hok hput
        obtain ⟨e', h1, h2⟩ := hput.put
        obtain ⟨o2, h3, h4, h5⟩ := WO.sound h2
        refine ⟨{ o2 with wr := keep base w ++ o2.wr }, ?_, fun b hb => ?_, h5⟩
        · simp only [runOps, cond_eq_ite, if_pos hw, hop, h1, h3]
        · rcases List.mem_append.1 hb with hb | hb
          · exact hok.keep b hb
          · exact h4 b hb
      split at h
      · rename_i f args aT hop
        split at h
        case h_2 => exact h.elim
        rename_i g first cap hf
        obtain ⟨out, m', wr, h1, h2, h3⟩ := h
        cases out with
        | ret v => exact fin v m' wr .all (by simp only [runOp, hop, hf, h1]) h2 h3
        | panic v => exact ⟨⟨.panic v, e, m', keep base wr⟩, by simp only [runOps, cond_eq_ite, if_pos hw, runOp, hop, hf, h1], h2.keep, h3⟩
      · rename_i x hop
        split at h
        case h_2 => exact h.elim
        rename_i t v hv
        exact ⟨⟨.panic (.iface t v), e, m, keep base []⟩, by simp only [runOps, cond_eq_ite, if_pos hw, runOp, hop, hv], by simp [keep], h⟩
      · rename_i hn1 hn2
        unfold WV at h
        split at h
        case h_2 => exact h.elim
        rename_i v m' w r hop
        refine fin v m' w r ?_ h.1 h.2
        unfold runOp
        split
        · rename_i heq; exact absurd heq (hn1 _ _ _)
        · rename_i heq; exact absurd heq (hn2 _)
        · simp only [hop]
    · rename_i hw
      obtain ⟨e', h1, h2⟩ := h.put
      obtain ⟨o2, h3, h4, h5⟩ := WO.sound h2
      exact ⟨o2, by simp only [runOps, cond_eq_ite, if_neg hw, h1, h3], h4, h5⟩

theorem FpsFree.all {mask : Nat} {f : Fp} : ∀ {fps : List (Nat × Fp)}, FpsFree mask f fps → (fps.all fun p => Nat.testBit mask p.1 || p.2.free f) = true
  | [], _ => rfl
  | p :: rest, h => by
    rw [List.all_cons, Bool.and_eq_true, Bool.or_eq_true]
    exact ⟨h.1, FpsFree.all h.2⟩

theorem WD.sound {ops : Array Oper} : ∀ {l : List Oper} {i : Nat} {pre : T Nat} {fps : List (Nat × Fp)} {e : Env} {m : Mem}, WD P S base L ops Q l i (planOf ops l i pre) fps e m →
    ∃ o, runDraw P base (acall P S) ops l i pre fps e m = some o ∧ (∀ b ∈ o.wr, b ∈ L) ∧ Q o.ex o.env o.mem
  | [], i, pre, fps, e, m, h => ⟨_, rfl, by simp, h⟩
  | o :: rest, i, pre, fps, e, m, h => by
    simp only [planOf] at h
    unfold WD at h
    simp only [cond_eq_ite] at h
    split at h
    · rename_i hw
      have fin : ∀ (v : Value) (m' : Mem) (w : List Nat) (r : Rd), runOp P (acall P S) o e m = some (.val v m' w r) → OkW base L w →
          (bif Fp.boring ⟨m.next, m'.next, w, r⟩ then WPut e o.dst v fun e' => WD P S base L ops Q rest (i + 1) (planOf ops rest (i + 1) (T.set 8 pre i (maskOf pre o))) fps e' m'
           else FpsFree (maskOf pre o) ⟨m.next, m'.next, w, r⟩ fps ∧ WPut e o.dst v fun e' => WD P S base L ops Q rest (i + 1) (planOf ops rest (i + 1) (T.set 8 pre i (maskOf pre o))) ((i, ⟨m.next, m'.next, w, r⟩) :: fps) e' m') →
          ∃ o_1, runDraw P base (acall P S) ops (o :: rest) i pre fps e m = some o_1 ∧ (∀ b ∈ o_1.wr, b ∈ L) ∧ Q o_1.ex o_1.env o_1.mem := by
        intro v m' w r hop hok hput
        simp only [cond_eq_ite] at hput
        split at hput
        · rename_i hbor
          obtain ⟨e', h1, h2⟩ := hput.put
          obtain ⟨o2, h3, h4, h5⟩ := WD.sound h2
          refine ⟨{ o2 with wr := keep base w ++ o2.wr }, ?_, fun b hb => ?_, h5⟩
          · simp only [runDraw, cond_eq_ite, if_pos hw, hop, if_pos hbor, h1, h3]
          · rcases List.mem_append.1 hb with hb | hb
            · exact hok.keep b hb
            · exact h4 b hb
        · rename_i hbor
          obtain ⟨e', h1, h2⟩ := hput.2.put
          obtain ⟨o2, h3, h4, h5⟩ := WD.sound h2
          refine ⟨{ o2 with wr := keep base w ++ o2.wr }, ?_, fun b hb => ?_, h5⟩
          · simp only [runDraw, cond_eq_ite, if_pos hw, hop, if_neg hbor, if_pos hput.1.all, h1, h3]
          · rcases List.mem_append.1 hb with hb | hb
            · exact hok.keep b hb
            · exact h4 b hb
      split at h
      · rename_i f args aT hop
        split at h
        case h_2 => exact h.elim
        rename_i g first cap hf
        obtain ⟨out, m', wr, h1, h2, h3⟩ := h
        cases out with
        | ret v =>
          refine fin v m' wr .all (by simp only [runOp, hop, hf, h1]) h2 ?_
          rw [show Fp.boring ⟨m.next, m'.next, wr, .all⟩ = false from by simp [Fp.boring]]
          exact h3
        | panic v => exact h3.elim
      · exact h.elim
      · rename_i hn1 hn2
        unfold WV at h
        split at h
        case h_2 => exact h.elim
        rename_i v m' w r hop
        refine fin v m' w r ?_ h.1 h.2
        unfold runOp
        split
        · rename_i heq; exact absurd heq (hn1 _ _ _)
        · rename_i heq; exact absurd heq (hn2 _)
        · simp only [hop]
    · rename_i hw
      obtain ⟨e', h1, h2⟩ := h.put
      obtain ⟨o2, h3, h4, h5⟩ := WD.sound h2
      exact ⟨o2, by simp only [runDraw, cond_eq_ite, if_neg hw, h1, h3], h4, h5⟩

theorem w_region {id : Nat} {ops : Array Oper} (h : WO P S base L ops Q ops.toList e m) : W P S base L (.region id ops false) e m Q := by
  obtain ⟨o, h1, h2⟩ := h.sound
  exact ⟨o, by rw [aexec_eq]; exact h1, h2⟩

theorem w_draw {id : Nat} {ops : Array Oper} (plan : List Nat) (hp : planOf ops ops.toList 0 .nil = plan) (h : WD P S base L ops Q ops.toList 0 plan [] e m) : W P S base L (.region id ops true) e m Q := by
  subst hp
  obtain ⟨o, h1, h2⟩ := h.sound
  exact ⟨o, by rw [aexec_eq]; exact h1, h2⟩

/-- What follows a piece of code. -/
def andThen (P : Program) (S : Cfg) (base : Nat) (L : List Nat) (c : Code) (Q : Ex → Env → Mem → Prop) : Ex → Env → Mem → Prop
  | .normal, e, m => W P S base L c e m Q
  | x, e, m => Q x e m

theorem w_seq {a b : Code} (h : W P S base L a e m (andThen P S base L b Q)) : W P S base L (.seq a b) e m Q := by
  obtain ⟨o, h1, h2, h3⟩ := h
  obtain ⟨ex, e1, m1, w1⟩ := o
  cases ex with
  | normal =>
    obtain ⟨o2, h4, h5, h6⟩ := h3
    refine ⟨{ o2 with wr := w1 ++ o2.wr }, ?_, fun b hb => ?_, h6⟩
    · rw [aexec_eq]; simp only [execStep, h1, h4]
    · rcases List.mem_append.1 hb with hb | hb
      · exact h2 b hb
      · exact h5 b hb
  | _ => exact ⟨_, by rw [aexec_eq]; simp only [execStep, h1], h2, h3⟩

theorem w_skip (h : Q .normal e m) : W P S base L .skip e m Q := ⟨⟨.normal, e, m, []⟩, by rw [aexec_eq]; rfl, by simp, h⟩
theorem w_label {l : Nat} (h : Q .normal e m) : W P S base L (.label l) e m Q := ⟨⟨.normal, e, m, []⟩, by rw [aexec_eq]; rfl, by simp, h⟩
theorem w_exit {id : Nat} (h : Q (.exit id) e m) : W P S base L (.exit id) e m Q := ⟨⟨.exit id, e, m, []⟩, by rw [aexec_eq]; rfl, by simp, h⟩
theorem w_ret (h : Q .ret e m) : W P S base L .ret e m Q := ⟨⟨.ret, e, m, []⟩, by rw [aexec_eq]; rfl, by simp, h⟩

theorem w_cond {c : Operand} {a b : Code} {t : Bool} (hc : e.eval c = .bool t) (h1 : t = true → W P S base L a e m Q) (h2 : t = false → W P S base L b e m Q) : W P S base L (.cond c a b) e m Q := by
  cases t with
  | true =>
    obtain ⟨o, h3, h4⟩ := h1 rfl
    exact ⟨o, by rw [aexec_eq]; simp only [execStep, hc]; exact h3, h4⟩
  | false =>
    obtain ⟨o, h3, h4⟩ := h2 rfl
    exact ⟨o, by rw [aexec_eq]; simp only [execStep, hc]; exact h3, h4⟩

def inBlock (id : Nat) (Q : Ex → Env → Mem → Prop) : Ex → Env → Mem → Prop
  | .exit i, e, m => if i = id then Q .normal e m else Q (.exit i) e m
  | x, e, m => Q x e m

theorem w_block {id : Nat} {c : Code} (h : W P S base L c e m (inBlock id Q)) : W P S base L (.block id c) e m Q := by
  obtain ⟨o, h1, h2, h3⟩ := h
  obtain ⟨ex, e1, m1, w1⟩ := o
  cases ex with
  | exit i =>
    simp only [inBlock] at h3
    split at h3
    · rename_i hi
      exact ⟨⟨.normal, e1, m1, w1⟩, by rw [aexec_eq]; simp only [execStep, h1, cond_eq_ite, beq_dec, hi]; simp, h2, h3⟩
    · rename_i hi
      exact ⟨⟨.exit i, e1, m1, w1⟩, by rw [aexec_eq]; simp only [execStep, h1, cond_eq_ite, beq_dec, hi]; simp, h2, h3⟩
  | _ => exact ⟨_, by rw [aexec_eq]; simp only [execStep, h1], h2, h3⟩

def onceMore (P : Program) (S : Cfg) (base : Nat) (L : List Nat) (c : Code) (Q : Ex → Env → Mem → Prop) : Ex → Env → Mem → Prop := andThen P S base L (.loop c) Q

theorem w_loop_once {c : Code} (h : W P S base L c e m (andThen P S base L (.loop c) Q)) : W P S base L (.loop c) e m Q := by
  obtain ⟨o, h1, h2, h3⟩ := h
  obtain ⟨ex, e1, m1, w1⟩ := o
  cases ex with
  | normal =>
    obtain ⟨o2, h4, h5, h6⟩ := h3
    refine ⟨{ o2 with wr := w1 ++ o2.wr }, ?_, fun b hb => ?_, h6⟩
    · rw [aexec_eq]; simp only [execStep, h1, h4]
    · rcases List.mem_append.1 hb with hb | hb
      · exact h2 b hb
      · exact h5 b hb
  | _ => exact ⟨_, by rw [aexec_eq]; simp only [execStep, h1], h2, h3⟩

/-- What a round of a loop owes. -/
def round (I : Nat → Env → Mem → Prop) (k : Nat) (Q : Ex → Env → Mem → Prop) : Ex → Env → Mem → Prop
  | .normal, e, m => ∃ j, j < k ∧ I j e m
  | x, e, m => Q x e m

/-- A loop by an invariant with a measure. -/
theorem w_loop {c : Code} (I : Nat → Env → Mem → Prop) (k : Nat) (h0 : I k e m) (hr : ∀ k e m, I k e m → W P S base L c e m (round I k Q)) : W P S base L (.loop c) e m Q := by
  induction k using Nat.strongRecOn generalizing e m with
  | _ k ih =>
    obtain ⟨o, h1, h2, h3⟩ := hr k e m h0
    refine w_loop_once ⟨o, h1, h2, ?_⟩
    cases hx : o.ex with
    | normal =>
      rw [hx] at h3
      obtain ⟨j, hj, hI⟩ := h3
      exact ih j hj hI
    | _ => rw [hx] at h3; exact h3

theorem w_mono {c : Code} {Q' : Ex → Env → Mem → Prop} (h : W P S base L c e m Q) (hq : ∀ x e m, Q x e m → Q' x e m) : W P S base L c e m Q' := by
  obtain ⟨o, h1, h2, h3⟩ := h
  exact ⟨o, h1, h2, hq _ _ _ h3⟩

/-- What the end of a function's body owes. -/
def bodyQ (P : Program) (fn : Func) (Q : COut → Mem → Prop) : Ex → Env → Mem → Prop
  | .panic v, _, m => Q (.panic v) m
  | .exit _, _, _ => False
  | _, e, m => match aresults P fn e m with | some v => Q (.ret v) m | none => False

theorem ct_body {f : FuncId} {fn : Func} {c : Code} {args : List Value} {Q : COut → Mem → Prop} (hs : S.spec f = none) (hok : Nat.testBit S.ok f = true) (hf : P.funcs[f]? = some fn) (hb : fn.body = some c)
    (h : W P S m.next L c (Env.ofArgs fn.ntmps 0 args) m (bodyQ P fn Q)) : Ct P S f args m L Q := by
  obtain ⟨o, h1, h2, h3⟩ := h
  obtain ⟨ex, e1, m1, w1⟩ := o
  have h3' : bodyQ P fn Q ex e1 m1 := h3
  cases ex with
  | panic v => exact ⟨.panic v, m1, w1, by rw [acall_eq]; simp only [callStep, hs, hok, cond_true, hf, hb, h1], h2, h3'⟩
  | exit i => exact h3'.elim
  | normal =>
    simp only [bodyQ] at h3'
    split at h3'
    case h_2 => exact h3'.elim
    rename_i v hv
    exact ⟨.ret v, m1, w1, by rw [acall_eq]; simp only [callStep, hs, hok, cond_true, hf, hb, h1, hv], h2, h3'⟩
  | ret =>
    simp only [bodyQ] at h3'
    split at h3'
    case h_2 => exact h3'.elim
    rename_i v hv
    exact ⟨.ret v, m1, w1, by rw [acall_eq]; simp only [callStep, hs, hok, cond_true, hf, hb, h1, hv], h2, h3'⟩

/-- A call whose contract is known. -/
theorem wcall_of (hL : SpecLoc S.spec) {g : FuncId} {args : List Value} {L0 : List Nat} {R : COut → Mem → Prop} {K : COut → Mem → List Nat → Prop} (h : Ct P S g args m L0 R) (hw : WF m) (hsub : ∀ b ∈ L0, b < base → b ∈ L)
    (hk : ∀ out m' wr, (∀ b ∈ wr, b ∈ L0) → WF m' → m.next ≤ m'.next → (∀ b, b < m.next → b ∉ L0 → m'.get b = m.get b) → (∀ b, m.get b ≠ none → m'.get b ≠ none) → R out m' → K out m' wr) :
    @WCall P S base L g args m ⟨K⟩ := by
  obtain ⟨out, m', wr, h1, h2, h3⟩ := h
  obtain ⟨hF, _⟩ := acall_loc hL _ _ _ _ _ _ h1 hw
  exact ⟨out, m', wr, h1, fun b hb hlt => hsub b (h2 b hb) hlt, hk out m' wr h2 (hF.wf hw) hF.next_le (fun b hb hn => hF.keep b (fun hx => hn (h2 b hx)) (by omega)) (fun b hb => hF.grow hb) h3⟩

end
end Go.Big
