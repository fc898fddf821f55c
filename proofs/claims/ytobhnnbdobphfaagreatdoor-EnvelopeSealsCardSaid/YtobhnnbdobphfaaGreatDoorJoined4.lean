/- A call without arguments, run once over the empty memory, is known over every memory. -/
import Derived.Test.YtobhnnbdobphfaaGreatDoorJoined3
set_option linter.unusedSimpArgs false
set_option linter.unusedVariables false
set_option linter.unusedVariables false
namespace Go.Big
open Go.RowKit

/-! ### Values moved by so many blocks -/

def sh1 (s : Nat) : Value → Value
  | .pointer (some a) => .pointer (some ⟨a.block + s, a.off, none⟩)
  | .slice (some a) n c => (match a.spot with | none => .slice (some ⟨a.block + s, a.off, none⟩) n c | some _ => .slice (some a) n c)
  | .map (some r) => .map (some (r + s))
  | v => v
def sh2 (s : Nat) : Value → Value
  | .agg cs => .agg (cs.map (sh1 s))
  | v => sh1 s v
def sh3 (s : Nat) : Value → Value
  | .tuple cs => .tuple (cs.map (sh2 s))
  | v => sh2 s v
def ok1 : Value → Bool
  | .pointer (some a) => a.spot.isNone
  | .slice (some a) _ _ => a.spot.isNone
  | .map (some _) => true
  | v => scalar v
def ok2 : Value → Bool
  | .agg cs => cs.toList.all ok1
  | v => ok1 v
def ok3 : Value → Bool
  | .tuple cs => cs.toList.all ok2
  | v => ok2 v
def shO (s : Nat) : AObj → AObj
  | .row cs k => .row (cs.map (sh1 s)) k
  | .map es c => .map (es.map fun e => { e with key := sh2 s e.key, val := sh2 s e.val }) c
  | .dead => .dead
def okO : AObj → Bool
  | .row cs k => writable k && cs.all ok1
  | .map es _ => es.all fun e => ok2 e.key && ok2 e.val
  | .dead => true

/-! ### Many blocks at once -/

def pushAll (m : Mem) : List AObj → Mem
  | [] => m
  | o :: l => pushAll (m.push o) l
theorem pushAll_next : ∀ {l : List AObj} {m : Mem}, (pushAll m l).next = m.next + l.length
  | [], m => rfl
  | o :: l, m => by rw [pushAll, pushAll_next, Mem.next_push, List.length_cons]; omega
theorem pushAll_get : ∀ {l : List AObj} {m : Mem} {b : Nat}, (pushAll m l).get b = if m.next ≤ b ∧ b < m.next + l.length then l[b - m.next]? else m.get b
  | [], m, b => by rw [if_neg (by simp <;> omega)]; rfl
  | o :: l, m, b => by
    rw [pushAll, pushAll_get, Mem.next_push, Mem.get_push]
    by_cases h1 : b = m.next
    · subst h1
      rw [if_neg (by omega), if_pos rfl, if_pos (by simp)]
      simp
    · rw [if_neg h1]
      by_cases h2 : m.next + 1 ≤ b ∧ b < m.next + 1 + l.length
      · rw [if_pos h2, if_pos (by rw [List.length_cons]; omega), show b - m.next = (b - (m.next + 1)) + 1 from by omega, List.getElem?_cons_succ]
      · rw [if_neg h2, if_neg (by rw [List.length_cons]; omega)]

def objsOf (m : Mem) : List AObj := (List.range m.next).map fun b => (m.get b).getD .dead
theorem objsOf_len {m : Mem} : (objsOf m).length = m.next := by simp [objsOf]

/-- What such a call comes to. -/
def closedG (r : Option (COut × Mem × List Nat)) : List Value → Mem → Option (COut × Mem × List Nat) := fun args m =>
  match args, r with
  | [], some (.ret v, m1, _) => some (.ret (sh3 m.next v), pushAll m ((objsOf m1).map (shO m.next)), [])
  | _, _ => none

def okRes (r : Option (COut × Mem × List Nat)) : Bool :=
  match r with
  | some (.ret v, m1, _) => ok3 v && ((objsOf m1).all okO && (List.range m1.next).all fun b => (m1.get b).isSome)
  | _ => false

theorem closedG_inv {r : Option (COut × Mem × List Nat)} {args : List Value} {m m' : Mem} {out : COut} {W : List Nat} (h : closedG r args m = some (out, m', W)) :
    ∃ v m1 w1, args = [] ∧ r = some (.ret v, m1, w1) ∧ out = .ret (sh3 m.next v) ∧ m' = pushAll m ((objsOf m1).map (shO m.next)) ∧ W = [] := by
  unfold closedG at h
  split at h
  · cases h; exact ⟨_, _, _, rfl, rfl, rfl, rfl, rfl⟩
  · cases h

def oneSpec (f : FuncId) (G : List Value → Mem → Option (COut × Mem × List Nat)) : Spec := fun g => if g = f then some G else none

theorem oneSpec_loc {f : FuncId} {r : Option (COut × Mem × List Nat)} : SpecLoc (oneSpec f (closedG r)) := by
  intro g G hG args m out m' W h hw
  unfold oneSpec at hG
  split at hG
  case isFalse => cases hG
  cases hG
  obtain ⟨v, m1, w1, rfl, rfl, rfl, rfl, rfl⟩ := closedG_inv h
  have hlen : ((objsOf m1).map (shO m.next)).length = m1.next := by rw [List.length_map, objsOf_len]
  refine ⟨⟨by rw [pushAll_next]; omega, by simp, fun b _ hb => ?_, fun b h1 h2 => ?_⟩, fun t ht he => ⟨pushAll t ((objsOf m1).map (shO m.next)), by simp [closedG, ht], by rw [pushAll_next, pushAll_next, ht], fun b hb => ?_, fun b _ hb => ?_⟩⟩
  · rw [pushAll_next] at hb
    rw [pushAll_get, if_neg hb]
  · rw [pushAll_next] at h2
    rw [pushAll_get, if_pos ⟨h1, h2⟩]
    rw [List.getElem?_eq_getElem (by omega)]
    simp
  · rcases hb with hb | hb
    · simp at hb
    · rw [pushAll_next] at hb
      rw [pushAll_get, pushAll_get, if_pos hb, ht, if_pos hb]
  · rw [pushAll_next] at hb
    rw [pushAll_get, ht, if_neg hb]

/-! ### The relation -/

section
variable {ψ1 ψ : Place} {s : Nat}
theorem sh1_rel (hs : ∀ b p, ψ1 b = some p → ψ (b + s) = some p) {v v' : Value} (h : VRel ψ1 v v') (ho : ok1 v = true) : VRel ψ (sh1 s v) v' := by
  cases h with
  | base hb => cases v <;> first | exact .base hb | (rename_i a; cases a <;> first | exact .base hb | cases hb) | (rename_i a _ _; cases a <;> first | exact .base hb | cases hb)
  | ptr h1 => exact .ptr (hs _ _ h1)
  | slice h1 h2 => exact .slice (hs _ _ h1) h2
  | dead => cases ho
  | map h1 => exact .map (hs _ _ h1)
  | iface h1 => cases ho
  | func => cases ho
  | agg => cases ho
  | tuple => cases ho
theorem sh2_rel (hs : ∀ b p, ψ1 b = some p → ψ (b + s) = some p) {v v' : Value} (h : VRel ψ1 v v') (ho : ok2 v = true) : VRel ψ (sh2 s v) v' := by
  by_cases ha : ∃ cs, v = .agg cs
  · obtain ⟨cs, rfl⟩ := ha
    cases h with
    | base hb => cases hb
    | agg h1 h2 =>
      have ho' : cs.toList.all ok1 = true := ho
      rw [List.all_eq_true] at ho'
      refine .agg (by simpa [sh2] using h1) fun i hi => ?_
      have hi' : i < cs.size := by simpa using hi
      have e : (cs.map (sh1 s)).getD i undef = sh1 s (cs.getD i undef) := by simp [hi']
      rw [e]
      exact sh1_rel hs (h2 i hi') (ho' _ (by simp [hi']))
  · have e1 : sh2 s v = sh1 s v := by cases v <;> first | rfl | exact absurd ⟨_, rfl⟩ ha
    have e2 : ok2 v = ok1 v := by cases v <;> first | rfl | exact absurd ⟨_, rfl⟩ ha
    rw [e1]; rw [e2] at ho
    exact sh1_rel hs h ho
theorem sh3_rel (hs : ∀ b p, ψ1 b = some p → ψ (b + s) = some p) {v v' : Value} (h : VRel ψ1 v v') (ho : ok3 v = true) : VRel ψ (sh3 s v) v' := by
  by_cases ha : ∃ cs, v = .tuple cs
  · obtain ⟨cs, rfl⟩ := ha
    cases h with
    | base hb => cases hb
    | tuple h1 h2 =>
      have ho' : cs.toList.all ok2 = true := ho
      rw [List.all_eq_true] at ho'
      refine .tuple (by simpa [sh3] using h1) fun i hi => ?_
      have hi' : i < cs.size := by simpa using hi
      have e : (cs.map (sh2 s)).getD i undef = sh2 s (cs.getD i undef) := by simp [hi']
      rw [e]
      exact sh2_rel hs (h2 i hi') (ho' _ (by simp [hi']))
  · have e1 : sh3 s v = sh2 s v := by cases v <;> first | rfl | exact absurd ⟨_, rfl⟩ ha
    have e2 : ok3 v = ok2 v := by cases v <;> first | rfl | exact absurd ⟨_, rfl⟩ ha
    rw [e1]; rw [e2] at ho
    exact sh2_rel hs h ho
end

theorem oneSpec_sim {P : Program} {H : Nat} {Sin : Cfg} (hmix : P.follows .mixedOrders = true) (hin : ∀ g, Sin.spec g = none) (hF : FuncsOk P Sin) {f : FuncId} {fn : Func} (hf : P.funcs[f]? = some fn) (hb : fn.body.isSome = true) (hnm : (fn.name == "runtime.NumGoroutine") = false) {fuel : Nat}
    (hok : okRes ((ev P Sin fuel).call f [] Mem.empty) = true) : SpecSim P H (oneSpec f (closedG ((ev P Sin fuel).call f [] Mem.empty))) := by
  intro g G hG args m out m' W t t' h hw htn hx h' hnone
  unfold oneSpec at hG
  split at hG
  case isFalse => cases hG
  rename_i hgf
  subst hgf
  cases hG
  obtain ⟨v, m1, w1, rfl, hr, rfl, rfl, rfl⟩ := closedG_inv h
  obtain ⟨v2, m2, w2, _, hr2, ho2, rfl, _⟩ := closedG_inv h'
  rw [hr] at hr2
  cases hr2
  clear ho2 h h'
  refine ⟨⟨fn, hf, hb, hnm⟩, fun φ w args' hS hargs => ?_⟩
  have ha : args' = #[] := by
    have := hargs.of_nil
    exact Array.toList_eq_nil_iff.1 this
  subst ha
  have hLin : SpecLoc Sin.spec := fun g G hG => by rw [hin g] at hG; cases hG
  have hSin : SpecSim P w.heap.size Sin.spec := fun g G hG => by rw [hin g] at hG; cases hG
  have hwE : WF Mem.empty := fun b _ => rfl
  have hS0 : Sim w.heap.size (fun _ => none) Mem.empty w := ⟨Nat.le_refl _, fun _ _ => rfl, fun b cs k hb => (by cases hb), fun b es c hb => (by cases hb), fun b c p q _ hb => (by rcases hb with ⟨_, _, hb, _⟩ | ⟨_, _, hb⟩ <;> cases hb)⟩
  have hrun := ev_calls (H := w.heap.size) hSin hLin hF hmix hr hwE hS0 (args' := #[]) .nil
  have hw1 : WF m1 := ((ev_loc hLin fuel).1 _ _ _ _ _ _ hr hwE).1.wf hwE
  rw [hr] at hok
  simp only [okRes, Bool.and_eq_true] at hok
  obtain ⟨hov, hoo, hsome⟩ := hok
  rw [List.all_eq_true] at hoo hsome
  refine hrun.mono fun e w' hpost => ?_
  obtain ⟨ψ1, _, hS1, hB, hE⟩ := hpost
  have hlen : ((objsOf m1).map (shO t.next)).length = m1.next := by rw [List.length_map, objsOf_len]
  -- the new blocks
  have hget : ∀ b, (pushAll t ((objsOf m1).map (shO t.next))).get b = if t.next ≤ b ∧ b < t.next + m1.next then (m1.get (b - t.next)).map (shO t.next) else t.get b := fun b => by
    rw [pushAll_get, hlen]
    by_cases hb : t.next ≤ b ∧ b < t.next + m1.next
    · rw [if_pos hb, if_pos hb]
      have hlt : b - t.next < m1.next := by omega
      have hsm := hsome (b - t.next) (by simpa using hlt)
      rw [Option.isSome_iff_exists] at hsm
      obtain ⟨o, ho⟩ := hsm
      simp [objsOf, hlt, ho]
    · rw [if_neg hb, if_neg hb]
  have htnew : ∀ b, t.next ≤ b → b < t.next + m1.next → t.get b = none := fun b h1 h2 => hnone b (by omega) (by rw [pushAll_next, List.length_map, objsOf_len]; omega)
  let ψ : Place := fun b => match φ b with | some p => some p | none => if t.next ≤ b then ψ1 (b - t.next) else none
  have hle : φ.le ψ := fun b p hb => by simp only [ψ, hb]
  have hψ1none : ∀ i, m1.next ≤ i → ψ1 i = none := fun i hi => hS1.none_ i (hw1 i hi)
  have hφnew : ∀ b, t.next ≤ b → b < t.next + m1.next → φ b = none := fun b h1 h2 => hS.none_ b (htnew b h1 h2)
  have hsh : ∀ b p, ψ1 b = some p → ψ (b + t.next) = some p := fun b p hb => by
    have hlt : b < m1.next := by
      rcases Nat.lt_or_ge b m1.next with h1 | h1
      · exact h1
      · rw [hψ1none b h1] at hb; cases hb
    simp only [ψ, hφnew (b + t.next) (by omega) (by omega)]
    rw [if_pos (by omega), Nat.add_sub_cancel]
    exact hb
  have hblk : ∀ k, k < w.heap.size → w'.heap[k]? = w.heap[k]? := hB.block
  have hcell : ∀ a : Addr, a.block < w.heap.size → w'.cell? a = w.cell? a := fun a ha => World.cell?_of_block (w := w) (hblk a.block ha)
  have hobj : ∀ i o, m1.get i = some o → okO o = true := fun i o hi => by
    have hlt : i < m1.next := hw1.lt (by rw [hi]; simp)
    exact hoo o (by rw [objsOf, List.mem_map]; exact ⟨i, by simpa using hlt, by rw [hi]; rfl⟩)
  have hnewψ : ∀ b, t.next ≤ b → b < t.next + m1.next → ψ b = ψ1 (b - t.next) := fun b h1 h2 => by
    simp only [ψ, hφnew b h1 h2]
    rw [if_pos h1]
  have holdψ : ∀ b, ¬ (t.next ≤ b ∧ b < t.next + m1.next) → t.get b ≠ none → ∃ p, φ b = some p ∨ True := fun b _ _ => ⟨⟨0, 0, 0, 0, none⟩, .inr trivial⟩
  refine ⟨ψ, hle, ?_, ⟨hB.os, hB.tape, hB.output, hB.size, fun k hk => hblk k (by have := hS.low; omega)⟩, ?_⟩
  · refine ⟨by have := hS.low; have := hB.size; omega, fun b hb => ?_, fun b cs k hb => ?_, fun b es c hb => ?_, fun b c p q hbc hb hc hp hq => ?_⟩
    · rw [hget] at hb
      by_cases hn : t.next ≤ b ∧ b < t.next + m1.next
      · rw [if_pos hn] at hb
        rw [hnewψ b hn.1 hn.2]
        cases hm : m1.get (b - t.next) with
        | none => exact hS1.none_ _ hm
        | some o => rw [hm] at hb; cases hb
      · rw [if_neg hn] at hb
        have h0 := hS.none_ b hb
        simp only [ψ, h0]
        split
        · exact hψ1none _ (by omega)
        · rfl
    · rw [hget] at hb
      by_cases hn : t.next ≤ b ∧ b < t.next + m1.next
      · rw [if_pos hn] at hb
        cases hm : m1.get (b - t.next) with
        | none => rw [hm] at hb; cases hb
        | some o =>
          rw [hm] at hb
          cases o with
          | row cs1 k1 =>
            simp only [Option.map_some, shO, Option.some.injEq, AObj.row.injEq] at hb
            obtain ⟨rfl, rfl⟩ := hb
            obtain ⟨p, hp, hr1⟩ := hS1.row _ _ _ hm
            have hok1 := hobj _ _ hm
            simp only [okO, Bool.and_eq_true] at hok1
            refine ⟨p, by rw [hnewψ b hn.1 hn.2]; exact hp, by rw [List.length_map]; exact hr1.len, by rw [List.length_map]; exact hr1.lim, ?_, fun i x hx => ?_, fun hk => ⟨by have := (hr1.own hk).1; have := hS.low; omega, (hr1.own hk).2⟩, fun hk => by rw [hok1.1] at hk; cases hk⟩
            · have := hr1.kind
              cases k1 with
              | slack s => exact this
              | ro => rw [List.length_map]; exact this
              | rw => rw [List.length_map]; exact this
            · rw [List.getElem?_map] at hx
              cases hy : cs1[i]? with
              | none => rw [hy] at hx; cases hx
              | some y =>
                rw [hy] at hx
                cases hx
                obtain ⟨v', h1, h2⟩ := hr1.cells i y hy
                exact ⟨v', h1, sh1_rel hsh h2 (List.all_eq_true.1 hok1.2 y (List.mem_of_getElem? hy))⟩
          | map es1 c1 => simp [shO] at hb
          | dead => simp [shO] at hb
      · rw [if_neg hn] at hb
        obtain ⟨p, hp, hr1⟩ := hS.row b cs k hb
        refine ⟨p, hle _ _ hp, hr1.len, hr1.lim, hr1.kind, fun i x hx => ?_, fun hk => ⟨(hr1.own hk).1, ?_⟩, hr1.old⟩
        · obtain ⟨v', h1, h2⟩ := hr1.cells i x hx
          exact ⟨v', by rw [hcell _ (World.block_lt_of_cell? w _ h1)]; exact h1, h2.mono hle⟩
        · have := (hr1.own hk).2
          unfold OwnAt at this ⊢
          rw [hblk _ (OwnAt.lt this)]; exact this
    · rw [hget] at hb
      by_cases hn : t.next ≤ b ∧ b < t.next + m1.next
      · rw [if_pos hn] at hb
        cases hm : m1.get (b - t.next) with
        | none => rw [hm] at hb; cases hb
        | some o =>
          rw [hm] at hb
          cases o with
          | row cs1 k1 => simp [shO] at hb
          | dead => simp [shO] at hb
          | map es1 c1 =>
            simp only [Option.map_some, shO, Option.some.injEq, AObj.map.injEq] at hb
            obtain ⟨rfl, rfl⟩ := hb
            obtain ⟨p, hp, hr1⟩ := hS1.map _ _ _ hm
            have hok1 := hobj _ _ hm
            simp only [okO] at hok1
            rw [List.all_eq_true] at hok1
            obtain ⟨es', ho, hmr⟩ := hr1.obj
            refine ⟨p, by rw [hnewψ b hn.1 hn.2]; exact hp, hr1.zero, by have := hr1.own; have := hS.low; omega, es', ho, by rw [List.length_map]; exact hmr.1, fun i x x' hx hx' => ?_⟩
            rw [List.getElem?_map] at hx
            cases hy : es1[i]? with
            | none => rw [hy] at hx; cases hx
            | some y =>
              rw [hy] at hx
              cases hx
              have h3 := hmr.2 i y x' hy hx'
              have h4 := hok1 y (List.mem_of_getElem? hy)
              rw [Bool.and_eq_true] at h4
              exact ⟨sh2_rel hsh h3.1 h4.1, sh2_rel hsh h3.2.1 h4.2, h3.2.2⟩
      · rw [if_neg hn] at hb
        obtain ⟨p, hp, hr1⟩ := hS.map b es c hb
        have hlt := (hS.blk_lt (.inr ⟨es, c, hb⟩) hp).1
        obtain ⟨es', ho, hmr⟩ := hr1.obj
        exact ⟨p, hle _ _ hp, hr1.zero, hr1.own, es', by rw [hblk _ hlt]; exact ho, hmr.mono hle⟩
    · -- apart
      have cls : ∀ b p, live (pushAll t ((objsOf m1).map (shO t.next))) b → ψ b = some p → (t.next ≤ b ∧ b < t.next + m1.next ∧ live m1 (b - t.next) ∧ ψ1 (b - t.next) = some p) ∨ (¬ (t.next ≤ b ∧ b < t.next + m1.next) ∧ live t b ∧ φ b = some p) := fun b p hb hp => by
        by_cases hn : t.next ≤ b ∧ b < t.next + m1.next
        · left
          refine ⟨hn.1, hn.2, ?_, by rw [← hnewψ b hn.1 hn.2]; exact hp⟩
          unfold live at hb ⊢
          rw [hget, if_pos hn] at hb
          cases hm : m1.get (b - t.next) with
          | none => rw [hm] at hb; simp at hb
          | some o =>
            rw [hm] at hb
            cases o with
            | row cs1 k1 =>
              simp [shO] at hb ⊢
              obtain ⟨cs, k, ⟨_, rfl⟩, hk⟩ := hb
              exact ⟨cs1, k1, ⟨rfl, rfl⟩, hk⟩
            | map es1 c1 => simp
            | dead => simp [shO] at hb
        · right
          have hl : live t b := by unfold live at hb ⊢; rw [hget, if_neg hn] at hb; exact hb
          refine ⟨hn, hl, ?_⟩
          have hne : ∃ q, φ b = some q := by
            rcases hl with ⟨cs, k, hg, _⟩ | ⟨es, c, hg⟩
            · obtain ⟨q, hq, _⟩ := hS.row _ _ _ hg; exact ⟨q, hq⟩
            · obtain ⟨q, hq, _⟩ := hS.map _ _ _ hg; exact ⟨q, hq⟩
          obtain ⟨q, hq⟩ := hne
          simp only [ψ, hq] at hp
          rw [hq]; exact hp
      rcases cls b p hb hp with ⟨b1, b2, b3, b4⟩ | ⟨b1, b2, b3⟩ <;> rcases cls c q hc hq with ⟨c1, c2, c3, c4⟩ | ⟨c1, c2, c3⟩
      · exact hS1.apart _ _ _ _ (by omega) b3 c3 b4 c4
      · left
        have h1 := (hS1.blk_lt b3 b4).2
        have h2 := (hS.blk_lt c2 c3).1
        omega
      · left
        have h1 := (hS1.blk_lt c3 c4).2
        have h2 := (hS.blk_lt b2 b3).1
        omega
      · exact hS.apart _ _ _ _ hbc b2 c2 b3 c3
  · obtain ⟨v', rfl, hv⟩ := hE
    exact ⟨v', rfl, by rw [← htn]; exact sh3_rel hsh hv hov⟩

end Go.Big

/- What each operation comes to, by the values of its operands. -/
namespace Go.Big

section
variable {P : Program} {ρ : Operand → Value} {m : Mem} {d : Option Nat} {ty : TypeId} {ps : String} {af : Array Edge} {g : Option (Nat × Bool)}

/-! ### Facts of the table of types, in small -/

def ldk (P : Program) (t : TypeId) : Option (Option Nat) :=
  match P.underlying t, szOf P t with
  | some d, some n => some (bif isAggD d then some n else none)
  | _, _ => none

def fldOff (P : Program) (t : TypeId) (f : Nat) : Option Nat :=
  match P.underlying t with
  | some (.struct fs) => (match fs[f]? with
    | some fd => (match szOf P fd.type with | some (_ + 1) => some fd.offset | _ => none)
    | none => none)
  | _ => none

def idxSl (P : Program) (t : TypeId) : Option Nat :=
  match P.underlying t with
  | some (.slice elem) => szOf P elem
  | _ => none

def idxArr (P : Program) (t : TypeId) : Option (Nat × Nat) :=
  match P.underlying t with
  | some (.array len elem) => (szOf P elem).map fun s => (len, s)
  | _ => none

def arrSl (P : Program) (t : TypeId) : Option (Nat × Nat) :=
  match arrOf P t with
  | some (n, e) => (szOf P e).map fun s => (n, s)
  | none => none

def allocs (P : Program) (t : TypeId) : Option (List Value) :=
  match (P.info? t).bind (·.zero) with
  | some z => bif z.cells.toList.all scalar then some z.cells.toList else none
  | none => none

def tyTag (P : Program) (t : TypeId) : Nat :=
  match P.underlying t with
  | some (.pointer _) => 1
  | some (.slice _) => 2
  | some (.map _ _) => 3
  | some (.func _ _ _) => 4
  | some (.interface _) => 5
  | some .string => 6
  | some (.int .u8) => 8
  | some (.int _) => 7
  | some .bool => 9
  | some _ => 10
  | none => 0

/-! ### The operations -/

theorem aop_move {x : Operand} : aop P ρ ⟨d, .move x, ty, ps, af, g⟩ m = some (ρ x, m, [], .no) := id rfl
theorem aop_assign {x : Operand} : aop P ρ ⟨d, .assign x, ty, ps, af, g⟩ m = some (ρ x, m, [], .no) := id rfl

def apick (c a b : Value) (m : Mem) : Res := match c with | .bool t => some (bif t then a else b, m, [], .no) | _ => none
theorem aop_pick {c a b : Operand} : aop P ρ ⟨d, .pick c a b, ty, ps, af, g⟩ m = apick (ρ c) (ρ a) (ρ b) m := by
  simp only [aop]
  cases ρ c <;> rfl
theorem apick_bool {t : Bool} {a b : Value} : apick (.bool t) a b m = some (bif t then a else b, m, [], .no) := id rfl
theorem bif_bool {t a b : Bool} : (bif t then Value.bool a else Value.bool b) = Value.bool (bif t then a else b) := by cases t <;> rfl

def aalloc (zs : Option (List Value)) (m : Mem) : Res := match zs with | some zs => some (.pointer (some ⟨m.next, 0, none⟩), m.push (.row zs .rw), [], .no) | none => none
theorem scalar_one {v : Value} (h : scalar v = true) : oneCell v = true := by cases v <;> simp_all [scalar, oneCell]
theorem scalars_one {l : List Value} (h : l.all scalar = true) : l.all oneCell = true := by
  rw [List.all_eq_true] at h ⊢
  exact fun x hx => scalar_one (h x hx)
theorem aop_alloc {t : TypeId} : aop P ρ ⟨d, .alloc t, ty, ps, af, g⟩ m = aalloc (allocs P t) m := by
  unfold aalloc allocs
  simp only [aop]
  cases (P.info? t).bind (·.zero) with
  | none => rfl
  | some z =>
    simp only
    cases hs : z.cells.toList.all scalar with
    | false => rfl
    | true => simp only [cond_true, newCells, scalars_one hs]; rfl
theorem aalloc_some {zs : List Value} : aalloc (some zs) m = some (.pointer (some ⟨m.next, 0, none⟩), m.push (.row zs .rw), [], .no) := id rfl

def abox (v : Value) (m : Mem) : Res := bif v.cells.toList.all oneCell then some (.pointer (some ⟨m.next, 0, none⟩), m.push (.row v.cells.toList .rw), [], .no) else none
theorem aop_box {t : TypeId} {x : Operand} : aop P ρ ⟨d, .box t x, ty, ps, af, g⟩ m = abox (ρ x) m := by
  unfold abox
  simp only [aop, newCells]
  cases (ρ x).cells.toList.all oneCell <;> rfl
theorem abox_agg {cs : Array Value} : abox (.agg cs) m = bif cs.toList.all oneCell then some (.pointer (some ⟨m.next, 0, none⟩), m.push (.row cs.toList .rw), [], .no) else none := id rfl

def abuildR (P : Program) (t : TypeId) (parts : List (Nat × Value)) (m : Mem) : Res := pv m (abuild P t parts)
theorem aop_build {t : TypeId} {pt : Array (Nat × Operand)} : aop P ρ ⟨d, .build t pt, ty, ps, af, g⟩ m = abuildR P t (pt.toList.map fun p => (p.1, ρ p.2)) m := id rfl
def abuildSliceR (P : Program) (t : TypeId) (n : Nat) (parts : List (Nat × Value)) (m : Mem) : Res := pm (abuildSlice P t n parts m)
theorem aop_buildSlice {t : TypeId} {n : Nat} {pt : Array (Nat × Operand)} : aop P ρ ⟨d, .buildSlice t n pt, ty, ps, af, g⟩ m = abuildSliceR P t n (pt.toList.map fun p => (p.1, ρ p.2)) m := id rfl

def aloadV (P : Program) (t : TypeId) (x : Value) (m : Mem) : Res := match x with | .pointer (some a) => (aload P t a m).map (fun v => (v, m, [], .one a.block)) | _ => none
theorem aop_load {t : TypeId} {x : Operand} : aop P ρ ⟨d, .load t x, ty, ps, af, g⟩ m = aloadV P t (ρ x) m := by
  simp only [aop]
  cases ρ x with
  | pointer a => cases a <;> rfl
  | _ => rfl

def loadRow (k : Option (Option Nat)) (o : Option AObj) (off : Nat) : Option Value :=
  match k, o with
  | some none, some (.row cs _) => cell1 cs off
  | some (some n), some (.row cs _) => (loadN cs off n).map fun l => .agg l.toArray
  | _, _ => none
theorem aload_row {t : TypeId} {b off : Nat} : aload P t ⟨b, off, none⟩ m = loadRow (ldk P t) (m.get b) off := by
  unfold aload loadRow ldk
  have e1 : (⟨b, off, none⟩ : Addr).spot = none := rfl
  have e2 : (⟨b, off, none⟩ : Addr).block = b := rfl
  have e3 : (⟨b, off, none⟩ : Addr).off = off := rfl
  rw [e1, e2, e3]
  cases P.underlying t with
  | none =>
    cases m.get b with
    | none => rfl
    | some o => cases o <;> rfl
  | some dd =>
    cases szOf P t with
    | none =>
      cases m.get b with
      | none => rfl
      | some o => cases o <;> rfl
    | some n =>
      cases m.get b with
      | none => cases hd : isAggD dd <;> simp [hd]
      | some o => cases o <;> cases hd : isAggD dd <;> simp [hd]
theorem aloadV_ptr {t : TypeId} {b off : Nat} : aloadV P t (.pointer (some ⟨b, off, none⟩)) m = (loadRow (ldk P t) (m.get b) off).map (fun v => (v, m, [], .one b)) := by
  unfold aloadV
  rw [← aload_row]
theorem loadRow_one {cs : List Value} {k : Kind} {off : Nat} : loadRow (some none) (some (.row cs k)) off = (cs.drop off).head? := id rfl
theorem loadRow_agg {cs : List Value} {k : Kind} {off n : Nat} : loadRow (some (some n)) (some (.row cs k)) off = (loadN cs off n).map fun l => .agg l.toArray := id rfl
theorem loadN_all {cs : List Value} {n : Nat} (h : cs.length = n) : loadN cs 0 n = some cs := by
  unfold loadN
  subst h
  simp

def astoreV (P : Program) (t : TypeId) (x v : Value) (m : Mem) : Res := match x with | .pointer (some a) => (astore P t a v m).map (fun m' => (undef, m', [a.block], .one a.block)) | _ => none
theorem aop_store {t : TypeId} {x y : Operand} : aop P ρ ⟨d, .store t x y, ty, ps, af, g⟩ m = astoreV P t (ρ x) (ρ y) m := by
  simp only [aop]
  cases ρ x with
  | pointer a => cases a <;> rfl
  | _ => rfl

def storeRow (o : Option AObj) (b off : Nat) (vs : List Value) (m : Mem) : Res :=
  match o with
  | some (.row cs k) => bif writable k && vs.all oneCell then (storeN cs off vs).map (fun cs' => (undef, m.set b (.row cs' k), [b], .one b)) else none
  | _ => none
theorem astoreV_ptr {t : TypeId} {b off : Nat} {v : Value} : astoreV P t (.pointer (some ⟨b, off, none⟩)) v m = match szOf P t with | some n => bif Nat.beq v.cells.size n then storeRow (m.get b) b off v.cells.toList m else none | none => none := by
  simp only [astoreV, astore]
  cases szOf P t with
  | none => rfl
  | some n =>
    simp only
    cases Nat.beq v.cells.size n with
    | false => rfl
    | true =>
      simp only [cond_true, putCells, storeRow]
      cases m.get b with
      | none => rfl
      | some o =>
        cases o with
        | row cs k =>
          simp only
          cases writable k && v.cells.toList.all oneCell with
          | false => rfl
          | true => simp only [cond_true, Option.map_map]; rfl
        | _ => rfl
theorem storeRow_row {cs : List Value} {k : Kind} {b off : Nat} {vs : List Value} (hk : writable k = true) (hv : vs.all oneCell = true) (hl : off + vs.length ≤ cs.length) :
    storeRow (some (.row cs k)) b off vs m = some (undef, m.set b (.row (cs.take off ++ vs ++ cs.drop (off + vs.length)) k), [b], .one b) := by
  simp [storeRow, hk, hv, storeN, ble_dec, hl]
theorem storeRow_one {cs : List Value} {k : Kind} {b off : Nat} {v : Value} : storeRow (some (.row cs k)) b off [v] m = if writable k = true ∧ oneCell v = true ∧ off < cs.length then some (undef, m.set b (.row (cs.set off v) k), [b], .one b) else none := by
  simp only [storeRow, storeN, ble_dec, cond_eq_ite, List.all_cons, List.all_nil, Bool.and_true, Bool.and_eq_true, List.length_cons, List.length_nil, Nat.zero_add]
  by_cases h1 : writable k = true
  · by_cases h2 : oneCell v = true
    · by_cases h3 : off < cs.length
      · have h4 : off + 1 ≤ cs.length := h3
        simp [h1, h2, h3, h4, List.set_eq_take_append_cons_drop]
      · have h4 : ¬ off + 1 ≤ cs.length := h3
        simp [h1, h2, h3, h4]
    · simp [h1, h2]
  · simp [h1]

def anil (x : Value) (m : Mem) : Res := match x with | .pointer (some a) => some (.pointer (some a), m, [], .no) | .func (.func f) a b => some (.func (.func f) a b, m, [], .no) | _ => none
theorem aop_nilCheck {x : Operand} : aop P ρ ⟨d, .nilCheck x, ty, ps, af, g⟩ m = anil (ρ x) m := by
  simp only [aop]
  cases ρ x with
  | pointer a => cases a <;> rfl
  | func f a b => cases f <;> rfl
  | _ => rfl
theorem anil_ptr {a : Addr} : anil (.pointer (some a)) m = some (.pointer (some a), m, [], .no) := id rfl
def afld (P : Program) (t : TypeId) (x : Value) (f : Nat) (m : Mem) : Res := pv m (afieldAddr P t x f)
theorem aop_fieldAddr {t : TypeId} {x : Operand} {f : Nat} : aop P ρ ⟨d, .fieldAddr t x f, ty, ps, af, g⟩ m = afld P t (ρ x) f m := id rfl
theorem afld_ptr {t : TypeId} {b off f : Nat} : afld P t (.pointer (some ⟨b, off, none⟩)) f m = match fldOff P t f with | some o => some (.pointer (some ⟨b, off + o, none⟩), m, [], .no) | none => none := by
  unfold afld afieldAddr fldOff
  cases P.underlying t with
  | none => rfl
  | some dd =>
    cases dd with
    | struct fs =>
      simp only
      cases fs[f]? with
      | none => rfl
      | some fd =>
        simp only
        cases szOf P fd.type with
        | none => rfl
        | some n =>
          cases n with
          | zero => rfl
          | succ n => simp [pv, addr_add]
    | _ => rfl

def aidxA (P : Program) (t : TypeId) (x ix : Value) (m : Mem) : Res := pv m (aindexAddr P t x ix)
theorem aop_indexAddr {t : TypeId} {x y : Operand} : aop P ρ ⟨d, .indexAddr t x y, ty, ps, af, g⟩ m = aidxA P t (ρ x) (ρ y) m := id rfl
theorem aidxA_slice {t : TypeId} {b off len cap : Nat} {k : IntKind} {i : Nat} : aidxA P t (.slice (some ⟨b, off, none⟩) len cap) (.int k (i : Int)) m =
    match idxSl P t with | some s => if i < len then some (.pointer (some ⟨b, off + i * s, none⟩), m, [], .no) else none | none => none := by
  unfold aidxA aindexAddr idxSl
  have hn : natOf (.int k (i : Int)) = some i := rfl
  rw [hn]
  cases P.underlying t with
  | none => rfl
  | some dd =>
    cases dd with
    | slice e =>
      simp only
      cases szOf P e with
      | none => rfl
      | some s =>
        simp only [cond_eq_ite, blt_dec, decide_eq_true_eq]
        split <;> simp [pv, addr_add]
    | _ => rfl
theorem aidxA_arr {t : TypeId} {b off : Nat} {k : IntKind} {i : Nat} : aidxA P t (.pointer (some ⟨b, off, none⟩)) (.int k (i : Int)) m =
    match idxArr P t with | some (len, s) => if i < len then some (.pointer (some ⟨b, off + i * s, none⟩), m, [], .no) else none | none => none := by
  unfold aidxA aindexAddr idxArr
  have hn : natOf (.int k (i : Int)) = some i := rfl
  rw [hn]
  cases P.underlying t with
  | none => rfl
  | some dd =>
    cases dd with
    | array len e =>
      simp only
      cases szOf P e with
      | none => rfl
      | some s =>
        simp only [cond_eq_ite, blt_dec, decide_eq_true_eq, Option.map_some]
        split <;> simp [pv, addr_add]
    | _ => rfl

/-! ### Operations with two operands -/

theorem ev0_bind {α β : Type} (s : Sem α) (f : α → Sem β) : eval0 P (s >>= f) = (eval0 P s).bind fun a => eval0 P (f a) := by
  induction s with
  | pure a => rfl
  | program k ih => exact ih P
  | _ => rfl
theorem ev0_pure {α : Type} (a : α) : eval0 P (pure a : Sem α) = some a := id rfl
theorem ev0_under {t : TypeId} {dd : TypeDesc} (h : P.underlying t = some dd) : eval0 P (underlying t) = some dd := by
  unfold underlying
  rw [ev0_bind, show eval0 P program = some P from rfl]
  simp only [Option.bind_some, h]
  rfl

def guardEq (P : Program) (op : BinOp) (t : TypeId) (vx vy : Value) : Bool := match op, P.underlying t with | .eql, some d | .neq, some d => notNil d vx vy | _, _ => false

theorem guardEq_of {op : BinOp} {t : TypeId} {vx vy : Value} (h : ∀ dd, notNil dd vx vy = false) : guardEq P op t vx vy = false := by
  unfold guardEq
  split <;> first | exact h _ | rfl

def abin (P : Program) (op : BinOp) (t : TypeId) (x y : Operand) (vx vy : Value) (m : Mem) : Res :=
  bif guardEq P op t vx vy then some (.bool (match op with | .eql => false | _ => true), m, [], .no)
  else pv m (bif plain vx && plain vy then (match eval0 P (do eqGuard op t x y vx vy; binOp op t vx vy) with | some v => bif plain v then some v else none | none => none) else none)

theorem aop_binOp {op : BinOp} {t u : TypeId} {x y : Operand} : aop P ρ ⟨d, .binOp op t x y u, ty, ps, af, g⟩ m = abin P op t x y (ρ x) (ρ y) m := by
  have ho : (Op.binOp op t x y u).operands = #[x, y] := rfl
  have hp : pureOp P ρ ⟨d, .binOp op t x y u, ty, ps, af, g⟩ = (bif plain (ρ x) && plain (ρ y) then (match eval0 P (do eqGuard op t x y (ρ x) (ρ y); binOp op t (ρ x) (ρ y)) with | some v => bif plain v then some v else none | none => none) else none) := by
    simp only [pureOp, ho, List.all_cons, List.all_nil, Bool.and_true]
    cases plain (ρ x) && plain (ρ y) with
    | false => rfl
    | true =>
      simp only [cond_true, execOp]
      simp only [ev0_bind]
      cases eval0 P (eqGuard op t x y (ρ x) (ρ y)) with
      | none => rfl
      | some _ =>
        simp only [Option.bind_some]
        cases eval0 P (binOp op t (ρ x) (ρ y)) <;> rfl
  unfold abin
  rw [← hp]
  rfl

def binI (op : BinOp) (k : IntKind) (a b : Int) : Option Value :=
  match op with
  | .add => some (.int k (k.wrap (a + b)))
  | .sub => some (.int k (k.wrap (a - b)))
  | .mul => some (.int k (k.wrap (a * b)))
  | .quo => if b = 0 then none else some (.int k (k.wrap (a.tdiv b)))
  | .rem => if b = 0 then none else some (.int k (a.tmod b))
  | .and => some (.int k (k.wrap (BitVec.ofInt k.bits a &&& BitVec.ofInt k.bits b).toNat))
  | .or => some (.int k (k.wrap (BitVec.ofInt k.bits a ||| BitVec.ofInt k.bits b).toNat))
  | .xor => some (.int k (k.wrap (BitVec.ofInt k.bits a ^^^ BitVec.ofInt k.bits b).toNat))
  | .eql => some (.bool (a == b))
  | .neq => some (.bool (a != b))
  | .lss => some (.bool (decide (a < b)))
  | .leq => some (.bool (decide (a ≤ b)))
  | .gtr => some (.bool (decide (a > b)))
  | .geq => some (.bool (decide (a ≥ b)))
  | _ => none

theorem eqGuard_int {op : BinOp} {t : TypeId} {x y : Operand} {k k' : IntKind} {a b : Int} : eval0 P (eqGuard op t x y (.int k a) (.int k' b)) = some () := by
  unfold eqGuard
  cases op <;> rfl
theorem eqGuard_str {op : BinOp} {t : TypeId} {x y : Operand} {a b : ByteArray} : eval0 P (eqGuard op t x y (.string a) (.string b)) = some () := by
  unfold eqGuard
  cases op <;> rfl

theorem abin_int {op : BinOp} {t : TypeId} {x y : Operand} {k : IntKind} {a b : Int} (h1 : op ≠ .shl) (h2 : op ≠ .shr) (h3 : op ≠ .andNot) : abin P op t x y (.int k a) (.int k b) m = (binI op k a b).map fun v => (v, m, [], .no) := by
  unfold abin
  rw [guardEq_of (fun dd => by cases dd <;> rfl)]
  simp only [cond_false, show plain (.int k a) = true from rfl, show plain (.int k b) = true from rfl, Bool.and_self, cond_true, ev0_bind, eqGuard_int, Option.bind_some]
  cases op <;> first | exact absurd rfl h1 | exact absurd rfl h2 | exact absurd rfl h3 | skip
  all_goals simp only [Go.binOp, ne_eq, not_true_eq_false, if_false, Op.intArith, Op.intDiv, Op.intBits, Op.intCmp, binI]
  all_goals first | rfl | skip
  all_goals by_cases hb : b = 0
  all_goals simp only [hb, if_true, if_false]
  all_goals rfl

def shiftI (op : BinOp) (k : IntKind) (a b : Int) : Option Value :=
  if b < 0 then none else match op with
  | .shl => some (.int k (k.wrap (a * 2 ^ (min b.toNat k.bits))))
  | _ => some (.int k (a.fdiv (2 ^ (min b.toNat k.bits))))

theorem abin_shift {op : BinOp} {t : TypeId} {x y : Operand} {k k' : IntKind} {a b : Int} (h : op = .shl ∨ op = .shr) : abin P op t x y (.int k a) (.int k' b) m = (shiftI op k a b).map fun v => (v, m, [], .no) := by
  unfold abin
  rw [guardEq_of (fun dd => by cases dd <;> rfl)]
  simp only [cond_false, show plain (.int k a) = true from rfl, show plain (.int k' b) = true from rfl, Bool.and_self, cond_true, ev0_bind, eqGuard_int, Option.bind_some]
  rcases h with rfl | rfl
  all_goals simp only [Go.binOp, Op.shift, shiftI]
  all_goals by_cases hb : b < 0
  all_goals simp only [hb, if_true, if_false]
  all_goals rfl

def binS (op : BinOp) (a b : ByteArray) : Option Value :=
  match op with
  | .add => if ((a.size + b.size : Nat) : Int) > IntKind.i64.max then none else some (.string (a ++ b))
  | .eql => some (.bool (a.toList == b.toList))
  | .neq => some (.bool !(a.toList == b.toList))
  | .lss => some (.bool (Op.bytesLess a.toList b.toList))
  | .leq => some (.bool (Op.bytesLess a.toList b.toList || a.toList == b.toList))
  | .gtr => some (.bool !(Op.bytesLess a.toList b.toList || a.toList == b.toList))
  | .geq => some (.bool !(Op.bytesLess a.toList b.toList))
  | _ => none

theorem abin_str {op : BinOp} {t : TypeId} {x y : Operand} {a b : ByteArray} : abin P op t x y (.string a) (.string b) m = (binS op a b).map fun v => (v, m, [], .no) := by
  unfold abin
  rw [guardEq_of (fun dd => by cases dd <;> rfl)]
  simp only [cond_false, show plain (.string a) = true from rfl, show plain (.string b) = true from rfl, Bool.and_self, cond_true, ev0_bind, eqGuard_str, Option.bind_some]
  cases op
  all_goals simp only [Go.binOp, Op.stringOp, binS]
  all_goals first | rfl | skip
  by_cases hb : ((a.size + b.size : Nat) : Int) > IntKind.i64.max
  all_goals simp only [hb, if_true, if_false]
  all_goals rfl

theorem abin_eq_notNil {op : BinOp} {t : TypeId} {x y : Operand} {vx vy : Value} (hop : op = .eql ∨ op = .neq) (h : ∃ dd, P.underlying t = some dd ∧ notNil dd vx vy = true) :
    abin P op t x y vx vy m = some (.bool (op == .neq), m, [], .no) := by
  obtain ⟨dd, h1, h2⟩ := h
  unfold abin
  rcases hop with rfl | rfl <;> simp only [guardEq, h1, h2, cond_true] <;> rfl

theorem tyTag_ptr {t : TypeId} (h : tyTag P t = 1) : ∃ e, P.underlying t = some (.pointer e) := by
  unfold tyTag at h; split at h <;> first | exact ⟨_, by assumption⟩ | omega
theorem tyTag_slice {t : TypeId} (h : tyTag P t = 2) : ∃ e, P.underlying t = some (.slice e) := by
  unfold tyTag at h; split at h <;> first | exact ⟨_, by assumption⟩ | omega
theorem tyTag_map {t : TypeId} (h : tyTag P t = 3) : ∃ k e, P.underlying t = some (.map k e) := by
  unfold tyTag at h; split at h <;> first | exact ⟨_, _, by assumption⟩ | omega

theorem abin_ptr_nil {op : BinOp} {t : TypeId} {x y : Operand} {a : Addr} (ht : tyTag P t = 1) (hop : op = .eql ∨ op = .neq) : abin P op t x y (.pointer (some a)) (.pointer none) m = some (.bool (op == .neq), m, [], .no) := by
  obtain ⟨e, he⟩ := tyTag_ptr ht
  exact abin_eq_notNil hop ⟨_, he, rfl⟩
theorem abin_slice_nil {op : BinOp} {t : TypeId} {x y : Operand} {a : Addr} {n c n' c' : Nat} (ht : tyTag P t = 2) (hop : op = .eql ∨ op = .neq) : abin P op t x y (.slice (some a) n c) (.slice none n' c') m = some (.bool (op == .neq), m, [], .no) := by
  obtain ⟨e, he⟩ := tyTag_slice ht
  exact abin_eq_notNil hop ⟨_, he, rfl⟩
theorem abin_map_nil {op : BinOp} {t : TypeId} {x y : Operand} {a : Nat} (ht : tyTag P t = 3) (hop : op = .eql ∨ op = .neq) : abin P op t x y (.map (some a)) (.map none) m = some (.bool (op == .neq), m, [], .no) := by
  obtain ⟨k, e, he⟩ := tyTag_map ht
  exact abin_eq_notNil hop ⟨_, he, rfl⟩

theorem abin_nil_nil {op : BinOp} {t : TypeId} {x y : Operand} (ht : tyTag P t = 1) (hop : op = .eql ∨ op = .neq) : abin P op t x y (.pointer none) (.pointer none) m = some (.bool (op == .eql), m, [], .no) := by
  obtain ⟨e, he⟩ := tyTag_ptr ht
  unfold abin
  have heq : eval0 P (Op.equal t (.pointer none) (.pointer none)) = some true := by
    unfold Op.equal Op.maxDepth
    rw [Op.equalIn, ev0_bind, ev0_under he]
    rfl
  have hg : eval0 P (eqGuard op t x y (.pointer none) (.pointer none)) = some () := by
    unfold eqGuard
    rcases hop with rfl | rfl <;> rfl
  rw [guardEq_of (fun dd => by cases dd <;> rfl)]
  simp only [cond_false, show plain (.pointer none) = true from rfl, Bool.and_self, cond_true, ev0_bind, hg, Option.bind_some]
  rcases hop with rfl | rfl <;> simp only [Go.binOp, ev0_bind, heq, Option.bind_some, ev0_pure] <;> rfl

theorem abin_sl_nil_nil {op : BinOp} {t : TypeId} {x y : Operand} {n c n' c' : Nat} (ht : tyTag P t = 2) (hop : op = .eql ∨ op = .neq) : abin P op t x y (.slice none n c) (.slice none n' c') m = some (.bool (op == .eql), m, [], .no) := by
  obtain ⟨e, he⟩ := tyTag_slice ht
  unfold abin
  have heq : eval0 P (Op.equal t (.slice none n c) (.slice none n' c')) = some true := by
    unfold Op.equal Op.maxDepth
    rw [Op.equalIn, ev0_bind, ev0_under he]
    rfl
  have hg : eval0 P (eqGuard op t x y (.slice none n c) (.slice none n' c')) = some () := by
    unfold eqGuard
    rcases hop with rfl | rfl <;> rfl
  rw [guardEq_of (fun dd => by cases dd <;> rfl)]
  simp only [cond_false, show plain (.slice none n c) = true from rfl, show plain (.slice none n' c') = true from rfl, Bool.and_self, cond_true, ev0_bind, hg, Option.bind_some]
  rcases hop with rfl | rfl <;> simp only [Go.binOp, ev0_bind, heq, Option.bind_some, ev0_pure] <;> rfl

end
end Go.Big

/- What each operation comes to, by the values of its operands: the others. -/
namespace Go.Big

section
variable {P : Program} {ρ : Operand → Value} {m : Mem} {d : Option Nat} {ty : TypeId} {ps : String} {af : Array Edge} {g : Option (Nat × Bool)}

def aun (op : UnOp) (x : Value) (m : Mem) : Res := pv m (bif plain x then (match eval0 P (Op.unary op x) with | some v => bif plain v then some v else none | none => none) else none)
theorem aop_unOp {op : UnOp} {t : TypeId} {x : Operand} : aop P ρ ⟨d, .unOp op t x, ty, ps, af, g⟩ m = aun (P := P) op (ρ x) m := by
  have ho : (Op.unOp op t x).operands = #[x] := rfl
  simp only [aop, aun, pureOp, ho, List.all_cons, List.all_nil, Bool.and_true]
  cases plain (ρ x) with
  | false => rfl
  | true =>
    simp only [cond_true, execOp, ev0_bind]
    cases eval0 P (Op.unary op (ρ x)) <;> rfl
theorem aun_not {b : Bool} : aun (P := P) .not (.bool b) m = some (.bool !b, m, [], .no) := id rfl
theorem aun_xor {k : IntKind} {n : Int} : aun (P := P) .xor (.int k n) m = some (.int k (k.wrap (BitVec.ofInt k.bits (if k.signed then -1 else k.max) ^^^ BitVec.ofInt k.bits n).toNat), m, [], .no) := id rfl

/-! ### Conversions -/

def aconv (P : Program) (s t : TypeId) (x : Value) (m : Mem) : Res :=
  match x with
  | .string _ => (match P.underlying t with | some (.slice _) => aconvert P s t x m | _ => pv m (bif plain x then (match eval0 P (convert s t x) with | some v => bif plain v then some v else none | none => none) else none))
  | .slice (some _) _ _ => aconvert P s t x m
  | _ => pv m (bif plain x then (match eval0 P (convert s t x) with | some v => bif plain v then some v else none | none => none) else none)

theorem aop_convert {s t : TypeId} {x : Operand} : aop P ρ ⟨d, .convert s t x, ty, ps, af, g⟩ m = aconv P s t (ρ x) m := by
  have ho : (Op.convert s t x).operands = #[x] := rfl
  have hp : pureOp P ρ ⟨d, .convert s t x, ty, ps, af, g⟩ = (bif plain (ρ x) then (match eval0 P (convert s t (ρ x)) with | some v => bif plain v then some v else none | none => none) else none) := by
    simp only [pureOp, ho, List.all_cons, List.all_nil, Bool.and_true]
    cases plain (ρ x) with
    | false => rfl
    | true =>
      simp only [cond_true, execOp, ev0_bind]
      cases eval0 P (convert s t (ρ x)) <;> rfl
  simp only [aop, aconv, hp]
  cases ρ x with
  | slice a n c => cases a <;> rfl
  | string b =>
    simp only
    cases P.underlying t with
    | none => rfl
    | some dd => cases dd <;> rfl
  | _ => rfl

def convII (P : Program) (s t : TypeId) : Option IntKind :=
  match P.underlying s, P.underlying t with
  | some _, some (.int k) => some k
  | _, _ => none

theorem aconv_int {s t : TypeId} {k k' : IntKind} {a : Int} (h : convII P s t = some k') : aconv P s t (.int k a) m = some (.int k' (k'.wrap a), m, [], .no) := by
  unfold convII at h
  split at h
  case h_2 => cases h
  rename_i h1 h2
  cases h
  simp only [aconv, show plain (.int k a) = true from rfl, cond_true]
  have : eval0 P (convert s t (.int k a)) = some (.int k' (k'.wrap a)) := by
    unfold convert
    rw [ev0_bind, ev0_under h1]
    simp only [Option.bind_some]
    rw [ev0_bind, ev0_under h2]
    rfl
  rw [this]
  rfl

/-- Bytes among strings and slices. -/
def isBytesT (P : Program) (t : TypeId) : Bool :=
  match P.underlying t with
  | some (.slice e) => (match P.underlying e with | some (.int .u8) => true | _ => false)
  | _ => false

theorem isBytesT_spec {t : TypeId} (h : isBytesT P t = true) : ∃ e, P.underlying t = some (.slice e) ∧ P.underlying e = some (.int .u8) := by
  unfold isBytesT at h
  split at h
  · split at h
    · exact ⟨_, by assumption, by assumption⟩
    · cases h
  · cases h

theorem tyTag_str {t : TypeId} (h : tyTag P t = 6) : P.underlying t = some .string := by
  unfold tyTag at h; split at h <;> first | assumption | omega

theorem aconv_toBytes {s t : TypeId} {b : ByteArray} (hs : tyTag P s = 6) (ht : isBytesT P t = true) (hsz : b.size ≤ 65536) :
    aconv P s t (.string b) m = some (.slice (some ⟨m.next, 0, none⟩) b.size b.size, m.push (.row (bytesCells b) (.slack 1)), [], .no) := by
  obtain ⟨e, h1, h2⟩ := isBytesT_spec ht
  have h3 := tyTag_str hs
  simp only [aconv, h1, aconvert, h3, h2, smallB]
  have e1 : Nat.ble b.size 1073741824 = true := by rw [ble_dec]; simp; omega
  have e2 : Nat.ble 1 65536 = true := rfl
  simp [e1, e2]

theorem aconv_ofBytes {s t : TypeId} {a : Addr} {n c : Nat} {cs : List Value} {bs : List UInt8} (hs : isBytesT P s = true) (ht : tyTag P t = 6) (he : elemsOf 1 (.slice (some a) n c) m = some (n, cs)) (hb : cs.mapM byteOfCell = some bs) :
    aconv P s t (.slice (some a) n c) m = some (.string ⟨bs.toArray⟩, m, [], rdA a) := by
  obtain ⟨e, h1, h2⟩ := isBytesT_spec hs
  have h3 := tyTag_str ht
  simp only [aconv, aconvert, h1, h2, h3, he, hb, Option.map_some, rdV]

/-! ### Others -/

def aext (x : Value) (i : Nat) (m : Mem) : Res := match x with | .tuple vs => pv m (vs[i]?) | _ => none
theorem aop_extract {x : Operand} {i : Nat} : aop P ρ ⟨d, .extract x i, ty, ps, af, g⟩ m = aext (ρ x) i m := by
  simp only [aop]
  cases ρ x <;> rfl
theorem aext_two0 {a b : Value} : aext (.tuple #[a, b]) 0 m = some (a, m, [], .no) := id rfl
theorem aext_two1 {a b : Value} : aext (.tuple #[a, b]) 1 m = some (b, m, [], .no) := id rfl
theorem aext_three0 {a b c : Value} : aext (.tuple #[a, b, c]) 0 m = some (a, m, [], .no) := id rfl
theorem aext_three1 {a b c : Value} : aext (.tuple #[a, b, c]) 1 m = some (b, m, [], .no) := id rfl
theorem aext_three2 {a b c : Value} : aext (.tuple #[a, b, c]) 2 m = some (c, m, [], .no) := id rfl

def aidx (P : Program) (t : TypeId) (x i : Value) (m : Mem) : Res :=
  match x, P.underlying t with
  | .agg cs, some (.array len e) => pv m ((natOf i).bind fun i => (szOf P e).bind fun s => bif Nat.blt i len then partOf P e cs (i * s) else none)
  | _, _ => pv m (bif plain x && plain i then (match eval0 P (Instr.index t x i) with | some v => bif plain v then some v else none | none => none) else none)
theorem aop_index {t : TypeId} {x y : Operand} : aop P ρ ⟨d, .index t x y, ty, ps, af, g⟩ m = aidx P t (ρ x) (ρ y) m := by
  have ho : (Op.index t x y).operands = #[x, y] := rfl
  have hp : pureOp P ρ ⟨d, .index t x y, ty, ps, af, g⟩ = (bif plain (ρ x) && plain (ρ y) then (match eval0 P (Instr.index t (ρ x) (ρ y)) with | some v => bif plain v then some v else none | none => none) else none) := by
    simp only [pureOp, ho, List.all_cons, List.all_nil, Bool.and_true]
    cases plain (ρ x) && plain (ρ y) with
    | false => rfl
    | true =>
      simp only [cond_true, execOp, ev0_bind]
      cases eval0 P (Instr.index t (ρ x) (ρ y)) <;> rfl
  simp only [aop, aidx, hp]
  cases ρ x with
  | agg cs =>
    cases P.underlying t with
    | none => rfl
    | some dd => cases dd <;> rfl
  | _ => rfl
theorem aidx_str {t : TypeId} {b : ByteArray} {k : IntKind} {i : Nat} {c : UInt8} (ht : tyTag P t = 6) (hi : b[i]? = some c) : aidx P t (.string b) (.int k (i : Int)) m = some (.int .u8 c.toNat, m, [], .no) := by
  have h1 := tyTag_str ht
  simp only [aidx, show plain (.string b) = true from rfl, show plain (.int k (i : Int)) = true from rfl, Bool.and_self, cond_true]
  have : eval0 P (Instr.index t (.string b) (.int k (i : Int))) = some (.int .u8 c.toNat) := by
    unfold Instr.index asIntOf
    rw [ev0_bind, ev0_pure]
    simp only [Option.bind_some]
    rw [ev0_bind, ev0_under h1]
    simp only [Option.bind_some]
    have : (if (0 : Int) ≤ (i : Int) then b[(i : Int).toNat]? else none) = some c := by simp [hi]
    rw [this]
    rfl
  rw [this]
  rfl
theorem aidx_arr {t : TypeId} {cs : Array Value} {k : IntKind} {i : Nat} {v : Value} {n : Nat} {e : TypeId} (h1 : P.underlying t = some (.array n e)) (hi : i < n) (hs : szOf P e = some 1) (hk : ldk P e = some none) (hv : cs[i]? = some v) :
    aidx P t (.agg cs) (.int k (i : Int)) m = some (v, m, [], .no) := by
  have hn : natOf (.int k (i : Int)) = some i := rfl
  simp only [aidx, h1, hn, Option.bind_some, hs, blt_dec, decide_eq_true hi, cond_true, Nat.mul_one, partOf]
  unfold ldk at hk
  split at hk
  case h_2 => cases hk
  rename_i dd nn h2 h3
  rw [hs] at h3; cases h3
  rw [h2]
  simp only
  cases hd : isAggD dd with
  | true => rw [hd] at hk; cases hk
  | false => simp [hv, pv]

def amkI (P : Program) (t : TypeId) (x : Value) (m : Mem) : Res := match P.underlying t with | some (.interface _) => none | some _ => some (.iface t x, m, [], .no) | none => none
theorem aop_makeInterface {t : TypeId} {x : Operand} : aop P ρ ⟨d, .makeInterface t x, ty, ps, af, g⟩ m = amkI P t (ρ x) m := by
  simp only [aop, amkI]
  cases P.underlying t with
  | none => rfl
  | some dd => cases dd <;> rfl
theorem aop_makeFunc {f : FuncId} {x y : Array Operand} : aop P ρ ⟨d, .makeFunc (.func f) x y, ty, ps, af, g⟩ m = some (.func (.func f) (x.map ρ) (y.map ρ), m, [], .no) := id rfl

def amkS (P : Program) (t : TypeId) (l c : Value) (m : Mem) : Res := pm (amakeSlice P t l c m)
theorem aop_makeSlice {t : TypeId} {l c : Operand} : aop P ρ ⟨d, .makeSlice t l c, ty, ps, af, g⟩ m = amkS P t (ρ l) (ρ c) m := id rfl

/-! ### Slices of slices -/

def aslV (P : Program) (t : TypeId) (x : Value) (lo hi mx : Option Value) (m : Mem) : Res :=
  match x with
  | .pointer (some a) => (aslice P t (.pointer (some a)) lo hi mx m).map fun v => (v, m, [], rdA a)
  | .slice (some a) n c => (aslice P t (.slice (some a) n c) lo hi mx m).map fun v => (v, m, [], rdA a)
  | x => pv m (bif plain x && (lo.toList ++ hi.toList ++ mx.toList).all plain then (match eval0 P (Instr.sliceAt t x lo hi mx) with | some v => bif plain v then some v else none | none => none) else none)

/-! ### The built-in functions -/

def alen (P : Program) (t : TypeId) (x : Value) (m : Mem) : Res :=
  match x with
  | .slice (some _) n _ => (match P.underlying t with | some (.slice _) => some (goInt n, m, [], .no) | _ => none)
  | _ => none

theorem len_slice {x : Operand} {t : TypeId} {a : Addr} {n c : Nat} (hx : ρ x = .slice (some a) n c) (ht : tyTag P t = 2) : aop P ρ ⟨d, .call { callee := .builtin .len, args := #[x], argTypes := #[t] }, ty, ps, af, g⟩ m = some (.int .i64 (n : Int), m, [], .no) := by
  obtain ⟨e, he⟩ := tyTag_slice ht
  simp only [aop, abuiltin, hx, List.map_cons, List.map_nil]
  simp [he, goInt]

end
end Go.Big

/- Slices whose elements are one cell each. -/
namespace Go.Big

/-- A slice with such elements. -/
inductive Sl (m : Mem) : Value → List Value → Prop where
  | nil : Sl m (.slice none 0 0) []
  | spot {a : Addr} : a.spot.isSome = true → Sl m (.slice (some a) 0 0) []
  | row {b off n c : Nat} {cs rs : List Value} {k : Kind} : m.get b = some (.row rs k) → (rs.drop off).take n = cs → cs.length = n → n ≤ c → (∀ s, k = .slack s → s = 1 ∧ off + c ≤ rs.length) →
      Sl m (.slice (some ⟨b, off, none⟩) n c) cs

/-- A slice that was made here by appending: nil, or all of a row with spare room. -/
inductive Own (m : Mem) (n0 : Nat) : Value → List Value → Prop where
  | nil : Own m n0 (.slice none 0 0) []
  | row {b : Nat} {cs : List Value} : n0 ≤ b → cs ≠ [] → m.get b = some (.row cs (.slack 1)) → Own m n0 (.slice (some ⟨b, 0, none⟩) cs.length cs.length) cs

section
variable {P : Program} {m m' : Mem} {v : Value} {cs : List Value}

theorem Own.sl {n0 : Nat} (h : Own m n0 v cs) : Sl m v cs := by
  cases h with
  | nil => exact .nil
  | row h1 h2 h3 => exact .row h3 (by simp) rfl (Nat.le_refl _) (fun s hs => by cases hs; exact ⟨rfl, by simp⟩)

theorem Sl.frame (h : Sl m v cs) (hf : ∀ b, m.get b ≠ none → m'.get b = m.get b) : Sl m' v cs := by
  cases h with
  | nil => exact .nil
  | spot h => exact .spot h
  | row h1 h2 h3 h4 h5 => exact .row (by rw [hf _ (by rw [h1]; simp)]; exact h1) h2 h3 h4 h5

theorem Own.frame {n0 : Nat} (h : Own m n0 v cs) (hf : ∀ b, m.get b ≠ none → m'.get b = m.get b) : Own m' n0 v cs := by
  cases h with
  | nil => exact .nil
  | row h1 h2 h3 => exact .row h1 h2 (by rw [hf _ (by rw [h3]; simp)]; exact h3)

theorem Own.mono {n0 n1 : Nat} (h : Own m n0 v cs) (hn : n1 ≤ n0) : Own m n1 v cs := by
  cases h with
  | nil => exact .nil
  | row h1 h2 h3 => exact .row (by omega) h2 h3

/-- The block of a slice. -/
def slBlk : Value → Option Nat
  | .slice (some a) _ _ => (match a.spot with | none => some a.block | some _ => none)
  | _ => none

theorem Sl.frame_at (h : Sl m v cs) (hf : ∀ b, slBlk v = some b → m'.get b = m.get b) : Sl m' v cs := by
  cases h with
  | nil => exact .nil
  | spot h => exact .spot h
  | row h1 h2 h3 h4 h5 => exact .row (by rw [hf _ rfl]; exact h1) h2 h3 h4 h5

theorem Sl.blk (h : Sl m v cs) {b : Nat} (hb : slBlk v = some b) : m.get b ≠ none := by
  cases h with
  | nil => cases hb
  | spot h => simp only [slBlk] at hb; split at hb <;> simp_all
  | row h1 => cases hb; rw [h1]; simp

theorem Own.blk_ge {n0 b : Nat} (h : Own m n0 v cs) (hb : slBlk v = some b) : n0 ≤ b := by
  cases h with
  | nil => cases hb
  | row h1 => cases hb; exact h1

theorem Sl.inv (h : Sl m v cs) (hne : cs ≠ []) : ∃ b off c rs k, v = .slice (some ⟨b, off, none⟩) cs.length c ∧ m.get b = some (.row rs k) ∧ (rs.drop off).take cs.length = cs ∧ cs.length ≤ c ∧ ∀ s, k = .slack s → s = 1 ∧ off + c ≤ rs.length := by
  cases h with
  | nil => exact absurd rfl hne
  | spot h => exact absurd rfl hne
  | row h1 h2 h3 h4 h5 => subst h3; exact ⟨_, _, _, _, _, rfl, h1, h2, h4, h5⟩

theorem Sl.shape (h : Sl m v cs) : v = .slice none 0 0 ∧ cs = [] ∨ ∃ a c, v = .slice (some a) cs.length c := by
  cases h with
  | nil => exact .inl ⟨rfl, rfl⟩
  | spot h => exact .inr ⟨_, _, rfl⟩
  | row h1 h2 h3 h4 h5 => exact .inr ⟨_, _, by rw [h3]⟩

theorem take_drop_get {rs cs : List Value} {off n i : Nat} (h : (rs.drop off).take n = cs) (hi : i < cs.length) : rs[off + i]? = cs[i]? := by
  subst h
  rw [List.length_take, List.length_drop] at hi
  rw [List.getElem?_take, if_pos (by omega), List.getElem?_drop]

theorem loadN_of {rs : List Value} {off n : Nat} (h : (rs.drop off).take n = cs) (hn : cs.length = n) : loadN rs off n = some cs := by
  unfold loadN
  simp only [h, hn, beq_dec, decide_true, cond_true]

theorem Sl.elems (h : Sl m v cs) : elemsOf 1 v m = some (cs.length, cs) := by
  cases h with
  | nil => rfl
  | @spot a h =>
    unfold elemsOf
    cases hs : a.spot with
    | none => rw [hs] at h; cases h
    | some _ => simp only [hs]; rfl
  | row h1 h2 h3 h4 h5 => simp only [elemsOf, getCells, h1, Nat.mul_one, loadN_of h2 h3, Option.map_some, h3]

/-! ### Slices of slices -/

theorem bounds_of {len cap l h : Nat} {lo hi : Option Value} (hl : optNat (some 0) lo = some l) (hh : optNat (some len) hi = some h) (h1 : l ≤ h) (h2 : h ≤ cap) : bounds len cap lo hi none = some (l, h, cap) := by
  unfold bounds
  rw [show optNat (some cap) none = some cap from rfl]
  simp only [Option.bind_some, Option.isSome_none, cond_false, hl, hh, ble_dec, Nat.le_refl, h1, h2, decide_true, Bool.and_self, cond_true]

theorem isOpen_eq {rs : List Value} {off c : Nat} : isOpen rs (.slack 1) off c = decide (off + c = rs.length) := by
  simp [isOpen, beq_dec]

theorem Sl.slice (h : Sl m v cs) {t : TypeId} (ht : idxSl P t = some 1) (hne : v ≠ .slice none 0 0) {lo hi : Option Value} {l hh : Nat} (hl : optNat (some 0) lo = some l) (hhi : optNat (some cs.length) hi = some hh) (h1 : l ≤ hh) (h2 : hh ≤ cs.length) :
    ∃ v', aslice P t v lo hi none m = some v' ∧ Sl m v' ((cs.drop l).take (hh - l)) ∧ ∀ b, slBlk v' = some b → slBlk v = some b := by
  unfold idxSl at ht
  split at ht
  case h_2 => cases ht
  rename_i elem hu
  cases h with
  | nil => exact absurd rfl hne
  | @spot a h =>
    simp only [List.length_nil] at h2 hhi
    have hh0 : hh = 0 := by omega
    have hl0 : l = 0 := by omega
    subst hh0; subst hl0
    cases hs : a.spot with
    | none => rw [hs] at h; cases h
    | some s =>
      have hb : bounds 0 0 lo hi none = some (0, 0, 0) := bounds_of hl hhi (Nat.le_refl _) (Nat.zero_le _)
      exact ⟨deadS, by simp [aslice, hu, hb, ht, hs], .spot rfl, fun b hb => by simp [slBlk, deadS] at hb⟩
  | @row b off n c _ rs k h3 h4 h5 h6 h7 =>
    subst h5
    have hb : bounds cs.length c lo hi none = some (l, hh, c) := bounds_of hl hhi h1 (by omega)
    have hlen : ((cs.drop l).take (hh - l)).length = hh - l := by rw [List.length_take, List.length_drop]; omega
    have hcs : (rs.drop (off + l)).take (hh - l) = (cs.drop l).take (hh - l) := by
      rw [← h4, List.drop_take, List.take_take, List.drop_drop]
      congr 1
      omega
    by_cases ho : isOpen rs k off c = true
    · have hk : ∃ s, k = .slack s := by cases k <;> simp_all [isOpen]
      obtain ⟨s, rfl⟩ := hk
      obtain ⟨rfl, hle⟩ := h7 s rfl
      by_cases hlc : l = c
      · subst hlc
        have : hh - l = 0 := by omega
        refine ⟨deadS, by simp [aslice, hu, hb, ht, h3, ho], ?_, fun b hb => by simp [slBlk, deadS] at hb⟩
        rw [this]; exact .spot rfl
      · refine ⟨.slice (some ((⟨b, off, none⟩ : Addr).add (l * 1))) (hh - l) (c - l), by simp [aslice, hu, hb, ht, h3, ho, beq_dec, hlc], ?_, fun b' hb' => ?_⟩
        · rw [addr_add, Nat.mul_one]
          exact .row h3 hcs hlen (by omega) (fun s hs => by cases hs; exact ⟨rfl, by omega⟩)
        · rw [addr_add] at hb'; exact hb'
    · have ho' : isOpen rs k off c = false := by simpa using ho
      refine ⟨.slice (some (bif Nat.beq c l then ⟨b, off, none⟩ else (⟨b, off, none⟩ : Addr).add (l * 1))) (hh - l) (c - l), ?_, ?_, fun b' hb' => ?_⟩
      · have hcl : isOpen rs k (bif Nat.beq c l then (⟨b, off, none⟩ : Addr) else (⟨b, off, none⟩ : Addr).add (l * 1)).off (c - l) = false := by
          cases k with
          | slack s =>
            obtain ⟨rfl, hle⟩ := h7 s rfl
            rw [isOpen_eq] at ho' ⊢
            simp only [decide_eq_false_iff_not, beq_dec] at ho' ⊢
            by_cases hcl : c = l
            · subst hcl
              simp only [decide_true, cond_true, Nat.sub_self, Nat.add_zero]
              omega
            · simp only [decide_eq_false hcl, cond_false, addr_add]
              omega
          | _ => rfl
        simp only [aslice, hu, hb, ht, h3, ho', Bool.false_and, cond_false, closedS, hcl]
      · by_cases hcl : c = l
        · subst hcl
          have : hh - c = 0 := by omega
          simp only [beq_dec, decide_true, cond_true, this, Nat.sub_self, List.take_zero]
          exact .row h3 (by simp) rfl (Nat.le_refl _) (fun s hs => ⟨(h7 s hs).1, by have := (h7 s hs).2; omega⟩)
        · simp only [beq_dec, decide_eq_false hcl, cond_false, addr_add, Nat.mul_one]
          exact .row h3 hcs hlen (by omega) (fun s hs => ⟨(h7 s hs).1, by have := (h7 s hs).2; omega⟩)
      · by_cases hcl : c = l
        · simp only [beq_dec, decide_eq_true hcl, cond_true] at hb'; exact hb'
        · simp only [beq_dec, decide_eq_false hcl, cond_false, addr_add] at hb'; exact hb'

end
end Go.Big

/- Appending; bytes; slices of arrays; copies. -/
namespace Go.Big

section
variable {P : Program} {m m' : Mem} {v : Value} {cs : List Value} {ρ : Operand → Value} {d : Option Nat} {ty : TypeId} {ps : String} {af : Array Edge} {g : Option (Nat × Bool)}

/-- The types of an append whose elements are one cell each: how many bytes an element has. -/
def appK (P : Program) (aT : Array TypeId) : Option Nat :=
  match (aT[0]?).bind P.underlying, (aT[1]?).bind P.underlying with
  | some (.slice elem), xd =>
    match szOf P elem, (P.info? elem).map (·.bytes), (P.info? elem).bind (·.zero) with
    | some size, some bytes, some z => bif Nat.beq size 1 && Nat.beq z.cells.size size && sliceish xd && Nat.ble bytes 65536 then some bytes else none
    | _, _, _ => none
  | _, _ => none

theorem aappend_of {aT : Array TypeId} {bytes : Nat} (h : appK P aT = some bytes) {s x : Value} {n : Nat} {new : List Value} (hx : elemsOf 1 x m = some (n, new)) : aappend P aT s x m = appendTo 1 bytes n new s m := by
  unfold appK at h
  split at h
  case h_2 => cases h
  rename_i elem xd h1
  split at h
  case h_2 => cases h
  rename_i size bytes' z h2 h3 h4
  simp only [cond_eq_ite, beq_dec, ble_dec, Bool.and_eq_true, decide_eq_true_eq] at h
  split at h
  case isFalse => cases h
  rename_i hc
  obtain ⟨⟨⟨hc1, hc2⟩, hc3⟩, hc4⟩ := hc
  cases h
  subst hc1
  have e1 : Nat.beq z.cells.size 1 = true := by rw [beq_dec]; simpa using hc2
  have e2 : Nat.blt 0 1 = true := rfl
  simp only [aappend, h1, h2, h3, h4, e1, hc3, e2, Bool.and_self, cond_true, hx]

theorem appK_bytes {aT : Array TypeId} {bytes : Nat} (h : appK P aT = some bytes) : bytes ≤ 65536 := by
  unfold appK at h
  split at h
  case h_2 => cases h
  split at h
  case h_2 => cases h
  simp only [cond_eq_ite, beq_dec, ble_dec, Bool.and_eq_true, decide_eq_true_eq] at h
  split at h
  case isFalse => cases h
  rename_i hc
  cases h
  exact hc.2

theorem aop_append {s x : Operand} {aT : Array TypeId} : aop P ρ ⟨d, .call { callee := .builtin .append, args := #[s, x], argTypes := aT }, ty, ps, af, g⟩ m = aappend P aT (ρ s) (ρ x) m := id rfl

/-- Appending to a slice that was made here. -/
theorem append_own {aT : Array TypeId} {bytes n0 : Nat} (h : appK P aT = some bytes) (hv : Own m n0 v cs) {x : Value} {new : List Value} (hx : elemsOf 1 x m = some (new.length, new)) (hnew : new.all oneCell = true)
    (hlen : cs.length + new.length ≤ 1073741824) (hn0 : n0 ≤ m.next) (hw : WF m) :
    ∃ v' m' w, aappend P aT v x m = some (v', m', w, .all) ∧ Own m' n0 v' (cs ++ new) ∧ (∀ b ∈ w, n0 ≤ b) ∧ m.next ≤ m'.next ∧ WF m' ∧ (∀ b, b < m.next → slBlk v ≠ some b → m'.get b = m.get b) ∧
      (∀ b, m.get b ≠ none → m'.get b ≠ none) ∧ (∀ b, slBlk v' = some b → slBlk v = some b ∨ m.next ≤ b) ∧ (∀ b ∈ w, slBlk v = some b) := by
  have hb := appK_bytes h
  rw [aappend_of h hx]
  have hone : ∀ y ∈ new, oneCell y = true := List.all_eq_true.1 hnew
  cases hv with
  | nil =>
    by_cases hn : new = []
    · subst hn
      refine ⟨.slice none 0 0, m, [], rfl, .nil, by simp, Nat.le_refl _, hw, fun _ _ _ => rfl, fun _ h => h, fun b hb => .inl hb, by simp⟩
    · have hnl : new.length ≠ 0 := by simpa using hn
      refine ⟨.slice (some ⟨m.next, 0, none⟩) new.length new.length, m.push (.row new (.slack 1)), [], ?_, ?_, by simp, by simp, ?_, ?_, ?_, ?_, by simp⟩
      · have e2 : new.length ≤ 1073741824 := by simp at hlen; omega
        simp only [appendTo, beq_dec, decide_eq_false hnl, cond_false, smallB, ble_dec, decide_eq_true e2, decide_eq_true hb, hnew, Bool.and_self, cond_true]
      · exact .row hn0 hn (by rw [Mem.get_push]; simp)
      · intro b hb'
        rw [Mem.get_push, if_neg (by simp at hb'; omega)]
        exact hw b (by simp at hb'; omega)
      · intro b hlt _
        rw [Mem.get_push, if_neg (by omega)]
      · intro b hb'
        rw [Mem.get_push]
        split <;> simp_all
      · intro b hb'
        simp only [slBlk] at hb'
        cases hb'
        exact .inr (Nat.le_refl _)
  | @row b cs' h1 h2 h3 =>
    have hlt : b < m.next := hw.lt (by rw [h3]; simp)
    by_cases hn : new = []
    · subst hn
      refine ⟨.slice (some ⟨b, 0, none⟩) cs.length cs.length, m, [], ?_, by rw [List.append_nil]; exact .row h1 h2 h3, by simp, Nat.le_refl _, hw, fun _ _ _ => rfl, fun _ h => h, fun b hb => .inl hb, by simp⟩
      simp [appendTo, ble_dec]
    · have hnl : new.length ≠ 0 := by simpa using hn
      have e1 : ¬ cs.length + new.length ≤ cs.length := by omega
      refine ⟨.slice (some ⟨m.next, 0, none⟩) (cs ++ new).length (cs ++ new).length, (m.set b .dead).push (.row (cs ++ new) (.slack 1)), [b], ?_, ?_, by simp; exact h1, by simp, ?_, ?_, ?_, ?_, by simp [slBlk]⟩
      · have hg : getCells m b 0 (cs.length * 1) = some cs := by
          simp only [getCells, h3, Nat.mul_one]
          exact loadN_of (by simp) rfl
        have ho : isOpen cs (.slack 1) 0 cs.length = true := by rw [isOpen_eq]; simp
        have e3 : Nat.beq 1 1 = true := id rfl
        simp only [appendTo, beq_dec, decide_eq_false hnl, Bool.false_and, cond_false, ble_dec, decide_eq_false e1, h3, hg, smallB, decide_eq_true hlen, decide_eq_true hb, hnew, Bool.and_self, cond_true, ho, List.length_append, decide_true]
      · refine .row (by simpa using hn0) (by simp [hn]) ?_
        rw [Mem.get_push]; simp
      · intro b' hb'
        simp only [Mem.next_push, Mem.next_set] at hb'
        rw [Mem.get_push, if_neg (by simp only [Mem.next_set]; omega), Mem.get_set, if_neg (by omega)]
        exact hw b' (by omega)
      · intro b' hlt' hne
        rw [Mem.get_push, if_neg (by simp only [Mem.next_set]; omega), Mem.get_set, if_neg (fun e => hne (by simp [slBlk, e]))]
      · intro b' hb'
        rw [Mem.get_push, Mem.get_set]
        split
        · simp
        · split <;> simp_all
      · intro b' hb'
        simp only [slBlk] at hb'
        cases hb'
        exact .inr (Nat.le_refl _)

/-! ### Bytes -/

def u8s (l : List UInt8) : List Value := l.map fun b => .int .u8 (b.toNat : Int)

theorem u8s_length {l : List UInt8} : (u8s l).length = l.length := by simp [u8s]
theorem u8s_append {a b : List UInt8} : u8s (a ++ b) = u8s a ++ u8s b := by simp [u8s]
theorem u8s_one {l : List UInt8} : (u8s l).all oneCell = true := by
  rw [List.all_eq_true]
  intro x hx
  simp only [u8s, List.mem_map] at hx
  obtain ⟨b, _, rfl⟩ := hx
  rfl
theorem u8s_get {l : List UInt8} {i : Nat} {b : UInt8} (h : l[i]? = some b) : (u8s l)[i]? = some (.int .u8 (b.toNat : Int)) := by simp [u8s, h]
theorem u8s_drop {l : List UInt8} {n : Nat} : (u8s l).drop n = u8s (l.drop n) := by simp [u8s]
theorem u8s_take {l : List UInt8} {n : Nat} : (u8s l).take n = u8s (l.take n) := by simp [u8s]
theorem u8s_of {l : List UInt8} : (u8s l).mapM byteOfCell = some l := by
  induction l with
  | nil => rfl
  | cons b r ih =>
    simp only [u8s, List.map_cons, List.mapM_cons] at ih ⊢
    have : byteOfCell (.int .u8 (b.toNat : Int)) = some b := by simp [byteOfCell]
    rw [this, ih]
    rfl
theorem bytesCells_eq {s : ByteArray} : bytesCells s = u8s s.data.toList := id rfl

/-- A slice of bytes made a string. -/
theorem conv_str {s t : TypeId} {l : List UInt8} (hs : isBytesT P s = true) (ht : tyTag P t = 6) (h : Sl m v (u8s l)) : ∃ r, aconv P s t v m = some (.string ⟨l.toArray⟩, m, [], r) := by
  rcases h.shape with ⟨rfl, h0⟩ | ⟨a, c, rfl⟩
  · obtain ⟨e, h1, h2⟩ := isBytesT_spec hs
    have h3 := tyTag_str ht
    have hl : l = [] := by
      have := congrArg List.length h0
      rw [u8s_length] at this
      exact List.eq_nil_of_length_eq_zero this
    subst hl
    refine ⟨.no, ?_⟩
    simp only [aconv, show plain (.slice none 0 0) = true from rfl, cond_true]
    have : eval0 P (convert s t (.slice none 0 0)) = some (.string ⟨#[]⟩) := by
      unfold convert
      rw [ev0_bind, ev0_under h1]
      simp only [Option.bind_some]
      rw [ev0_bind, ev0_under h3]
      simp only [Option.bind_some]
      rw [ev0_bind, ev0_under h2]
      rfl
    rw [this]
    rfl
  · refine ⟨rdA a, ?_⟩
    have he := h.elems
    rw [u8s_length] at he ⊢
    exact aconv_ofBytes hs ht he u8s_of

theorem len_pure {x : Operand} {t : TypeId} (hx : plain (ρ x) = true) : pureOp P ρ ⟨d, .call { callee := .builtin .len, args := #[x], argTypes := #[t] }, ty, ps, af, g⟩ =
    match eval0 P (Builtin.len_ #[t] ty #[ρ x]) with | some v => bif plain v then some v else none | none => none := by
  have ho : (Op.call { callee := .builtin .len, args := #[x], argTypes := #[t] }).operands = #[x] := rfl
  simp only [pureOp, ho, List.all_cons, List.all_nil, hx, Bool.and_self, cond_true]
  have : eval0 P (execOp ρ ⟨d, .call { callee := .builtin .len, args := #[x], argTypes := #[t] }, ty, ps, af, g⟩) = (eval0 P (Builtin.len_ #[t] ty #[ρ x])).map Next.value := by
    have hm : Array.map ρ #[x] = #[ρ x] := by simp
    simp only [execOp, resolve, invoke, builtin, ev0_bind, ev0_pure, Option.bind_some, hm]
    cases eval0 P (Builtin.len_ #[t] ty #[ρ x]) <;> rfl
  rw [this]
  cases eval0 P (Builtin.len_ #[t] ty #[ρ x]) <;> rfl

/-- The length of a string, of an array. -/
theorem len_str {x : Operand} {t : TypeId} {b : ByteArray} (hx : ρ x = .string b) (ht : tyTag P t = 6) : aop P ρ ⟨d, .call { callee := .builtin .len, args := #[x], argTypes := #[t] }, ty, ps, af, g⟩ m = some (.int .i64 (b.size : Int), m, [], .no) := by
  have h1 := tyTag_str ht
  have hr : aop P ρ ⟨d, .call { callee := .builtin .len, args := #[x], argTypes := #[t] }, ty, ps, af, g⟩ m = pv m (pureOp P ρ ⟨d, .call { callee := .builtin .len, args := #[x], argTypes := #[t] }, ty, ps, af, g⟩) := by
    simp only [aop, abuiltin, hx, List.map_cons, List.map_nil]
  rw [hr, len_pure (by rw [hx]; rfl)]
  have : eval0 P (Builtin.len_ #[t] ty #[ρ x]) = some (.int .i64 (b.size : Int)) := by
    rw [hx]
    unfold Builtin.len_
    simp only [List.getElem?_toArray, List.getElem?_cons_zero]
    rw [ev0_bind, ev0_under h1]
    rfl
  rw [this]
  rfl

/-- The length. -/
theorem len_sl {x : Operand} {t : TypeId} (hx : ρ x = v) (h : Sl m v cs) (ht : tyTag P t = 2) : aop P ρ ⟨d, .call { callee := .builtin .len, args := #[x], argTypes := #[t] }, ty, ps, af, g⟩ m = some (.int .i64 (cs.length : Int), m, [], .no) := by
  rcases h.shape with ⟨rfl, rfl⟩ | ⟨a, c, rfl⟩
  · obtain ⟨e, he⟩ := tyTag_slice ht
    have hr : aop P ρ ⟨d, .call { callee := .builtin .len, args := #[x], argTypes := #[t] }, ty, ps, af, g⟩ m = pv m (pureOp P ρ ⟨d, .call { callee := .builtin .len, args := #[x], argTypes := #[t] }, ty, ps, af, g⟩) := by
      simp only [aop, abuiltin, hx, List.map_cons, List.map_nil]
    rw [hr, len_pure (by rw [hx]; rfl)]
    have : eval0 P (Builtin.len_ #[t] ty #[ρ x]) = some (.int .i64 0) := by
      rw [hx]
      unfold Builtin.len_
      simp only [List.getElem?_toArray, List.getElem?_cons_zero]
      rw [ev0_bind, ev0_under he]
      rfl
    rw [this]
    rfl
  · exact len_slice hx ht

end
end Go.Big
