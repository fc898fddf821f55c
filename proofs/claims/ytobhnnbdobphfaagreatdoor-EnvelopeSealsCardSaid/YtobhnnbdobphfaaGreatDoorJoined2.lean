/- Copies, new rows, parts of structs, conversions. -/
import Derived.Test.YtobhnnbdobphfaaGreatDoorJoined1
import Derived.Laws.IdiomStrings
set_option linter.unusedSimpArgs false
set_option linter.unusedVariables false
namespace Go.Big
open Go.RowKit Go.Room

section
variable {P : Program} {H : Nat} {φ : Place} {m m' : Mem} {w : World}

theorem copy_sim (hS : Sim H φ m w) {argTypes : Array TypeId} {d x d' x' v : Value} {W : List Nat} {r : Rd} (h : acopy P argTypes d x m = some (v, m', W, r))
    (hd : VRel φ d d') (hx : VRel φ x x') (ty : TypeId) : ValOk H φ m' w v ((Builtin.copy_ argTypes ty #[d', x']).run P w) := by
  unfold acopy at h
  split at h
  case h_2 => cases h
  rename_i elem hu0
  obtain ⟨sT, hsT, hu⟩ := Option.bind_eq_some_iff.1 hu0
  split at h
  case h_2 => cases h
  rename_i size n new hsz hel
  simp only [hsz, Option.getD_some] at hel
  obtain ⟨hlen, hlenOf, hfirst⟩ := elems_sim (P := P) hS hel hx
  split at h
  · rename_i c
    cases h
    rw [hd.scalar_eq rfl]
    obtain ⟨l', _, hl'⟩ := hfirst 0 (Nat.zero_le _)
    have : (Builtin.copy_ argTypes ty #[.slice none 0 c, x']).run P w = .ok (goInt 0) w := by
      unfold Builtin.copy_
      simp [hsT, und_of hu, hlenOf, size_of hsz, hl', goInt]
    rw [this]
    exact ValOk.pure_ hS (.base rfl)
  · rename_i a dLen dCap
    simp only [beq_dec, cond_eq_ite, decide_eq_true_eq] at h
    obtain ⟨l', hlr, hl'⟩ := hfirst (Nat.min n dLen) (Nat.min_le_left _ _)
    split at h
    · rename_i h0
      cases h
      have hnil : l' = [] := by
        have h1 := hlr.1
        rw [h0, Nat.zero_mul] at h1
        exact List.eq_nil_of_length_eq_zero (by simpa using h1.symm)
      obtain ⟨a', c', rfl⟩ : ∃ a' c', d' = .slice a' dLen c' := by
        rcases hd.slice_inv with ⟨p, c', _, _, _, rfl⟩ | ⟨_, rfl, _, a', c', rfl⟩
        · exact ⟨_, _, rfl⟩
        · exact ⟨_, _, rfl⟩
      have : (Builtin.copy_ argTypes ty #[.slice a' dLen c', x']).run P w = .ok (goInt 0) w := by
        unfold Builtin.copy_
        rw [hnil, h0] at hl'
        simp [hsT, und_of hu, hlenOf, size_of hsz, h0, hl', goInt]
        cases a' <;> rfl
      rw [this]
      exact ValOk.pure_ hS (.base rfl)
    · rename_i h0
      split at h
      · cases h
      · rename_i hsp
        cases hput : putCells m a.block a.off (new.take (Nat.min n dLen * size)) with
        | none => simp [hput] at h
        | some m2 =>
          simp [hput] at h
          obtain ⟨rfl, rfl, _, _⟩ := h
          rcases hd.slice_inv with ⟨p, c', hsp', hp, hcap, rfl⟩ | ⟨e, _, _, a', c', rfl⟩
          · obtain ⟨w', hst, hS', hB'⟩ := putCells_sim (P := P) hS hput hp hlr 0 rfl
            have : (Builtin.copy_ argTypes ty #[.slice (some ⟨p.blk, p.off + a.off, none⟩) dLen c', x']).run P w = .ok (goInt (Nat.min n dLen)) w' := by
              unfold Builtin.copy_
              simp [hsT, und_of hu, hlenOf, size_of hsz, hl', hst]
            rw [this]
            exact ⟨_, _, φ, rfl, Place.le_refl φ, hS', hB', .base rfl⟩
          · rw [e] at hsp; cases hsp
  · cases h

theorem clear_sim (hS : Sim H φ m w) {argTypes : Array TypeId} {x x' v : Value} {W : List Nat} {r : Rd} (h : aclear P argTypes x m = some (v, m', W, r))
    (hx : VRel φ x x') (ty : TypeId) : ValOk H φ m' w v ((Builtin.clear_ argTypes ty #[x']).run P w) := by
  unfold aclear at h
  split at h
  case h_2 => cases h
  rename_i elem a n c hu0
  obtain ⟨sT, hsT, hu⟩ := Option.bind_eq_some_iff.1 hu0
  simp only [beq_dec, cond_eq_ite, decide_eq_true_eq] at h
  split at h
  · rename_i h0
    cases h
    subst h0
    obtain ⟨a', c', rfl⟩ : ∃ a' c', x' = .slice (some a') 0 c' := by
      rcases hx.slice_inv with ⟨p, c', _, _, _, rfl⟩ | ⟨_, _, _, a', c', rfl⟩
      · exact ⟨_, _, rfl⟩
      · exact ⟨_, _, rfl⟩
    have : (Builtin.clear_ argTypes ty #[.slice (some a') 0 c']).run P w = .ok (.tuple #[]) w := by
      unfold Builtin.clear_
      simp [hsT, und_of hu]
    rw [this]
    exact ValOk.pure_ hS VRel.undef_
  · rename_i h0
    split at h
    case h_2 => cases h
    rename_i z hsp hz
    cases hzs : z.cells.toList.all scalar with
    | false => simp [hzs] at h
    | true =>
    simp only [hzs, if_true] at h
    cases hput : putCells m a.block a.off (zeroCellsN z.cells.toList n) with
    | none => simp [hput] at h
    | some m2 =>
      simp [hput] at h
      obtain ⟨rfl, rfl, _, _⟩ := h
      rcases hx.slice_inv with ⟨p, c', hsp', hp, hcap, rfl⟩ | ⟨e, _, _, a', c', rfl⟩
      · obtain ⟨w', hst, hS', hB'⟩ := putCells_sim (P := P) hS hput hp (LRel.of_scalars (zeroCellsN_scalar hzs n)) 0 rfl
        obtain ⟨n, rfl⟩ : ∃ k, n = k + 1 := ⟨n - 1, by omega⟩
        have : (Builtin.clear_ argTypes ty #[.slice (some ⟨p.blk, p.off + a.off, none⟩) (n + 1) c']).run P w = .ok (.tuple #[]) w' := by
          unfold Builtin.clear_
          simp [hsT, und_of hu, zero_of hz, zeroCells_list, hst]
        rw [this]
        exact ⟨_, _, φ, rfl, Place.le_refl φ, hS', hB', VRel.undef_⟩
      · rw [e] at hsp; cases hsp

/-! ### Structs and arrays -/

theorem part_sim {t : TypeId} {cs cs' : Array Value} {off : Nat} {v : Value} (h : partOf P t cs off = some v) (hc : ARel φ cs cs') (w : World) :
    ∃ v', (part t cs' off).run P w = .ok v' w ∧ VRel φ v v' := by
  unfold partOf at h
  split at h
  · rename_i d n hd hn
    unfold part
    rw [Sem.run_bind, isAgg_of hd]
    cases hA : isAggD d with
    | true =>
      simp only [hA, cond_true] at h
      cases h
      refine ⟨.agg (cs'.extract off (off + n)), by simp [size_of hn], ?_⟩
      refine (ARel.of_list ?_).agg
      rw [Array.toList_extract, Array.toList_extract]
      simp only [List.extract_eq_take_drop]
      exact (hc.list.drop _).take _
    | false =>
      simp only [hA, cond_false] at h
      obtain ⟨v', hv', hr⟩ := hc.list.get (i := off) (v := v) (by simpa using h)
      exact ⟨v', by simp only [Array.getElem?_toList] at hv'; simp [hv'], hr⟩
  · cases h

theorem storeN_some {cs vs l : List Value} {off : Nat} (h : storeN cs off vs = some l) : off + vs.length ≤ cs.length ∧ l = cs.take off ++ vs ++ cs.drop (off + vs.length) := by
  unfold storeN at h
  simp only [ble_dec, cond_eq_ite, decide_eq_true_eq] at h
  split at h
  · rename_i hle; cases h; exact ⟨hle, rfl⟩
  · cases h

theorem foldl_set (off : Nat) : ∀ (vs : List Value) (k : Nat) (cs : Array Value), off + k + vs.length ≤ cs.size →
    ((vs.zipIdx k).foldl (fun cs (p : Value × Nat) => cs.setIfInBounds (off + p.2) p.1) cs).toList = cs.toList.take (off + k) ++ vs ++ cs.toList.drop (off + k + vs.length)
  | [], k, cs, _ => by simp
  | v :: r, k, cs, h => by
    simp only [List.length_cons] at h
    rw [List.zipIdx_cons, List.foldl_cons, foldl_set off r (k + 1) _ (by simp; omega)]
    simp only [Array.toList_setIfInBounds]
    have hlt : off + k < cs.toList.length := by simp; omega
    have hlen : (cs.toList.take (off + k)).length = off + k := by simp; omega
    have h1 : (cs.toList.set (off + k) v).take (off + (k + 1)) = cs.toList.take (off + k) ++ [v] := by
      rw [List.set_eq_take_append_cons_drop, if_pos hlt, List.take_append, hlen, List.take_of_length_le (by omega), show off + (k + 1) - (off + k) = 1 from by omega]
      rfl
    have h2 : (cs.toList.set (off + k) v).drop (off + (k + 1) + r.length) = cs.toList.drop (off + k + (v :: r).length) := by
      rw [List.set_eq_take_append_cons_drop, if_pos hlt, List.drop_append, hlen, List.drop_of_length_le (by omega),
        show off + (k + 1) + r.length - (off + k) = r.length + 1 from by omega, List.drop_succ_cons, List.drop_drop, List.nil_append]
      congr 1
      simp only [List.length_cons]; omega
    rw [h1, h2]
    simp

/-- Parts that are related. -/
def PRel (φ : Place) (l l' : List (Nat × Value)) : Prop := l.length = l'.length ∧ ∀ (i : Nat) (p p' : Nat × Value), l[i]? = some p → l'[i]? = some p' → p.1 = p'.1 ∧ VRel φ p.2 p'.2

theorem PRel.cons_inv {p : Nat × Value} {l l' : List (Nat × Value)} (h : PRel φ (p :: l) l') : ∃ v' r', l' = (p.1, v') :: r' ∧ VRel φ p.2 v' ∧ PRel φ l r' := by
  cases l' with
  | nil => have := h.1; simp at this
  | cons q r' =>
    obtain ⟨h1, h2⟩ := h.2 0 p q rfl rfl
    obtain ⟨q1, q2⟩ := q
    simp only at h1 h2
    subst h1
    exact ⟨q2, r', rfl, h2, by simpa using h.1, fun i x x' hx hx' => h.2 (i + 1) x x' (by simpa using hx) (by simpa using hx')⟩

theorem fill_sim {place : Nat → Option (Nat × Nat)} : ∀ {parts parts' : List (Nat × Value)} {cells : List Value} {cells' : Array Value} {l : List Value},
    afill place cells parts = some l → PRel φ parts parts' → LRel φ cells cells'.toList → ∃ l', Instr.fill place cells' parts' = some l' ∧ LRel φ l l'.toList
  | [], parts', cells, cells', l, h, hp, hc => by
    have : parts' = [] := List.eq_nil_of_length_eq_zero hp.1.symm
    subst this
    cases h
    exact ⟨cells', rfl, hc⟩
  | (i, v) :: rest, parts', cells, cells', l, h, hp, hc => by
    obtain ⟨v', r', rfl, hv, hr⟩ := hp.cons_inv
    simp only [afill] at h
    cases hpl : place i with
    | none => simp [hpl] at h
    | some q =>
      obtain ⟨off, size⟩ := q
      simp only [hpl, beq_dec, cond_eq_ite, decide_eq_true_eq] at h
      split at h
      · rename_i hsz
        split at h
        · rename_i c hst
          obtain ⟨hle, rfl⟩ := storeN_some hst
          have hcl := hv.cells
          have hcl1 := hcl.1
          have hc1 := hc.1
          simp only [Array.length_toList] at hle hcl1 hc1
          have hfold := foldl_set off v'.cells.toList 0 cells' (by simp; omega)
          have hfold2 : (v'.cells.zipIdx.foldl (fun cs (x : Value × Nat) => cs.setIfInBounds (off + x.2) x.1) cells').toList = cells'.toList.take off ++ v'.cells.toList ++ cells'.toList.drop (off + v'.cells.toList.length) := by
            rw [← Array.foldl_toList, Array.toList_zipIdx, hfold]
            simp
          have hnew : LRel φ (cells.take off ++ v.cells.toList ++ cells.drop (off + v.cells.toList.length))
              (v'.cells.zipIdx.foldl (fun cs (x : Value × Nat) => cs.setIfInBounds (off + x.2) x.1) cells').toList := by
            rw [hfold2, hcl.1]
            exact ((hc.take _).append hcl).append (hc.drop _)
          obtain ⟨l', hl', hlr⟩ := fill_sim h hr hnew
          refine ⟨l', ?_, hlr⟩
          simp only [Instr.fill, hpl]
          rw [if_neg]
          · exact hl'
          · simp; omega
        · cases h
      · cases h

theorem mapM_places (w : World) : ∀ (fs : List Field), fs.all (fun f => (szOf P f.type).isSome) = true →
    (fs.mapM (fun f => (do pure (f.offset, ← sizeOf f.type) : Sem (Nat × Nat)))).run P w = .ok (fs.map fun f => (f.offset, (szOf P f.type).getD 0)) w
  | [], _ => rfl
  | f :: r, h => by
    rw [List.all_cons, Bool.and_eq_true] at h
    obtain ⟨n, hn⟩ := Option.isSome_iff_exists.1 h.1
    have ih := mapM_places w r h.2
    rw [List.mapM_cons]
    simp only [Sem.run_bind, Sem.run_pure, size_of hn, Result.andThen_ok, ih]
    simp [hn]

theorem build_sim {t : TypeId} {parts parts' : List (Nat × Value)} {v : Value} (h : abuild P t parts = some v) (hp : PRel φ parts parts') (w : World) :
    ∃ v', (Instr.build t parts'.toArray).run P w = .ok v' w ∧ VRel φ v v' := by
  unfold abuild at h
  split at h
  · rename_i fields z hd hz
    simp only [cond_eq_ite, Bool.and_eq_true] at h
    split at h
    · rename_i hc
      cases hf : afill (fun i => (fields[i]?).bind fun f => (szOf P f.type).map fun n => (f.offset, n)) z.cells.toList parts with
      | none => simp [hf] at h
      | some l =>
        simp [hf] at h
        subst h
        obtain ⟨l', hl', hlr⟩ := fill_sim hf hp (LRel.of_scalars hc.1)
        refine ⟨.agg l', ?_, (ARel.of_list (by simpa using hlr)).agg⟩
        have hpl : (fun (i : Nat) => (fields.toList.map fun (f : Field) => (f.offset, (szOf P f.type).getD 0)).toArray[i]?) = (fun (i : Nat) => (fields[i]?).bind fun (f : Field) => (szOf P f.type).map fun n => (f.offset, n)) := by
          funext i
          cases hfi : fields[i]? with
          | none => simp [hfi]
          | some f =>
            have hm : f ∈ fields.toList := by
              have := Array.mem_of_getElem? hfi
              simpa using this
            obtain ⟨n, hn⟩ := Option.isSome_iff_exists.1 (List.all_eq_true.1 hc.2 f hm)
            simp [hfi, hn]
        have hmap : (fields.mapM (fun (f : Field) => (do pure (f.offset, ← sizeOf f.type) : Sem (Nat × Nat)))).run P w = .ok (fields.toList.map fun (f : Field) => (f.offset, (szOf P f.type).getD 0)).toArray w := by
          rw [Array.mapM_eq_mapM_toList, Sem.run_map, mapM_places w fields.toList hc.2]
          rfl
        unfold Instr.build
        simp only [Sem.run_bind, zero_of hz, und_of hd, Result.andThen_ok, hmap]
        rw [show (fun (x : Nat) => (fields.toList.map fun (f : Field) => (f.offset, (szOf P f.type).getD 0)).toArray[x]?) = _ from hpl, hl']
        rfl
    · cases h
  · rename_i n elem z hd hz
    simp only [cond_eq_ite] at h
    split at h
    · rename_i hc
      split at h
      · rename_i size hsz
        cases hf : afill (fun i => some (i * size, size)) z.cells.toList parts with
        | none => simp [hf] at h
        | some l =>
          simp [hf] at h
          subst h
          obtain ⟨l', hl', hlr⟩ := fill_sim hf hp (LRel.of_scalars hc)
          refine ⟨.agg l', ?_, (ARel.of_list (by simpa using hlr)).agg⟩
          unfold Instr.build
          simp only [Sem.run_bind, zero_of hz, und_of hd, Result.andThen_ok, size_of hsz, hl']
          rfl
      · cases h
    · cases h
  · cases h

theorem buildSlice_sim (hS : Sim H φ m w) {t : TypeId} {len : Nat} {parts parts' : List (Nat × Value)} {v : Value} (h : abuildSlice P t len parts m = some (v, m')) (hp : PRel φ parts parts')
    (hn : m.get m.next = none) : ValOk H φ m' w v ((Instr.buildSlice t len parts'.toArray).run P w) := by
  unfold abuildSlice at h
  split at h
  case h_2 => cases h
  rename_i elem hd
  split at h
  case h_2 => cases h
  rename_i size z hsz hz
  simp only [cond_eq_ite, Bool.and_eq_true, ble_dec, beq_dec, decide_eq_true_eq] at h
  split at h
  case isFalse => cases h
  rename_i hc
  obtain ⟨⟨hc1, hc2⟩, hc3⟩ := hc
  split at h
  case h_2 => cases h
  rename_i cells hf
  split at h
  case isFalse => cases h
  rename_i hone
  cases h
  have hzl : (if len * size = 0 then (#[] : Array Value) else z.cells) = (if len * size = 0 then #[] else z.cells) := rfl
  have hrow : ((Array.range (len * size)).map fun i => (if len * size = 0 then (#[] : Array Value) else z.cells)[i % (if len * size = 0 then (#[] : Array Value) else z.cells).size]!).toList = zeroCellsN z.cells.toList len := by
    by_cases h0 : len * size = 0
    · simp only [h0]
      have := zeroCellsN_length z.cells.toList len
      rw [show z.cells.toList.length = size from by simpa using hc2, h0] at this
      rw [List.eq_nil_of_length_eq_zero this]
      simp
    · rw [if_neg h0, ← hc2]
      exact zeros_list z.cells len
  obtain ⟨l', hl', hlr⟩ := fill_sim (cells' := (Array.range (len * size)).map fun i => (if len * size = 0 then (#[] : Array Value) else z.cells)[i % (if len * size = 0 then (#[] : Array Value) else z.cells).size]!)
    hf hp (by rw [hrow]; exact LRel.of_scalars (zeroCellsN_scalar hc3 len))
  have hrun : (Instr.buildSlice t len parts'.toArray).run P w = .ok (.slice (some ⟨w.heap.size, 0, none⟩) len len) (w.alloc (.cells l' elem)) := by
    unfold Instr.buildSlice
    have hlt : ¬ (len * size > 2 ^ 24) := by omega
    simp only [Sem.run_bind, und_of hd, Result.andThen_ok, size_of hsz, hlt, if_false]
    by_cases h0 : len * size = 0
    · rw [if_pos h0]
      simp only [if_pos h0] at hl'
      simp only [Sem.run_bind, Sem.run_pure, Result.andThen_ok, hl', newRow, run_newObj, World.alloc_eq]
    · rw [if_neg h0]
      simp only [if_neg h0] at hl'
      simp only [Sem.run_bind, Sem.run_pure, Result.andThen_ok, zero_of hz, hl', newRow, run_newObj, World.alloc_eq]
  rw [hrun]
  have := hS.push_row (k := .rw) (extra := []) hn rfl rfl hlr elem 0 0 (.inl rfl)
  simp only [List.append_nil] at this
  refine ⟨_, _, _, rfl, Place.le_add (hS.none_ _ hn), by simpa using this, (Below.refl H w).alloc hS.low _, .slice (p := ⟨w.heap.size, 0, l'.toList.length, cells.length, none⟩) (by simp [Place.add]) rfl⟩

theorem makeSlice_sim (hS : Sim H φ m w) {t : TypeId} {l c l' c' v : Value} (h : amakeSlice P t l c m = some (v, m')) (hl : VRel φ l l') (hc : VRel φ c c')
    (hn : m.get m.next = none) : ValOk H φ m' w v ((Instr.makeSlice t l' c').run P w) := by
  unfold amakeSlice at h
  split at h
  case h_2 => cases h
  rename_i elem ln cn hd hln hcn
  obtain ⟨k1, rfl⟩ := natOf_some hln
  obtain ⟨k2, rfl⟩ := natOf_some hcn
  rw [hl.scalar_eq rfl, hc.scalar_eq rfl]
  split at h
  case h_2 => cases h
  rename_i size z bytes hsz hz hby
  simp only [cond_eq_ite, Bool.and_eq_true, ble_dec, beq_dec, decide_eq_true_eq] at h
  split at h
  case isFalse => cases h
  rename_i hcond
  obtain ⟨⟨⟨hsm, hle⟩, hzs⟩, hzz⟩ := hcond
  cases h
  unfold smallB at hsm
  rw [Bool.and_eq_true, ble_dec, ble_dec, decide_eq_true_eq, decide_eq_true_eq] at hsm
  have hi : ∃ i, P.info? elem = some i ∧ i.bytes = bytes := by
    cases hi : P.info? elem with
    | none => rw [hi] at hby; cases hby
    | some i => rw [hi] at hby; simp at hby; exact ⟨i, rfl, hby⟩
  obtain ⟨i, hi, hib⟩ := hi
  have wr : ∀ n : Nat, n ≤ 1073741824 → IntKind.i64.wrap (n : Int) = (n : Int) := fun n hn => by
    have h1 : (n : Int) % 18446744073709551616 = n := by omega
    have h2 : ¬ ((n : Int) ≥ 9223372036854775808) := by omega
    simp [IntKind.wrap, IntKind.bits, IntKind.signed, h1]
    omega
  have hrow : ((Array.range (cn * size)).map fun i => (if cn * size = 0 then (#[] : Array Value) else z.cells)[i % (if cn * size = 0 then (#[] : Array Value) else z.cells).size]!).toList = zeroCellsN z.cells.toList cn := by
    by_cases h0 : cn * size = 0
    · simp only [h0]
      have := zeroCellsN_length z.cells.toList cn
      rw [show z.cells.toList.length = size from by simpa using hzs, h0] at this
      rw [List.eq_nil_of_length_eq_zero this]
      simp
    · rw [if_neg h0, ← hzs]
      exact zeros_list z.cells cn
  have hb2 : bytes * cn ≤ 70368744177664 := Nat.le_trans (Nat.mul_le_mul hsm.2 hsm.1) (by decide)
  have hb3 : (bytes : Int) * (cn : Int) ≤ 70368744177664 := by
    have := Int.ofNat_le.2 hb2
    rw [Int.natCast_mul] at this
    exact this
  have hrun : (Instr.makeSlice t (.int k1 (ln : Int)) (.int k2 (cn : Int))).run P w = .ok (.slice (some ⟨w.heap.size, 0, none⟩) ln cn)
      (w.alloc (.cells ((Array.range (cn * size)).map fun i => (if cn * size = 0 then (#[] : Array Value) else z.cells)[i % (if cn * size = 0 then (#[] : Array Value) else z.cells).size]!) elem)) := by
    unfold Instr.makeSlice
    have e1 := wr ln (by omega)
    have e2 := wr cn hsm.1
    have c1 : ¬ ((cn : Int) < 0) := by omega
    have c2 : ¬ ((bytes : Int) * (cn : Int) > 2 ^ 48) := by omega
    have c3 : ¬ ((ln : Int) < 0) := by omega
    have c4 : ¬ ((ln : Int) > (cn : Int)) := by omega
    simp only [Sem.run_bind, und_of hd, Result.andThen_ok, asInt, asIntOf, Sem.run_pure, typeInfo, run_program, hi, hib, e1, e2, c1, c2, c3, c4, decide_false, Bool.or_self, Bool.false_eq_true, if_false,
      run_askRoom, Int.toNat_natCast, size_of hsz]
    by_cases h0 : cn * size = 0
    · simp only [if_pos h0]
      simp only [Sem.run_bind, Sem.run_pure, Result.andThen_ok, newRow, run_newObj, World.alloc_eq]
    · simp only [if_neg h0]
      simp only [Sem.run_bind, Sem.run_pure, Result.andThen_ok, zero_of hz, newRow, run_newObj, World.alloc_eq]
  rw [hrun]
  have := hS.push_row (cs := zeroCellsN z.cells.toList cn) (k := .rw) (extra := []) hn rfl rfl (LRel.of_scalars (zeroCellsN_scalar hzz cn)) elem 0 0 (.inl rfl)
  simp only [List.append_nil] at this
  refine ⟨_, _, φ.add m.next ⟨w.heap.size, 0, (zeroCellsN z.cells.toList cn).length, (zeroCellsN z.cells.toList cn).length, none⟩, rfl, Place.le_add (hS.none_ _ hn), ?_, (Below.refl H w).alloc hS.low _,
    .slice (p := ⟨w.heap.size, 0, (zeroCellsN z.cells.toList cn).length, (zeroCellsN z.cells.toList cn).length, none⟩) (by simp [Place.add]) rfl⟩
  have e : ((Array.range (cn * size)).map fun i => (if cn * size = 0 then (#[] : Array Value) else z.cells)[i % (if cn * size = 0 then (#[] : Array Value) else z.cells).size]!) = (zeroCellsN z.cells.toList cn).toArray := by
    rw [← hrow]
  rw [e]
  exact this

end
end Go.Big

/- Conversions, addresses of parts, maps. -/
namespace Go.Big
open Go.RowKit Go.Room

section
variable {P : Program} {H : Nat} {φ : Place} {m m' : Mem} {w : World}

theorem bytesCells_scalar (s : ByteArray) : (bytesCells s).all scalar = true := by
  rw [List.all_eq_true]; intro u hu
  simp [bytesCells] at hu
  obtain ⟨b, _, rfl⟩ := hu
  rfl

theorem mapM_bytes : ∀ {cs : List Value} {bs : List UInt8}, cs.mapM byteOfCell = some bs → ∃ ns : List Int, cs = ns.map (Value.int .u8) ∧ bs = ns.map fun n => UInt8.ofNat n.toNat
  | [], bs, h => by simp at h; subst h; exact ⟨[], rfl, rfl⟩
  | c :: r, bs, h => by
    rw [List.mapM_cons] at h
    simp only [Option.bind_eq_bind, Option.bind_eq_some_iff] at h
    obtain ⟨b, hb, bs', hbs, h⟩ := h
    cases h
    obtain ⟨ns, rfl, rfl⟩ := mapM_bytes hbs
    unfold byteOfCell at hb
    split at hb
    · rename_i n
      cases hb
      exact ⟨n :: ns, rfl, rfl⟩
    · cases hb

theorem foldl_push (ns : List Int) : ∀ s : ByteArray, ns.foldl (fun r n => r.push (UInt8.ofNat n.toNat)) s = ⟨s.data ++ (ns.map fun n => UInt8.ofNat n.toNat).toArray⟩ := by
  induction ns with
  | nil => intro s; simp
  | cons n ns ih =>
    intro s
    rw [List.foldl_cons, ih]
    simp [ByteArray.push]

theorem convert_sim (hS : Sim H φ m w) {src dst : TypeId} {x x' v : Value} {W : List Nat} {r : Rd} (h : aconvert P src dst x m = some (v, m', W, r)) (hx : VRel φ x x')
    (hn : m.next < m'.next → m.get m.next = none) : ValOk H φ m' w v ((convert src dst x').run P w) := by
  unfold aconvert at h
  split at h
  · -- a string's bytes
    rename_i e s hs hd
    rw [hx.scalar_eq rfl]
    split at h
    case h_2 => cases h
    rename_i he
    simp only [cond_eq_ite] at h
    split at h
    case isFalse => cases h
    rename_i hsm
    cases h
    have hnone : m.get m.next = none := hn (by simp)
    let c := s.size + w.tape w.drawn (.appendCap s.size 0 e) % (2 ^ 63 - s.size)
    have hq : (Question.appendCap s.size 0 e).forced = false := rfl
    have hlen : (bytesCells s).length = s.size * 1 := by show (s.data.toList.map _).length = s.data.size * 1; simp
    obtain ⟨ψ, h1, h2, h3⟩ := grow_sim (hS.congr (w' := w.drew) rfl) hnone (cs := bytesCells s) (cs' := bytesCells s) (extra := List.replicate (c - s.size) (Value.int .u8 0)) (s := 1) (n := s.size) (c := c)
      (by omega) (LRel.of_scalars (bytesCells_scalar s)) hlen (by simp) (by omega) e 0 0 (.inl rfl)
    have hheap : (w.drew.alloc (.cells (bytesCells s ++ List.replicate (c - s.size) (Value.int .u8 0)).toArray e)).heap[w.heap.size]? = some (.cells (bytesCells s ++ List.replicate (c - s.size) (Value.int .u8 0)).toArray e (0, 0)) :=
      heap_alloc_new w.drew _
    have h4 := h2.freeze (p := ⟨w.heap.size, 0, 0, 0, none⟩) hheap
    refine ⟨_, _, ψ, ?_, h1, h4, Below.freeze_ (((Below.refl H w).drew).alloc hS.low _) (by exact hS.low) 1, h3⟩
    have hdata : (s.data.map fun b => Value.int .u8 b.toNat) ++ Array.replicate (c - s.size) (Value.int .u8 0) = (bytesCells s ++ List.replicate (c - s.size) (Value.int .u8 0)).toArray := by
      apply Array.toList_inj.1
      simp [bytesCells]
    have hsh : ∀ (o : Array Value), (w.drew.alloc (.cells o e)).shape? w.heap.size = some (e, o.size) := fun o => by
      unfold World.shape?
      rw [show (w.drew.alloc (.cells o e)).heap[w.heap.size]? = some (.cells o e) from heap_alloc_new w.drew _]
    simp only [convert, Sem.run_bind, und_of hs, und_of hd, und_of he, Result.andThen_ok, Conv.stringToBytes, run_choose, hq, Bool.false_eq_true, if_false, World.drew_eq]
    rw [show (Question.appendCap s.size 0 e).cut (w.tape w.drawn (Question.appendCap s.size 0 e)) = c from rfl, hdata]
    simp only [newRow, Sem.run_bind, run_newObj, World.alloc_eq, Result.andThen_ok, Sem.run_pure, markStringish, run_shape, hsh, run_freeze, World.size_drew]
  · -- bytes as a string
    rename_i e a n c hs hd
    split at h
    case h_2 => cases h
    rename_i he
    split at h
    case h_2 => cases h
    rename_i n' cs hel
    cases hmb : cs.mapM byteOfCell with
    | none => simp [hmb] at h
    | some bs =>
      simp [hmb] at h
      obtain ⟨rfl, rfl, _, _⟩ := h
      obtain ⟨ns, rfl, rfl⟩ := mapM_bytes hmb
      obtain ⟨hlen, hlenOf, hfirst⟩ := elems_sim (P := P) hS hel hx
      obtain ⟨l', hl', hrun⟩ := hfirst n' (Nat.le_refl _)
      rw [← hlen, List.take_length] at hl'
      have hll : l' = ns.map (Value.int .u8) := by
        apply List.ext_getElem?
        intro i
        cases hv : (ns.map (Value.int .u8))[i]? with
        | none =>
          rw [List.getElem?_eq_none_iff] at hv ⊢
          have := hl'.1; omega
        | some v =>
          obtain ⟨v', hv', hr⟩ := hl'.get hv
          rw [hv', hr.scalar_eq (by
            simp at hv
            obtain ⟨k, _, rfl⟩ := hv
            rfl)]
      obtain ⟨a', n2, c', rfl⟩ : ∃ a' n2 c', x' = .slice (some a') n2 c' := by
        rcases hx.slice_inv with ⟨p, c', _, _, _, rfl⟩ | ⟨_, _, _, a', c', rfl⟩
        · exact ⟨_, _, _, rfl⟩
        · exact ⟨_, _, _, rfl⟩
      have hn2 : n2 = n' := by
        simp [Builtin.lenOf] at hlenOf
        exact hlenOf
      subst hn2
      have hload : (loadCells a' n2).run P w = .ok (ns.map (Value.int .u8)).toArray w := by
        have := hrun
        simp only [Builtin.firstCells, Nat.mul_one] at this
        rw [this, hll]
      rw [run_convert_bytes_string w src dst e (some a') n2 c' hs he hd, run_bytesToString w a' n2 c' ns hload, foldl_push]
      simp only [show ByteArray.empty.data = #[] from rfl, Array.empty_append]
      exact ValOk.pure_ hS (.base rfl)
  · -- a slice of bytes as such
    rename_i e0 e a n c hs hd
    split at h
    case h_2 => cases h
    rename_i cs k he hsp hg
    simp only [cond_eq_ite, Bool.and_eq_true, beq_dec, decide_eq_true_eq] at h
    split at h
    case isFalse => cases h
    rename_i hc
    obtain ⟨rfl, hk⟩ := hc
    cases h
    rcases hx.slice_inv with ⟨p, c', hsp', hp, hcap, rfl⟩ | ⟨e, _, _, a', c', rfl⟩
    · obtain ⟨p', hp', hr⟩ := hS.row _ _ _ hg
      rw [hp] at hp'; cases hp'
      obtain ⟨cc, ee, lo, hi, hh, hf, hsz⟩ := (hr.own hk).2
      have hrun : (convert src src (.slice (some ⟨p.blk, p.off + a.off, none⟩) n c')).run P w = .ok (.slice (some ⟨p.blk, p.off + a.off, none⟩) n c') (w.freeze ⟨p.blk, cc.size, none⟩ 1) := by
        have hsh : w.shape? p.blk = some (ee, cc.size) := by unfold World.shape?; rw [hh]
        simp only [convert, Sem.run_bind, und_of hs, Result.andThen_ok, BEq.rfl]
        rw [hs] at hd
        cases hd
        simp only [und_of he, Result.andThen_ok, Sem.run_bind, markStringish, run_shape, hsh, run_freeze, Sem.run_pure]
      rw [hrun]
      refine ⟨_, _, φ, rfl, Place.le_refl φ, hS.freeze hh, Below.freeze_ (Below.refl H w) (hr.own hk).1 1, ?_⟩
      have hspot : a = ⟨a.block, a.off, none⟩ := by cases a; simp_all
      rw [hspot]
      exact .slice hp hcap
    · rw [e] at hsp; cases hsp
  · cases h

theorem fieldAddr_sim {t : TypeId} {x x' v : Value} {f : Nat} (h : afieldAddr P t x f = some v) (hx : VRel φ x x') (w : World) :
    ∃ v', (Instr.fieldAt t x' f).run P w = .ok v' w ∧ VRel φ v v' := by
  unfold afieldAddr at h
  split at h
  case h_2 => cases h
  rename_i fs a hd
  split at h
  case h_2 => cases h
  rename_i fd hsp hf
  split at h
  case h_2 => cases h
  rename_i k hsz
  cases h
  obtain ⟨p, hsp', hp, rfl⟩ := hx.ptr_inv
  refine ⟨.pointer (some ((⟨p.blk, p.off + a.off, none⟩ : Addr).add fd.offset)), ?_, ?_⟩
  · simp [Instr.fieldAt, und_of hd, hf, Instr.sureAddr, fieldPlace, size_of hsz]
  · have hspot : a = ⟨a.block, a.off, none⟩ := by cases a; simp_all
    rw [hspot, addr_add, addr_add, Nat.add_assoc]
    exact .ptr hp

theorem indexAddr_sim {t : TypeId} {x x' ix ix' v : Value} (h : aindexAddr P t x ix = some v) (hx : VRel φ x x') (hi : VRel φ ix ix') (w : World) :
    ∃ v', (Instr.indexAt t x' ix').run P w = .ok v' w ∧ VRel φ v v' := by
  unfold aindexAddr at h
  split at h
  · rename_i len elem a i hd hni
    obtain ⟨k, rfl⟩ := natOf_some hni
    rw [hi.scalar_eq rfl]
    split at h
    case h_2 => cases h
    rename_i s hsp hsz
    simp only [cond_eq_ite, blt_dec, decide_eq_true_eq] at h
    split at h
    case isFalse => cases h
    rename_i hlt
    cases h
    obtain ⟨p, hsp', hp, rfl⟩ := hx.ptr_inv
    refine ⟨.pointer (some ((⟨p.blk, p.off + a.off, none⟩ : Addr).add (i * s))), ?_, ?_⟩
    · simp [Instr.indexAt, und_of hd, asIntOf, Instr.sureAddr, size_of hsz]
      intro hge; omega
    · have hspot : a = ⟨a.block, a.off, none⟩ := by cases a; simp_all
      rw [hspot, addr_add, addr_add, Nat.add_assoc]
      exact .ptr hp
  · rename_i elem a len c i hd hni
    obtain ⟨k, rfl⟩ := natOf_some hni
    rw [hi.scalar_eq rfl]
    split at h
    case h_2 => cases h
    rename_i s hsp hsz
    simp only [cond_eq_ite, blt_dec, decide_eq_true_eq] at h
    split at h
    case isFalse => cases h
    rename_i hlt
    cases h
    rcases hx.slice_inv with ⟨p, c', hsp', hp, hcap, rfl⟩ | ⟨e, _, _, a', c', rfl⟩
    · refine ⟨.pointer (some ((⟨p.blk, p.off + a.off, none⟩ : Addr).add (i * s))), ?_, ?_⟩
      · simp [Instr.indexAt, und_of hd, asIntOf, size_of hsz]
        intro hge; omega
      · have hspot : a = ⟨a.block, a.off, none⟩ := by cases a; simp_all
        rw [hspot, addr_add, addr_add, Nat.add_assoc]
        exact .ptr hp
    · rw [e] at hsp; cases hsp
  · cases h

/-! ### Maps -/

theorem eval0_bind {α β : Type} : ∀ (s : Sem α) (f : α → Sem β), eval0 P (s.bind f) = (eval0 P s).bind fun a => eval0 P (f a) := by
  intro s
  induction s with
  | pure a => intro f; rfl
  | program k ih => intro f; exact ih P f
  | _ => intro f; rfl

theorem eval0_bind' {α β : Type} (s : Sem α) (f : α → Sem β) : eval0 P (s >>= f) = (eval0 P s).bind fun a => eval0 P (f a) := eval0_bind s f

def strip (e : MapEntry) : MapEntry := { e with val := undef }

theorem findNow_strip {kind : TypeDesc} {k : Value} : ∀ (es : List MapEntry) (i : Nat) (r : Option (Nat × Value)), Instr.findNow kind k (es.map strip) i = some r →
    ∃ r', Instr.findNow kind k es i = some r' ∧ r'.map (·.1) = r.map (·.1) ∧ ∀ j v, r' = some (j, v) → i ≤ j ∧ ∃ e, es[j - i]? = some e ∧ e.val = v
  | [], i, r, h => by
    simp [Instr.findNow] at h; subst h
    exact ⟨none, rfl, rfl, fun _ _ h => by cases h⟩
  | e :: es, i, r, h => by
    simp only [List.map_cons, Instr.findNow] at h ⊢
    have hk : (strip e).key = e.key := rfl
    rw [hk] at h
    cases hs : Instr.sameNow kind k e.key with
    | none => simp [hs] at h
    | some b =>
      cases b with
      | true =>
        simp only [hs] at h ⊢
        cases h
        exact ⟨_, rfl, rfl, fun j v hj => by cases hj; exact ⟨Nat.le_refl _, e, by simp, rfl⟩⟩
      | false =>
        simp only [hs] at h ⊢
        obtain ⟨r', h1, h2, h3⟩ := findNow_strip es (i + 1) r h
        refine ⟨r', h1, h2, fun j v hj => ?_⟩
        obtain ⟨hle, e', he', hv⟩ := h3 j v hj
        refine ⟨by omega, e', ?_, hv⟩
        rw [show j - i = (j - (i + 1)) + 1 from by omega]
        simpa using he'

theorem findNow_none {kind : TypeDesc} {k : Value} : ∀ (es : List MapEntry) (i : Nat), Instr.findNow kind k (es.map strip) i = none → Instr.findNow kind k es i = none
  | [], i, h => by simp [Instr.findNow] at h
  | e :: es, i, h => by
    simp only [List.map_cons, Instr.findNow] at h ⊢
    have hk : (strip e).key = e.key := rfl
    rw [hk] at h
    cases hs : Instr.sameNow kind k e.key with
    | none => rfl
    | some b =>
      cases b with
      | true => simp [hs] at h
      | false => simp only [hs] at h ⊢; exact findNow_none es (i + 1) h

theorem findAsking_strip {kt : TypeId} {k : Value} : ∀ (es : List MapEntry) (i : Nat) (r : Option (Nat × Value)), eval0 P (Instr.findAsking kt k (es.map strip) i) = some r →
    ∃ r', eval0 P (Instr.findAsking kt k es i) = some r' ∧ r'.map (·.1) = r.map (·.1) ∧ ∀ j v, r' = some (j, v) → i ≤ j ∧ ∃ e, es[j - i]? = some e ∧ e.val = v
  | [], i, r, h => by
    simp only [List.map_nil, Instr.findAsking] at h
    cases h
    exact ⟨none, rfl, rfl, fun _ _ h => by cases h⟩
  | e :: es, i, r, h => by
    simp only [List.map_cons, Instr.findAsking] at h ⊢
    have hk : (strip e).key = e.key := rfl
    rw [hk, eval0_bind', Option.bind_eq_some_iff] at h
    obtain ⟨b, hb, h⟩ := h
    rw [eval0_bind', hb]
    cases b with
    | true =>
      simp only [if_true] at h ⊢
      cases h
      exact ⟨_, rfl, rfl, fun j v hj => by cases hj; exact ⟨Nat.le_refl _, e, by simp, rfl⟩⟩
    | false =>
      simp only [Bool.false_eq_true, if_false] at h ⊢
      obtain ⟨r', h1, h2, h3⟩ := findAsking_strip es (i + 1) r h
      refine ⟨r', h1, h2, fun j v hj => ?_⟩
      obtain ⟨hle, e', he', hv⟩ := h3 j v hj
      refine ⟨by omega, e', ?_, hv⟩
      rw [show j - i = (j - (i + 1)) + 1 from by omega]
      simpa using he'

theorem findKey_strip {kt : TypeId} {k : Value} (es : List MapEntry) (r : Option (Nat × Value)) (h : eval0 P (Instr.findKey kt k (es.map strip)) = some r) :
    ∃ r', eval0 P (Instr.findKey kt k es) = some r' ∧ r'.map (·.1) = r.map (·.1) ∧ ∀ j v, r' = some (j, v) → ∃ e, es[j]? = some e ∧ e.val = v := by
  unfold Instr.findKey at h ⊢
  rw [eval0_bind', Option.bind_eq_some_iff] at h
  obtain ⟨d, hd, h⟩ := h
  rw [eval0_bind', hd]
  simp only [Option.bind_some]
  cases hf : Instr.findNow d k (es.map strip) 0 with
  | some r0 =>
    rw [hf] at h
    cases h
    obtain ⟨r', h1, h2, h3⟩ := findNow_strip es 0 r hf
    rw [h1]
    exact ⟨r', rfl, h2, fun j v hj => by obtain ⟨_, e, he, hv⟩ := h3 j v hj; exact ⟨e, by simpa using he, hv⟩⟩
  | none =>
    rw [hf] at h
    rw [findNow_none es 0 hf]
    obtain ⟨r', h1, h2, h3⟩ := findAsking_strip es 0 r h
    exact ⟨r', h1, h2, fun j v hj => by obtain ⟨_, e, he, hv⟩ := h3 j v hj; exact ⟨e, by simpa using he, hv⟩⟩

theorem MRel.keys {l l' : List MapEntry} (h : MRel φ l l') (hp : l.all (fun e => plain e.key) = true) : l'.map strip = l.map strip := by
  apply List.ext_getElem?
  intro i
  simp only [List.getElem?_map]
  cases he : l[i]? with
  | none =>
    rw [List.getElem?_eq_none_iff] at he
    rw [List.getElem?_eq_none (by have := h.1; omega)]
  | some e =>
    have hi : i < l.length := by
      rcases Nat.lt_or_ge i l.length with h1 | h1
      · exact h1
      · rw [List.getElem?_eq_none h1] at he; cases he
    have hi' : i < l'.length := by have := h.1; omega
    obtain ⟨h1, h2, h3⟩ := h.2 i e _ he (List.getElem?_eq_getElem hi')
    rw [List.getElem?_eq_getElem hi']
    have hpe := List.all_eq_true.1 hp e (List.mem_of_getElem? he)
    simp only [Option.map_some, Option.some.injEq, strip]
    rw [h1.plain_eq hpe, h3]

/-- What a look-up of a key comes to. -/
theorem findIdx_sim {kt : TypeId} {k k' : Value} {es es' : List MapEntry} {r : Option Nat} (h : findIdx P kt k es = some r) (hk : VRel φ k k') (hm : MRel φ es es') (w : World) :
    k' = k ∧ (Instr.checkKey es'.isEmpty 10000 kt k).run P w = .ok () w ∧ (Instr.checkKey false 10000 kt k).run P w = .ok () w ∧
      ∃ r', (Instr.findKey kt k es').run P w = .ok r' w ∧ r'.map (·.1) = r ∧ ∀ j v, r' = some (j, v) → ∃ e, es'[j]? = some e ∧ e.val = v := by
  unfold findIdx at h
  simp only [cond_eq_ite, Bool.and_eq_true] at h
  split at h
  case isFalse => cases h
  rename_i hp
  split at h
  case h_2 => cases h
  rename_i r0 hr0
  cases h
  rw [eval0_bind', Option.bind_eq_some_iff] at hr0
  obtain ⟨u, hu, hr0⟩ := hr0
  rw [eval0_bind', Option.bind_eq_some_iff] at hr0
  obtain ⟨u2, hu2, hr0⟩ := hr0
  have hkeys := hm.keys hp.2
  have hemp : es'.isEmpty = es.isEmpty := by
    have := hm.1
    cases es <;> cases es' <;> simp_all
  have hr1 : eval0 P (Instr.findKey kt k (es'.map strip)) = some r0 := by rw [hkeys]; exact hr0
  obtain ⟨r', h1, h2, h3⟩ := findKey_strip es' r0 hr1
  exact ⟨hk.plain_eq hp.1, by rw [hemp]; exact eval0_run P w _ _ hu, eval0_run P w _ _ hu2, r', eval0_run P w _ _ h1, h2, h3⟩

theorem MRel.get {l l' : List MapEntry} (h : MRel φ l l') {i : Nat} {e : MapEntry} (he : l[i]? = some e) : ∃ e', l'[i]? = some e' ∧ ERel φ e e' := by
  have hi : i < l.length := by
    rcases Nat.lt_or_ge i l.length with h1 | h1
    · exact h1
    · rw [List.getElem?_eq_none h1] at he; cases he
  have hi' : i < l'.length := by have := h.1; omega
  exact ⟨_, List.getElem?_eq_getElem hi', h.2 i e _ he (List.getElem?_eq_getElem hi')⟩

theorem run_getObj_map_of {r : Nat} {es : Array MapEntry} {c : Nat} (h : w.heap[r]? = some (.map es c)) : (getObj r).run P w = .ok (.map es c) w := by
  simp [getObj, Sem.run, h]

theorem run_setObj_map_of {r : Nat} {es : Array MapEntry} {c : Nat} (h : w.heap[r]? = some (.map es c)) (o : Obj) : (setObj r o).run P w = .ok () { w with heap := w.heap.setIfInBounds r o } := by
  simp [setObj, Sem.run, h]

theorem lookup_sim (hS : Sim H φ m w) {t : TypeId} {x x' k k' v : Value} {ok : Bool} {W : List Nat} {r : Rd} (h : alookup P t x k ok m = some (v, m', W, r)) (hx : VRel φ x x') (hk : VRel φ k k') :
    ValOk H φ m' w v ((Instr.lookup t x' k' ok).run P w) := by
  unfold alookup at h
  split at h
  case h_2 => cases h
  rename_i kt et b hd
  split at h
  case h_2 => cases h
  rename_i es cl hg
  obtain ⟨p, hp, rfl⟩ := hx.map_inv
  obtain ⟨p', hp', hr⟩ := hS.map _ _ _ hg
  rw [hp] at hp'; cases hp'
  obtain ⟨es', ho, hm⟩ := hr.obj
  split at h
  · rename_i _ i hf
    obtain ⟨rfl, hck, hck2, r', hfk, hr1, hr2⟩ := findIdx_sim (P := P) hf hk hm w
    cases hei : es[i]? with
    | none => simp [hei] at h
    | some e =>
      simp [hei] at h
      obtain ⟨rfl, rfl, _, _⟩ := h
      cases r' with
      | none => simp at hr1
      | some q =>
        obtain ⟨j, v'⟩ := q
        simp at hr1; subst hr1
        obtain ⟨e', he', rfl⟩ := hr2 j v' rfl
        obtain ⟨e2, he2, hre⟩ := hm.get hei
        rw [he2] at he'
        obtain rfl := Option.some.inj he'
        have hck' : (Instr.checkKey es'.isEmpty 10000 kt k').run P w = .ok () w := by
          have : es'.isEmpty = es'.toList.isEmpty := by simp
          rw [this]; exact hck
        have hrun : (Instr.lookup t (.map (some p.blk)) k' ok).run P w = .ok (if ok then .tuple #[e2.val, .bool true] else e2.val) w := by
          unfold Instr.lookup
          simp [und_of hd, run_getObj_map_of ho, hck', hfk]
        rw [hrun]
        refine ValOk.pure_ hS ?_
        cases ok with
        | true => exact (ARel.of_list (.cons hre.2.1 (.cons (v := .bool true) (v' := .bool true) (.base rfl) .nil))).tuple
        | false => exact hre.2.1
  · rename_i z hf hz
    obtain ⟨rfl, hck, hck2, r', hfk, hr1, hr2⟩ := findIdx_sim (P := P) hf hk hm w
    simp only [cond_eq_ite] at h
    split at h
    case isFalse => cases h
    rename_i hpl
    cases h
    cases r' with
    | some q => simp at hr1
    | none =>
      have hck' : (Instr.checkKey es'.isEmpty 10000 kt k').run P w = .ok () w := by
        have : es'.isEmpty = es'.toList.isEmpty := by simp
        rw [this]; exact hck
      have hrun : (Instr.lookup t (.map (some p.blk)) k' ok).run P w = .ok (if ok then .tuple #[z, .bool false] else z) w := by
        unfold Instr.lookup
        simp [und_of hd, run_getObj_map_of ho, hck', hfk, zero_of hz]
      rw [hrun]
      refine ValOk.pure_ hS ?_
      cases ok with
      | true => exact (ARel.of_list (.cons (.of_plain hpl) (.cons (v := .bool false) (v' := .bool false) (.base rfl) .nil))).tuple
      | false => exact .of_plain hpl
  · cases h

theorem MRel.set {l l' : List MapEntry} (h : MRel φ l l') {i : Nat} {e e' : MapEntry} (he : ERel φ e e') : MRel φ (l.set i e) (l'.set i e') := by
  refine ⟨by simp [h.1], fun j x x' hx hx' => ?_⟩
  by_cases c : i = j
  · subst c
    have hi : i < l.length := by
      rcases Nat.lt_or_ge i l.length with h1 | h1
      · exact h1
      · rw [List.getElem?_eq_none (by simpa using h1)] at hx; cases hx
    rw [List.getElem?_set_self hi] at hx
    rw [List.getElem?_set_self (by have := h.1; omega)] at hx'
    cases hx; cases hx'; exact he
  · rw [List.getElem?_set_ne c] at hx hx'
    exact h.2 j x x' hx hx'

theorem MRel.snoc {l l' : List MapEntry} (h : MRel φ l l') {e e' : MapEntry} (he : ERel φ e e') : MRel φ (l ++ [e]) (l' ++ [e']) := by
  refine ⟨by simp [h.1], fun j x x' hx hx' => ?_⟩
  have hl := h.1
  by_cases c : j < l.length
  · rw [List.getElem?_append_left c] at hx
    rw [List.getElem?_append_left (by omega)] at hx'
    exact h.2 j x x' hx hx'
  · rw [List.getElem?_append_right (by omega)] at hx
    rw [List.getElem?_append_right (by omega)] at hx'
    have : j - l.length = 0 := by
      rcases Nat.eq_zero_or_pos (j - l.length) with h0 | h0
      · exact h0
      · rw [List.getElem?_eq_none (by simp; omega)] at hx; cases hx
    have h2 : j - l'.length = 0 := by omega
    rw [this] at hx; rw [h2] at hx'
    simp at hx hx'
    subst hx; subst hx'; exact he

theorem MRel.erase {l l' : List MapEntry} (h : MRel φ l l') (i : Nat) : MRel φ (l.eraseIdx i) (l'.eraseIdx i) := by
  have hl := h.1
  refine ⟨by simp [List.length_eraseIdx, hl], fun j x x' hx hx' => ?_⟩
  rw [List.getElem?_eraseIdx] at hx hx'
  split at hx
  · exact h.2 _ _ _ hx (by simpa [*] using hx')
  · exact h.2 _ _ _ hx (by simpa [*] using hx')

theorem mapUpdate_sim (hS : Sim H φ m w) {t : TypeId} {x x' k k' u u' v : Value} {W : List Nat} {r : Rd} (h : amapUpdate P t x k u m = some (v, m', W, r)) (hx : VRel φ x x') (hk : VRel φ k k')
    (hu : VRel φ u u') : v = undef ∧ ∃ w', (Instr.mapUpdate t x' k' u').run P w = .ok () w' ∧ Sim H φ m' w' ∧ Below H w w' := by
  unfold amapUpdate at h
  split at h
  case h_2 => cases h
  rename_i kt et b hd
  split at h
  case h_2 => cases h
  rename_i es cl hg
  obtain ⟨p, hp, rfl⟩ := hx.map_inv
  obtain ⟨p', hp', hr⟩ := hS.map _ _ _ hg
  rw [hp] at hp'; cases hp'
  obtain ⟨es', ho, hm⟩ := hr.obj
  have hblk := (hS.blk_lt (.inr ⟨es, cl, hg⟩) hp).1
  have hbelow : ∀ o, Below H w { w with heap := w.heap.setIfInBounds p.blk o } := fun o => ⟨rfl, rfl, rfl, by simp, fun i hi => by
    show (w.heap.setIfInBounds p.blk o)[i]? = _
    rw [Array.getElem?_setIfInBounds_ne (by have := hr.own; omega)]⟩
  split at h
  · rename_i i hf
    obtain ⟨rfl, hck, hck2, r', hfk, hr1, hr2⟩ := findIdx_sim (P := P) hf hk hm w
    cases hei : es[i]? with
    | none => simp [hei] at h
    | some e =>
      simp only [hei, Option.bind_some, cond_eq_ite] at h
      split at h
      case isFalse => cases h
      rename_i hsb
      cases h
      cases r' with
      | none => simp at hr1
      | some q =>
        obtain ⟨j, v'⟩ := q
        simp at hr1; subst hr1
        obtain ⟨e2, he2, hre⟩ := hm.get hei
        have hkey : e2.key = e.key := by
          unfold findIdx at hf
          simp only [cond_eq_ite, Bool.and_eq_true] at hf
          split at hf
          · rename_i hpp
            exact hre.1.plain_eq (List.all_eq_true.1 hpp.2 e (List.mem_of_getElem? hei))
          · cases hf
        refine ⟨rfl, _, ?_, hS.set_map (es2' := es'.modify j fun e => { e with key := k', val := u' }) hg hp ?_, hbelow _⟩
        · unfold Instr.mapUpdate
          have he3 : es'[j]? = some e2 := by simpa using he2
          simp [und_of hd, run_getObj_map_of ho, hck2, hfk, he3, Instr.keyThatStays, hkey, hsb, run_setObj_map_of ho]
        · have : (es'.modify j fun e => { e with key := k', val := u' }).toList = es'.toList.set j { e2 with key := k', val := u' } := by
            apply List.ext_getElem?
            intro i
            simp only [Array.getElem?_toList, Array.getElem?_modify]
            by_cases c : j = i
            · subst c
              have he3 : es'[j]? = some e2 := by simpa using he2
              have hjl : j < es'.toList.length := by
                rcases Nat.lt_or_ge j es'.toList.length with h1 | h1
                · exact h1
                · rw [List.getElem?_eq_none h1] at he2; cases he2
              rw [List.getElem?_set_self hjl]
              simp [he3]
            · rw [List.getElem?_set_ne c]
              simp [c]
          rw [this]
          exact hm.set ⟨hk, hu, hre.2.2⟩
  · rename_i hf
    obtain ⟨rfl, hck, hck2, r', hfk, hr1, hr2⟩ := findIdx_sim (P := P) hf hk hm w
    cases h
    cases r' with
    | some q => simp at hr1
    | none =>
      refine ⟨rfl, _, ?_, hS.set_map (es2' := es'.push { key := k', val := u', born := cl }) hg hp ?_, hbelow _⟩
      · unfold Instr.mapUpdate
        simp [und_of hd, run_getObj_map_of ho, hck2, hfk, run_setObj_map_of ho]
      · simpa using hm.snoc (e := { key := k', val := u, born := cl }) (e' := { key := k', val := u', born := cl }) ⟨hk, hu, rfl⟩
  · cases h

end
end Go.Big

/- One operation of the evaluator is one of the model's. -/
namespace Go.Big
open Go.RowKit Go.Room

section
variable {P : Program} {H : Nat} {φ : Place} {m m' : Mem} {w : World}

theorem delete_sim (hS : Sim H φ m w) {argTypes : Array TypeId} {x x' k k' v : Value} {W : List Nat} {r : Rd} (h : adelete P argTypes x k m = some (v, m', W, r)) (hx : VRel φ x x') (hk : VRel φ k k')
    (ty : TypeId) : ValOk H φ m' w v ((Builtin.delete_ argTypes ty #[x', k']).run P w) := by
  unfold adelete at h
  split at h
  case h_2 => cases h
  rename_i kt et b hd0
  obtain ⟨sT, hsT, hd⟩ := Option.bind_eq_some_iff.1 hd0
  split at h
  case h_2 => cases h
  rename_i es cl hg
  obtain ⟨p, hp, rfl⟩ := hx.map_inv
  obtain ⟨p', hp', hr⟩ := hS.map _ _ _ hg
  rw [hp] at hp'; cases hp'
  obtain ⟨es', ho, hm⟩ := hr.obj
  have hbelow : ∀ o, Below H w { w with heap := w.heap.setIfInBounds p.blk o } := fun o => ⟨rfl, rfl, rfl, by simp, fun i hi => by
    show (w.heap.setIfInBounds p.blk o)[i]? = _
    rw [Array.getElem?_setIfInBounds_ne (by have := hr.own; omega)]⟩
  split at h
  · rename_i i hf
    obtain ⟨rfl, hck, hck2, r', hfk, hr1, hr2⟩ := findIdx_sim (P := P) hf hk hm w
    cases h
    cases r' with
    | none => simp at hr1
    | some q =>
      obtain ⟨j, v'⟩ := q
      simp at hr1; subst hr1
      obtain ⟨e2, he2, _⟩ := hr2 j v' rfl
      have hck' : (Instr.checkKey es'.isEmpty 10000 kt k').run P w = .ok () w := by
        have : es'.isEmpty = es'.toList.isEmpty := by simp
        rw [this]; exact hck
      have hrun : (Builtin.delete_ argTypes ty #[.map (some p.blk), k']).run P w = .ok (.tuple #[]) { w with heap := w.heap.setIfInBounds p.blk (.map (es'.eraseIdxIfInBounds j) cl) } := by
        unfold Builtin.delete_
        simp [hsT, und_of hd, run_getObj_map_of ho, hck', hfk, run_setObj_map_of ho]
      rw [hrun]
      refine ⟨_, _, φ, rfl, Place.le_refl φ, hS.set_map (es2' := es'.eraseIdxIfInBounds j) hg hp ?_, hbelow _, VRel.undef_⟩
      have hjl : j < es'.size := by
        have := (List.getElem?_eq_some_iff.1 he2).1
        simpa using this
      have : (es'.eraseIdxIfInBounds j).toList = es'.toList.eraseIdx j := by
        simp [Array.eraseIdxIfInBounds, hjl]
      rw [this]
      exact hm.erase j
  · rename_i hf
    obtain ⟨rfl, hck, hck2, r', hfk, hr1, hr2⟩ := findIdx_sim (P := P) hf hk hm w
    cases h
    cases r' with
    | some q => simp at hr1
    | none =>
      have hck' : (Instr.checkKey es'.isEmpty 10000 kt k').run P w = .ok () w := by
        have : es'.isEmpty = es'.toList.isEmpty := by simp
        rw [this]; exact hck
      have hrun : (Builtin.delete_ argTypes ty #[.map (some p.blk), k']).run P w = .ok (.tuple #[]) { w with heap := w.heap.setIfInBounds p.blk (.map es' cl) } := by
        unfold Builtin.delete_
        simp [hsT, und_of hd, run_getObj_map_of ho, hck', hfk, run_setObj_map_of ho]
      rw [hrun]
      exact ⟨_, _, φ, rfl, Place.le_refl φ, hS.set_map (es2' := es') hg hp hm, hbelow _, VRel.undef_⟩
  · cases h

theorem pureOp_sim {ρ ρ' : Operand → Value} {o : Oper} {v : Value} (h : pureOp P ρ o = some v) (hρ : ∀ x ∈ o.op.operands, VRel φ (ρ x) (ρ' x)) (hs : ∀ cs b, o.op ≠ .select cs b) (w : World) :
    (execOp ρ' o).run P w = .ok (.value v) w ∧ plain v = true := by
  unfold pureOp at h
  simp only [cond_eq_ite] at h
  split at h
  case isFalse => cases h
  rename_i hp
  split at h
  case h_2 => cases h
  rename_i u hu
  split at h
  case isFalse => cases h
  rename_i hpl
  cases h
  have hcongr := execOp_congr o hs fun x hx => ((hρ x hx).plain_eq (List.all_eq_true.1 hp x (by simpa using hx))).symm
  rw [← hcongr]
  exact ⟨eval0_run P w _ _ hu, hpl⟩

/-- Operands of an operation that the evaluator may take: no global, constants without addresses. -/
def okOperand : Operand → Bool
  | .const v => plain v
  | .global _ => false
  | _ => true

theorem args_two {c : Array Operand} {ρ : Operand → Value} {s x : Value} (h : c.toList.map ρ = [s, x]) : ∃ a b, c = #[a, b] ∧ ρ a = s ∧ ρ b = x := by
  obtain ⟨l⟩ := c
  match l, h with
  | [a, b], h => simp at h; exact ⟨a, b, rfl, h.1, h.2⟩

theorem args_one {c : Array Operand} {ρ : Operand → Value} {s : Value} (h : c.toList.map ρ = [s]) : ∃ a, c = #[a] ∧ ρ a = s := by
  obtain ⟨l⟩ := c
  match l, h with
  | [a], h => simp at h; exact ⟨a, rfl, h⟩

theorem OpOk.of_pure (hS : Sim H φ m w) {v : Value} {r : Result Next} (h : r = .ok (.value v) w) (hv : plain v = true) : OpOk H φ m w v r :=
  ⟨_, v, w, φ, h, .inl rfl, Place.le_refl φ, hS, Below.refl H w, .of_plain hv⟩

theorem OpOk.of_val (hS : Sim H φ m w) {v v' : Value} {r : Result Next} (h : r = .ok (.value v') w) (hv : VRel φ v v') : OpOk H φ m w v r :=
  ⟨_, v', w, φ, h, .inl rfl, Place.le_refl φ, hS, Below.refl H w, hv⟩

theorem pv_some {o : Option Value} {v : Value} {W : List Nat} {r : Rd} (h : pv m o = some (v, m', W, r)) : o = some v ∧ m' = m ∧ W = [] ∧ r = .no := by
  unfold pv at h
  cases o with
  | none => cases h
  | some u => simp at h; obtain ⟨rfl, rfl, rfl, rfl⟩ := h; exact ⟨rfl, rfl, rfl, rfl⟩

theorem pm_some {o : Option (Value × Mem)} {v : Value} {W : List Nat} {r : Rd} (h : pm o = some (v, m', W, r)) : o = some (v, m') ∧ W = [] ∧ r = .no := by
  unfold pm at h
  cases o with
  | none => cases h
  | some u => obtain ⟨u1, u2⟩ := u; simp at h; obtain ⟨rfl, rfl, rfl, rfl⟩ := h; exact ⟨rfl, rfl, rfl⟩

theorem ValOk.run {v : Value} {r : Result Value} (h : ValOk H φ m' w v r) {n : Result Next} (hn : n = r.andThen fun a w' => .ok (.value a) w') : OpOk H φ m' w v n := by
  obtain ⟨v', w', ψ, h1, h2⟩ := h
  refine ⟨.value v', v', w', ψ, ?_, .inl rfl, h2⟩
  rw [hn, h1]; rfl

theorem builtin_sim (hS : Sim H φ m w) {ρ ρ' : Operand → Value} {o : Oper} {b : Builtin} {args : Array Operand} {argTypes : Array TypeId} {v : Value} {W : List Nat} {r : Rd}
    (hop : o.op = .call { callee := .builtin b, args, argTypes }) (h : abuiltin P ρ o b argTypes (args.toList.map ρ) m = some (v, m', W, r))
    (hρ : ∀ x ∈ o.op.operands, VRel φ (ρ x) (ρ' x)) (hn : m.next < m'.next → m.get m.next = none) : OpOk H φ m' w v ((execOp ρ' o).run P w) := by
  have hrun : ∀ (s : Sem Value), (∀ consts, (builtin b argTypes o.type consts (args.map ρ')) = (do pure (Next.value (← s)) : Sem Next)) →
      (execOp ρ' o).run P w = (s.run P w).andThen fun a w' => .ok (.value a) w' := by
    intro s hs
    unfold execOp
    simp only [hop, resolve, Sem.run_bind, Sem.run_pure, Result.andThen_ok, invoke]
    rw [hs]
    simp
  have hpure : ∀ {v : Value} {W : List Nat} {r : Rd}, pv m (pureOp P ρ o) = some (v, m', W, r) → OpOk H φ m' w v ((execOp ρ' o).run P w) := by
    intro v W r h
    obtain ⟨h1, rfl, _, _⟩ := pv_some h
    obtain ⟨h2, h3⟩ := pureOp_sim h1 hρ (fun cs b e => by rw [hop] at e; cases e) w
    exact .of_pure hS h2 h3
  have hmem : ∀ x ∈ args, VRel φ (ρ x) (ρ' x) := fun x hx => hρ x (by rw [hop]; simp [Op.operands, Call.operands, hx])
  unfold abuiltin at h
  split at h
  · rename_i s x hargs
    obtain ⟨a1, a2, rfl, rfl, rfl⟩ := args_two hargs
    have := append_sim hS h (hmem a1 (by simp)) (hmem a2 (by simp)) hn o.type
    exact this.run (hrun _ (fun _ => by simp [builtin]))
  · rename_i d x hargs
    obtain ⟨a1, a2, rfl, rfl, rfl⟩ := args_two hargs
    have := copy_sim hS h (hmem a1 (by simp)) (hmem a2 (by simp)) o.type
    exact this.run (hrun _ (fun _ => by simp [builtin]))
  · rename_i x hargs
    obtain ⟨a1, rfl, rfl⟩ := args_one hargs
    have := clear_sim hS h (hmem a1 (by simp)) o.type
    exact this.run (hrun _ (fun _ => by simp [builtin]))
  · rename_i x k hargs
    obtain ⟨a1, a2, rfl, rfl, rfl⟩ := args_two hargs
    have := delete_sim hS h (hmem a1 (by simp)) (hmem a2 (by simp)) o.type
    exact this.run (hrun _ (fun _ => by simp [builtin]))
  · rename_i a n c hargs
    obtain ⟨a1, rfl, hx⟩ := args_one hargs
    split at h
    case h_2 => cases h
    rename_i e hd0
    obtain ⟨sT, hsT, hd⟩ := Option.bind_eq_some_iff.1 hd0
    cases h
    have hr := hmem a1 (by simp)
    rw [hx] at hr
    obtain ⟨a', c', hx'⟩ : ∃ a' c', ρ' a1 = .slice a' n c' := by
      rcases hr.slice_inv with ⟨p, c', _, _, _, e⟩ | ⟨_, rfl, _, a', c', e⟩
      · exact ⟨_, _, e⟩
      · exact ⟨_, _, e⟩
    have : (Builtin.len_ argTypes o.type #[ρ' a1]).run P w = .ok (goInt n) w := by
      unfold Builtin.len_
      simp [hsT, und_of hd, hx']
    exact (show ValOk H φ m w (goInt n) _ from this ▸ ValOk.pure_ hS (.base rfl)).run (hrun _ (fun _ => by simp [builtin]))
  · rename_i b2 hargs
    obtain ⟨a1, rfl, hx⟩ := args_one hargs
    split at h
    case h_2 => cases h
    rename_i kt et es cl hd0 hg
    obtain ⟨sT, hsT, hd⟩ := Option.bind_eq_some_iff.1 hd0
    cases h
    have hr := hmem a1 (by simp)
    rw [hx] at hr
    obtain ⟨p, hp, hx'⟩ := hr.map_inv
    obtain ⟨p', hp', hr'⟩ := hS.map _ _ _ hg
    rw [hp] at hp'; cases hp'
    obtain ⟨es', ho, hm⟩ := hr'.obj
    have : (Builtin.len_ argTypes o.type #[ρ' a1]).run P w = .ok (goInt es.length) w := by
      unfold Builtin.len_
      have hl : es'.size = es.length := by have := hm.1; simp at this; omega
      simp [hsT, und_of hd, hx', run_getObj_map_of ho, hl]
    exact (show ValOk H φ m w (goInt es.length) _ from this ▸ ValOk.pure_ hS (.base rfl)).run (hrun _ (fun _ => by simp [builtin]))
  · rename_i a n c hargs
    obtain ⟨a1, rfl, hx⟩ := args_one hargs
    split at h
    case h_2 => cases h
    rename_i e cs k hd0 hsp hg
    obtain ⟨sT, hsT, hd⟩ := Option.bind_eq_some_iff.1 hd0
    simp only [cond_eq_ite] at h
    split at h
    case isTrue => cases h
    rename_i hop'
    cases h
    have hr := hmem a1 (by simp)
    rw [hx] at hr
    rcases hr.slice_inv with ⟨p, c', hsp', hp, hcap, hx'⟩ | ⟨e, _, _, a', c', hx'⟩
    · obtain ⟨p', hp', hrr⟩ := hS.row _ _ _ hg
      rw [hp] at hp'; cases hp'
      have hcc := capRel_closed hrr (by simpa using hop') hcap
      subst hcc
      have : (Builtin.cap_ argTypes o.type #[ρ' a1]).run P w = .ok (goInt c') w := by
        unfold Builtin.cap_
        simp [hsT, und_of hd, hx']
      exact (show ValOk H φ m w (goInt c') _ from this ▸ ValOk.pure_ hS (.base rfl)).run (hrun _ (fun _ => by simp [builtin]))
    · rw [e] at hsp; cases hsp
  · exact hpure h

end
end Go.Big

/- Every operation but a call of a function. -/
namespace Go.Big
open Go.RowKit Go.Room

section
variable {P : Program} {H : Nat} {φ : Place} {m m' : Mem} {w : World}

theorem PRel.of_parts {ρ ρ' : Operand → Value} {ps : List (Nat × Operand)} (h : ∀ p ∈ ps, VRel φ (ρ p.2) (ρ' p.2)) :
    PRel φ (ps.map fun p => (p.1, ρ p.2)) (ps.map fun p => (p.1, ρ' p.2)) := by
  refine ⟨by simp, fun i p p' hp hp' => ?_⟩
  simp only [List.getElem?_map] at hp hp'
  cases hi : ps[i]? with
  | none => rw [hi] at hp; cases hp
  | some q =>
    rw [hi] at hp hp'
    cases hp; cases hp'
    exact ⟨rfl, h q (List.mem_of_getElem? hi)⟩

theorem notNil_of {t : TypeId} {x' y' : Value} {a b : Operand} (hE : ∀ (n : Nat) (w : World), (Op.equalIn (n + 1) t x' y').run P w = .ok false w)
    (h1 : binOp .eql t x' y' = do pure (.bool (← Op.equal t x' y'))) (h2 : binOp .neq t x' y' = do pure (.bool (!(← Op.equal t x' y'))))
    (g1 : eqGuard .eql t a b x' y' = pure ()) (g2 : eqGuard .neq t a b x' y' = pure ()) (w : World) :
    (do eqGuard .eql t a b x' y'; binOp .eql t x' y' : Sem Value).run P w = .ok (.bool false) w ∧ (do eqGuard .neq t a b x' y'; binOp .neq t x' y' : Sem Value).run P w = .ok (.bool true) w := by
  have h5 : (Op.equal t x' y').run P w = .ok false w := hE 9999 w
  rw [g1, g2, h1, h2]
  exact ⟨by simp [h5], by simp [h5]⟩

theorem notNil_sim {t : TypeId} {d : TypeDesc} (hd : P.underlying t = some d) {x y x' y' : Value} (h : notNil d x y = true) (hx : VRel φ x x') (hy : VRel φ y y') (w : World) (a b : Operand) :
    (do eqGuard .eql t a b x' y'; binOp .eql t x' y' : Sem Value).run P w = .ok (.bool false) w ∧ (do eqGuard .neq t a b x' y'; binOp .neq t x' y' : Sem Value).run P w = .ok (.bool true) w := by
  unfold notNil at h
  split at h
  · obtain ⟨p, _, _, rfl⟩ := hx.ptr_inv
    rw [hy.scalar_eq rfl]
    exact notNil_of (fun n w => by simp [Op.equalIn, und_of hd]) rfl rfl rfl rfl w
  · obtain ⟨p, _, _, rfl⟩ := hy.ptr_inv
    rw [hx.scalar_eq rfl]
    exact notNil_of (fun n w => by simp [Op.equalIn, und_of hd]) rfl rfl rfl rfl w
  · obtain ⟨a', n', c', rfl⟩ : ∃ a' n' c', x' = .slice (some a') n' c' := by
      rcases hx.slice_inv with ⟨p, c', _, _, _, rfl⟩ | ⟨_, _, _, a', c', rfl⟩
      · exact ⟨_, _, _, rfl⟩
      · exact ⟨_, _, _, rfl⟩
    rw [hy.scalar_eq rfl]
    exact notNil_of (fun n w => by simp [Op.equalIn, und_of hd]) rfl rfl rfl rfl w
  · obtain ⟨a', n', c', rfl⟩ : ∃ a' n' c', y' = .slice (some a') n' c' := by
      rcases hy.slice_inv with ⟨p, c', _, _, _, rfl⟩ | ⟨_, _, _, a', c', rfl⟩
      · exact ⟨_, _, _, rfl⟩
      · exact ⟨_, _, _, rfl⟩
    rw [hx.scalar_eq rfl]
    exact notNil_of (fun n w => by simp [Op.equalIn, und_of hd]) rfl rfl rfl rfl w
  · obtain ⟨p, _, rfl⟩ := hx.map_inv
    rw [hy.scalar_eq rfl]
    exact notNil_of (fun n w => by simp [Op.equalIn, und_of hd]) rfl rfl rfl rfl w
  · obtain ⟨p, _, rfl⟩ := hy.map_inv
    rw [hx.scalar_eq rfl]
    exact notNil_of (fun n w => by simp [Op.equalIn, und_of hd]) rfl rfl rfl rfl w
  · cases hx with
    | base hs => simp [scalar] at hs
    | func h1 h2 h3 h4 =>
      rw [hy.scalar_eq rfl]
      exact notNil_of (fun n w => by simp [Op.equalIn, und_of hd]) rfl rfl rfl rfl w
  · cases hy with
    | base hs => simp [scalar] at hs
    | func h1 h2 h3 h4 =>
      rw [hx.scalar_eq rfl]
      exact notNil_of (fun n w => by simp [Op.equalIn, und_of hd]) rfl rfl rfl rfl w
  · obtain ⟨u, rfl, _⟩ := hx.iface_inv
    rw [hy.scalar_eq rfl]
    exact notNil_of (fun n w => by simp [Op.equalIn, und_of hd]) rfl rfl rfl rfl w
  · obtain ⟨u, rfl, _⟩ := hy.iface_inv
    rw [hx.scalar_eq rfl]
    exact notNil_of (fun n w => by simp [Op.equalIn, und_of hd]) rfl rfl rfl rfl w
  · cases h

theorem ORel.map {ρ ρ' : Operand → Value} {x : Option Operand} (h : ∀ y, x = some y → VRel φ (ρ y) (ρ' y)) : ORel φ (x.map ρ) (x.map ρ') := by
  cases x with
  | none => trivial
  | some y => exact h y rfl

theorem ValOk.of_run (hS : Sim H φ m w) {v : Value} {r : Result Value} (h : ∃ v', r = .ok v' w ∧ VRel φ v v') : ValOk H φ m w v r := by
  obtain ⟨v', h1, h2⟩ := h
  exact ⟨v', w, φ, h1, Place.le_refl φ, hS, Below.refl H w, h2⟩

theorem aop_sim (hS : Sim H φ m w) {ρ ρ' : Operand → Value} {o : Oper} {v : Value} {W : List Nat} {r : Rd} (h : aop P ρ o m = some (v, m', W, r))
    (hρ : ∀ x ∈ o.op.operands, VRel φ (ρ x) (ρ' x)) (hn : m.next < m'.next → m.get m.next = none) : OpOk H φ m' w v ((execOp ρ' o).run P w) := by
  have hpure : ∀ {v : Value} {W : List Nat} {r : Rd}, (∀ cs b, o.op ≠ .select cs b) → pv m (pureOp P ρ o) = some (v, m', W, r) → OpOk H φ m' w v ((execOp ρ' o).run P w) := by
    intro v W r hs h
    obtain ⟨h1, rfl, _, _⟩ := pv_some h
    obtain ⟨h2, h3⟩ := pureOp_sim h1 hρ hs w
    exact .of_pure hS h2 h3
  have hval : ∀ {s : Sem Value} {v : Value}, ((execOp ρ' o) = (do pure (Next.value (← s)) : Sem Next)) → ValOk H φ m' w v (s.run P w) → OpOk H φ m' w v ((execOp ρ' o).run P w) := by
    intro s v he hv
    rw [he]; exact hv.op
  unfold aop at h
  cases hop : o.op with
  | move x =>
    simp only [hop] at h; cases h
    exact .of_val hS (by unfold execOp; simp only [hop]; rfl) (hρ x (by simp [hop, Op.operands]))
  | assign x =>
    simp only [hop] at h; cases h
    exact .of_val hS (by unfold execOp; simp only [hop]; rfl) (hρ x (by simp [hop, Op.operands]))
  | pick c a b =>
    simp only [hop] at h
    split at h
    case h_2 => cases h
    rename_i t ht
    cases h
    have hc := hρ c (by simp [hop, Op.operands])
    rw [ht] at hc
    have hc' := hc.scalar_eq rfl
    refine .of_val hS (v' := bif t then ρ' a else ρ' b) (by unfold execOp; simp only [hop, hc', asBool]; cases t <;> simp) ?_
    cases t with
    | true => exact hρ a (by simp [hop, Op.operands])
    | false => exact hρ b (by simp [hop, Op.operands])
  | alloc t =>
    simp only [hop] at h
    split at h
    case h_2 => cases h
    rename_i z hz
    simp only [cond_eq_ite] at h
    split at h
    case isFalse => cases h
    rename_i hzz
    obtain ⟨h1, _, _⟩ := pm_some h
    have hnone : m.get m.next = none := hn (by
      unfold newCells at h1
      simp only [cond_eq_ite] at h1
      split at h1
      · cases h1; simp
      · cases h1)
    have := newCells_sim hS h1 hnone (LRel.of_scalars hzz) t
    refine hval (s := Instr.alloc t true (.tuple #[])) (by unfold execOp; simp only [hop]) ?_
    have hr : (Instr.alloc t true (.tuple #[])).run P w = .ok (.pointer (some ⟨w.heap.size, 0, none⟩)) (w.alloc (.cells z.cells.toList.toArray t)) := by
      simp [Instr.alloc, zero_of hz, newVar, newRow]
    rw [hr]; exact this
  | box t x =>
    simp only [hop] at h
    obtain ⟨h1, _, _⟩ := pm_some h
    have hnone : m.get m.next = none := hn (by
      unfold newCells at h1
      simp only [cond_eq_ite] at h1
      split at h1
      · cases h1; simp
      · cases h1)
    have hx := hρ x (by simp [hop, Op.operands])
    have := newCells_sim hS h1 hnone hx.cells t
    refine hval (s := Instr.box t (ρ' x)) (by unfold execOp; simp only [hop]) ?_
    have hr : (Instr.box t (ρ' x)).run P w = .ok (.pointer (some ⟨w.heap.size, 0, none⟩)) (w.alloc (.cells (ρ' x).cells.toList.toArray t)) := by
      simp [Instr.box, newVar, newRow]
    rw [hr]; exact this
  | build t ps =>
    simp only [hop] at h
    obtain ⟨h1, rfl, _, _⟩ := pv_some h
    have hp : PRel φ (ps.toList.map fun p => (p.1, ρ p.2)) (ps.toList.map fun p => (p.1, ρ' p.2)) := PRel.of_parts fun p hp => hρ p.2 (by
      simp only [hop, Op.operands]
      simp only [List.mem_toArray, List.mem_map]
      exact ⟨p, hp, rfl⟩)
    refine hval (s := Instr.build t (ps.map fun (i, x) => (i, ρ' x))) (by unfold execOp; simp only [hop]) ?_
    have := build_sim h1 hp w
    have e : (ps.toList.map fun p => (p.1, ρ' p.2)).toArray = ps.map fun (i, x) => (i, ρ' x) := by
      apply Array.toList_inj.1; simp
    rw [e] at this
    exact .of_run hS this
  | buildSlice t n ps =>
    simp only [hop] at h
    obtain ⟨h1, _, _⟩ := pm_some h
    have hp : PRel φ (ps.toList.map fun p => (p.1, ρ p.2)) (ps.toList.map fun p => (p.1, ρ' p.2)) := PRel.of_parts fun p hp => hρ p.2 (by
      simp only [hop, Op.operands]
      simp only [List.mem_toArray, List.mem_map]
      exact ⟨p, hp, rfl⟩)
    have hnone : m.get m.next = none := hn (by
      unfold abuildSlice at h1
      split at h1
      case h_2 => cases h1
      split at h1
      case h_2 => cases h1
      simp only [cond_eq_ite] at h1
      split at h1
      case isFalse => cases h1
      split at h1
      case h_2 => cases h1
      split at h1
      case isFalse => cases h1
      cases h1; simp)
    refine hval (s := Instr.buildSlice t n (ps.map fun (i, x) => (i, ρ' x))) (by unfold execOp; simp only [hop]) ?_
    have := buildSlice_sim hS h1 hp hnone
    have e : (ps.toList.map fun p => (p.1, ρ' p.2)).toArray = ps.map fun (i, x) => (i, ρ' x) := by
      apply Array.toList_inj.1; simp
    rw [e] at this
    exact this
  | load t a =>
    simp only [hop] at h
    split at h
    case h_2 => cases h
    rename_i ad ha
    cases hl : aload P t ad m with
    | none => simp [hl] at h
    | some u =>
      simp [hl] at h
      obtain ⟨rfl, rfl, _, _⟩ := h
      have hx := hρ a (by simp [hop, Op.operands])
      rw [ha] at hx
      obtain ⟨p, _, hp, ha'⟩ := hx.ptr_inv
      refine hval (s := Instr.loadAt t (ρ' a)) (by unfold execOp; simp only [hop]) ?_
      obtain ⟨v', h1, h2⟩ := load_sim (P := P) hS hl hp
      exact .of_run hS ⟨v', by simp [Instr.loadAt, ha', Instr.sureAddr, h1], h2⟩
  | store t a x =>
    simp only [hop] at h
    split at h
    case h_2 => cases h
    rename_i ad ha
    cases hl : astore P t ad (ρ x) m with
    | none => simp [hl] at h
    | some u =>
      simp [hl] at h
      obtain ⟨rfl, rfl, _, _⟩ := h
      have hx := hρ a (by simp [hop, Op.operands])
      rw [ha] at hx
      obtain ⟨p, _, hp, ha'⟩ := hx.ptr_inv
      obtain ⟨w', h1, h2, h3⟩ := store_sim (P := P) hS hl hp (hρ x (by simp [hop, Op.operands]))
      refine ⟨.skip, undef, w', φ, ?_, .inr ⟨rfl, rfl⟩, Place.le_refl φ, h2, h3, VRel.undef_⟩
      unfold execOp
      simp [hop, Instr.storeAt, ha', Instr.sureAddr, h1]
  | ready g => simp only [hop] at h; exact hpure (fun _ _ e => by rw [hop] at e; cases e) h
  | waits g => simp only [hop] at h; exact hpure (fun _ _ e => by rw [hop] at e; cases e) h
  | nilCheck x =>
    simp only [hop] at h
    have hx := hρ x (by simp [hop, Op.operands])
    split at h
    · rename_i a ha
      cases h
      rw [ha] at hx
      obtain ⟨p, h1, h2, ha'⟩ := hx.ptr_inv
      refine .of_val hS (v' := ρ' x) (by unfold execOp; simp only [hop, ha']; rfl) hx
    · rename_i f a b ha
      cases h
      rw [ha] at hx
      obtain ⟨x', y', ha', _, _⟩ := hx.func_inv
      refine .of_val hS (v' := ρ' x) (by unfold execOp; simp only [hop, ha']; rfl) hx
    · cases h
  | binOp op t x y yt =>
    simp only [hop, cond_eq_ite] at h
    have hx := hρ x (by simp [hop, Op.operands])
    have hy := hρ y (by simp [hop, Op.operands])
    split at h
    · rename_i d hd
      split at h
      · rename_i hc
        cases h
        exact hval (s := do eqGuard .eql t x y (ρ' x) (ρ' y); Go.binOp .eql t (ρ' x) (ρ' y)) (by unfold execOp; simp only [hop]) (.of_run hS ⟨.bool false, (notNil_sim hd hc hx hy w x y).1, .base rfl⟩)
      · exact hpure (fun _ _ e => by rw [hop] at e; cases e) h
    · rename_i d hd
      split at h
      · rename_i hc
        cases h
        exact hval (s := do eqGuard .neq t x y (ρ' x) (ρ' y); Go.binOp .neq t (ρ' x) (ρ' y)) (by unfold execOp; simp only [hop]) (.of_run hS ⟨.bool true, (notNil_sim hd hc hx hy w x y).2, .base rfl⟩)
      · exact hpure (fun _ _ e => by rw [hop] at e; cases e) h
    · exact hpure (fun _ _ e => by rw [hop] at e; cases e) (by simpa using h)
  | unOp op t x => simp only [hop] at h; exact hpure (fun _ _ e => by rw [hop] at e; cases e) h
  | convert s d x =>
    simp only [hop] at h
    have hx := hρ x (by simp [hop, Op.operands])
    have hconv : ∀ {v : Value} {W : List Nat} {r : Rd}, aconvert P s d (ρ x) m = some (v, m', W, r) → OpOk H φ m' w v ((execOp ρ' o).run P w) := fun h =>
      hval (s := convert s d (ρ' x)) (by unfold execOp; simp only [hop]) (convert_sim hS h hx hn)
    split at h
    · rename_i s0 hs0
      split at h
      · exact hconv h
      · exact hpure (fun _ _ e => by rw [hop] at e; cases e) h
    · rename_i a0 n0 c0 hs0
      exact hconv h
    · exact hpure (fun _ _ e => by rw [hop] at e; cases e) h
  | sliceToArrayPointer t x => simp only [hop] at h; exact hpure (fun _ _ e => by rw [hop] at e; cases e) h
  | makeInterface t x =>
    simp only [hop] at h
    have hx := hρ x (by simp [hop, Op.operands])
    split at h
    · cases h
    · rename_i d hni hd
      cases h
      refine hval (s := Instr.makeInterface t (ρ' x)) (by unfold execOp; simp only [hop]) (.of_run hS ⟨.iface t (ρ' x), ?_, .iface hx⟩)
      simp only [Instr.makeInterface, Sem.run_bind, und_of hd, Result.andThen_ok]
      cases d <;> first | rfl | (exact absurd rfl (hni _))
    · cases h
  | makeFunc fn first cap =>
    cases fn with
    | func f =>
      simp only [hop] at h
      cases h
      have hf : ARel φ (first.map ρ) (first.map ρ') := ARel.of_list (by
        rw [Array.toList_map, Array.toList_map]
        exact LRel.map_of fun x hx => hρ x (by simp [hop, Op.operands]; exact .inl (by simpa using hx)))
      have hc : ARel φ (cap.map ρ) (cap.map ρ') := ARel.of_list (by
        rw [Array.toList_map, Array.toList_map]
        exact LRel.map_of fun x hx => hρ x (by simp [hop, Op.operands]; exact .inr (by simpa using hx)))
      exact .of_val hS (by unfold execOp; simp only [hop]; rfl) (hf.func hc)
    | _ => simp only [hop] at h; exact hpure (fun _ _ e => by rw [hop] at e; cases e) h
  | makeMap t res =>
    cases res with
    | none =>
      simp only [hop] at h
      cases h
      have hnone := hn (by simp)
      have := hS.push_map hnone
      refine ⟨_, .map (some w.heap.size), w.alloc (.map #[] 0), _, ?_, .inl rfl, Place.le_add (hS.none_ _ hnone), this, (Below.refl H w).alloc hS.low _,
        .map (p := ⟨w.heap.size, 0, 1, 0, none⟩) (by simp [Place.add])⟩
      unfold execOp
      simp [hop, Instr.makeMap]
    | some x => simp only [hop] at h; exact hpure (fun _ _ e => by rw [hop] at e; cases e) h
  | makeChan t x => simp only [hop] at h; exact hpure (fun _ _ e => by rw [hop] at e; cases e) h
  | makeSlice t l c =>
    simp only [hop] at h
    obtain ⟨h1, _, _⟩ := pm_some h
    have hnone : m.get m.next = none := hn (by
      unfold amakeSlice at h1
      split at h1
      case h_2 => cases h1
      split at h1
      case h_2 => cases h1
      simp only [cond_eq_ite] at h1
      split at h1
      case isFalse => cases h1
      cases h1; simp)
    exact hval (s := Instr.makeSlice t (ρ' l) (ρ' c)) (by unfold execOp; simp only [hop]) (makeSlice_sim hS h1 (hρ l (by simp [hop, Op.operands])) (hρ c (by simp [hop, Op.operands])) hnone)
  | slice t x lo hi mx =>
    simp only [hop] at h
    have hx := hρ x (by simp [hop, Op.operands])
    have hsl : ∀ {v : Value} {W : List Nat} {r : Rd}, (aslice P t (ρ x) (lo.map ρ) (hi.map ρ) (mx.map ρ) m).map (fun v => (v, m, ([] : List Nat), rdV (ρ x))) = some (v, m', W, r) → OpOk H φ m' w v ((execOp ρ' o).run P w) := by
      intro v W r h
      cases hs : aslice P t (ρ x) (lo.map ρ) (hi.map ρ) (mx.map ρ) m with
      | none => simp [hs] at h
      | some u =>
        simp [hs] at h
        obtain ⟨rfl, rfl, _, _⟩ := h
        refine hval (s := Instr.sliceAt t (ρ' x) (lo.map ρ') (hi.map ρ') (mx.map ρ')) (by unfold execOp; simp only [hop]) (.of_run hS ?_)
        exact slice_sim hS hs hx (ORel.map fun y hy => hρ y (by simp [hop, Op.operands, hy])) (ORel.map fun y hy => hρ y (by simp [hop, Op.operands, hy])) (ORel.map fun y hy => hρ y (by simp [hop, Op.operands, hy]))
    split at h
    · rename_i a0 hs0
      exact hsl h
    · rename_i a0 n0 c0 hs0
      exact hsl h
    · exact hpure (fun _ _ e => by rw [hop] at e; cases e) h
  | fieldAddr t x f =>
    simp only [hop] at h
    obtain ⟨h1, rfl, _, _⟩ := pv_some h
    exact hval (s := Instr.fieldAt t (ρ' x) f) (by unfold execOp; simp only [hop]) (.of_run hS (fieldAddr_sim h1 (hρ x (by simp [hop, Op.operands])) w))
  | field t x f =>
    simp only [hop] at h
    split at h
    case h_2 => cases h
    rename_i cs fs hcs hd
    obtain ⟨h1, rfl, _, _⟩ := pv_some h
    obtain ⟨fd, hfd, hpart⟩ := Option.bind_eq_some_iff.1 h1
    have hx := hρ x (by simp [hop, Op.operands])
    rw [hcs] at hx
    obtain ⟨cs', hcs', hr⟩ := hx.agg_inv
    obtain ⟨v', h2, h3⟩ := part_sim hpart hr w
    refine hval (s := Instr.field t (ρ' x) f) (by unfold execOp; simp only [hop]) (.of_run hS ⟨v', ?_, h3⟩)
    simp [Instr.field, und_of hd, hfd, hcs', asAgg, h2]
  | indexAddr t x i =>
    simp only [hop] at h
    obtain ⟨h1, rfl, _, _⟩ := pv_some h
    exact hval (s := Instr.indexAt t (ρ' x) (ρ' i)) (by unfold execOp; simp only [hop]) (.of_run hS (indexAddr_sim h1 (hρ x (by simp [hop, Op.operands])) (hρ i (by simp [hop, Op.operands])) w))
  | index t x i =>
    simp only [hop] at h
    split at h
    · rename_i cs len e hcs hd
      obtain ⟨h1, rfl, _, _⟩ := pv_some h
      obtain ⟨k, hk, h1⟩ := Option.bind_eq_some_iff.1 h1
      obtain ⟨s, hs, h1⟩ := Option.bind_eq_some_iff.1 h1
      simp only [cond_eq_ite, blt_dec, decide_eq_true_eq] at h1
      split at h1
      case isFalse => cases h1
      rename_i hlt
      have hx := hρ x (by simp [hop, Op.operands])
      have hi := hρ i (by simp [hop, Op.operands])
      rw [hcs] at hx
      obtain ⟨cs', hcs', hr⟩ := hx.agg_inv
      obtain ⟨kk, hkk⟩ := natOf_some hk
      rw [hkk] at hi
      have hi' := hi.scalar_eq rfl
      obtain ⟨v', h2, h3⟩ := part_sim h1 hr w
      refine hval (s := Instr.index t (ρ' x) (ρ' i)) (by unfold execOp; simp only [hop]) (.of_run hS ⟨v', ?_, h3⟩)
      simp [Instr.index, und_of hd, hcs', hi', asIntOf, size_of hs, h2]
      intro hge; omega
    · exact hpure (fun _ _ e => by rw [hop] at e; cases e) h
  | lookup t x k ok =>
    simp only [hop] at h
    split at h
    · rename_i r0 hr0
      refine hval (s := Instr.lookup t (ρ' x) (ρ' k) ok) (by unfold execOp; simp only [hop]) ?_
      exact lookup_sim hS h (hρ x (by simp [hop, Op.operands])) (hρ k (by simp [hop, Op.operands]))
    · exact hpure (fun _ _ e => by rw [hop] at e; cases e) h
  | mapUpdate t x k u =>
    simp only [hop] at h
    obtain ⟨rfl, w', h1, h2, h3⟩ := mapUpdate_sim (P := P) hS h (hρ x (by simp [hop, Op.operands])) (hρ k (by simp [hop, Op.operands])) (hρ u (by simp [hop, Op.operands]))
    refine ⟨.skip, undef, w', φ, ?_, .inr ⟨rfl, rfl⟩, Place.le_refl φ, h2, h3, VRel.undef_⟩
    unfold execOp
    simp [hop, h1]
  | extract x i =>
    simp only [hop] at h
    split at h
    case h_2 => cases h
    rename_i vs hvs
    obtain ⟨h1, rfl, _, _⟩ := pv_some h
    have hx := hρ x (by simp [hop, Op.operands])
    rw [hvs] at hx
    obtain ⟨vs', hvs', hr⟩ := hx.tuple_inv
    obtain ⟨v', hv', h3⟩ := hr.list.get (i := i) (v := v) (by simpa using h1)
    refine hval (s := Instr.extract (ρ' x) i) (by unfold execOp; simp only [hop]) (.of_run hS ⟨v', ?_, h3⟩)
    simp only [Array.getElem?_toList] at hv'
    simp [Instr.extract, hvs', hv']
  | call c =>
    simp only [hop] at h
    split at h
    case h_2 => cases h
    rename_i b hb
    obtain ⟨callee, args, argTypes⟩ := c
    simp only at hb h
    subst hb
    exact builtin_sim hS hop h hρ hn
  | select cs b => simp only [hop] at h; cases h
  | _ => simp only [hop] at h; exact hpure (fun _ _ e => by rw [hop] at e; cases e) h

end
end Go.Big

/- What an operation hangs on, and what it leaves alone. -/
namespace Go.Big

/-- What an operation does to the memory. -/
inductive Eff where
  | no
  | push (o : AObj)
  | set (b : Nat) (o : AObj)
  | kill (b : Nat) (o : AObj)

def Eff.app : Eff → Mem → Mem
  | .no, m => m
  | .push o, m => m.push o
  | .set b o, m => m.set b o
  | .kill b o, m => (m.set b .dead).push o

def Eff.wr : Eff → List Nat
  | .set b _ | .kill b _ => [b]
  | _ => []

/-- Two memories agree on what is read. -/
def agree (r : Rd) (m t : Mem) : Prop :=
  match r with
  | .no => True
  | .one b => ∀ o, m.get b = some o → t.get b = some o
  | .all => ∀ b o, m.get b = some o → t.get b = some o

def Ext (m t : Mem) : Prop := ∀ b o, m.get b = some o → t.get b = some o

def FormOk (g : Mem → Res) (m : Mem) : Prop :=
  ∀ v m' W r, g m = some (v, m', W, r) → ∃ E : Eff, m' = E.app m ∧ W = E.wr ∧ (∀ b ∈ E.wr, m.get b ≠ none) ∧ ∀ t : Mem, t.next = m.next → agree r m t → g t = some (v, E.app t, W, r)

section
variable {P : Program} {m : Mem}

theorem FormOk.pv (f : Mem → Option Value) (hf : ∀ t, f t = f m) : FormOk (fun t => Big.pv t (f t)) m := by
  intro v m' W r h
  obtain ⟨h1, rfl, rfl, rfl⟩ := pv_some h
  exact ⟨.no, rfl, rfl, by simp [Eff.wr], fun t _ _ => by simp [Big.pv, hf t, h1, Eff.app, Eff.wr]⟩

theorem FormOk.const (v : Value) : FormOk (fun t => some (v, t, [], .no)) m := by
  intro v' m' W r h
  cases h
  exact ⟨.no, rfl, rfl, by simp [Eff.wr], fun t _ _ => rfl⟩

theorem FormOk.none_ : FormOk (fun _ => none) m := fun _ _ _ _ h => by cases h

theorem getCells_ext {b off n : Nat} {l : List Value} {t : Mem} (h : getCells m b off n = some l) (ht : Ext m t) : getCells t b off n = some l := by
  unfold getCells at h ⊢
  split at h
  · rename_i cs k hg; rw [ht _ _ hg]; exact h
  · cases h

theorem aload_one {ty : TypeId} {a : Addr} {t : Mem} (ht : t.get a.block = m.get a.block) : aload P ty a t = aload P ty a m := by
  unfold aload; rw [ht]

theorem aload_some {ty : TypeId} {a : Addr} {v : Value} (h : aload P ty a m = some v) : m.get a.block ≠ none := by
  unfold aload at h
  split at h
  · rename_i hg _ _; rw [hg]; simp
  · cases h

theorem get_one {b : Nat} {t : Mem} (ht : ∀ o, m.get b = some o → t.get b = some o) (h : m.get b ≠ none) : t.get b = m.get b := by
  cases hq : m.get b with
  | none => exact absurd hq h
  | some o => exact ht _ hq

theorem putCells_form {b off : Nat} {vs : List Value} {m' : Mem} (h : putCells m b off vs = some m') :
    ∃ o, m' = m.set b o ∧ m.get b ≠ none ∧ ∀ t : Mem, t.get b = m.get b → putCells t b off vs = some (t.set b o) := by
  unfold putCells at h
  split at h
  · rename_i cs k hg
    simp only [cond_eq_ite] at h
    split at h
    case isFalse => cases h
    rename_i hc
    cases hs : storeN cs off vs with
    | none => simp [hs] at h
    | some cs' =>
      simp [hs] at h
      refine ⟨.row cs' k, h.symm, by rw [hg]; simp, fun t ht => ?_⟩
      unfold putCells
      rw [ht, hg]
      simp [hc, hs]
  · cases h

theorem astore_form {ty : TypeId} {a : Addr} {v : Value} {m' : Mem} (h : astore P ty a v m = some m') :
    ∃ o, m' = m.set a.block o ∧ m.get a.block ≠ none ∧ ∀ t : Mem, t.get a.block = m.get a.block → astore P ty a v t = some (t.set a.block o) := by
  unfold astore at h
  split at h
  · rename_i n hsp hn
    simp only [cond_eq_ite] at h
    split at h
    case isFalse => cases h
    rename_i hc
    obtain ⟨o, h1, h2, h3⟩ := putCells_form h
    refine ⟨o, h1, h2, fun t ht => ?_⟩
    unfold astore
    simp [hsp, hn, hc, h3 t ht]
  · cases h

theorem elemsOf_ext {size : Nat} {x : Value} {r : Nat × List Value} {t : Mem} (h : elemsOf size x m = some r) (ht : Ext m t) : elemsOf size x t = some r := by
  unfold elemsOf at h ⊢
  split at h
  · exact h
  · rename_i a n c
    split at h
    · rename_i s hs; exact h
    · rename_i hs
      cases hg : getCells m a.block a.off (n * size) with
      | none => simp [hg] at h
      | some l => rw [getCells_ext hg ht]; simpa [hg] using h
  · exact h
  · cases h

theorem FormOk.newCells (cs : List Value) (k : Kind) : FormOk (fun t => pm (Big.newCells t cs k)) m := by
  intro v m' W r h
  obtain ⟨h1, rfl, rfl⟩ := pm_some h
  unfold Big.newCells at h1
  simp only [cond_eq_ite] at h1
  split at h1
  case isFalse => cases h1
  rename_i hc
  cases h1
  refine ⟨.push (.row cs k), rfl, rfl, by simp [Eff.wr], fun t ht _ => ?_⟩
  simp [pm, Big.newCells, hc, Eff.app, Eff.wr, ht]

theorem FormOk.buildSlice (t : TypeId) (len : Nat) (ps : List (Nat × Value)) : FormOk (fun t' => pm (abuildSlice P t len ps t')) m := by
  intro v m' W r h
  obtain ⟨h1, rfl, rfl⟩ := pm_some h
  unfold abuildSlice at h1
  split at h1
  case h_2 => cases h1
  rename_i e hd
  split at h1
  case h_2 => cases h1
  rename_i size z hs hz
  simp only [cond_eq_ite] at h1
  split at h1
  case isFalse => cases h1
  rename_i hc
  split at h1
  case h_2 => cases h1
  rename_i cells hf
  split at h1
  case isFalse => cases h1
  rename_i hone
  cases h1
  refine ⟨.push (.row cells .rw), rfl, rfl, by simp [Eff.wr], fun t' ht _ => ?_⟩
  simp only [pm, abuildSlice, hd, hs, hz, cond_eq_ite, if_pos hc, hf, if_pos hone]
  simp [Eff.app, Eff.wr, ht]

theorem FormOk.makeSlice (t : TypeId) (l c : Value) : FormOk (fun t' => pm (amakeSlice P t l c t')) m := by
  intro v m' W r h
  obtain ⟨h1, rfl, rfl⟩ := pm_some h
  unfold amakeSlice at h1
  split at h1
  case h_2 => cases h1
  rename_i e ln cn hd hln hcn
  split at h1
  case h_2 => cases h1
  rename_i size z bytes hs hz hb
  simp only [cond_eq_ite] at h1
  split at h1
  case isFalse => cases h1
  rename_i hc
  cases h1
  refine ⟨.push (.row (zeroCellsN z.cells.toList cn) .rw), rfl, rfl, by simp [Eff.wr], fun t' ht _ => ?_⟩
  simp only [pm, amakeSlice, hd, hln, hcn, hs, hz, hb, cond_eq_ite, if_pos hc]
  simp [Eff.app, Eff.wr, ht]

theorem FormOk.load (ty : TypeId) (a : Addr) : FormOk (fun t => (aload P ty a t).map fun v => (v, t, [], .one a.block)) m := by
  intro v m' W r h
  cases hl : aload P ty a m with
  | none => simp [hl] at h
  | some u =>
    simp [hl] at h
    obtain ⟨rfl, rfl, rfl, rfl⟩ := h
    exact ⟨.no, rfl, rfl, by simp [Eff.wr], fun t _ ht => by simp [aload_one (P := P) (ty := ty) (get_one ht (aload_some hl)), hl, Eff.app]⟩

theorem FormOk.store (ty : TypeId) (a : Addr) (x : Value) : FormOk (fun t => (astore P ty a x t).map fun m' => (undef, m', [a.block], .one a.block)) m := by
  intro v m' W r h
  cases hl : astore P ty a x m with
  | none => simp [hl] at h
  | some u =>
    simp [hl] at h
    obtain ⟨rfl, rfl, rfl, rfl⟩ := h
    obtain ⟨o, h1, h2, h3⟩ := astore_form hl
    exact ⟨.set a.block o, h1, rfl, by simpa [Eff.wr] using h2, fun t _ ht => by simp [h3 t (get_one ht h2), Eff.app]⟩

theorem agree_rdA {a : Addr} {t : Mem} (h : agree (rdA a) m t) (hs : a.spot = none) : ∀ o, m.get a.block = some o → t.get a.block = some o := by
  unfold rdA at h; rw [hs] at h; exact h

theorem FormOk.slice (ty : TypeId) (x : Value) (lo hi mx : Option Value) : FormOk (fun t => (aslice P ty x lo hi mx t).map fun v => (v, t, [], rdV x)) m := by
  intro v m' W r h
  cases hl : aslice P ty x lo hi mx m with
  | none => simp [hl] at h
  | some u =>
    simp [hl] at h
    obtain ⟨rfl, rfl, rfl, rfl⟩ := h
    refine ⟨.no, rfl, rfl, by simp [Eff.wr], fun t _ ht => ?_⟩
    have : aslice P ty x lo hi mx t = some u := by
      unfold aslice at hl ⊢
      split at hl
      · rename_i a
        split at hl
        · rename_i n e cs k ha hsp hg
          rw [ha, hsp, agree_rdA ht hsp _ hg]; exact hl
        · cases hl
      · rename_i a len cap
        split at hl
        · split at hl
          · split at hl
            · exact hl
            · rename_i hsp
              split at hl
              · rename_i cs k hg; rw [agree_rdA ht hsp _ hg]; exact hl
              · cases hl
          · cases hl
        · cases hl
      · cases hl
    simp [this, Eff.app]

theorem FormOk.appendTo (size bytes n : Nat) (new : List Value) (s : Value) : FormOk (fun t => Big.appendTo size bytes n new s t) m := by
  intro v m' W r h
  have h' : Big.appendTo size bytes n new s m = some (v, m', W, r) := h
  unfold Big.appendTo at h'
  split at h'
  · simp only [cond_eq_ite] at h'
    split at h'
    · rename_i h0
      cases h'
      exact ⟨.no, rfl, rfl, by simp [Eff.wr], fun t _ ht => by simp [Big.appendTo, h0, Eff.app]⟩
    · rename_i h0
      split at h'
      case isFalse => cases h'
      rename_i hc
      cases h'
      refine ⟨.push (.row new (.slack size)), rfl, rfl, by simp [Eff.wr], fun t hnx ht => ?_⟩
      simp only [Big.appendTo, cond_eq_ite, if_neg h0, if_pos hc]
      simp [Eff.app, hnx]
  · rename_i a sLen sCap
    split at h'
    · rename_i sp hsp
      simp only [cond_eq_ite] at h'
      split at h'
      case isFalse => cases h'
      rename_i h0
      cases h'
      refine ⟨.no, rfl, rfl, by simp [Eff.wr], fun t _ ht => ?_⟩
      simp only [Big.appendTo, hsp, cond_eq_ite, if_pos h0]
      rfl
    · rename_i hsp
      simp only [cond_eq_ite] at h'
      split at h'
      · rename_i h0
        cases h'
        refine ⟨.no, rfl, rfl, by simp [Eff.wr], fun t _ ht => ?_⟩
        simp only [Big.appendTo, hsp, cond_eq_ite, if_pos h0]
        rfl
      · rename_i h0
        split at h'
        · rename_i hfit
          cases hput : putCells m a.block (a.off + sLen * size) new with
          | none => simp [hput] at h'
          | some m2 =>
            simp [hput] at h'
            obtain ⟨rfl, rfl, rfl, rfl⟩ := h'
            obtain ⟨o, h1, h2, h3⟩ := putCells_form hput
            refine ⟨.set a.block o, h1, rfl, by simpa [Eff.wr] using h2, fun t _ ht => ?_⟩
            have hg : t.get a.block = m.get a.block := by
              cases hq : m.get a.block with
              | none => exact absurd hq h2
              | some o' => exact ht _ _ hq
            simp only [Big.appendTo, hsp, cond_eq_ite, if_neg h0, if_pos hfit, h3 t hg]
            rfl
        · rename_i hfit
          split at h'
          case h_2 => cases h'
          rename_i cs k old hg hgc
          split at h'
          case isFalse => cases h'
          rename_i hsm
          split at h'
          · rename_i hop
            split at h'
            case h_2 => cases h'
            rename_i s'
            split at h'
            case isFalse => cases h'
            rename_i hss
            cases h'
            refine ⟨.kill a.block (.row (old ++ new) (.slack size)), rfl, rfl, by simp [Eff.wr, hg], fun t hnx ht => ?_⟩
            simp only [Big.appendTo, hsp, cond_eq_ite, if_neg h0, if_neg hfit, ht _ _ hg, getCells_ext hgc ht, if_pos hsm, if_pos hop, if_pos hss]
            simp [Eff.app, Eff.wr, hnx]
          · rename_i hop
            cases h'
            refine ⟨.push (.row (old ++ new) (.slack size)), rfl, rfl, by simp [Eff.wr], fun t hnx ht => ?_⟩
            simp only [Big.appendTo, hsp, cond_eq_ite, if_neg h0, if_neg hfit, ht _ _ hg, getCells_ext hgc ht, if_pos hsm, if_neg hop]
            simp [Eff.app, hnx]
  · cases h'

theorem appendTo_rd {size bytes n : Nat} {new : List Value} {s v : Value} {m' : Mem} {W : List Nat} {r : Rd} (h : Big.appendTo size bytes n new s m = some (v, m', W, r)) : r = .all := by
  unfold Big.appendTo at h
  simp only [cond_eq_ite] at h
  repeat' split at h
  all_goals first
    | (cases h; done)
    | (cases h; rfl)
    | (rw [Option.map_eq_some_iff] at h; obtain ⟨_, _, h⟩ := h; cases h; rfl)

theorem FormOk.append (argTypes : Array TypeId) (s x : Value) : FormOk (fun t => aappend P argTypes s x t) m := by
  intro v m' W r h
  have h' : aappend P argTypes s x m = some (v, m', W, r) := h
  unfold aappend at h'
  split at h'
  case h_2 => cases h'
  rename_i elem hu0
  split at h'
  case h_2 => cases h'
  rename_i size bytes z hsz hby hz
  cases hcond : (Nat.beq z.cells.size size && sliceish ((argTypes[1]?).bind P.underlying) && Nat.blt 0 size) with
  | false =>
    simp only [hcond, cond_false] at h'
    cases hc2 : (Nat.beq z.cells.size size && intish ((argTypes[1]?).bind P.underlying) && Nat.blt 0 size && z.cells.toList.all scalar) with
    | false => simp only [hc2, cond_false] at h'; cases h'
    | true =>
      simp only [hc2, cond_true] at h'
      have h0 := h'
      unfold appendZ at h'
      split at h'
      case h_2 => cases h'
      rename_i n hnat
      simp only [cond_eq_ite] at h'
      split at h'
      case isFalse => cases h'
      rename_i hc
      cases h'
      refine ⟨.push (.row (zeroCellsN z.cells.toList n) (.slack size)), rfl, rfl, by simp [Eff.wr], fun t hnx ht => ?_⟩
      simp only [aappend, hu0, hsz, hby, hz, hcond, cond_false, hc2, cond_true, appendZ, hnat, cond_eq_ite, if_pos hc]
      simp [Eff.app, Eff.wr, hnx]
  | true =>
    simp only [hcond, cond_true] at h'
    split at h'
    case h_1 => cases h'
    rename_i n new hel
    have hr := appendTo_rd h'
    subst hr
    obtain ⟨E, h1, h2, h3, h4⟩ := FormOk.appendTo size bytes n new s v m' W .all h'
    refine ⟨E, h1, h2, h3, fun t hnx ht => ?_⟩
    have := h4 t hnx ht
    simp only [aappend, hu0, hsz, hby, hz, hcond, cond_true, elemsOf_ext hel ht]
    exact this

end
end Go.Big

/- What an operation hangs on: the rest of the operations. -/
namespace Go.Big

section
variable {P : Program} {m : Mem}

theorem get_of_ext {t : Mem} {b : Nat} (ht : Ext m t) (h : m.get b ≠ none) : t.get b = m.get b := by
  cases hq : m.get b with
  | none => exact absurd hq h
  | some o => exact ht _ _ hq

theorem FormOk.copy (argTypes : Array TypeId) (d x : Value) : FormOk (fun t => acopy P argTypes d x t) m := by
  intro v m' W r h
  have h' : acopy P argTypes d x m = some (v, m', W, r) := h
  unfold acopy at h'
  split at h'
  case h_2 => cases h'
  rename_i elem hu0
  split at h'
  case h_2 => cases h'
  rename_i size n new hsz hel
  have hel' : ∀ t, Ext m t → elemsOf ((szOf P elem).getD 0) x t = some (n, new) := fun t ht => elemsOf_ext hel ht
  split at h'
  · cases h'
    exact ⟨.no, rfl, rfl, by simp [Eff.wr], fun t _ ht => by
      have := hel' t ht
      rw [hsz] at this
      simp only [Option.getD_some] at this
      simp only [acopy, hu0, hsz, Option.getD_some, this, Eff.app, Eff.wr]⟩
  · rename_i a dLen dCap
    simp only [cond_eq_ite] at h'
    split at h'
    · rename_i h0
      cases h'
      exact ⟨.no, rfl, rfl, by simp [Eff.wr], fun t _ ht => by
        have := hel' t ht
        rw [hsz] at this
        simp only [Option.getD_some] at this
        simp only [acopy, hu0, hsz, Option.getD_some, this, cond_eq_ite, if_pos h0, Eff.app, Eff.wr]⟩
    · rename_i h0
      split at h'
      · cases h'
      · rename_i hsp
        cases hput : putCells m a.block a.off (new.take (Nat.min n dLen * size)) with
        | none => simp [hput] at h'
        | some m2 =>
          simp [hput] at h'
          obtain ⟨rfl, rfl, rfl, rfl⟩ := h'
          obtain ⟨o, h1, h2, h3⟩ := putCells_form hput
          refine ⟨.set a.block o, h1, rfl, by simpa [Eff.wr] using h2, fun t _ ht => ?_⟩
          have := hel' t ht
          rw [hsz] at this
          simp only [Option.getD_some] at this
          simp only [acopy, hu0, hsz, Option.getD_some, this, cond_eq_ite, if_neg h0, hsp, h3 t (get_of_ext ht h2)]
          rfl
  · cases h'

theorem FormOk.clear (argTypes : Array TypeId) (x : Value) : FormOk (fun t => aclear P argTypes x t) m := by
  intro v m' W r h
  have h' : aclear P argTypes x m = some (v, m', W, r) := h
  unfold aclear at h'
  split at h'
  case h_2 => cases h'
  rename_i elem a n c hu0
  simp only [cond_eq_ite] at h'
  split at h'
  · rename_i h0
    cases h'
    exact ⟨.no, rfl, rfl, by simp [Eff.wr], fun t _ ht => by simp only [aclear, hu0, cond_eq_ite, if_pos h0]; rfl⟩
  · rename_i h0
    split at h'
    case h_2 => cases h'
    rename_i z hsp hz
    split at h'
    case isFalse => cases h'
    rename_i hzs
    cases hput : putCells m a.block a.off (zeroCellsN z.cells.toList n) with
    | none => simp [hput] at h'
    | some m2 =>
      simp [hput] at h'
      obtain ⟨rfl, rfl, rfl, rfl⟩ := h'
      obtain ⟨o, h1, h2, h3⟩ := putCells_form hput
      refine ⟨.set a.block o, h1, rfl, by simpa [Eff.wr] using h2, fun t _ ht => ?_⟩
      simp only [aclear, hu0, cond_eq_ite, if_neg h0, hsp, hz, if_pos hzs, h3 t (get_of_ext ht h2)]
      rfl

theorem FormOk.delete (argTypes : Array TypeId) (x k : Value) : FormOk (fun t => adelete P argTypes x k t) m := by
  intro v m' W r h
  have h' : adelete P argTypes x k m = some (v, m', W, r) := h
  unfold adelete at h'
  split at h'
  case h_2 => cases h'
  rename_i kt et b hu0
  split at h'
  case h_2 => cases h'
  rename_i es cl hg
  split at h'
  · rename_i i hf
    cases h'
    refine ⟨.set b (.map (es.eraseIdx i) cl), rfl, rfl, by simp [Eff.wr, hg], fun t _ ht => ?_⟩
    simp only [adelete, hu0, ht _ _ hg, hf]; rfl
  · rename_i hf
    cases h'
    refine ⟨.set b (.map es cl), rfl, rfl, by simp [Eff.wr, hg], fun t _ ht => ?_⟩
    simp only [adelete, hu0, ht _ _ hg, hf]; rfl
  · cases h'

theorem FormOk.lookup (ty : TypeId) (x k : Value) (ok : Bool) : FormOk (fun t => alookup P ty x k ok t) m := by
  intro v m' W r h
  have h' : alookup P ty x k ok m = some (v, m', W, r) := h
  unfold alookup at h'
  split at h'
  case h_2 => cases h'
  rename_i kt et b hu0
  split at h'
  case h_2 => cases h'
  rename_i es cl hg
  split at h'
  · rename_i zz i hf
    cases hei : es[i]? with
    | none => simp [hei] at h'
    | some e =>
      simp [hei] at h'
      obtain ⟨rfl, rfl, rfl, rfl⟩ := h'
      refine ⟨.no, rfl, rfl, by simp [Eff.wr], fun t _ ht => ?_⟩
      simp only [alookup, hu0, ht _ _ hg, hf, hei, Option.map_some]
      cases ok <;> rfl
  · rename_i z hf hz
    simp only [cond_eq_ite] at h'
    split at h'
    case isFalse => cases h'
    rename_i hp
    cases h'
    refine ⟨.no, rfl, rfl, by simp [Eff.wr], fun t _ ht => ?_⟩
    simp only [alookup, hu0, ht _ _ hg, hf, hz, cond_eq_ite, if_pos hp]; rfl
  · cases h'

theorem FormOk.mapUpdate (ty : TypeId) (x k u : Value) : FormOk (fun t => amapUpdate P ty x k u t) m := by
  intro v m' W r h
  have h' : amapUpdate P ty x k u m = some (v, m', W, r) := h
  unfold amapUpdate at h'
  split at h'
  case h_2 => cases h'
  rename_i kt et b hu0
  split at h'
  case h_2 => cases h'
  rename_i es cl hg
  split at h'
  · rename_i i hf
    cases hei : es[i]? with
    | none => simp [hei] at h'
    | some e =>
      simp only [hei, Option.bind_some, cond_eq_ite] at h'
      split at h'
      case isFalse => cases h'
      rename_i hsb
      cases h'
      refine ⟨.set b (.map (es.set i { e with key := k, val := u }) cl), rfl, rfl, by simp [Eff.wr, hg], fun t _ ht => ?_⟩
      simp only [amapUpdate, hu0, ht _ _ hg, hf, hei, Option.bind_some, cond_eq_ite, if_pos hsb]; rfl
  · rename_i hf
    cases h'
    refine ⟨.set b (.map (es ++ [{ key := k, val := u, born := cl }]) (cl + 1)), rfl, rfl, by simp [Eff.wr, hg], fun t _ ht => ?_⟩
    simp only [amapUpdate, hu0, ht _ _ hg, hf]; rfl
  · cases h'

theorem elemsOf_one {size : Nat} {a : Addr} {n c : Nat} {r : Nat × List Value} {t : Mem} (h : elemsOf size (.slice (some a) n c) m = some r) (ht : agree (rdA a) m t) : elemsOf size (.slice (some a) n c) t = some r := by
  unfold elemsOf at h ⊢
  simp only at h ⊢
  split at h
  · exact h
  · rename_i hs
    cases hg : getCells m a.block a.off (n * size) with
    | none => simp [hg] at h
    | some l =>
      have : getCells t a.block a.off (n * size) = some l := by
        unfold getCells at hg ⊢
        split at hg
        · rename_i cs k hq; rw [agree_rdA ht hs _ hq]; exact hg
        · cases hg
      rw [this]; simpa [hg] using h

theorem FormOk.convert (src dst : TypeId) (x : Value) : FormOk (fun t => aconvert P src dst x t) m := by
  intro v m' W r h
  have h' : aconvert P src dst x m = some (v, m', W, r) := h
  unfold aconvert at h'
  split at h'
  · rename_i e s hs hd
    split at h'
    case h_2 => cases h'
    rename_i he
    simp only [cond_eq_ite] at h'
    split at h'
    case isFalse => cases h'
    rename_i hsm
    cases h'
    refine ⟨.push (.row (bytesCells s) (.slack 1)), rfl, rfl, by simp [Eff.wr], fun t hnx ht => ?_⟩
    simp only [aconvert, hs, hd, he, cond_eq_ite, if_pos hsm]
    simp [Eff.app, Eff.wr, hnx]
  · rename_i e a n c hs hd
    split at h'
    case h_2 => cases h'
    rename_i he
    split at h'
    case h_2 => cases h'
    rename_i n' cs hel
    cases hmb : cs.mapM byteOfCell with
    | none => simp [hmb] at h'
    | some bs =>
      simp [hmb] at h'
      obtain ⟨rfl, rfl, rfl, rfl⟩ := h'
      refine ⟨.no, rfl, rfl, by simp [Eff.wr], fun t hnx ht => ?_⟩
      simp only [aconvert, hs, hd, he, elemsOf_one hel ht, hmb]; rfl
  · rename_i e0 e a n c hs hd
    split at h'
    case h_2 => cases h'
    rename_i cs k he hsp hg
    simp only [cond_eq_ite] at h'
    split at h'
    case isFalse => cases h'
    rename_i hc
    cases h'
    refine ⟨.no, rfl, rfl, by simp [Eff.wr], fun t hnx ht => ?_⟩
    have ht' : t.get a.block = some (.row cs k) := ht _ hg
    simp only [aconvert, hs, hd, he, hsp, ht', cond_eq_ite, if_pos hc]; rfl
  · cases h'

theorem FormOk.pure_ (ρ : Operand → Value) (o : Oper) : FormOk (fun t => Big.pv t (pureOp P ρ o)) m := .pv (fun _ => pureOp P ρ o) (fun _ => rfl)

theorem FormOk.builtin (ρ : Operand → Value) (o : Oper) (b : Builtin) (argTypes : Array TypeId) (args : List Value) : FormOk (fun t => abuiltin P ρ o b argTypes args t) m := by
  unfold abuiltin
  split
  · exact .append _ _ _
  · exact .copy _ _ _
  · exact .clear _ _
  · exact .delete _ _ _
  · rename_i a n c
    cases hd : (argTypes[0]?).bind P.underlying with
    | none => exact .none_
    | some d => cases d <;> first | exact .const _ | exact .none_
  · rename_i b2
    intro v m' W r h
    have h' := h
    simp only at h'
    split at h'
    case h_2 => cases h'
    rename_i kt et es cl hd hg
    cases h'
    refine ⟨.no, rfl, rfl, by simp [Eff.wr], fun t _ ht => ?_⟩
    simp only [hd, ht _ _ hg]; rfl
  · rename_i a n c
    intro v m' W r h
    have h' := h
    simp only at h'
    split at h'
    case h_2 => cases h'
    rename_i e cs k hd hsp hg
    simp only [cond_eq_ite] at h'
    split at h'
    case isTrue => cases h'
    rename_i ho
    cases h'
    refine ⟨.no, rfl, rfl, by simp [Eff.wr], fun t _ ht => ?_⟩
    simp only [hd, hsp, ht _ _ hg, cond_eq_ite, if_neg ho]; rfl
  · exact .pure_ _ _

theorem FormOk.aop (ρ : Operand → Value) (o : Oper) : FormOk (fun t => Big.aop P ρ o t) m := by
  unfold Big.aop
  cases hop : o.op with
  | move x => exact .const _
  | assign x => exact .const _
  | pick c a b => simp only; split <;> first | exact .const _ | exact .none_
  | alloc t =>
    simp only
    split
    · rename_i z hz
      cases hzz : z.cells.toList.all scalar with
      | true => simp only [cond_true]; exact .newCells _ _
      | false => exact .none_
    · exact .none_
  | box t x => exact .newCells _ _
  | build t ps => exact .pv (fun _ => _) (fun _ => rfl)
  | buildSlice t n ps => exact .buildSlice _ _ _
  | load t a => simp only; split <;> first | exact .load _ _ | exact .none_
  | store t a x => simp only; split <;> first | exact .store _ _ _ | exact .none_
  | nilCheck x => simp only; split <;> first | exact .const _ | exact .none_
  | binOp op t x y yt =>
    simp only
    split
    · rename_i d hd
      cases hh : notNil d (ρ x) (ρ y) with
      | true => exact .const _
      | false => exact .pure_ _ _
    · rename_i d hd
      cases hh : notNil d (ρ x) (ρ y) with
      | true => exact .const _
      | false => exact .pure_ _ _
    · exact .pure_ _ _
  | convert s d x =>
    simp only
    split
    · split
      · exact .convert _ _ _
      · exact .pure_ _ _
    · exact .convert _ _ _
    · exact .pure_ _ _
  | makeInterface t x => simp only; split <;> first | exact .const _ | exact .none_
  | makeFunc fn first cap => cases fn <;> first | exact .const _ | exact .pure_ _ _
  | makeMap t res =>
    cases res with
    | none =>
      intro v m' W r h
      cases h
      exact ⟨.push (.map [] 0), rfl, rfl, by simp [Eff.wr], fun t hnx _ => by simp [Eff.app, Eff.wr, hnx]⟩
    | some x => exact .pure_ _ _
  | makeSlice t l c => exact .makeSlice _ _ _
  | slice t x lo hi mx => simp only; split <;> first | exact .slice _ _ _ _ _ | exact .pure_ _ _
  | fieldAddr t x f => exact .pv (fun _ => _) (fun _ => rfl)
  | field t x f => simp only; split <;> first | exact .pv (fun _ => _) (fun _ => rfl) | exact .none_
  | indexAddr t x i => exact .pv (fun _ => _) (fun _ => rfl)
  | index t x i => simp only; split <;> first | exact .pv (fun _ => _) (fun _ => rfl) | exact .pure_ _ _
  | lookup t x k ok => simp only; split <;> first | exact .lookup _ _ _ _ | exact .pure_ _ _
  | mapUpdate t x k u => exact .mapUpdate _ _ _ _
  | extract x i => simp only; split <;> first | exact .pv (fun _ => _) (fun _ => rfl) | exact .none_
  | call c => simp only; split <;> first | exact .builtin _ _ _ _ _ | exact .none_
  | select cs b => exact .none_
  | _ => exact .pure_ _ _

end
end Go.Big

/- What a run hangs on, and what it leaves alone: operations, code, calls. -/
namespace Go.Big

def WF (m : Mem) : Prop := ∀ b, m.next ≤ b → m.get b = none

theorem WF.lt {m : Mem} (h : WF m) {b : Nat} (hb : m.get b ≠ none) : b < m.next := by
  rcases Nat.lt_or_ge b m.next with h1 | h1
  · exact h1
  · exact absurd (h b h1) hb

/-- What a computation of one step has done. -/
structure OpFacts (m m' : Mem) (W : List Nat) : Prop where
  next_le : m.next ≤ m'.next
  wr : ∀ b ∈ W, m.get b ≠ none ∧ m'.get b ≠ none
  keep : ∀ b, b ∉ W → ¬ (m.next ≤ b ∧ b < m'.next) → m'.get b = m.get b
  new : ∀ b, m.next ≤ b → b < m'.next → m'.get b ≠ none

def Sync (m t m' t' : Mem) (W : List Nat) : Prop :=
  t'.next = m'.next ∧ (∀ b, (b ∈ W ∨ (m.next ≤ b ∧ b < m'.next)) → t'.get b = m'.get b) ∧ (∀ b, b ∉ W → ¬ (m.next ≤ b ∧ b < m'.next) → t'.get b = t.get b)

theorem OpFacts.wf {m m' : Mem} {W : List Nat} (h : OpFacts m m' W) (hw : WF m) : WF m' := fun b hb => by
  rw [h.keep b (fun hm => by have := hw.lt (h.wr b hm).1; have := h.next_le; omega) (by omega)]
  exact hw b (Nat.le_trans h.next_le hb)

theorem OpFacts.grow {m m' : Mem} {W : List Nat} (h : OpFacts m m' W) {b : Nat} (hb : m.get b ≠ none) : m'.get b ≠ none := by
  by_cases h1 : b ∈ W
  · exact (h.wr b h1).2
  · by_cases h2 : m.next ≤ b ∧ b < m'.next
    · exact h.new b h2.1 h2.2
    · rw [h.keep b h1 h2]; exact hb

theorem Sync.ext {m t m' t' : Mem} {W : List Nat} (h : Sync m t m' t' W) (hf : OpFacts m m' W) (he : Ext m t) : Ext m' t' := fun b o ho => by
  by_cases h1 : b ∈ W ∨ (m.next ≤ b ∧ b < m'.next)
  · rw [h.2.1 b h1]; exact ho
  · have h2 : b ∉ W := fun x => h1 (.inl x)
    have h3 : ¬ (m.next ≤ b ∧ b < m'.next) := fun x => h1 (.inr x)
    rw [h.2.2 b h2 h3]
    rw [hf.keep b h2 h3] at ho
    exact he b o ho

section
variable {P : Program} {S : Spec}

theorem Eff.facts (E : Eff) (m : Mem) (h : ∀ b ∈ E.wr, m.get b ≠ none) (hw : WF m) : OpFacts m (E.app m) E.wr := by
  cases E with
  | no => exact ⟨Nat.le_refl _, by simp [Eff.wr], fun _ _ _ => rfl, fun b h1 h2 => by simp [Eff.app] at h2; omega⟩
  | push o =>
    refine ⟨by simp [Eff.app], by simp [Eff.wr], fun b _ h2 => ?_, fun b h1 h2 => ?_⟩
    · simp only [Eff.app, Mem.next_push] at h2 ⊢
      rw [Mem.get_push, if_neg (by omega)]
    · simp only [Eff.app, Mem.next_push] at h2 ⊢
      rw [Mem.get_push, if_pos (by omega)]; simp
  | set c o =>
    refine ⟨by simp [Eff.app], fun b hb => ⟨h b hb, ?_⟩, fun b h1 h2 => ?_, fun b h1 h2 => ?_⟩
    · simp [Eff.wr] at hb; subst hb; simp [Eff.app, Mem.get_set]
    · simp [Eff.wr] at h1; simp [Eff.app, Mem.get_set, h1]
    · simp [Eff.app] at h2; omega
  | kill c o =>
    have hc : c < m.next := hw.lt (h c (by simp [Eff.wr]))
    refine ⟨by simp [Eff.app], fun b hb => ⟨h b hb, ?_⟩, fun b h1 h2 => ?_, fun b h1 h2 => ?_⟩
    · simp [Eff.wr] at hb; subst hb
      simp only [Eff.app, Mem.get_push, Mem.get_set, Mem.next_set]
      split <;> simp
    · simp [Eff.wr] at h1
      simp only [Eff.app, Mem.next_push, Mem.next_set] at h2 ⊢
      simp only [Mem.get_push, Mem.get_set, Mem.next_set, if_neg h1]
      rw [if_neg (by omega)]
    · simp only [Eff.app, Mem.next_push, Mem.next_set] at h2 ⊢
      have : b = m.next := by omega
      subst this
      simp [Mem.get_push]

theorem Eff.sync (E : Eff) (m t : Mem) (h : ∀ b ∈ E.wr, m.get b ≠ none) (hw : WF m) (ht : t.next = m.next) : Sync m t (E.app m) (E.app t) E.wr := by
  cases E with
  | no => exact ⟨ht, fun b hb => by simp [Eff.wr, Eff.app] at hb; omega, fun _ _ _ => rfl⟩
  | push o =>
    refine ⟨by simp [Eff.app, ht], fun b hb => ?_, fun b _ h2 => ?_⟩
    · simp [Eff.wr, Eff.app] at hb
      have : b = m.next := by omega
      subst this
      simp [Eff.app, Mem.get_push, ht]
    · simp only [Eff.app, Mem.next_push] at h2 ⊢
      rw [Mem.get_push, if_neg (by omega)]
  | set c o =>
    refine ⟨by simp [Eff.app, ht], fun b hb => ?_, fun b h1 h2 => ?_⟩
    · simp [Eff.wr, Eff.app] at hb
      have : b = c := by omega
      subst this
      simp [Eff.app, Mem.get_set]
    · simp [Eff.wr] at h1; simp [Eff.app, Mem.get_set, h1]
  | kill c o =>
    have hc : c < m.next := hw.lt (h c (by simp [Eff.wr]))
    refine ⟨by simp [Eff.app, ht], fun b hb => ?_, fun b h1 h2 => ?_⟩
    · simp [Eff.wr, Eff.app] at hb
      simp only [Eff.app, Mem.get_push, Mem.get_set, Mem.next_set, ht]
      rcases hb with hb | hb
      · subst hb; simp
      · have : b = m.next := by omega
        simp [this]
    · simp [Eff.wr] at h1
      simp only [Eff.app, Mem.next_push, Mem.next_set] at h2
      simp only [Eff.app, Mem.get_push, Mem.get_set, Mem.next_set, if_neg h1, ht]
      rw [if_neg (by omega)]

theorem aop_loc {ρ : Operand → Value} {o : Oper} {m m' : Mem} {v : Value} {W : List Nat} {r : Rd} (h : aop P ρ o m = some (v, m', W, r)) (hw : WF m) :
    OpFacts m m' W ∧ ∀ t : Mem, t.next = m.next → agree r m t → ∃ t', aop P ρ o t = some (v, t', W, r) ∧ Sync m t m' t' W := by
  obtain ⟨E, rfl, rfl, h3, h4⟩ := FormOk.aop (P := P) (m := m) ρ o v m' W r h
  exact ⟨E.facts m h3 hw, fun t ht ha => ⟨_, h4 t ht ha, E.sync m t h3 hw ht⟩⟩

def CallLoc (call : CallF) : Prop := ∀ f args m out m' W, call f args m = some (out, m', W) → WF m →
  OpFacts m m' W ∧ ∀ t : Mem, t.next = m.next → Ext m t → ∃ t', call f args t = some (out, t', W) ∧ Sync m t m' t' W

theorem runOp_loc {call : CallF} (hc : CallLoc call) {o : Oper} {e : Env} {m m' : Mem} {v : Value} {W : List Nat} {r : Rd} (h : runOp P call o e m = some (.val v m' W r)) (hw : WF m) :
    OpFacts m m' W ∧ ∀ (t : Mem), t.next = m.next → agree r m t → ∃ t', runOp P call o e t = some (.val v t' W r) ∧ Sync m t m' t' W := by
  unfold runOp at h
  split at h
  · rename_i f args aT hop
    split at h
    case h_2 => cases h
    rename_i g first cap hf
    split at h
    · rename_i v' m2 w2 hcall
      cases h
      obtain ⟨h1, h2⟩ := hc _ _ _ _ _ _ hcall hw
      refine ⟨h1, fun t ht ha => ?_⟩
      obtain ⟨t', h3, h4⟩ := h2 t ht ha
      exact ⟨t', by simp only [runOp, hop, hf, h3], h4⟩
    · cases h
    · cases h
  · split at h <;> cases h
  · rename_i hn1 hn2
    split at h
    case h_2 => cases h
    rename_i v' m2 w2 r2 hop
    cases h
    obtain ⟨h1, h2⟩ := aop_loc hop hw
    refine ⟨h1, fun t ht ha => ?_⟩
    obtain ⟨t', h3, h4⟩ := h2 t ht ha
    refine ⟨t', ?_, h4⟩
    unfold runOp
    split
    · rename_i heq; exact absurd heq (hn1 _ _ _)
    · rename_i heq; exact absurd heq (hn2 _)
    · simp [h3]

theorem runOp_panic_loc {call : CallF} (hc : CallLoc call) {o : Oper} {e : Env} {m m' : Mem} {v : Value} {W : List Nat} (h : runOp P call o e m = some (.panic v m' W)) (hw : WF m) :
    OpFacts m m' W ∧ ∀ (t : Mem), t.next = m.next → Ext m t → ∃ t', runOp P call o e t = some (.panic v t' W) ∧ Sync m t m' t' W := by
  unfold runOp at h
  split at h
  · rename_i f args aT hop
    split at h
    case h_2 => cases h
    rename_i g first cap hf
    split at h
    · cases h
    · rename_i v' m2 w2 hcall
      cases h
      obtain ⟨h1, h2⟩ := hc _ _ _ _ _ _ hcall hw
      refine ⟨h1, fun t ht ha => ?_⟩
      obtain ⟨t', h3, h4⟩ := h2 t ht ha
      exact ⟨t', by simp only [runOp, hop, hf, h3], h4⟩
    · cases h
  · rename_i x hop
    split at h
    case h_2 => cases h
    rename_i ty u hu
    cases h
    refine ⟨⟨Nat.le_refl _, by simp, fun _ _ _ => rfl, fun b h1 h2 => by omega⟩, fun t ht ha => ⟨t, by simp only [runOp, hop, hu], ht, fun b hb => by simp at hb; omega, fun _ _ _ => rfl⟩⟩
  · split at h <;> cases h

/-! ### Pieces of code -/

structure Fr (base : Nat) (m m' : Mem) (W : List Nat) : Prop where
  next_le : m.next ≤ m'.next
  wf : WF m'
  wr : ∀ b ∈ W, b < base ∧ m.get b ≠ none ∧ m'.get b ≠ none
  grow : ∀ b, m.get b ≠ none → m'.get b ≠ none
  new : ∀ b, m.next ≤ b → b < m'.next → m'.get b ≠ none
  keep : ∀ b, b < base → b ∉ W → m'.get b = m.get b

def STr (base : Nat) (t m' t' : Mem) (W : List Nat) : Prop :=
  t'.next = m'.next ∧ Ext m' t' ∧ ∀ b, (b < base → b ∉ W) → (base ≤ b → m'.next ≤ b) → t'.get b = t.get b

theorem Fr.refl {base : Nat} {m : Mem} (hw : WF m) : Fr base m m [] :=
  ⟨Nat.le_refl _, hw, by simp, fun _ h => h, fun b h1 h2 => by omega, fun _ _ _ => rfl⟩

theorem Fr.trans {base : Nat} {m m1 m2 : Mem} {W1 W2 : List Nat} (h : Fr base m m1 W1) (k : Fr base m1 m2 W2) : Fr base m m2 (W1 ++ W2) := by
  refine ⟨Nat.le_trans h.next_le k.next_le, k.wf, fun b hb => ?_, fun b hb => k.grow b (h.grow b hb), fun b h1 h2 => ?_, fun b hb hn => ?_⟩
  · rw [List.mem_append] at hb
    rcases hb with hb | hb
    · exact ⟨(h.wr b hb).1, (h.wr b hb).2.1, k.grow b (h.wr b hb).2.2⟩
    · obtain ⟨h1, h2, h3⟩ := k.wr b hb
      refine ⟨h1, ?_, h3⟩
      by_cases hm : b ∈ W1
      · exact (h.wr b hm).2.1
      · rw [← h.keep b h1 hm]; exact h2
  · rcases Nat.lt_or_ge b m1.next with h3 | h3
    · exact k.grow b (h.new b h1 h3)
    · exact k.new b h3 h2
  · rw [List.mem_append, not_or] at hn
    rw [k.keep b hb hn.2, h.keep b hb hn.1]

theorem STr.trans {base : Nat} {m t m1 t1 m2 t2 : Mem} {W1 W2 : List Nat} (hb : base ≤ m.next) (hF : Fr base m m1 W1) (hk : Fr base m1 m2 W2) (h : STr base t m1 t1 W1) (k : STr base t1 m2 t2 W2) : STr base t m2 t2 (W1 ++ W2) := by
  refine ⟨k.1, k.2.1, fun b h1 h2 => ?_⟩
  have hl := hk.next_le
  rw [k.2.2 b (fun hx hm => h1 hx (List.mem_append.2 (.inr hm))) h2, h.2.2 b (fun hx hm => h1 hx (List.mem_append.2 (.inl hm))) (fun hx => by have := h2 hx; omega)]

theorem mem_keep {base b : Nat} {W : List Nat} : b ∈ keep base W ↔ b ∈ W ∧ b < base := by
  unfold keep; simp [blt_dec]

theorem OpFacts.fr {base : Nat} {m m' : Mem} {W : List Nat} (h : OpFacts m m' W) (hw : WF m) (hb : base ≤ m.next) : Fr base m m' (Big.keep base W) :=
  ⟨h.next_le, h.wf hw, fun b hm => ⟨(mem_keep.1 hm).2, (h.wr b (mem_keep.1 hm).1).1, (h.wr b (mem_keep.1 hm).1).2⟩, fun _ hx => h.grow hx, h.new, fun b hx hn =>
    h.keep b (fun hm => hn (mem_keep.2 ⟨hm, hx⟩)) (by omega)⟩

theorem Sync.str {base : Nat} {m t m' t' : Mem} {W : List Nat} (h : Sync m t m' t' W) (hf : OpFacts m m' W) (hw : WF m) (hb : base ≤ m.next) (he : Ext m t) : STr base t m' t' (Big.keep base W) := by
  refine ⟨h.1, h.ext hf he, fun b h1 h2 => h.2.2 b (fun hm => ?_) (fun hx => ?_)⟩
  · have hlt := hw.lt (hf.wr b hm).1
    have hle := hf.next_le
    rcases Nat.lt_or_ge b base with h3 | h3
    · exact h1 h3 (mem_keep.2 ⟨hm, h3⟩)
    · have := h2 h3; omega
  · have := h2 (by omega); omega

def ExecLoc (exec : Nat → Code → Env → Mem → Option Out) : Prop := ∀ base c e m o, exec base c e m = some o → WF m → base ≤ m.next →
  Fr base m o.mem o.wr ∧ ∀ t : Mem, t.next = m.next → Ext m t → ∃ t', exec base c e t = some ⟨o.ex, o.env, t', o.wr⟩ ∧ STr base t o.mem t' o.wr

theorem runOps_loc {call : CallF} (hc : CallLoc call) {base : Nat} {ops : Array Oper} : ∀ {l : List Oper} {e : Env} {m : Mem} {o : Out}, runOps P base call ops l e m = some o → WF m → base ≤ m.next →
    Fr base m o.mem o.wr ∧ ∀ t : Mem, t.next = m.next → Ext m t → ∃ t', runOps P base call ops l e t = some ⟨o.ex, o.env, t', o.wr⟩ ∧ STr base t o.mem t' o.wr
  | [], e, m, o, h, hw, hb => by
    cases h
    exact ⟨Fr.refl hw, fun t ht he => ⟨t, rfl, ht, he, fun _ _ _ => rfl⟩⟩
  | x :: rest, e, m, o, h, hw, hb => by
    simp only [runOps, cond_eq_ite] at h
    split at h
    · rename_i hwant
      split at h
      · rename_i v m1 w1 r1 hop
        split at h
        case h_2 => cases h
        rename_i e' hput
        split at h
        case h_2 => cases h
        rename_i o1 hrest
        cases h
        obtain ⟨h1, h2⟩ := runOp_loc hc hop hw
        obtain ⟨h3, h4⟩ := runOps_loc hc hrest (h1.wf hw) (Nat.le_trans hb h1.next_le)
        have hfr := h1.fr (base := base) hw hb
        refine ⟨hfr.trans h3, fun t ht he => ?_⟩
        have hag : agree r1 m t := by
          cases r1 with
          | no => trivial
          | one b => exact fun o ho => he b o ho
          | all => exact he
        obtain ⟨t1, h5, h6⟩ := h2 t ht hag
        obtain ⟨t', h7, h8⟩ := h4 t1 h6.1 (h6.ext h1 he)
        refine ⟨t', ?_, STr.trans hb hfr h3 (h6.str h1 hw hb he) h8⟩
        simp only [runOps, cond_eq_ite, if_pos hwant, h5, hput, h7]
      · rename_i v m1 w1 hop
        cases h
        obtain ⟨h1, h2⟩ := runOp_panic_loc hc hop hw
        refine ⟨h1.fr hw hb, fun t ht he => ?_⟩
        obtain ⟨t1, h5, h6⟩ := h2 t ht he
        refine ⟨t1, ?_, h6.str h1 hw hb he⟩
        simp only [runOps, cond_eq_ite, if_pos hwant, h5]
      · cases h
    · rename_i hwant
      split at h
      case h_2 => cases h
      rename_i e' hput
      obtain ⟨h3, h4⟩ := runOps_loc hc h hw hb
      refine ⟨h3, fun t ht he => ?_⟩
      obtain ⟨t', h7, h8⟩ := h4 t ht he
      exact ⟨t', by simp only [runOps, cond_eq_ite, if_neg hwant, hput, h7], h8⟩

end
end Go.Big

/- What a run hangs on, and what it leaves alone: regions whose order is drawn, code, calls. -/
namespace Go.Big

section
variable {P : Program}

theorem agree_of_ext {r : Rd} {m t : Mem} (he : Ext m t) : agree r m t := by
  cases r with
  | no => trivial
  | one b => exact fun o ho => he b o ho
  | all => exact he

theorem runDraw_loc {call : CallF} (hc : CallLoc call) {base : Nat} {ops : Array Oper} : ∀ {l : List Oper} {i : Nat} {pre : T Nat} {fps : List (Nat × Fp)} {e : Env} {m : Mem} {o : Out},
    runDraw P base call ops l i pre fps e m = some o → WF m → base ≤ m.next →
    Fr base m o.mem o.wr ∧ ∀ t : Mem, t.next = m.next → Ext m t → ∃ t', runDraw P base call ops l i pre fps e t = some ⟨o.ex, o.env, t', o.wr⟩ ∧ STr base t o.mem t' o.wr
  | [], i, pre, fps, e, m, o, h, hw, hb => by
    cases h
    exact ⟨Fr.refl hw, fun t ht he => ⟨t, rfl, ht, he, fun _ _ _ => rfl⟩⟩
  | x :: rest, i, pre, fps, e, m, o, h, hw, hb => by
    simp only [runDraw, cond_eq_ite] at h
    split at h
    · rename_i hwant
      split at h
      case h_2 => cases h
      rename_i v m1 w1 r1 hop
      obtain ⟨h1, h2⟩ := runOp_loc hc hop hw
      have hfr := h1.fr (base := base) hw hb
      split at h
      · rename_i hbor
        split at h
        case h_2 => cases h
        rename_i e' hput
        split at h
        case h_2 => cases h
        rename_i o1 hrest
        cases h
        obtain ⟨h3, h4⟩ := runDraw_loc hc hrest (h1.wf hw) (Nat.le_trans hb h1.next_le)
        refine ⟨hfr.trans h3, fun t ht he => ?_⟩
        obtain ⟨t1, h5, h6⟩ := h2 t ht (agree_of_ext he)
        obtain ⟨t', h7, h8⟩ := h4 t1 h6.1 (h6.ext h1 he)
        refine ⟨t', ?_, STr.trans hb hfr h3 (h6.str h1 hw hb he) h8⟩
        simp only [runDraw, cond_eq_ite, if_pos hwant, h5, ht, h6.1, if_pos hbor, hput, h7]
      · rename_i hbor
        split at h
        case isFalse => cases h
        rename_i hfree
        split at h
        case h_2 => cases h
        rename_i e' hput
        split at h
        case h_2 => cases h
        rename_i o1 hrest
        cases h
        obtain ⟨h3, h4⟩ := runDraw_loc hc hrest (h1.wf hw) (Nat.le_trans hb h1.next_le)
        refine ⟨hfr.trans h3, fun t ht he => ?_⟩
        obtain ⟨t1, h5, h6⟩ := h2 t ht (agree_of_ext he)
        obtain ⟨t', h7, h8⟩ := h4 t1 h6.1 (h6.ext h1 he)
        refine ⟨t', ?_, STr.trans hb hfr h3 (h6.str h1 hw hb he) h8⟩
        simp only [runDraw, cond_eq_ite, if_pos hwant, h5, ht, h6.1, if_neg hbor, if_pos hfree, hput, h7]
    · rename_i hwant
      split at h
      case h_2 => cases h
      rename_i e' hput
      obtain ⟨h3, h4⟩ := runDraw_loc hc h hw hb
      refine ⟨h3, fun t ht he => ?_⟩
      obtain ⟨t', h7, h8⟩ := h4 t ht he
      exact ⟨t', by simp only [runDraw, cond_eq_ite, if_neg hwant, hput, h7], h8⟩

theorem execStep_loc {call : CallF} (hc : CallLoc call) {self : Nat → Code → Env → Mem → Option Out} (hs : ExecLoc self) : ExecLoc (execStep P call self) := by
  intro base c e m o h hw hb
  have two : ∀ {a b : Code} {e1 : Env} {m1 : Mem} {w1 : List Nat} {o2 : Out}, self base a e m = some ⟨.normal, e1, m1, w1⟩ → self base b e1 m1 = some o2 →
      Fr base m o2.mem (w1 ++ o2.wr) ∧ ∀ t : Mem, t.next = m.next → Ext m t → ∃ t1 t', self base a e t = some ⟨.normal, e1, t1, w1⟩ ∧ self base b e1 t1 = some ⟨o2.ex, o2.env, t', o2.wr⟩ ∧ STr base t o2.mem t' (w1 ++ o2.wr) := by
    intro a b e1 m1 w1 o2 ha hb2
    obtain ⟨h1, h2⟩ := hs _ _ _ _ _ ha hw hb
    obtain ⟨h3, h4⟩ := hs _ _ _ _ _ hb2 h1.wf (Nat.le_trans hb h1.next_le)
    refine ⟨h1.trans h3, fun t ht he => ?_⟩
    obtain ⟨t1, h5, h6⟩ := h2 t ht he
    obtain ⟨t', h7, h8⟩ := h4 t1 h6.1 h6.2.1
    exact ⟨t1, t', h5, h7, STr.trans hb h1 h3 h6 h8⟩
  cases c with
  | skip =>
    cases h
    exact ⟨Fr.refl hw, fun t ht he => ⟨t, rfl, ht, he, fun _ _ _ => rfl⟩⟩
  | label l =>
    cases h
    exact ⟨Fr.refl hw, fun t ht he => ⟨t, rfl, ht, he, fun _ _ _ => rfl⟩⟩
  | region id ops d =>
    cases d with
    | true => exact runDraw_loc hc h hw hb
    | false => exact runOps_loc hc h hw hb
  | seq a b =>
    simp only [execStep] at h
    split at h
    · rename_i e1 m1 w1 ha
      split at h
      case h_2 => cases h
      rename_i o2 hb2
      cases h
      obtain ⟨h1, h2⟩ := two ha hb2
      refine ⟨h1, fun t ht he => ?_⟩
      obtain ⟨t1, t', h3, h4, h5⟩ := h2 t ht he
      exact ⟨t', by simp only [execStep, h3, h4], h5⟩
    · rename_i hnn
      obtain ⟨h1, h2⟩ := hs _ _ _ _ _ h hw hb
      refine ⟨h1, fun t ht he => ?_⟩
      obtain ⟨t', h3, h4⟩ := h2 t ht he
      refine ⟨t', ?_, h4⟩
      obtain ⟨ex, env, mem, wr⟩ := o
      simp only [execStep, h3]
      cases ex with
      | normal => exact absurd h (hnn _ _ _)
      | _ => rfl
  | cond c a b =>
    simp only [execStep, cond_eq_ite] at h
    split at h
    case h_2 => cases h
    rename_i tt htt
    split at h
    · rename_i ht1
      obtain ⟨h1, h2⟩ := hs _ _ _ _ _ h hw hb
      refine ⟨h1, fun t ht he => ?_⟩
      obtain ⟨t', h3, h4⟩ := h2 t ht he
      exact ⟨t', by simp only [execStep, htt, cond_eq_ite, if_pos ht1, h3], h4⟩
    · rename_i ht1
      obtain ⟨h1, h2⟩ := hs _ _ _ _ _ h hw hb
      refine ⟨h1, fun t ht he => ?_⟩
      obtain ⟨t', h3, h4⟩ := h2 t ht he
      exact ⟨t', by simp only [execStep, htt, cond_eq_ite, if_neg ht1, h3], h4⟩
  | block id b =>
    simp only [execStep] at h
    split at h
    · rename_i i e1 m1 w1 ha
      obtain ⟨h1, h2⟩ := hs _ _ _ _ _ ha hw hb
      simp only [cond_eq_ite] at h
      split at h
      · rename_i hi
        cases h
        refine ⟨h1, fun t ht he => ?_⟩
        obtain ⟨t', h3, h4⟩ := h2 t ht he
        exact ⟨t', by simp only [execStep, h3, cond_eq_ite, if_pos hi], h4⟩
      · rename_i hi
        cases h
        refine ⟨h1, fun t ht he => ?_⟩
        obtain ⟨t', h3, h4⟩ := h2 t ht he
        exact ⟨t', by simp only [execStep, h3, cond_eq_ite, if_neg hi], h4⟩
    · rename_i hnn
      obtain ⟨h1, h2⟩ := hs _ _ _ _ _ h hw hb
      refine ⟨h1, fun t ht he => ?_⟩
      obtain ⟨t', h3, h4⟩ := h2 t ht he
      refine ⟨t', ?_, h4⟩
      obtain ⟨ex, env, mem, wr⟩ := o
      simp only [execStep, h3]
      cases ex with
      | exit i => exact absurd h (hnn _ _ _ _)
      | _ => rfl
  | loop b =>
    simp only [execStep] at h
    split at h
    · rename_i e1 m1 w1 ha
      split at h
      case h_2 => cases h
      rename_i o2 hb2
      cases h
      obtain ⟨h1, h2⟩ := two ha hb2
      refine ⟨h1, fun t ht he => ?_⟩
      obtain ⟨t1, t', h3, h4, h5⟩ := h2 t ht he
      exact ⟨t', by simp only [execStep, h3, h4], h5⟩
    · rename_i hnn
      obtain ⟨h1, h2⟩ := hs _ _ _ _ _ h hw hb
      refine ⟨h1, fun t ht he => ?_⟩
      obtain ⟨t', h3, h4⟩ := h2 t ht he
      refine ⟨t', ?_, h4⟩
      obtain ⟨ex, env, mem, wr⟩ := o
      simp only [execStep, h3]
      cases ex with
      | normal => exact absurd h (hnn _ _ _)
      | _ => rfl
  | exit id =>
    cases h
    exact ⟨Fr.refl hw, fun t ht he => ⟨t, rfl, ht, he, fun _ _ _ => rfl⟩⟩
  | ret =>
    cases h
    exact ⟨Fr.refl hw, fun t ht he => ⟨t, rfl, ht, he, fun _ _ _ => rfl⟩⟩
  | _ => simp [execStep] at h

theorem aload_ext {ty : TypeId} {a : Addr} {m t : Mem} {v : Value} (h : aload P ty a m = some v) (he : Ext m t) : aload P ty a t = some v := by
  rw [aload_one (get_of_ext he (aload_some h))]; exact h

theorem mapM_ext {e : Env} {m t : Mem} (he : Ext m t) : ∀ {l : List ResultVar} {vs : List Value}, l.mapM (aresult P e m) = some vs → l.mapM (aresult P e t) = some vs
  | [], vs, h => h
  | x :: r, vs, h => by
    rw [List.mapM_cons] at h ⊢
    simp only [Option.bind_eq_bind, Option.bind_eq_some_iff] at h ⊢
    obtain ⟨v, hv, vs', hvs, h⟩ := h
    refine ⟨v, ?_, vs', mapM_ext he hvs, h⟩
    unfold aresult at hv ⊢
    cases x with
    | tmp d => exact hv
    | cell a ty =>
      simp only at hv ⊢
      split at hv
      · exact aload_ext hv he
      · cases hv

theorem aresults_ext {fn : Func} {e : Env} {m t : Mem} {v : Value} (h : aresults P fn e m = some v) (he : Ext m t) : aresults P fn e t = some v := by
  unfold aresults at h ⊢
  cases hm : fn.results.toList.mapM (aresult P e m) with
  | none => rw [hm] at h; cases h
  | some vs => rw [mapM_ext he hm]; rw [hm] at h; exact h

def SpecLoc (S : Spec) : Prop := ∀ f G, S f = some G → ∀ args m out m' W, G args m = some (out, m', W) → WF m →
  OpFacts m m' W ∧ ∀ t : Mem, t.next = m.next → Ext m t → ∃ t', G args t = some (out, t', W) ∧ Sync m t m' t' W

theorem Fr.facts {m m' : Mem} {W : List Nat} (h : Fr m.next m m' W) (hw : WF m) : OpFacts m m' W := by
  refine ⟨h.next_le, fun b hb => (h.wr b hb).2, fun b hn hr => ?_, h.new⟩
  rcases Nat.lt_or_ge b m.next with h1 | h1
  · exact h.keep b h1 hn
  · have h2 : m'.next ≤ b := by omega
    rw [h.wf b h2, hw b h1]

theorem STr.sync {m t m' t' : Mem} {W : List Nat} (h : STr m.next t m' t' W) (hf : OpFacts m m' W) (ht : t.next = m.next) (hw : WF m) : Sync m t m' t' W := by
  refine ⟨h.1, fun b hb => ?_, fun b hn hr => h.2.2 b (fun _ => hn) (fun h1 => by omega)⟩
  have hne : m'.get b ≠ none := by
    rcases hb with hb | hb
    · exact (hf.wr b hb).2
    · exact hf.new b hb.1 hb.2
  exact get_of_ext h.2.1 hne

theorem callStep_loc {S : Cfg} (hS : SpecLoc S.spec) {exec : Nat → Code → Env → Mem → Option Out} (he : ExecLoc exec) : CallLoc (callStep P S exec) := by
  intro f args m out m' W h hw
  unfold callStep at h
  split at h
  · rename_i G hG
    obtain ⟨h1, h2⟩ := hS f G hG args m out m' W h hw
    refine ⟨h1, fun t ht hx => ?_⟩
    obtain ⟨t', h3, h4⟩ := h2 t ht hx
    exact ⟨t', by simp only [callStep, hG, h3], h4⟩
  · rename_i hG
    simp only [cond_eq_ite] at h
    split at h
    case isFalse => cases h
    rename_i hok
    split at h
    case h_2 => cases h
    rename_i fn hfn
    split at h
    case h_2 => cases h
    rename_i c hc
    split at h
    · rename_i v e' m2 w2 hex
      cases h
      obtain ⟨h1, h2⟩ := he _ _ _ _ _ hex hw (Nat.le_refl _)
      have h1' := h1.facts hw
      refine ⟨h1', fun t ht hx => ?_⟩
      obtain ⟨t', h3, h4⟩ := h2 t ht hx
      refine ⟨t', ?_, h4.sync h1' ht hw⟩
      simp only [callStep, hG, hok, cond_true, hfn, hc, ht, h3]
    · cases h
    · rename_i ex e' m2 w2 hnp hne hex
      split at h
      case h_2 => cases h
      rename_i v hv
      cases h
      obtain ⟨h1, h2⟩ := he _ _ _ _ _ hex hw (Nat.le_refl _)
      have h1' := h1.facts hw
      refine ⟨h1', fun t ht hx => ?_⟩
      obtain ⟨t', h3, h4⟩ := h2 t ht hx
      refine ⟨t', ?_, h4.sync h1' ht hw⟩
      simp only [callStep, hG, hok, cond_true, hfn, hc, ht, h3]
      cases ex with
      | panic v => exact absurd rfl (hnp _)
      | exit i => exact absurd rfl (hne _)
      | normal => simp only [aresults_ext hv h4.2.1]
      | ret => simp only [aresults_ext hv h4.2.1]
    · cases h

theorem ev_loc {S : Cfg} (hS : SpecLoc S.spec) : ∀ n, CallLoc (ev P S n).call ∧ ExecLoc (ev P S n).exec
  | 0 => by
    constructor
    · intro f args m out m' W h
      cases h
    · intro base c e m o h
      cases h
  | n + 1 => ⟨callStep_loc hS (ev_loc hS n).2, execStep_loc (ev_loc hS n).1 (ev_loc hS n).2⟩

end
end Go.Big
