/- From a statement's arguments to the abstract memory. -/
import Derived.Test.YtobhnnbdobphfaaGreatDoorJoined14
import Derived.ProofKit
import Derived.LaidMore
import Derived.OpenShut
import Derived.Stop.Joined
import Derived.Lib.SmallJoins
import Derived.Carry
import Derived.Test.YtobhnnbdobphfaaGreatDoorTie
import Derived.Test.YtobhnnbdobphfaaGreatDoorCards
import Derived.Lay
import Derived.SevenTiedAt
set_option linter.unusedSimpArgs false
set_option linter.unusedVariables false
set_option linter.unusedSimpArgs false
set_option linter.unusedVariables false
namespace Go.Big
open Go.Proofs Go.ChangeShapes Go.WideShapes Go.ChangeAt Go.RowKit Go.Deep

/-- A row that was there before the call. -/
theorem Sim.push_ro {H : Nat} {φ : Place} {m : Mem} {w : World} (h : Sim H φ m w) (hn : m.get m.next = none) {cs : List Value} {a : Nat} {o : Nat} (ha : a < H)
    (hcs : ∀ i v, cs[i]? = some v → w.cell? ⟨a, o + i, none⟩ = some v) (hp : cs.all scalar = true) :
    Sim H (φ.add m.next ⟨a, o, cs.length, cs.length, none⟩) (m.push (.row cs .ro)) w := by
  refine h.add hn (fun cs2 k2 he => ?_) (fun _ _ he => by cases he) ?_
  · cases he
    exact { len := rfl, lim := Nat.le_refl _, kind := ⟨rfl, rfl⟩, cells := fun i v hv => ⟨v, hcs i v hv, .base (List.all_eq_true.1 hp v (List.mem_of_getElem? hv))⟩, own := (fun hx => nomatch hx), old := (fun _ => ha) }
  · intro b q hb hq
    exact .inl (by have := (h.blk_lt hb hq).2; simp; omega)

theorem u8_of_wf {n : Int} (h : (Lit.int .u8 n).wf = true) : n = ((UInt8.ofNat n.toNat).toNat : Int) := by
  simp only [Lit.wf, Bool.and_eq_true, decide_eq_true_eq] at h
  have h1 : (0 : Int) ≤ n := h.1
  have h2 : n ≤ 255 := h.2
  rw [UInt8.toNat_ofNat']
  omega

/-- A slice of bytes that a statement's argument reads: as the abstract memory has it. -/
theorem ext_bytes {H : Type} {enc : TypeId × Value → H} {P : Program} {W : World} {φ : Place} {m : Mem} {t e : TypeId} {fuel : Nat} {v : Value} {x : DataW H × List MemPlace} (hs : Sim W.heap.size φ m W) (hw : WF m)
    (ht : P.underlying t = some (.slice e)) (he : P.underlying e = some (.int .u8)) (hc : P.cellsOf e = 1) (h : DataW.trod enc P W 0 (fun _ => true) true fuel t [v] = some x) :
    ∃ (m' : Mem) (φ' : Place) (v' : Value) (l : List UInt8), Sim W.heap.size φ' m' W ∧ WF m' ∧ φ.le φ' ∧ Keep m m' ∧ VRel φ' v' v ∧ Bs m' v' l := by
  rcases open_ints ht he hc h with ⟨hv, hx⟩ | ⟨a, len, cap, zs, hv, hb, hl, hm, hlen, hx, hcell, hwf⟩
  · cases hv
    exact ⟨m, φ, .slice none 0 0, [], hs, hw, Place.le_refl _, fun _ _ => rfl, .base rfl, .nil⟩
  · cases hv
    simp only [if_true] at hlen
    rcases Nat.eq_zero_or_pos len with h0 | h0
    · subst h0
      exact ⟨m, φ, .slice (some ⟨0, 0, some 0⟩) 0 0, [], hs, hw, Place.le_refl _, fun _ _ => rfl, .dead, .spot rfl⟩
    · have hc0 := hcell 0 (by omega)
      rw [show a.add 0 = a from rfl] at hc0
      obtain ⟨ab, ao, asp⟩ := a
      have hspot : asp = none := by
        cases asp with
        | none => rfl
        | some s =>
          simp only [World.cell?] at hc0
          split at hc0 <;> simp at hc0
      subst hspot
      have hblk : ab < W.heap.size := by
        rcases Nat.lt_or_ge ab W.heap.size with h1 | h1
        · exact h1
        · simp only [World.cell?] at hc0
          rw [Array.getElem?_eq_none h1] at hc0
          cases hc0
      let l : List UInt8 := zs.map fun z => UInt8.ofNat z.toNat
      have hll : (u8s l).length = cap := by rw [u8s_length, List.length_map, hlen]
      have hcs : ∀ i v, (u8s l)[i]? = some v → W.cell? ⟨ab, ao + i, none⟩ = some v := fun i v hv => by
        have hi : i < zs.length := by
          rcases Nat.lt_or_ge i zs.length with h1 | h1
          · exact h1
          · rw [List.getElem?_eq_none (by omega)] at hv; cases hv
        have h1 := hcell i hi
        have h2 : (Addr.add ⟨ab, ao, none⟩ i) = ⟨ab, ao + i, none⟩ := by
          unfold Addr.add
          split
          · next h3 => subst h3; rfl
          · rfl
        rw [h2] at h1
        rw [h1, ← hv, List.getD_eq_getElem?_getD, List.getElem?_eq_getElem hi, Option.getD_some]
        simp only [l, u8s, List.map_map, List.getElem?_map, List.getElem?_eq_getElem hi, Option.map_some, Function.comp]
        rw [← u8_of_wf (hwf _ (List.getElem_mem hi))]
      have hsc : (u8s l).all scalar = true := by
        rw [List.all_eq_true]
        intro y hy
        simp only [u8s, List.mem_map] at hy
        obtain ⟨b, _, rfl⟩ := hy
        rfl
      have hn := hw m.next (Nat.le_refl _)
      refine ⟨m.push (.row (u8s l) .ro), _, .slice (some ⟨m.next, 0, none⟩) len cap, l.take len, hs.push_ro hn hblk hcs hsc, hw.push, Place.le_add (hs.none_ _ hn), Keep.push hw, ?_, ?_⟩
      · exact .slice (p := ⟨ab, ao, (u8s l).length, (u8s l).length, none⟩) (by simp [Place.add]) (by simp [capRel])
      · exact .row get_push_self (by rw [List.drop_zero, ← u8s_take]) (by rw [u8s_length, List.length_take, List.length_map]; omega) hl (fun s hs => by cases hs)

/-! ### The shapes of the arguments -/

def isStr (P : Program) (t : TypeId) : Bool := match P.underlying t with | some .string => true | _ => false
def isI64 (P : Program) (t : TypeId) : Bool := match P.underlying t with | some (.int .i64) => true | _ => false
def isU8 (P : Program) (t : TypeId) : Bool := match P.underlying t with | some (.int .u8) => true | _ => false
def isBytes (P : Program) (t : TypeId) : Bool := match P.underlying t with | some (.slice e) => isU8 P e && Nat.beq (P.cellsOf e) 1 | _ => false
def isEnv (P : Program) (t : TypeId) : Bool :=
  match P.underlying t with
  | some (.struct fs) => (match fs.toList with
    | [f0, f1, f2, f3, f4] => isStr P f0.type && (isI64 P f1.type && (isI64 P f2.type && (isBytes P f3.type && (isBytes P f4.type && (oneCellFields P fs && Nat.beq (P.cellsOf t) 5)))))
    | _ => false)
  | _ => false

theorem isU8_of {P : Program} {t : TypeId} (h : isU8 P t = true) : P.underlying t = some (.int .u8) := by
  unfold isU8 at h; split at h
  · assumption
  · cases h
theorem isBytes_of {P : Program} {t : TypeId} (h : isBytes P t = true) : ∃ e, P.underlying t = some (.slice e) ∧ P.underlying e = some (.int .u8) ∧ P.cellsOf e = 1 := by
  unfold isBytes at h; split at h
  · next e he =>
    rw [Bool.and_eq_true] at h
    exact ⟨e, he, isU8_of h.1, Nat.eq_of_beq_eq_true h.2⟩
  · cases h

section
variable {H : Type} {enc : TypeId × Value → H} {P : Program} {W : World} {φ : Place} {m : Mem} {t : TypeId} {b0 : Nat} {v : Value} {d : DataW H} {p : List MemPlace}

theorem trodAll_below (hl : laidOutB P = true) {W' : World} (hb : Below W.heap.size W W') : ∀ {ts : List TypeId} {vs : List Value} {ds : List (DataW H)} {ps : List MemPlace}, DataW.TrodAll enc P W 0 (fun _ => true) true ts vs ds ps →
    (∀ t ∈ ts, P.readableRec t = true ∧ t < P.types.size) → (∀ x ∈ ps, x.block < W.heap.size) → DataW.TrodAll enc P W' 0 (fun b => decide (b < W.heap.size)) true ts vs ds ps
  | [], _, _, _, h, _, _ => by
    obtain ⟨rfl, rfl, rfl⟩ := trodAll_nil h
    rfl
  | t :: ts, _, _, _, h, ht, hp => by
    obtain ⟨v, vs, d, ds, p, q, rfl, rfl, rfl, h1, h2⟩ := trodAll_cons h
    refine ⟨p, q, Below.trod hl (ht t (List.mem_cons_self ..)).1 (ht t (List.mem_cons_self ..)).2 h1 hb (fun x hx => hp x (List.mem_append_left _ hx)), trodAll_below hl hb h2 (fun u hu => ht u (List.mem_cons_of_mem _ hu)) (fun x hx => hp x (List.mem_append_right _ hx)), rfl⟩

/-- What a row of the template asks, of a call that left all that was there as it was. -/
theorem post_true {f : Func} {s : ChangeSpec} {W' : World} {args : Array Value} {ds gs : List (DataW H)} {before : List MemPlace} {tb : TypeId} (hl : laidOutB P = true)
    (hW : DataW.Whole enc P f.params.toList s.vars false W args.toList ds gs before) (hv : s.vars = []) (hp : ∀ t ∈ f.params.toList, P.readableRec t = true ∧ t < P.types.size) (hb : Below W.heap.size W W')
    (hf : s.fn H ds = { results := [.lit (.bool true)], args := ds }) (hr : f.resultTypes = #[tb]) (ht : P.underlying tb = some .bool) : s.post enc P f false true false false W args (.bool true) W' := by
  have hlt := hW.lt
  have hW0 := hW
  obtain ⟨p, q, hA, hV, rfl, hfz, hnd⟩ := hW
  rw [hv] at hV
  obtain ⟨rfl, rfl⟩ := trodVars_none hV
  rw [List.append_nil] at hlt hW0
  refine ⟨ds, [], p, [], p, [], hW0, ?_, ?_, ?_, hb.frame _, fun h => by cases h⟩
  · rw [List.append_nil, hf, hr]
    exact trodAll_mk1 (shut_bool ht true)
  · rw [List.append_nil, hf]
    exact trodAll_below hl hb hA hp hlt
  · rw [List.append_nil, hf, hv]
    rfl

theorem calls_true {S : Cfg} {f : FuncId} {args : List Value} {args' : Array Value} (hS : SpecSim P W.heap.size S.spec) (hL : SpecLoc S.spec) (hF : FuncsOk P S) (hmix : P.follows .mixedOrders = true)
    (hct : Ct P S f args m [] (fun out _ => out = .ret (.bool true))) (hw : WF m) (hs : Sim W.heap.size φ m W) (ha : LRel φ args args'.toList) :
    Calls P f args' W fun e W' => e = .returned (.bool true) ∧ Below W.heap.size W W' := by
  obtain ⟨out, m', wr, hc, _, rfl⟩ := hct
  obtain ⟨n, hn⟩ := acall_iff.1 hc
  refine (ev_calls hS hL hF hmix hn hw hs ha).mono fun e W' ⟨ψ, _, _, hb, v', he, hv⟩ => ⟨?_, hb⟩
  rw [he, hv.scalar_eq rfl]
end

end Go.Big

/- What the rows of this seat have in common. -/
set_option linter.unusedSimpArgs false
set_option linter.unusedVariables false
namespace Go.Proofs.YtobhnnbdobphfaaGreatDoor
open Go.ChangeShapes Go.WideShapes Go.ChangeAt Go.RowKit Go.Big

theorem own : ownKnob Tryz.prog.godebug = none := by kernel_rfl
theorem laidOut : laidOutB Tryz.prog = true := by kernel_rfl
theorem bytes22 : isBytes Tryz.prog 22 = true := by kernel_rfl
theorem int3 : Tryz.prog.underlying 3 = some (.int .i64) := by kernel_rfl
theorem bool4 : Tryz.prog.underlying 4 = some .bool := by kernel_rfl
theorem str9 : Tryz.prog.underlying 9 = some .string := by kernel_rfl
theorem readable9 : Tryz.prog.readableRec 9 = true ∧ 9 < Tryz.prog.types.size := ⟨by kernel_rfl, of_decide_eq_true (by kernel_rfl)⟩
theorem readable22 : Tryz.prog.readableRec 22 = true ∧ 22 < Tryz.prog.types.size := ⟨by kernel_rfl, of_decide_eq_true (by kernel_rfl)⟩
theorem readable3 : Tryz.prog.readableRec 3 = true ∧ 3 < Tryz.prog.types.size := ⟨by kernel_rfl, of_decide_eq_true (by kernel_rfl)⟩

def laid : List (String × DataW Unit) := [("unicode/utf8.acceptRanges", Rows.laid_unicode_utf8_acceptRanges), ("unicode/utf8.first", Rows.laid_unicode_utf8_first)]
def envZero : Value := .agg #[.string ⟨#[]⟩, .int .i64 0, .int .i64 0, .slice none 0 0, .slice none 0 0]

theorem sim0 (W : World) : Sim W.heap.size (fun _ => none) Mem.empty W := ⟨Nat.le_refl _, fun _ _ => rfl, fun b cs k hb => (by cases hb), fun b es c hb => (by cases hb), fun b c p q _ _ _ hp => (by cases hp)⟩
theorem wf0 : WF Mem.empty := fun b _ => rfl

/-- An argument that is a string. -/
theorem arg_str {H : Type} {enc : TypeId × Value → H} {P : Program} {W : World} {t : TypeId} {b0 : Nat} {v : Value} {d : DataW H} {ps : List MemPlace} (ht : P.underlying t = some .string)
    (hv : Value.okWide P W .any b0 t v) (hd : DataW.Trod enc P W 0 (fun _ => true) true t v d ps) : ∃ s : ByteArray, v = .string s ∧ d = .lit (.string s.data.toList) ∧ ps = [] ∧ s.size ≤ maxLen := by
  obtain ⟨s, rfl⟩ := okWide_string ht hv
  obtain ⟨fuel, hf⟩ := hd
  obtain ⟨s', h, hx, hs⟩ := DataW.trod_string ht hf
  simp [Value.cells] at h
  subst h
  simp only [Prod.mk.injEq] at hx
  exact ⟨s, rfl, hx.1, hx.2, hs⟩

/-- An argument of bytes. -/
theorem arg_bytes {H : Type} {enc : TypeId × Value → H} {P : Program} {W : World} {φ : Big.Place} {m : Mem} {t : TypeId} {b0 : Nat} {v : Value} {d : DataW H} {p : List MemPlace} (hs : Sim W.heap.size φ m W) (hw : WF m)
    (ht : isBytes P t = true) (hv : Value.okWide P W .any b0 t v) (h : DataW.Trod enc P W 0 (fun _ => true) true t v d p) :
    ∃ (m' : Mem) (φ' : Big.Place) (v' : Value) (l : List UInt8), Sim W.heap.size φ' m' W ∧ WF m' ∧ φ.le φ' ∧ Keep m m' ∧ VRel φ' v' v ∧ Bs m' v' l := by
  obtain ⟨e, h1, h2, h3⟩ := isBytes_of ht
  obtain ⟨a, len, cap, rfl⟩ := okWide_slice h1 hv
  obtain ⟨fuel, hf⟩ := h
  exact ext_bytes hs hw h1 h2 h3 hf
end Go.Proofs.YtobhnnbdobphfaaGreatDoor

/- The row of EnvelopeSeals: whatever the input, the law returns true. The condition: the two listed tables of package unicode/utf8 read as the card says. -/
set_option linter.unusedSimpArgs false
set_option linter.unusedVariables false
namespace Go.Proofs.YtobhnnbdobphfaaGreatDoor
open Go.ChangeShapes Go.WideShapes Go.ChangeAt Go.RowKit Go.Big

set_option maxRecDepth 100000 in
theorem seals_lifted (os : Os) (started : os.Started) (H : Type) (enc : TypeId × Value → H) :
    ReturnsInHanded {} Tryz.checked os 4 .any (fun w args => (Rows.envelopeSealsSpec.pre enc Tryz.prog Tryz.f4 Rows.envelopeSealsRow.domain false w args ∧ laidMetH Tryz.prog laid w) ∧ sizedMet enc Tryz.prog Tryz.f4 (OpenSpec.ofChange Rows.envelopeSealsSpec) false w args)
      (Rows.envelopeSealsSpec.post enc Tryz.prog Tryz.f4 false true false false) := by
  refine returnsInHanded_of_change_and (C := Tryz.checked) (X := fun w _ => laidMetH Tryz.prog laid w) (fun _ _ _ hh h => h.of_heap hh) own started (by kernel_rfl) Tryz.func4
    (ChangeSpec.witness_shaped (enc := enc) (C := Tryz.checked) (os := os) (X := fun w _ => laidMetH Tryz.prog laid w) false (World.laidAll Tryz.prog os laid) #[.string ⟨#[]⟩, .int .i64 0, .int .i64 0, .slice none 0 0, .slice none 0 0, .slice none 0 0, .int .i64 0] 12 (World.laidAll_os _ _ _)
      (World.shaped_of_ZipB (by kernel_rfl) (by kernel_rfl)) (by kernel_rfl) (by kernel_rfl) (by kernel_rfl)
      (by rw [MakeChecks.laidMetH_plain _ _ _ (by kernel_rfl)]; exact laidMet_laidAll _ (by kernel_rfl) (by kernel_rfl))) ?_
  intro W base args ds gs before hval0 hW _ _ _ _
  have hval : ∀ (j : Nat) t v, Tryz.f4.params[j]? = some t → args[j]? = some v → Value.okWide Tryz.prog W .any base t v := hval0
  have hpar : Tryz.f4.params = #[9, 3, 3, 22, 22, 22, 3] := by kernel_rfl
  have hW' := hW
  obtain ⟨p, q, hA0, hV, rfl, _, _⟩ := hW
  have hA : DataW.TrodAll enc Tryz.prog W 0 (fun _ => true) true Tryz.f4.params.toList args.toList ds p := hA0
  rw [hpar] at hA hval
  obtain ⟨al⟩ := args
  replace hA : DataW.TrodAll enc Tryz.prog W 0 (fun _ => true) true [9, 3, 3, 22, 22, 22, 3] al ds p := hA
  obtain ⟨v0, al0, d0, ds0, p0, q0, rfl, rfl, rfl, h0, hA⟩ := trodAll_cons hA
  obtain ⟨v1, al1, d1, ds1, p1, q1, rfl, rfl, rfl, h1, hA⟩ := trodAll_cons hA
  obtain ⟨v2, al2, d2, ds2, p2, q2, rfl, rfl, rfl, h2, hA⟩ := trodAll_cons hA
  obtain ⟨v3, al3, d3, ds3, p3, q3, rfl, rfl, rfl, h3, hA⟩ := trodAll_cons hA
  obtain ⟨v4, al4, d4, ds4, p4, q4, rfl, rfl, rfl, h4, hA⟩ := trodAll_cons hA
  obtain ⟨v5, al5, d5, ds5, p5, q5, rfl, rfl, rfl, h5, hA⟩ := trodAll_cons hA
  obtain ⟨v6, al6, d6, ds6, p6, q6, rfl, rfl, rfl, h6, hA⟩ := trodAll_cons hA
  obtain ⟨rfl, rfl, rfl⟩ := trodAll_nil hA
  obtain ⟨z0, rfl, rfl, rfl, wz0⟩ := arg_str str9 (hval 0 9 v0 rfl rfl) h0
  obtain ⟨n0, rfl, _⟩ := str_eta z0
  obtain ⟨z1, rfl, rfl, rfl, wz1⟩ := open_int int3 (hval 1 3 v1 rfl rfl) h1
  obtain ⟨z2, rfl, rfl, rfl, wz2⟩ := open_int int3 (hval 2 3 v2 rfl rfl) h2
  obtain ⟨m1, φ1, b3, l3, hs1, hw1, le1, k1, r3', hB3⟩ := arg_bytes (sim0 W) wf0 bytes22 (hval 3 22 v3 rfl rfl) h3
  obtain ⟨m2, φ2, b4, l4, hs2, hw2, le2, k2, r4', hB4⟩ := arg_bytes hs1 hw1 bytes22 (hval 4 22 v4 rfl rfl) h4
  obtain ⟨m3, φ3, b5, l5, hs3, hw3, le3, k3, r5', hB5⟩ := arg_bytes hs2 hw2 bytes22 (hval 5 22 v5 rfl rfl) h5
  obtain ⟨z6, rfl, rfl, rfl, wz6⟩ := open_int int3 (hval 6 3 v6 rfl rfl) h6
  refine (calls_true (specSim _) specLoc funcsOk mixed (seals_ct hw3 ((hB3.keep k2).keep k3) (hB4.keep k3) hB5) hw3 hs3 (LRel.cons (.base rfl) (LRel.cons (.base rfl) (LRel.cons (.base rfl) (LRel.cons ((r3'.mono le2).mono le3) (LRel.cons (r4'.mono le3) (LRel.cons r5' (LRel.cons (.base rfl) .nil)))))))).mono fun e W' ⟨he, hb⟩ => ?_
  subst he
  obtain ⟨rfl, rfl⟩ := trodVars_none hV
  exact ⟨_, rfl, post_true laidOut hW' rfl (fun t ht => by
    rw [hpar] at ht
    simp only [List.mem_cons, List.not_mem_nil, or_false] at ht
    rcases ht with rfl | rfl | rfl | rfl | rfl | rfl | rfl
    · exact readable9
    · exact readable3
    · exact readable3
    · exact readable22
    · exact readable22
    · exact readable22
    · exact readable3) hb rfl (by kernel_rfl) bool4⟩

theorem seals_holds : Rows.EnvelopeSealsSaid :=
  OpenClaim.holds_of_wide 4 Tryz.f4 rfl rfl rfl rfl rfl rfl rfl ⟨rfl, rfl, rfl, rfl, rfl⟩ rfl rfl rfl rfl rfl (by kernel_rfl) Tryz.func4 (by kernel_rfl)
    (of_decide_eq_true (by kernel_rfl)) (by unfold Func.isWrapper; first | (rw [if_pos (by decide +kernel)]; kernel_rfl) | (rw [if_neg (by decide +kernel)]; exact ⟨rfl, rfl⟩))
    (fun os started H enc _ => seals_lifted os started H enc)
theorem seals_card_holds : Rows.EnvelopeSealsCardSaid :=
  Claim7.holds_tied_plain_at .later [] [.data, .pinned] true (true, "d347fc042601f405e21d86b9dc011d938d4b73474fb80a0e006b166a7a1a5ee7") true seals_holds (fun _ h => by cases h) (by kernel_rfl) (fun _ h => by cases h) envelopeSeals_row_tie rfl ⟨rfl, rfl⟩ (by kernel_rfl) rfl
    (fun f fn hf hfn => by
      obtain rfl : f = 4 := Option.some.inj ((show Tryz.prog.funcNamed "bandplan/bandplanlaw42.EnvelopeSeals" = some 4 by kernel_rfl).symm.trans hf) |>.symm
      obtain rfl : fn = Tryz.f4 := (Option.some.inj (Tryz.func4.symm.trans hfn)).symm
      exact ⟨by kernel_rfl, fun j t ht => by
        rw [show Tryz.f4.params = #[9, 3, 3, 22, 22, 22, 3] by kernel_rfl] at ht
        have hm : t ∈ [9, 3, 3, 22, 22, 22, 3] := by simpa using Array.mem_of_getElem? ht
        have hall : ([9, 3, 3, 22, 22, 22, 3].all fun u => !Tryz.prog.wantsStandIn u) = true := by kernel_rfl
        exact (show Tryz.prog.wantsStandIn t = false by simpa using List.all_eq_true.1 hall t hm)⟩)
    (by kernel_rfl)
#print axioms seals_card_holds
end Go.Proofs.YtobhnnbdobphfaaGreatDoor
