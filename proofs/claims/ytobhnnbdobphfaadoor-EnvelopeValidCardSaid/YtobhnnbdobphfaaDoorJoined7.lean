/- Slices of bytes and strings, as the walk meets them. -/
import Derived.Test.YtobhnnbdobphfaaDoorJoined6
set_option linter.unusedSimpArgs false
set_option linter.unusedVariables false
set_option maxRecDepth 100000
set_option maxHeartbeats 8000000
namespace Go.Big
open Go.Proofs
set_option linter.defProp false

abbrev Bs (m : Mem) (v : Value) (l : List UInt8) : Prop := Sl m v (u8s l)
abbrev str (l : List UInt8) : Value := .string ⟨l.toArray⟩

section
variable {P : Program} {ρ : Operand → Value} {m m' : Mem} {d : Option Nat} {ty : TypeId} {ps : String} {af : Array Edge} {g : Option (Nat × Bool)} {t : TypeId} {v : Value} {l : List UInt8} {cs : List Value}

/-! ### Lengths -/

def alenV (P : Program) (t : TypeId) (v : Value) (m : Mem) : Res :=
  match v with
  | .slice (some _) n _ => (match P.underlying t with | some (.slice _) => some (goInt n, m, [], .no) | _ => none)
  | .map (some r) => (match P.underlying t, m.get r with | some (.map _ _), some (.map es _) => some (goInt es.length, m, [], .all) | _, _ => none)
  | x => pv m (bif plain x then (match eval0 P (Builtin.len_ #[t] ty #[x]) with | some v => bif plain v then some v else none | none => none) else none)

theorem aop_len {x : Operand} : aop P ρ ⟨d, .call { callee := .builtin .len, args := #[x], argTypes := #[t] }, ty, ps, af, g⟩ m = alenV (ty := ty) P t (ρ x) m := by
  have hp : pureOp P ρ ⟨d, .call { callee := .builtin .len, args := #[x], argTypes := #[t] }, ty, ps, af, g⟩ = (bif plain (ρ x) then (match eval0 P (Builtin.len_ #[t] ty #[ρ x]) with | some v => bif plain v then some v else none | none => none) else none) := by
    cases hx : plain (ρ x) with
    | true => rw [len_pure hx]; rfl
    | false =>
      have ho : (Op.call { callee := .builtin .len, args := #[x], argTypes := #[t] }).operands = #[x] := rfl
      simp only [pureOp, ho, List.all_cons, List.all_nil, hx, Bool.false_and, cond_false]
  simp only [aop, abuiltin, List.map_cons, List.map_nil, alenV, hp]
  cases ρ x with
  | slice a n c => cases a <;> rfl
  | map r => cases r <;> rfl
  | _ => rfl

theorem alen_sl (h : Sl m v cs) (ht : tyTag P t = 2) : alenV (ty := ty) P t v m = some (.int .i64 (cs.length : Int), m, [], .no) := by
  have := len_sl (P := P) (ρ := fun _ => v) (x := .tmp 0) (d := none) (ty := ty) (ps := "") (af := #[]) (g := none) rfl h ht
  rw [aop_len] at this
  exact this
theorem alen_bs (h : Bs m v l) (ht : tyTag P t = 2) : alenV (ty := ty) P t v m = some (.int .i64 (l.length : Int), m, [], .no) := by
  rw [alen_sl h ht, u8s_length]
theorem alen_lit {a : Addr} {n c : Nat} (ht : tyTag P t = 2) : alenV (ty := ty) P t (.slice (some a) n c) m = some (.int .i64 (n : Int), m, [], .no) := by
  obtain ⟨e, he⟩ := tyTag_slice ht
  simp [alenV, he, goInt]
theorem alen_string {b : ByteArray} (ht : tyTag P t = 6) : alenV (ty := ty) P t (.string b) m = some (.int .i64 (b.size : Int), m, [], .no) := by
  have := len_str (P := P) (m := m) (ρ := fun _ => .string b) (x := .tmp 0) (d := none) (ty := ty) (ps := "") (af := #[]) (g := none) rfl ht
  rw [aop_len] at this
  exact this
theorem size_str' : (⟨l.toArray⟩ : ByteArray).size = l.length := by simp [ByteArray.size]

/-! ### Strings -/

theorem toList_str : (⟨l.toArray⟩ : ByteArray).toList = l := by
  have key : ∀ (n : Nat) (bs : ByteArray) (i : Nat) (r : List UInt8), bs.size - i = n → ByteArray.toList.loop bs i r = r.reverse ++ bs.data.toList.drop i := by
    intro n
    induction n with
    | zero =>
      intro bs i r h
      rw [ByteArray.toList.loop, if_neg (by omega)]
      rw [List.drop_eq_nil_of_le (by simp only [Array.length_toList]; show bs.size ≤ i; omega)]
      simp
    | succ n ih =>
      intro bs i r h
      rw [ByteArray.toList.loop, if_pos (by omega), ih _ _ _ (by omega)]
      have hlt : i < bs.data.size := by show i < bs.size; omega
      have hget : bs.get! i = bs.data[i] := by
        exact getElem!_pos bs.data i hlt
      have hd := List.drop_eq_getElem_cons (l := bs.data.toList) (i := i) (by simpa using hlt)
      rw [hget, hd]
      simp
  show ByteArray.toList.loop _ 0 [] = l
  rw [key _ _ _ _ rfl]
  simp
theorem str_eta (s : ByteArray) : ∃ l : List UInt8, s = ⟨l.toArray⟩ ∧ l.length = s.size := ⟨s.data.toList, by cases s; rfl, by cases s; rfl⟩

theorem abin_str_eql {x y : Operand} {a b : List UInt8} : abin P .eql t x y (str a) (str b) m = some (.bool (a == b), m, [], .no) := by
  rw [abin_str_eq, toList_str, toList_str]
theorem abin_str_neq {x y : Operand} {a b : List UInt8} : abin P .neq t x y (str a) (str b) m = some (.bool (!(a == b)), m, [], .no) := by
  rw [abin_str_ne, toList_str, toList_str]
theorem abin_str_add {x y : Operand} {a b : List UInt8} (h : a.length + b.length ≤ 1073741824) : abin P .add t x y (str a) (str b) m = some (str (a ++ b), m, [], .no) := by
  rw [abin_str]
  have e2 : ¬ ((((⟨a.toArray⟩ : ByteArray).size + (⟨b.toArray⟩ : ByteArray).size : Nat) : Int) > IntKind.i64.max) := by
    rw [size_str', size_str', show IntKind.i64.max = 9223372036854775807 from rfl]; omega
  have e1 : (⟨a.toArray⟩ : ByteArray) ++ ⟨b.toArray⟩ = ⟨(a ++ b).toArray⟩ := by
    apply ByteArray.ext
    simp
  simp only [binS, if_neg e2, Option.map_some, e1]
theorem aidx_str' {k : IntKind} {i : Nat} {c : UInt8} (ht : tyTag P t = 6) (hi : l[i]? = some c) : aidx P t (str l) (.int k (i : Int)) m = some (.int .u8 c.toNat, m, [], .no) := by
  refine aidx_str ht ?_
  show (⟨l.toArray⟩ : ByteArray)[i]? = some c
  have hlt : i < l.length := by
    rcases Nat.lt_or_ge i l.length with h1 | h1
    · exact h1
    · rw [List.getElem?_eq_none h1] at hi; cases hi
  have hc : l[i] = c := by rw [List.getElem?_eq_getElem hlt] at hi; exact Option.some.inj hi
  have hs : i < (⟨l.toArray⟩ : ByteArray).size := by rw [size_str']; exact hlt
  rw [getElem?_pos (⟨l.toArray⟩ : ByteArray) i hs]
  congr 1

/-! ### Strings made bytes, bytes made strings -/

theorem aconv_str2 {s t : TypeId} {l : List UInt8} (hs : tyTag P s = 6) (ht : isBytesT P t = true) (hsz : l.length ≤ 65536) :
    aconv P s t (str l) m = some (.slice (some ⟨m.next, 0, none⟩) l.length l.length, m.push (.row (u8s l) (.slack 1)), [], .no) := by
  rw [aconv_toBytes hs ht (by rw [size_str']; exact hsz), size_str', bytesCells_eq]
theorem Bs.conv {s t : TypeId} (h : Bs m v l) (hs : isBytesT P s = true) (ht : tyTag P t = 6) : ∃ r, (r = .no ∨ r = .all) ∧ aconv P s t v m = some (str l, m, [], r) := by
  rcases h.shape with ⟨rfl, h0⟩ | ⟨a, c, rfl⟩
  · obtain ⟨r, hr⟩ := conv_str hs ht h
    have : r = .no := by
      have h1 := hr
      simp only [aconv, pv] at h1
      generalize (bif plain (Value.slice none 0 0) then (match eval0 P (convert s t (Value.slice none 0 0)) with | some v => bif plain v then some v else none | none => none) else none) = q at h1
      cases q with
      | none => cases h1
      | some q => cases h1; rfl
    exact ⟨.no, .inl rfl, by rw [hr, this]⟩
  · have he := h.elems
    rw [u8s_length] at he ⊢
    exact ⟨.all, .inr rfl, aconv_ofBytes hs ht he u8s_of⟩
/-- The same where the order is fixed (what was read does not matter). -/
theorem Bs.wconv {s t : TypeId} (h : Bs m v l) (hs : isBytesT P s = true) (ht : tyTag P t = 6) {K : Value → Mem → List Nat → Rd → Prop} (hk : ∀ r, r = .no ∨ r = .all → K (str l) m [] r) : @WV (aconv P s t v m) ⟨K⟩ := by
  obtain ⟨r, hr, e⟩ := h.conv (P := P) hs ht
  rw [e]
  exact hk r hr

/-! ### Is it nil? -/

theorem abin_sl_nil {op : BinOp} {x y : Operand} (h : Sl m v cs) (ht : tyTag P t = 2) (hop : op = .eql ∨ op = .neq) :
    (v = .slice none 0 0 ∧ cs = [] ∧ abin P op t x y v (.slice none 0 0) m = some (.bool (op == .eql), m, [], .no)) ∨ ((∃ a c, v = .slice (some a) cs.length c) ∧ abin P op t x y v (.slice none 0 0) m = some (.bool (op == .neq), m, [], .no)) := by
  rcases h.shape with ⟨rfl, rfl⟩ | ⟨a, c, rfl⟩
  · exact .inl ⟨rfl, rfl, abin_sl_nil_nil ht hop⟩
  · exact .inr ⟨⟨a, c, rfl⟩, abin_slice_nil ht hop⟩

/-! ### Appending -/

/-- A slice of the call's own that can be appended to. -/
inductive App (m : Mem) (n0 : Nat) : Value → List Value → Prop where
  | nil : App m n0 (.slice none 0 0) []
  | own {b : Nat} {cs : List Value} : n0 ≤ b → m.get b = some (.row cs (.slack 1)) → App m n0 (.slice (some ⟨b, 0, none⟩) cs.length cs.length) cs
  | buf {b n c : Nat} {cs rs : List Value} : n0 ≤ b → m.get b = some (.row rs .rw) → rs.take n = cs → cs.length = n → n ≤ c → c ≤ rs.length → App m n0 (.slice (some ⟨b, 0, none⟩) n c) cs

theorem Own.app {n0 : Nat} (h : Own m n0 v cs) : App m n0 v cs := by
  cases h with
  | nil => exact .nil
  | row h1 h2 h3 => exact .own h1 h3
theorem App.sl {n0 : Nat} (h : App m n0 v cs) : Sl m v cs := by
  cases h with
  | nil => exact .nil
  | own h1 h2 => exact .row h2 (by simp) rfl (Nat.le_refl _) (fun s hs => by cases hs; exact ⟨rfl, by simp⟩)
  | buf h1 h2 h3 h4 h5 h6 => exact .row h2 (by simpa using h3) h4 h5 (fun s hs => by cases hs)
theorem App.frame {n0 : Nat} (h : App m n0 v cs) (hf : ∀ b, slBlk v = some b → m'.get b = m.get b) : App m' n0 v cs := by
  cases h with
  | nil => exact .nil
  | own h1 h2 => exact .own h1 (by rw [hf _ rfl]; exact h2)
  | buf h1 h2 h3 h4 h5 h6 => exact .buf h1 (by rw [hf _ rfl]; exact h2) h3 h4 h5 h6
theorem App.keep {n0 : Nat} (h : App m n0 v cs) (k : Keep m m') : App m' n0 v cs := h.frame fun b hb => k b (h.sl.blk hb)
theorem Sl.keep (h : Sl m v cs) (k : Keep m m') : Sl m' v cs := h.frame k
theorem App.mono {n0 n1 : Nat} (h : App m n0 v cs) (hn : n1 ≤ n0) : App m n1 v cs := by
  cases h with
  | nil => exact .nil
  | own h1 h2 => exact .own (by omega) h2
  | buf h1 h2 h3 h4 h5 h6 => exact .buf (by omega) h2 h3 h4 h5 h6
theorem App.blk_ge {n0 b : Nat} (h : App m n0 v cs) (hb : slBlk v = some b) : n0 ≤ b := by
  cases h with
  | nil => cases hb
  | own h1 h2 => cases hb; exact h1
  | buf h1 => cases hb; exact h1
theorem App.blk_lt {n0 b : Nat} (h : App m n0 v cs) (hw : WF m) (hb : slBlk v = some b) : b < m.next := hw.lt (h.sl.blk hb)
theorem Sl.blk_lt {b : Nat} (h : Sl m v cs) (hw : WF m) (hb : slBlk v = some b) : b < m.next := hw.lt (h.blk hb)

/-- What an append leaves. -/
structure Appd (m : Mem) (n0 : Nat) (v : Value) (cs : List Value) (v' : Value) (m' : Mem) (w : List Nat) : Prop where
  app : App m' n0 v' cs
  wr : ∀ b ∈ w, slBlk v = some b
  next : m.next ≤ m'.next
  wf : WF m'
  frame : ∀ b, b < m.next → slBlk v ≠ some b → m'.get b = m.get b
  blk : ∀ b, slBlk v' = some b → slBlk v = some b ∨ m.next ≤ b

theorem append_app {aT : Array TypeId} {bytes n0 : Nat} (h : appK P aT = some bytes) (hv : App m n0 v cs) {x : Value} {new : List Value} (hx : Sl m x new) (hnew : new.all oneCell = true)
    (hlen : cs.length + new.length ≤ 1073741824) (hn0 : n0 ≤ m.next) (hw : WF m) :
    ∃ v' m' w, aappend P aT v x m = some (v', m', w, .all) ∧ Appd m n0 v (cs ++ new) v' m' w := by
  have hb := appK_bytes h
  rw [aappend_of h hx.elems]
  by_cases hn : new = []
  · subst hn
    have key : appendTo 1 bytes 0 [] v m = some (v, m, [], .all) := by
      cases hv with
      | nil => rfl
      | own h1 h2 => simp [appendTo, ble_dec]
      | buf h1 h2 h3 h4 h5 h6 => simp [appendTo, ble_dec, h5]
    exact ⟨v, m, [], key, by rw [List.append_nil]; exact hv, by simp, Nat.le_refl _, hw, fun _ _ _ => rfl, fun b hb => .inl hb⟩
  have hnl : new.length ≠ 0 := by simpa using hn
  have fresh : ∀ (old : List Value), old = cs → ∀ (m1 : Mem), WF m1 → m1.next = m.next → (∀ b, b < m.next → slBlk v ≠ some b → m1.get b = m.get b) → ∀ w, (∀ b ∈ w, slBlk v = some b) →
      Appd m n0 v (cs ++ new) (.slice (some ⟨m.next, 0, none⟩) (cs.length + new.length) (cs.length + new.length)) (m1.push (.row (old ++ new) (.slack 1))) w := by
    rintro old rfl m1 hw1 hn1 hf1 w hw2
    refine ⟨?_, hw2, by simp; omega, hw1.push, fun b hb hne => ?_, fun b hb => ?_⟩
    · have := App.own (m := m1.push (.row (old ++ new) (.slack 1))) (n0 := n0) (b := m.next) (cs := old ++ new) hn0 (by rw [Mem.get_push, if_pos hn1.symm])
      rw [List.length_append] at this
      exact this
    · rw [Mem.get_push, if_neg (by omega)]; exact hf1 b hb hne
    · simp only [slBlk] at hb; cases hb; exact .inr (Nat.le_refl _)
  cases hv with
  | nil =>
    have hf := fresh [] rfl m hw rfl (fun _ _ _ => rfl) [] (by simp)
    refine ⟨_, _, [], ?_, hf⟩
    · have e2 : new.length ≤ 1073741824 := by simp at hlen; omega
      simp only [appendTo, beq_dec, decide_eq_false hnl, cond_false, smallB, ble_dec, decide_eq_true e2, decide_eq_true hb, hnew, Bool.and_self, cond_true]
      simp
  | @own b cs h1 h2 =>
    have hlt : b < m.next := hw.lt (by rw [h2]; simp)
    have e1 : ¬ cs.length + new.length ≤ cs.length := by omega
    refine ⟨_, _, [b], ?_, fresh cs rfl (m.set b .dead) (hw.set hlt) rfl (fun b' hb' hne => by rw [Mem.get_set, if_neg (fun e => hne (by simp [slBlk, e]))]) [b] (by simp [slBlk])⟩
    have hg : getCells m b 0 (cs.length * 1) = some cs := by
      simp only [getCells, h2, Nat.mul_one]
      exact loadN_of (by simp) rfl
    have ho : isOpen cs (.slack 1) 0 cs.length = true := by rw [isOpen_eq]; simp
    simp only [appendTo, beq_dec, decide_eq_false hnl, Bool.false_and, cond_false, ble_dec, decide_eq_false e1, h2, hg, smallB, decide_eq_true hlen, decide_eq_true hb, hnew, Bool.and_self, cond_true, ho, decide_true]
  | @buf b n c cs rs h1 h2 h3 h4 h5 h6 =>
    subst h4
    have hlt : b < m.next := hw.lt (by rw [h2]; simp)
    by_cases hc : cs.length + new.length ≤ c
    · have hst : storeN rs (0 + cs.length * 1) new = some (cs ++ new ++ rs.drop (cs.length + new.length)) := by
        unfold storeN
        rw [show 0 + cs.length * 1 = cs.length from by omega, ble_dec, decide_eq_true (by omega), cond_true, h3]
      refine ⟨.slice (some ⟨b, 0, none⟩) (cs.length + new.length) c, m.set b (.row (cs ++ new ++ rs.drop (cs.length + new.length)) .rw), [b], ?_, ?_⟩
      · have e3 : Nat.ble (cs.length + new.length) c = true := by rw [ble_dec]; simpa using hc
        simp only [appendTo, beq_dec, decide_eq_false hnl, Bool.false_and, cond_false, e3, cond_true, putCells, h2, writable_rw, hnew, Bool.and_self, hst, Option.map_some]
      · refine ⟨.buf (rs := cs ++ new ++ rs.drop (cs.length + new.length)) h1 (by rw [Mem.get_set, if_pos rfl]) ?_ (by simp) hc ?_, by simp [slBlk], by simp, hw.set hlt, fun b' hb' hne => ?_, fun b' hb' => .inl hb'⟩
        · rw [List.take_append_of_le_length (by simp)]
          rw [List.take_of_length_le (by simp)]
        · simp; omega
        · rw [Mem.get_set, if_neg (fun e => hne (by simp [slBlk, e]))]
    · refine ⟨_, _, [], ?_, fresh cs rfl m hw rfl (fun _ _ _ => rfl) [] (by simp)⟩
      have e1 : Nat.ble (cs.length + new.length) c = false := by rw [ble_dec]; simp; omega
      have hg : getCells m b 0 (cs.length * 1) = some cs := by
        simp only [getCells, h2, Nat.mul_one]
        exact loadN_of (by simpa using h3) rfl
      have ho : isOpen rs .rw 0 c = false := rfl
      simp only [appendTo, beq_dec, decide_eq_false hnl, Bool.false_and, cond_false, e1, h2, hg, smallB, ble_dec, decide_eq_true hlen, decide_eq_true hb, hnew, Bool.and_self, cond_true, ho]

/-! ### Slices of arrays -/

def aslA (k : Option (Nat × Nat)) (o : Option AObj) (b off : Nat) (lo hi : Option Value) : Option Value :=
  match k, o with
  | some (n, s), some (.row cs kd) => (match bounds n n lo hi none with | some (l, h, mm) => closedS cs kd ⟨b, off, none⟩ s l h mm | none => none)
  | _, _ => none
theorem aslice_ptr {b off : Nat} {lo hi : Option Value} : aslice P t (.pointer (some ⟨b, off, none⟩)) lo hi none m = aslA (arrSl P t) (m.get b) b off lo hi := by
  unfold aslice aslA arrSl
  simp only
  cases arrOf P t with
  | none => rfl
  | some q =>
    obtain ⟨n, e⟩ := q
    simp only
    cases m.get b with
    | none => cases szOf P e <;> rfl
    | some o =>
      cases o with
      | row cs k =>
        simp only
        cases hb : bounds n n lo hi none with
        | none => cases szOf P e <;> simp [hb]
        | some q => cases szOf P e <;> simp [hb]
      | _ => cases szOf P e <;> rfl
section
variable {n b off l h : Nat} {rs : List Value} {k k' : IntKind}
theorem aslA_all : aslA (some (n, 1)) (some (.row rs .rw)) b off none none = some (.slice (some ⟨b, off, none⟩) n n) := by
  have hb : bounds n n none none none = some (0, n, n) := bounds_of rfl rfl (Nat.zero_le _) (Nat.le_refl _)
  by_cases h0 : n = 0
  · subst h0; simp [aslA, hb, closedS, isOpen]
  · have e4 : Nat.beq n 0 = false := by rw [beq_dec]; simp [h0]
    simp [aslA, hb, closedS, isOpen, e4, addr_add]
theorem aslA_hi (hh : h ≤ n) : aslA (some (n, 1)) (some (.row rs .rw)) b off none (some (.int k (h : Int))) = some (.slice (some ⟨b, off, none⟩) h n) := by
  have hb : bounds n n none (some (.int k (h : Int))) none = some (0, h, n) := bounds_of rfl rfl (Nat.zero_le _) hh
  by_cases h0 : n = 0
  · subst h0; simp [aslA, hb, closedS, isOpen]
  · have e4 : Nat.beq n 0 = false := by rw [beq_dec]; simp [h0]
    simp [aslA, hb, closedS, isOpen, e4, addr_add]
theorem aslA_lo (hl : l < n) : aslA (some (n, 1)) (some (.row rs .rw)) b off (some (.int k (l : Int))) none = some (.slice (some ⟨b, off + l, none⟩) (n - l) (n - l)) := by
  have hb : bounds n n (some (.int k (l : Int))) none none = some (l, n, n) := bounds_of rfl rfl (by omega) (Nat.le_refl _)
  have e4 : Nat.beq n l = false := by rw [beq_dec]; simp; omega
  simp [aslA, hb, closedS, isOpen, e4, addr_add]
theorem aslA_end : aslA (some (n, 1)) (some (.row rs .rw)) b off (some (.int k (n : Int))) none = some (.slice (some ⟨b, off, none⟩) 0 0) := by
  have hb : bounds n n (some (.int k (n : Int))) none none = some (n, n, n) := bounds_of rfl rfl (Nat.le_refl _) (Nat.le_refl _)
  simp [aslA, hb, closedS, isOpen]
theorem aslA_hi_lit (hh : h ≤ n) : aslA (some (n, 1)) (some (.row rs .rw)) b off none (some (.int k (no_index (OfNat.ofNat h)))) = some (.slice (some ⟨b, off, none⟩) h n) := aslA_hi hh
theorem aslA_lo_lit (hl : l < n) : aslA (some (n, 1)) (some (.row rs .rw)) b off (some (.int k (no_index (OfNat.ofNat l)))) none = some (.slice (some ⟨b, off + l, none⟩) (n - l) (n - l)) := aslA_lo hl
end
theorem Sl.of_row {b off n c : Nat} {rs cs : List Value} (h : m.get b = some (.row rs .rw)) (h1 : (rs.drop off).take n = cs) (h2 : cs.length = n) (h3 : n ≤ c) : Sl m (.slice (some ⟨b, off, none⟩) n c) cs :=
  .row h h1 h2 h3 (fun s hs => by cases hs)
theorem w32s_one' {l : List UInt32} : (l.map w32).all oneCell = true := by
  rw [List.all_eq_true]
  intro x hx
  simp only [List.mem_map] at hx
  obtain ⟨b, _, rfl⟩ := hx
  rfl
end

section
variable {P : Program} {m : Mem} {t : TypeId} {x y : Operand} {a : Addr} {r n c n' c' : Nat}
theorem nil_pe (ht : tyTag P t = 1) : abin P .eql t x y (.pointer (some a)) (.pointer none) m = some (.bool false, m, [], .no) := abin_ptr_nil ht (.inl rfl)
theorem nil_pn (ht : tyTag P t = 1) : abin P .neq t x y (.pointer (some a)) (.pointer none) m = some (.bool true, m, [], .no) := abin_ptr_nil ht (.inr rfl)
theorem nil_ppe (ht : tyTag P t = 1) : abin P .eql t x y (.pointer none) (.pointer none) m = some (.bool true, m, [], .no) := abin_nil_nil ht (.inl rfl)
theorem nil_ppn (ht : tyTag P t = 1) : abin P .neq t x y (.pointer none) (.pointer none) m = some (.bool false, m, [], .no) := abin_nil_nil ht (.inr rfl)
theorem nil_se (ht : tyTag P t = 2) : abin P .eql t x y (.slice (some a) n c) (.slice none n' c') m = some (.bool false, m, [], .no) := abin_slice_nil ht (.inl rfl)
theorem nil_sn (ht : tyTag P t = 2) : abin P .neq t x y (.slice (some a) n c) (.slice none n' c') m = some (.bool true, m, [], .no) := abin_slice_nil ht (.inr rfl)
theorem nil_sse (ht : tyTag P t = 2) : abin P .eql t x y (.slice none n c) (.slice none n' c') m = some (.bool true, m, [], .no) := abin_sl_nil_nil ht (.inl rfl)
theorem nil_ssn (ht : tyTag P t = 2) : abin P .neq t x y (.slice none n c) (.slice none n' c') m = some (.bool false, m, [], .no) := abin_sl_nil_nil ht (.inr rfl)
theorem nil_me (ht : tyTag P t = 3) : abin P .eql t x y (.map (some r)) (.map none) m = some (.bool false, m, [], .no) := abin_map_nil ht (.inl rfl)
theorem nil_mn (ht : tyTag P t = 3) : abin P .neq t x y (.map (some r)) (.map none) m = some (.bool true, m, [], .no) := abin_map_nil ht (.inr rfl)
end

theorem Bs.wslice {P : Program} {m : Mem} {v : Value} {l : List UInt8} {t : TypeId} (h : Bs m v l) (ht : idxSl P t = some 1) (hne : v ≠ .slice none 0 0) {lo hi : Option Value} {a b : Nat} (hl : optNat (some 0) lo = some a) (hh : optNat (some l.length) hi = some b)
    (h1 : a ≤ b) (h2 : b ≤ l.length) {other : Res} {K : Value → Mem → List Nat → Rd → Prop} (hk : ∀ v', Bs m v' ((l.drop a).take (b - a)) → (∀ b, slBlk v' = some b → slBlk v = some b) → K v' m [] .all) : @WV (aslM P t v lo hi none m other) ⟨K⟩ := by
  obtain ⟨v', e, hs, hb⟩ := Sl.slice (P := P) h ht hne (lo := lo) (hi := hi) (l := a) (hh := b) hl (by rw [u8s_length]; exact hh) h1 (by rw [u8s_length]; exact h2)
  rw [u8s_drop, u8s_take] at hs
  rcases h.shape with ⟨rfl, h0⟩ | ⟨ad, c, rfl⟩
  · exact absurd rfl hne
  · rw [aslM_sl, e]
    exact hk v' hs hb
theorem Bs.not_nil {m : Mem} {v : Value} {l : List UInt8} (h : Bs m v l) (hl : 0 < l.length) : v ≠ .slice none 0 0 := by
  rcases h.shape with ⟨_, h0⟩ | ⟨a, c, h0⟩
  · have := congrArg List.length h0
    rw [u8s_length] at this
    simp at this
    subst this
    simp at hl
  · rintro rfl
    cases h0

theorem cast_lit {n : Nat} : ((no_index (OfNat.ofNat n) : Nat) : Int) = (OfNat.ofNat n : Int) := id rfl

def XSl := And.intro @nil_pe <| And.intro @nil_pn <| And.intro @nil_ppe <| And.intro @nil_ppn <| And.intro @nil_se <| And.intro @nil_sn <| And.intro @nil_sse <| And.intro @nil_ssn <| And.intro @nil_me <| And.intro @nil_mn <| And.intro @aop_len <| And.intro @alen_lit <| And.intro @alen_string <| And.intro @size_str' <| And.intro @abin_str_eql <| And.intro @abin_str_neq <| And.intro @aslice_ptr <| And.intro @aslA_all <| And.intro @aslA_hi <| And.intro @aslA_lo <| And.intro @aslA_hi_lit <| @aslA_lo_lit

end Go.Big

/- The compression function of the hash, the program's: its parts. -/
set_option linter.unusedSimpArgs false
set_option linter.unusedVariables false
set_option maxRecDepth 100000
set_option maxHeartbeats 8000000
namespace Go.Big
open Go.Proofs

/-! ### A window of a row -/

def win (hs : List Value) (o : Nat) (W : List Value) : List Value := hs.take o ++ W ++ hs.drop (o + W.length)
section
variable {hs W : List Value} {o i : Nat} {x : Value}
theorem win_get (h : o ≤ hs.length) (hi : i < W.length) : (win hs o W)[o + i]? = W[i]? := by
  unfold win
  have h1 : (hs.take o).length = o := by rw [List.length_take]; omega
  rw [List.append_assoc, List.getElem?_append_right (by omega), h1, Nat.add_sub_cancel_left, List.getElem?_append_left hi]
theorem win_set (h : o ≤ hs.length) (hi : i < W.length) : (win hs o W).set (o + i) x = win hs o (W.set i x) := by
  unfold win
  have h1 : (hs.take o).length = o := by rw [List.length_take]; omega
  rw [List.append_assoc, List.set_append_right _ _ (by omega), h1, Nat.add_sub_cancel_left, List.set_append_left _ _ hi, ← List.append_assoc, List.length_set]
theorem win_self {n : Nat} (h : (hs.drop o).take n = W) (hl : W.length = n) : win hs o W = hs := by
  unfold win
  rw [hl, ← h, List.append_assoc]
  have : (hs.drop o).take n ++ hs.drop (o + n) = hs.drop o := by rw [← List.drop_drop]; exact List.take_append_drop n _
  rw [this, List.take_append_drop]
theorem win_length (h : o + W.length ≤ hs.length) : (win hs o W).length = hs.length := by
  unfold win; simp; omega
end

theorem w32s_get {l : List UInt32} {i : Nat} (h : i < l.length) : (w32s l)[i]? = some (w32 (l.getD i 0)) := by
  simp [w32s, h]
theorem w32s_set {l : List UInt32} {i : Nat} {x : UInt32} : (w32s l).set i (w32 x) = w32s (l.set i x) := by
  simp [w32s, List.map_set]
theorem w32s_len {l : List UInt32} : (w32s l).length = l.length := by simp [w32s]

theorem wrap_i64n {n : Nat} (h : n < 9223372036854775808) : IntKind.wrap .i64 (n : Int) = (n : Int) := wrap_i64 (by omega) (by omega)

/-- The last loop: the words that were, changed with those that were mixed. -/
theorem fin_x {m : Mem} (hw : WF m) {base : Nat} {hb ho vb : Nat} {hs : List Value} {H V : List UInt32} (hh : m.get hb = some (.row hs .rw)) (hH : (hs.drop ho).take 8 = w32s H) (lH : H.length = 8) (lo : ho + 8 ≤ hs.length)
    (hv : m.get vb = some (.row (w32s V) .rw)) (lV : V.length = 16) (hne : hb ≠ vb) (hbl : hb < base) {e : Env} (he : e.n = 173) (q0 : e.get 0 = .pointer (some ⟨hb, ho, none⟩)) (q11 : e.get 11 = .pointer (some ⟨vb, 0, none⟩)) (q153 : e.get 153 = .int .i64 ((0 : Nat) : Int))
    {Q : Ex → Env → Mem → Prop} (hQ : ∀ e' m', WF m' → m'.next = m.next → (∀ b, b ≠ hb → m'.get b = m.get b) → m'.get hb = some (.row (win hs ho (w32s ((List.range 8).map fun i => H.getD i 0 ^^^ (V.getD i 0 ^^^ V.getD (8 + i) 0)))) .rw) → Q (.exit 8) e' m') :
    WX Tryd.prog S0 base [hb] (sub (bodyOf Tryd.f75) [true, true, true, true, true, true, true, true, true, true, true, true]) e m Q := by
  have hlt : hb < m.next := hw.lt (by rw [hh]; simp)
  refine x_loop (fun k e m1 => ∃ i, i + k = 8 ∧ e.n = 173 ∧ e.get 0 = .pointer (some ⟨hb, ho, none⟩) ∧ e.get 11 = .pointer (some ⟨vb, 0, none⟩) ∧ e.get 153 = .int .i64 ((i : Nat) : Int) ∧ WF m1 ∧ m1.next = m.next ∧ (∀ b, b ≠ hb → m1.get b = m.get b) ∧
    m1.get hb = some (.row (win hs ho (fillV 8 (fun i => w32 (H.getD i 0 ^^^ (V.getD i 0 ^^^ V.getD (8 + i) 0))) (fun i => w32 (H.getD i 0)) i)) .rw)) 8 ⟨0, by omega, he, q0, q11, q153, hw, rfl, fun _ _ => rfl, ?_⟩ ?_
  · rw [win_self (n := 8) (by rw [hH]; apply List.ext_getElem?; intro j; by_cases hj : j < 8; · rw [fillV_get hj, w32s_get (by omega)]; rfl
                              · rw [List.getElem?_eq_none (by rw [w32s_len]; omega), List.getElem?_eq_none (by rw [fillV_length]; omega)]) fillV_length]
    exact hh
  · rintro k e1 m1 ⟨i, hi, he, q0, q11, q153, hw1, hn1, hf1, hh1⟩
    simp (maxSteps := 2000000) (disch := first | assumption | omega | (simp only [nx_push, nx_set, ne_eq] <;> omega) | (simp only [XSide, F75]; done) | decide) only [XWalk, XSl, ↓XPre, reduceIte, Nat.reduceEqDiff, Nat.reduceLT, Nat.reduceAdd, Nat.reduceSub, Nat.reduceMul, Nat.reduceBEq, reduceCtorEq, Int.reduceAdd, Int.reduceSub, Int.reduceMul, Int.reduceLT, Int.reduceLE, Int.reduceGT, Int.reduceGE, Int.reduceEq, Int.reduceNe, Int.reduceBEq, Int.reduceBNe, Int.reduceTMod, Int.reduceTDiv, ↓if_true, ↓if_false, F75, A75, he, q153]
    refine x_if (fun ht => ?_) (fun ht => ?_)
    · have hk : i < 8 := by simp at ht; omega
      simp (maxSteps := 2000000) (disch := first | assumption | omega | (simp only [nx_push, nx_set, ne_eq] <;> omega) | (simp only [XSide, F75]; done) | decide) only [XWalk, XSl, ↓XPre, reduceIte, Nat.reduceEqDiff, Nat.reduceLT, Nat.reduceAdd, Nat.reduceSub, Nat.reduceMul, Nat.reduceBEq, reduceCtorEq, Int.reduceAdd, Int.reduceSub, Int.reduceMul, Int.reduceLT, Int.reduceLE, Int.reduceGT, Int.reduceGE, Int.reduceEq, Int.reduceNe, Int.reduceBEq, Int.reduceBNe, Int.reduceTMod, Int.reduceTDiv, ↓if_true, ↓if_false, F75, A75, he, q153]
      refine x_draw [0, 0, 1, 7, 15, 0, 32, 96, 0, 256, 768, 1792, 4064, 8191, 1, 32767, 65535] (by kernel_rfl) ?_
      have g1 := win_get (i := i) (W := fillV 8 (fun i => w32 (H.getD i 0 ^^^ (V.getD i 0 ^^^ V.getD (8 + i) 0))) (fun i => w32 (H.getD i 0)) i) (show ho ≤ hs.length by omega) (by rw [fillV_length]; omega)
      have g2 : (w32s V)[i]? = some (w32 (V.getD i 0)) := w32s_get (by omega)
      have g3 : (w32s V)[8 + i]? = some (w32 (V.getD (8 + i) 0)) := w32s_get (by omega)
      rw [fillV_get hk, if_neg (by omega)] at g1
      have gl : (win hs ho (fillV 8 (fun i => w32 (H.getD i 0 ^^^ (V.getD i 0 ^^^ V.getD (8 + i) 0))) (fun i => w32 (H.getD i 0)) i)).length = hs.length := win_length (by rw [fillV_length]; exact lo)
      have e1' : IntKind.wrap .i64 (8 + (i : Int)) = ((8 + i : Nat) : Int) := by rw [wrap_i64 (by omega) (by omega)]; omega
      have e3' : IntKind.wrap .i64 ((i : Int) + 1) = ((i + 1 : Nat) : Int) := by rw [wrap_i64 (by omega) (by omega)]; omega
      have hv1 : m1.get vb = some (.row (w32s V) .rw) := by rw [hf1 vb hne.symm]; exact hv
      simp (maxSteps := 2000000) (disch := first | assumption | omega | (simp only [nx_push, nx_set, ne_eq] <;> omega) | (simp only [XSide, F75]; done) | decide) only [XWalk, XSl, ↓XPre, reduceIte, Nat.reduceEqDiff, Nat.reduceLT, Nat.reduceAdd, Nat.reduceSub, Nat.reduceMul, Nat.reduceBEq, reduceCtorEq, Int.reduceAdd, Int.reduceSub, Int.reduceMul, Int.reduceLT, Int.reduceLE, Int.reduceGT, Int.reduceGE, Int.reduceEq, Int.reduceNe, Int.reduceBEq, Int.reduceBNe, Int.reduceTMod, Int.reduceTDiv, ↓if_true, ↓if_false, F75, A75, he, q153, q0, q11, hh1, hv1, g1, g2, g3, e1', e3', xorI_32, gl]
      refine ⟨k - 1, by omega, i + 1, by omega, rfl, hw1.set (by omega), hn1, fun b hb => ?_, ?_⟩
      · rw [Mem.get_set, if_neg hb]; exact hf1 b hb
      · rw [win_set (by omega) (by rw [fillV_length]; exact hk)]
        have := fillV_set (n := 8) (f := fun i => w32 (H.getD i 0 ^^^ (V.getD i 0 ^^^ V.getD (8 + i) 0))) (g := fun i => w32 (H.getD i 0)) (i := i)
        rw [← this]
    · have hk : i = 8 := by simp at ht; omega
      subst hk
      simp (maxSteps := 2000000) (disch := first | assumption | omega | (simp only [nx_push, nx_set, ne_eq] <;> omega) | (simp only [XSide]; done) | decide) only [XWalk, XSl, ↓XPre, reduceIte, Nat.reduceEqDiff, Nat.reduceLT, Nat.reduceAdd, Nat.reduceSub, Nat.reduceMul, Nat.reduceBEq, reduceCtorEq, Int.reduceAdd, Int.reduceSub, Int.reduceMul, Int.reduceLT, Int.reduceLE, Int.reduceGT, Int.reduceGE, Int.reduceEq, Int.reduceNe, Int.reduceBEq, Int.reduceBNe, Int.reduceTMod, Int.reduceTDiv, ↓if_true, ↓if_false]
      refine hQ _ _ hw1 hn1 hf1 ?_
      rw [hh1]
      congr 2

end Go.Big

/- The compression function of the hash, the program's: a round. -/
set_option linter.unusedSimpArgs false
set_option linter.unusedVariables false
set_option maxRecDepth 100000
set_option maxHeartbeats 8000000
namespace Go.Big
open Go.Proofs

theorem mixV_ct {m : Mem} {vb : Nat} {V : List UInt32} (hv : m.get vb = some (.row (w32s V) .rw)) (lV : V.length = 16) {ia ib ic id : Nat} (la : ia < 16) (lb : ib < 16) (lc : ic < 16) (ld : id < 16) (nab : ia ≠ ib) (nac : ia ≠ ic) (nad : ia ≠ id) (nbc : ib ≠ ic) (nbd : ib ≠ id) (ncd : ic ≠ id) {x y : UInt32} :
    Ct Tryd.prog S0 83 [.pointer (some ⟨vb, ia, none⟩), .pointer (some ⟨vb, ib, none⟩), .pointer (some ⟨vb, ic, none⟩), .pointer (some ⟨vb, id, none⟩), w32 x, w32 y] m [vb]
      (fun out m' => out = .ret (.tuple #[]) ∧ m'.next = m.next ∧ m'.get vb = some (.row (w32s (mixAt V (ia, ib, ic, id) x y)) .rw)) := by
  have h0 : R4 m vb (w32s V) ia ib ic id (V.getD ia 0) (V.getD ib 0) (V.getD ic 0) (V.getD id 0) :=
    ⟨hv, w32s_get (by omega), w32s_get (by omega), w32s_get (by omega), w32s_get (by omega), by rw [w32s_len]; omega, by rw [w32s_len]; omega, by rw [w32s_len]; omega, by rw [w32s_len]; omega⟩
  refine ct_mono (mix_ct h0 nab nac nad nbc nbd ncd) ?_
  rintro out m' ⟨h1, h2, cs', h3, h4, h5⟩
  refine ⟨h1, h2, ?_⟩
  rw [h3.hm]
  congr 2
  rw [w32s_len] at h4
  apply List.ext_getElem?
  intro j
  simp only [mixAt, ← w32s_set]
  by_cases jd : j = id
  · subst jd; rw [h3.hd, set_self, if_pos (by simp [w32s_len]; omega)]
  rw [List.getElem?_set_ne (Ne.symm jd)]
  by_cases jc : j = ic
  · subst jc; rw [h3.hc, set_self, if_pos (by simp [w32s_len]; omega)]
  rw [List.getElem?_set_ne (Ne.symm jc)]
  by_cases jb : j = ib
  · subst jb; rw [h3.hb, set_self, if_pos (by simp [w32s_len]; omega)]
  rw [List.getElem?_set_ne (Ne.symm jb)]
  by_cases ja : j = ia
  · subst ja; rw [h3.ha, set_self, if_pos (by simp [w32s_len]; omega)]
  rw [List.getElem?_set_ne (Ne.symm ja)]
  exact h5 j ja jb jc jd

def natCells (s : List Nat) : List Value := s.map fun (n : Nat) => .int .u8 (n : Int)
theorem natCells_get {s : List Nat} {j : Nat} (h : j < s.length) : (natCells s)[j]? = some (.int .u8 ((s.getD j 0 : Nat) : Int)) := by simp [natCells, h]
theorem natCells_len {s : List Nat} : (natCells s).length = s.length := by simp [natCells]

theorem aidx_rows {m : Mem} {r : Nat} (h : r < 10) : aidx Tryd.prog 138 (.agg sigmaCells.toArray) (.int .i64 (r : Int)) m = some (.agg (natCells (sigma.getD r [])).toArray, m, [], .no) := by
  have : r = 0 ∨ r = 1 ∨ r = 2 ∨ r = 3 ∨ r = 4 ∨ r = 5 ∨ r = 6 ∨ r = 7 ∨ r = 8 ∨ r = 9 := by omega
  rcases this with rfl | rfl | rfl | rfl | rfl | rfl | rfl | rfl | rfl | rfl <;> (show aidx _ _ _ _ _ = _; kernel_rfl)

theorem sigma_ok {r : Nat} (h : r < 10) : (sigma.getD r []).length = 16 ∧ ∀ j, j < 16 → (sigma.getD r []).getD j 0 < 16 := by
  have key : ∀ r : Fin 10, (sigma.getD r.val []).length = 16 ∧ ∀ j : Fin 16, (sigma.getD r.val []).getD j.val 0 < 16 := by decide +kernel
  exact ⟨(key ⟨r, h⟩).1, fun j hj => (key ⟨r, h⟩).2 ⟨j, hj⟩⟩

/-- What a half of a round keeps of the temporaries. -/
def Rnd (e : Env) (hv : Value) (mb vb tb : Nat) (t83 : Value) (r : Nat) : Prop :=
  e.n = 173 ∧ e.get 0 = hv ∧ e.get 8 = .pointer (some ⟨mb, 0, none⟩) ∧ e.get 11 = .pointer (some ⟨vb, 0, none⟩) ∧ e.get 14 = .pointer (some ⟨tb, 0, none⟩) ∧ e.get 83 = t83 ∧ e.get 84 = .int .i64 (r : Int)

theorem foldl_range_succ {α : Type} {f : α → Nat → α} {v : α} {i : Nat} : (List.range (i + 1)).foldl f v = f ((List.range i).foldl f v) i := by
  rw [List.range_succ, List.foldl_append]; rfl

theorem half1 {m : Mem} (hw : WF m) {base : Nat} {hb mb vb tb r : Nat} {hv t83 : Value} {V M : List UInt32} {s : List Nat} (hm : m.get mb = some (.row (w32s M) .rw)) (lM : M.length = 16) (hvv : m.get vb = some (.row (w32s V) .rw)) (lV : V.length = 16)
    (ht : m.get tb = some (.row (natCells s) .rw)) (ls : s.length = 16) (hs : ∀ j, j < 16 → s.getD j 0 < 16) (nmv : mb ≠ vb) (ntv : tb ≠ vb) (hbv : base ≤ vb) {e : Env} (he : Rnd e hv mb vb tb t83 r) (q87 : e.get 87 = .int .i64 ((0 : Nat) : Int))
    {Q : Ex → Env → Mem → Prop} (hQ : ∀ e' m', WF m' → m'.next = m.next → (∀ b, b ≠ vb → m'.get b = m.get b) → m'.get vb = some (.row (w32s ((List.range 4).foldl (stepW M s) V)) .rw) → Rnd e' hv mb vb tb t83 r → Q (.exit 4) e' m') :
    WX Tryd.prog S0 base [hb] (sub (bodyOf Tryd.f75) [true, true, true, true, true, true, true, true, true, false, true, true, true, true, true, false, true, true, false, true, true]) e m Q := by
  refine x_loop (fun k e m1 => ∃ i, i + k = 4 ∧ Rnd e hv mb vb tb t83 r ∧ e.get 87 = .int .i64 ((i : Nat) : Int) ∧ WF m1 ∧ m1.next = m.next ∧ (∀ b, b ≠ vb → m1.get b = m.get b) ∧ m1.get vb = some (.row (w32s ((List.range i).foldl (stepW M s) V)) .rw)) 4
    ⟨0, by omega, he, q87, hw, rfl, fun _ _ => rfl, hvv⟩ ?_
  rintro k e1 m1 ⟨i, hi, ⟨he, q0, q8, q11, q14, q83, q84⟩, q87, hw1, hn1, hf1, hv1⟩
  simp (maxSteps := 2000000) (disch := first | assumption | omega | (simp only [nx_push, nx_set, ne_eq] <;> omega) | (simp only [XSide, F75]; done) | decide) only [XWalk, XSl, ↓XPre, reduceIte, Nat.reduceEqDiff, Nat.reduceLT, Nat.reduceAdd, Nat.reduceSub, Nat.reduceMul, Nat.reduceBEq, reduceCtorEq, Int.reduceAdd, Int.reduceSub, Int.reduceMul, Int.reduceLT, Int.reduceLE, Int.reduceGT, Int.reduceGE, Int.reduceEq, Int.reduceNe, Int.reduceBEq, Int.reduceBNe, Int.reduceTMod, Int.reduceTDiv, ↓if_true, ↓if_false, F75, A75, he, q87]
  refine x_if (fun ht => ?_) (fun ht => ?_)
  · have hk : i < 4 := by simp at ht; omega
    simp (maxSteps := 2000000) (disch := first | assumption | omega | (simp only [nx_push, nx_set, ne_eq] <;> omega) | (simp only [XSide, F75]; done) | decide) only [XWalk, XSl, ↓XPre, reduceIte, Nat.reduceEqDiff, Nat.reduceLT, Nat.reduceAdd, Nat.reduceSub, Nat.reduceMul, Nat.reduceBEq, reduceCtorEq, Int.reduceAdd, Int.reduceSub, Int.reduceMul, Int.reduceLT, Int.reduceLE, Int.reduceGT, Int.reduceGE, Int.reduceEq, Int.reduceNe, Int.reduceBEq, Int.reduceBNe, Int.reduceTMod, Int.reduceTDiv, ↓if_true, ↓if_false, F75, A75, he, q87]
    refine x_draw [0, 1, 0, 4, 12, 0, 32, 96, 0, 256, 768, 0, 2048, 6144, 14336, 30720, 63488, 0, 131072, 393216, 917504, 1966080, 4063232, 8257536, 16777215] (by kernel_rfl) ?_
    have hm1 : m1.get mb = some (.row (w32s M) .rw) := by rw [hf1 mb nmv]; exact hm
    have ht1 : m1.get tb = some (.row (natCells s) .rw) := by rw [hf1 tb ntv]; assumption
    have gs0 : (natCells s)[2 * i]? = _ := natCells_get (by omega)
    have gs1 : (natCells s)[2 * i + 1]? = _ := natCells_get (by omega)
    have gb0 := hs (2 * i) (by omega)
    have gb1 := hs (2 * i + 1) (by omega)
    have gM0 : (w32s M)[s.getD (2 * i) 0]? = _ := w32s_get (by omega)
    have gM1 : (w32s M)[s.getD (2 * i + 1) 0]? = _ := w32s_get (by omega)
    have e1' : IntKind.wrap .i64 (4 + (i : Int)) = ((4 + i : Nat) : Int) := by rw [wrap_i64 (by omega) (by omega)]; omega
    have e2' : IntKind.wrap .i64 (8 + (i : Int)) = ((8 + i : Nat) : Int) := by rw [wrap_i64 (by omega) (by omega)]; omega
    have e3' : IntKind.wrap .i64 (12 + (i : Int)) = ((12 + i : Nat) : Int) := by rw [wrap_i64 (by omega) (by omega)]; omega
    have e4' : IntKind.wrap .i64 (2 * (i : Int)) = ((2 * i : Nat) : Int) := by rw [wrap_i64 (by omega) (by omega)]; omega
    have e5' : IntKind.wrap .i64 (((2 * i : Nat) : Int) + 1) = ((2 * i + 1 : Nat) : Int) := by rw [wrap_i64 (by omega) (by omega)]; omega
    have e6' : IntKind.wrap .i64 ((i : Int) + 1) = ((i + 1 : Nat) : Int) := by rw [wrap_i64 (by omega) (by omega)]; omega
    simp (maxSteps := 2000000) (disch := first | assumption | omega | (simp only [nx_push, nx_set, ne_eq] <;> omega) | (simp only [XSide, F75]; done) | decide) only [XWalk, XSl, ↓XPre, reduceIte, Nat.reduceEqDiff, Nat.reduceLT, Nat.reduceAdd, Nat.reduceSub, Nat.reduceMul, Nat.reduceBEq, reduceCtorEq, Int.reduceAdd, Int.reduceSub, Int.reduceMul, Int.reduceLT, Int.reduceLE, Int.reduceGT, Int.reduceGE, Int.reduceEq, Int.reduceNe, Int.reduceBEq, Int.reduceBNe, Int.reduceTMod, Int.reduceTDiv, ↓if_true, ↓if_false, F75, A75, he, q87, q0, q8, q11, q14, q83, q84, hm1, ht1, hv1, gs0, gs1, gM0, gM1, e1', e2', e3', e4', e5', e6']
    refine wcall_of specLoc (mixV_ct hv1 (by rw [foldl_length (fun _ _ => stepW_length)]; exact lV) (by omega) (by omega) (by omega) (by omega) (by omega) (by omega) (by omega) (by omega) (by omega) (by omega)) hw1 (fun b hb hlt => ?_) ?_
    · simp at hb; omega
    rintro out m2 wr hwr hw2 hn2 hf2 _ ⟨rfl, hn2', hv2⟩
    simp (maxSteps := 2000000) (disch := first | assumption | omega | (simp only [nx_push, nx_set, ne_eq] <;> omega) | (simp only [XSide, F75]; done) | decide) only [XWalk, XSl, ↓XPre, reduceIte, Nat.reduceEqDiff, Nat.reduceLT, Nat.reduceAdd, Nat.reduceSub, Nat.reduceMul, Nat.reduceBEq, reduceCtorEq, Int.reduceAdd, Int.reduceSub, Int.reduceMul, Int.reduceLT, Int.reduceLE, Int.reduceGT, Int.reduceGE, Int.reduceEq, Int.reduceNe, Int.reduceBEq, Int.reduceBNe, Int.reduceTMod, Int.reduceTDiv, ↓if_true, ↓if_false, F75, A75, he, q87, q0, q8, q11, q14, q83, q84, e6', Rnd]
    refine ⟨k - 1, by omega, i + 1, by omega, rfl, hw2, by omega, fun b hb => ?_, ?_⟩
    · by_cases hbl : b < m1.next
      · rw [hf2 b hbl (by simpa using hb)]; exact hf1 b hb
      · rw [hw2 b (by omega), ← hf1 b hb, hw1 b (by omega)]
    · rw [foldl_range_succ, hv2]
      congr 2
      simp only [stepW, lane, if_pos hk]
  · have hk : i = 4 := by simp at ht; omega
    subst hk
    simp (maxSteps := 2000000) (disch := first | assumption | omega | (simp only [nx_push, nx_set, ne_eq] <;> omega) | (simp only [XSide]; done) | decide) only [XWalk, XSl, ↓XPre, reduceIte, Nat.reduceEqDiff, Nat.reduceLT, Nat.reduceAdd, Nat.reduceSub, Nat.reduceMul, Nat.reduceBEq, reduceCtorEq, Int.reduceAdd, Int.reduceSub, Int.reduceMul, Int.reduceLT, Int.reduceLE, Int.reduceGT, Int.reduceGE, Int.reduceEq, Int.reduceNe, Int.reduceBEq, Int.reduceBNe, Int.reduceTMod, Int.reduceTDiv, ↓if_true, ↓if_false]
    refine hQ _ _ hw1 hn1 hf1 hv1 ?_
    refine ⟨?_, ?_, ?_, ?_, ?_, ?_, ?_⟩ <;> simp (maxSteps := 2000000) (disch := first | assumption | omega | (simp only [nx_push, nx_set, ne_eq] <;> omega) | (simp only [XSide]; done) | decide) only [XWalk, XSl, ↓XPre, reduceIte, Nat.reduceEqDiff, Nat.reduceLT, Nat.reduceAdd, Nat.reduceSub, Nat.reduceMul, Nat.reduceBEq, reduceCtorEq, Int.reduceAdd, Int.reduceSub, Int.reduceMul, Int.reduceLT, Int.reduceLE, Int.reduceGT, Int.reduceGE, Int.reduceEq, Int.reduceNe, Int.reduceBEq, Int.reduceBNe, Int.reduceTMod, Int.reduceTDiv, ↓if_true, ↓if_false, he, q0, q8, q11, q14, q83, q84]

end Go.Big

/- The compression function of the hash, the program's: the second half of a round. -/
set_option linter.unusedSimpArgs false
set_option linter.unusedVariables false
set_option maxRecDepth 100000
set_option maxHeartbeats 8000000
namespace Go.Big
open Go.Proofs

theorem tmod4 {n : Nat} : Int.tmod (n : Int) 4 = ((n % 4 : Nat) : Int) := by
  rw [Int.tmod_eq_emod_of_nonneg (by omega)]; omega

theorem half2 {m : Mem} (hw : WF m) {base : Nat} {hb mb vb tb r : Nat} {hv t83 : Value} {V M : List UInt32} {s : List Nat} (hm : m.get mb = some (.row (w32s M) .rw)) (lM : M.length = 16) (hvv : m.get vb = some (.row (w32s ((List.range 4).foldl (stepW M s) V)) .rw)) (lV : V.length = 16)
    (ht : m.get tb = some (.row (natCells s) .rw)) (ls : s.length = 16) (hs : ∀ j, j < 16 → s.getD j 0 < 16) (nmv : mb ≠ vb) (ntv : tb ≠ vb) (hbv : base ≤ vb) {e : Env} (he : Rnd e hv mb vb tb t83 r) (q116 : e.get 116 = .int .i64 ((0 : Nat) : Int))
    {Q : Ex → Env → Mem → Prop} (hQ : ∀ e' m', WF m' → m'.next = m.next → (∀ b, b ≠ vb → m'.get b = m.get b) → m'.get vb = some (.row (w32s (roundW M V s)) .rw) → Rnd e' hv mb vb tb t83 r → Q (.exit 6) e' m') :
    WX Tryd.prog S0 base [hb] (sub (bodyOf Tryd.f75) [true, true, true, true, true, true, true, true, true, false, true, true, true, true, true, false, true, true, true, true, true]) e m Q := by
  refine x_loop (fun k e m1 => ∃ i, i + k = 4 ∧ Rnd e hv mb vb tb t83 r ∧ e.get 116 = .int .i64 ((i : Nat) : Int) ∧ WF m1 ∧ m1.next = m.next ∧ (∀ b, b ≠ vb → m1.get b = m.get b) ∧ m1.get vb = some (.row (w32s ((List.range (4 + i)).foldl (stepW M s) V)) .rw)) 4
    ⟨0, by omega, he, q116, hw, rfl, fun _ _ => rfl, hvv⟩ ?_
  rintro k e1 m1 ⟨i, hi, ⟨he, q0, q8, q11, q14, q83, q84⟩, q116, hw1, hn1, hf1, hv1⟩
  simp (maxSteps := 2000000) (disch := first | assumption | omega | (simp only [nx_push, nx_set, ne_eq] <;> omega) | (simp only [XSide, F75]; done) | decide) only [XWalk, XSl, ↓XPre, reduceIte, Nat.reduceEqDiff, Nat.reduceLT, Nat.reduceAdd, Nat.reduceSub, Nat.reduceMul, Nat.reduceBEq, reduceCtorEq, Int.reduceAdd, Int.reduceSub, Int.reduceMul, Int.reduceLT, Int.reduceLE, Int.reduceGT, Int.reduceGE, Int.reduceEq, Int.reduceNe, Int.reduceBEq, Int.reduceBNe, Int.reduceTMod, Int.reduceTDiv, ↓if_true, ↓if_false, F75, A75, he, q116]
  refine x_if (fun ht => ?_) (fun ht => ?_)
  · have hk : i < 4 := by simp at ht; omega
    simp (maxSteps := 2000000) (disch := first | assumption | omega | (simp only [nx_push, nx_set, ne_eq] <;> omega) | (simp only [XSide, F75]; done) | decide) only [XWalk, XSl, ↓XPre, reduceIte, Nat.reduceEqDiff, Nat.reduceLT, Nat.reduceAdd, Nat.reduceSub, Nat.reduceMul, Nat.reduceBEq, reduceCtorEq, Int.reduceAdd, Int.reduceSub, Int.reduceMul, Int.reduceLT, Int.reduceLE, Int.reduceGT, Int.reduceGE, Int.reduceEq, Int.reduceNe, Int.reduceBEq, Int.reduceBNe, Int.reduceTMod, Int.reduceTDiv, ↓if_true, ↓if_false, F75, A75, he, q116]
    refine x_draw [0, 1, 0, 4, 12, 28, 60, 0, 128, 384, 896, 1920, 0, 4096, 12288, 28672, 61440, 0, 131072, 393216, 917504, 1966080, 4063232, 8257536, 0, 16777216, 50331648, 117440512, 251658240, 520093696, 1056964608, 2147483647] (by kernel_rfl) ?_
    have hm1 : m1.get mb = some (.row (w32s M) .rw) := by rw [hf1 mb nmv]; exact hm
    have ht1 : m1.get tb = some (.row (natCells s) .rw) := by rw [hf1 tb ntv]; assumption
    have gs0 : (natCells s)[8 + 2 * i]? = _ := natCells_get (by omega)
    have gs1 : (natCells s)[9 + 2 * i]? = _ := natCells_get (by omega)
    have gb0 := hs (8 + 2 * i) (by omega)
    have gb1 := hs (9 + 2 * i) (by omega)
    have gM0 : (w32s M)[s.getD (8 + 2 * i) 0]? = _ := w32s_get (by omega)
    have gM1 : (w32s M)[s.getD (9 + 2 * i) 0]? = _ := w32s_get (by omega)
    have e1' : IntKind.wrap .i64 ((i : Int) + 1) = ((i + 1 : Nat) : Int) := by rw [wrap_i64 (by omega) (by omega)]; omega
    have e2' : IntKind.wrap .i64 ((i : Int) + 2) = ((i + 2 : Nat) : Int) := by rw [wrap_i64 (by omega) (by omega)]; omega
    have e3' : IntKind.wrap .i64 ((i : Int) + 3) = ((i + 3 : Nat) : Int) := by rw [wrap_i64 (by omega) (by omega)]; omega
    have e4' : IntKind.wrap .i64 (2 * (i : Int)) = ((2 * i : Nat) : Int) := by rw [wrap_i64 (by omega) (by omega)]; omega
    have e5' : IntKind.wrap .i64 (8 + ((2 * i : Nat) : Int)) = ((8 + 2 * i : Nat) : Int) := by rw [wrap_i64 (by omega) (by omega)]; omega
    have e6' : IntKind.wrap .i64 (9 + ((2 * i : Nat) : Int)) = ((9 + 2 * i : Nat) : Int) := by rw [wrap_i64 (by omega) (by omega)]; omega
    have e7' : IntKind.wrap .i64 (4 + (((i + 1) % 4 : Nat) : Int)) = ((4 + (i + 1) % 4 : Nat) : Int) := by rw [wrap_i64 (by omega) (by omega)]; omega
    have e8' : IntKind.wrap .i64 (8 + (((i + 2) % 4 : Nat) : Int)) = ((8 + (i + 2) % 4 : Nat) : Int) := by rw [wrap_i64 (by omega) (by omega)]; omega
    have e9' : IntKind.wrap .i64 (12 + (((i + 3) % 4 : Nat) : Int)) = ((12 + (i + 3) % 4 : Nat) : Int) := by rw [wrap_i64 (by omega) (by omega)]; omega
    simp (maxSteps := 2000000) (disch := first | assumption | omega | (simp only [nx_push, nx_set, ne_eq] <;> omega) | (simp only [XSide, F75]; done) | decide) only [XWalk, XSl, ↓XPre, reduceIte, Nat.reduceEqDiff, Nat.reduceLT, Nat.reduceAdd, Nat.reduceSub, Nat.reduceMul, Nat.reduceBEq, reduceCtorEq, Int.reduceAdd, Int.reduceSub, Int.reduceMul, Int.reduceLT, Int.reduceLE, Int.reduceGT, Int.reduceGE, Int.reduceEq, Int.reduceNe, Int.reduceBEq, Int.reduceBNe, Int.reduceTMod, Int.reduceTDiv, ↓if_true, ↓if_false, F75, A75, he, q116, q0, q8, q11, q14, q83, q84, hm1, ht1, hv1, gs0, gs1, gM0, gM1, e1', e2', e3', e4', e5', e6', e7', e8', e9', tmod4]
    refine wcall_of specLoc (mixV_ct hv1 (by rw [foldl_length (fun _ _ => stepW_length)]; exact lV) (by omega) (by omega) (by omega) (by omega) (by omega) (by omega) (by omega) (by omega) (by omega) (by omega)) hw1 (fun b hb hlt => ?_) ?_
    · simp at hb; omega
    rintro out m2 wr hwr hw2 hn2 hf2 _ ⟨rfl, hn2', hv2⟩
    simp (maxSteps := 2000000) (disch := first | assumption | omega | (simp only [nx_push, nx_set, ne_eq] <;> omega) | (simp only [XSide, F75]; done) | decide) only [XWalk, XSl, ↓XPre, reduceIte, Nat.reduceEqDiff, Nat.reduceLT, Nat.reduceAdd, Nat.reduceSub, Nat.reduceMul, Nat.reduceBEq, reduceCtorEq, Int.reduceAdd, Int.reduceSub, Int.reduceMul, Int.reduceLT, Int.reduceLE, Int.reduceGT, Int.reduceGE, Int.reduceEq, Int.reduceNe, Int.reduceBEq, Int.reduceBNe, Int.reduceTMod, Int.reduceTDiv, ↓if_true, ↓if_false, F75, A75, he, q116, q0, q8, q11, q14, q83, q84, e1', Rnd]
    refine ⟨k - 1, by omega, i + 1, by omega, rfl, hw2, by omega, fun b hb => ?_, ?_⟩
    · by_cases hbl : b < m1.next
      · rw [hf2 b hbl (by simpa using hb)]; exact hf1 b hb
      · rw [hw2 b (by omega), ← hf1 b hb, hw1 b (by omega)]
    · rw [show 4 + (i + 1) = (4 + i) + 1 from by omega, foldl_range_succ, hv2]
      congr 2
      simp only [stepW, lane, if_neg (show ¬ 4 + i < 4 by omega), show 4 + i - 4 = i from by omega, show 2 * (4 + i) = 8 + 2 * i from by omega, show 8 + 2 * i + 1 = 9 + 2 * i from by omega]
  · have hk : i = 4 := by simp at ht; omega
    subst hk
    simp (maxSteps := 2000000) (disch := first | assumption | omega | (simp only [nx_push, nx_set, ne_eq] <;> omega) | (simp only [XSide]; done) | decide) only [XWalk, XSl, ↓XPre, reduceIte, Nat.reduceEqDiff, Nat.reduceLT, Nat.reduceAdd, Nat.reduceSub, Nat.reduceMul, Nat.reduceBEq, reduceCtorEq, Int.reduceAdd, Int.reduceSub, Int.reduceMul, Int.reduceLT, Int.reduceLE, Int.reduceGT, Int.reduceGE, Int.reduceEq, Int.reduceNe, Int.reduceBEq, Int.reduceBNe, Int.reduceTMod, Int.reduceTDiv, ↓if_true, ↓if_false]
    refine hQ _ _ hw1 hn1 hf1 hv1 ?_
    refine ⟨?_, ?_, ?_, ?_, ?_, ?_, ?_⟩ <;> simp (maxSteps := 2000000) (disch := first | assumption | omega | (simp only [nx_push, nx_set, ne_eq] <;> omega) | (simp only [XSide]; done) | decide) only [XWalk, XSl, ↓XPre, reduceIte, Nat.reduceEqDiff, Nat.reduceLT, Nat.reduceAdd, Nat.reduceSub, Nat.reduceMul, Nat.reduceBEq, reduceCtorEq, Int.reduceAdd, Int.reduceSub, Int.reduceMul, Int.reduceLT, Int.reduceLE, Int.reduceGT, Int.reduceGE, Int.reduceEq, Int.reduceNe, Int.reduceBEq, Int.reduceBNe, Int.reduceTMod, Int.reduceTDiv, ↓if_true, ↓if_false, he, q0, q8, q11, q14, q83, q84]

/-- The rounds. -/
theorem rounds_x {m : Mem} (hw : WF m) {base : Nat} {hb mb vb : Nat} {hv : Value} {V M : List UInt32} (hm : m.get mb = some (.row (w32s M) .rw)) (lM : M.length = 16) (hvv : m.get vb = some (.row (w32s V) .rw)) (lV : V.length = 16)
    (nmv : mb ≠ vb) (hbv : base ≤ vb) (hbm : base ≤ m.next) {e : Env} (he : e.n = 173) (q0 : e.get 0 = hv) (q8 : e.get 8 = .pointer (some ⟨mb, 0, none⟩)) (q11 : e.get 11 = .pointer (some ⟨vb, 0, none⟩)) (q83 : e.get 83 = .agg sigmaCells.toArray) (q84 : e.get 84 = .int .i64 ((0 : Nat) : Int))
    {Q : Ex → Env → Mem → Prop} (hQ : ∀ e' m', WF m' → m.next ≤ m'.next → (∀ b, b < m.next → b ≠ vb → m'.get b = m.get b) → m'.get vb = some (.row (w32s (sigma.foldl (roundW M) V)) .rw) → e'.n = 173 → e'.get 0 = hv → e'.get 11 = .pointer (some ⟨vb, 0, none⟩) → Q (.exit 2) e' m') :
    WX Tryd.prog S0 base [hb] (sub (bodyOf Tryd.f75) [true, true, true, true, true, true, true, true, true, false, true, true]) e m Q := by
  have hmlt : mb < m.next := hw.lt (by rw [hm]; simp)
  have hvlt : vb < m.next := hw.lt (by rw [hvv]; simp)
  refine x_loop (fun k e m1 => ∃ r, r + k = 10 ∧ e.n = 173 ∧ e.get 0 = hv ∧ e.get 8 = .pointer (some ⟨mb, 0, none⟩) ∧ e.get 11 = .pointer (some ⟨vb, 0, none⟩) ∧ e.get 83 = .agg sigmaCells.toArray ∧ e.get 84 = .int .i64 ((r : Nat) : Int) ∧ WF m1 ∧ m.next ≤ m1.next ∧ (∀ b, b < m.next → b ≠ vb → m1.get b = m.get b) ∧
    m1.get vb = some (.row (w32s ((sigma.take r).foldl (roundW M) V)) .rw)) 10 ⟨0, by omega, he, q0, q8, q11, q83, q84, hw, Nat.le_refl _, fun _ _ _ => rfl, hvv⟩ ?_
  rintro k e1 m1 ⟨r, hi, he, q0, q8, q11, q83, q84, hw1, hn1, hf1, hv1⟩
  simp (maxSteps := 2000000) (disch := first | assumption | omega | (simp only [nx_push, nx_set, ne_eq] <;> omega) | (simp only [XSide, F75]; done) | decide) only [XWalk, XSl, ↓XPre, reduceIte, Nat.reduceEqDiff, Nat.reduceLT, Nat.reduceAdd, Nat.reduceSub, Nat.reduceMul, Nat.reduceBEq, reduceCtorEq, Int.reduceAdd, Int.reduceSub, Int.reduceMul, Int.reduceLT, Int.reduceLE, Int.reduceGT, Int.reduceGE, Int.reduceEq, Int.reduceNe, Int.reduceBEq, Int.reduceBNe, Int.reduceTMod, Int.reduceTDiv, ↓if_true, ↓if_false, F75, A75, he, q84]
  refine x_if (fun ht => ?_) (fun ht => ?_)
  · have hk : r < 10 := by simp at ht; omega
    have ls := sigma_ok hk
    have e6' : IntKind.wrap .i64 ((r : Int) + 1) = ((r + 1 : Nat) : Int) := by rw [wrap_i64 (by omega) (by omega)]; omega
    generalize hs : sigma.getD r [] = s at ls
    have hbq : Nat.beq (natCells s).length 16 = true := by rw [natCells_len, ls.1]; rfl
    have hone : (natCells s).all oneCell = true := by
      rw [List.all_eq_true]
      intro x hx
      simp only [natCells, List.mem_map] at hx
      obtain ⟨b, _, rfl⟩ := hx
      rfl
    simp (maxSteps := 2000000) (disch := first | assumption | omega | (simp only [nx_push, nx_set, ne_eq] <;> omega) | (simp only [XSide, F75]; done) | decide) only [XWalk, XSl, ↓XPre, reduceIte, Nat.reduceEqDiff, Nat.reduceLT, Nat.reduceAdd, Nat.reduceSub, Nat.reduceMul, Nat.reduceBEq, reduceCtorEq, Int.reduceAdd, Int.reduceSub, Int.reduceMul, Int.reduceLT, Int.reduceLE, Int.reduceGT, Int.reduceGE, Int.reduceEq, Int.reduceNe, Int.reduceBEq, Int.reduceBNe, Int.reduceTMod, Int.reduceTDiv, ↓if_true, ↓if_false, F75, A75, he, q84, q83, aidx_rows hk, hs, hbq]
    rw [storeRow_all (vs := natCells s) rfl hone (by rw [natCells_len, ls.1]; rfl)]
    simp (maxSteps := 2000000) (disch := first | assumption | omega | (simp only [nx_push, nx_set, ne_eq] <;> omega) | (simp only [XSide, F75]; done) | decide) only [XWalk, XSl, ↓XPre, reduceIte, Nat.reduceEqDiff, Nat.reduceLT, Nat.reduceAdd, Nat.reduceSub, Nat.reduceMul, Nat.reduceBEq, reduceCtorEq, Int.reduceAdd, Int.reduceSub, Int.reduceMul, Int.reduceLT, Int.reduceLE, Int.reduceGT, Int.reduceGE, Int.reduceEq, Int.reduceNe, Int.reduceBEq, Int.reduceBNe, Int.reduceTMod, Int.reduceTDiv, ↓if_true, ↓if_false, F75, A75, he, q84, q83]
    have hmlt1 : mb < m1.next := by omega
    have hvlt1 : vb < m1.next := by omega
    refine half1 (s := s) (M := M) (V := (sigma.take r).foldl (roundW M) V) (mb := mb) (vb := vb) (tb := m1.next) (r := r) (hv := hv) (t83 := .agg sigmaCells.toArray) (hw1.push.set (by simp)) (by simp (maxSteps := 2000000) (disch := first | assumption | omega | (simp only [nx_push, nx_set, ne_eq] <;> omega) | (simp only [XSide]; done) | decide) only [XWalk, XSl, ↓XPre, reduceIte, Nat.reduceEqDiff, Nat.reduceLT, Nat.reduceAdd, Nat.reduceSub, Nat.reduceMul, Nat.reduceBEq, reduceCtorEq, Int.reduceAdd, Int.reduceSub, Int.reduceMul, Int.reduceLT, Int.reduceLE, Int.reduceGT, Int.reduceGE, Int.reduceEq, Int.reduceNe, Int.reduceBEq, Int.reduceBNe, Int.reduceTMod, Int.reduceTDiv, ↓if_true, ↓if_false, hf1 mb hmlt nmv, hm]) lM (by simp (maxSteps := 2000000) (disch := first | assumption | omega | (simp only [nx_push, nx_set, ne_eq] <;> omega) | (simp only [XSide]; done) | decide) only [XWalk, XSl, ↓XPre, reduceIte, Nat.reduceEqDiff, Nat.reduceLT, Nat.reduceAdd, Nat.reduceSub, Nat.reduceMul, Nat.reduceBEq, reduceCtorEq, Int.reduceAdd, Int.reduceSub, Int.reduceMul, Int.reduceLT, Int.reduceLE, Int.reduceGT, Int.reduceGE, Int.reduceEq, Int.reduceNe, Int.reduceBEq, Int.reduceBNe, Int.reduceTMod, Int.reduceTDiv, ↓if_true, ↓if_false, hv1]) (by rw [foldl_length (fun _ _ => roundW_length)]; exact lV) (by simp (maxSteps := 2000000) (disch := first | assumption | omega | (simp only [nx_push, nx_set, ne_eq] <;> omega) | (simp only [XSide]; done) | decide) only [XWalk, XSl, ↓XPre, reduceIte, Nat.reduceEqDiff, Nat.reduceLT, Nat.reduceAdd, Nat.reduceSub, Nat.reduceMul, Nat.reduceBEq, reduceCtorEq, Int.reduceAdd, Int.reduceSub, Int.reduceMul, Int.reduceLT, Int.reduceLE, Int.reduceGT, Int.reduceGE, Int.reduceEq, Int.reduceNe, Int.reduceBEq, Int.reduceBNe, Int.reduceTMod, Int.reduceTDiv, ↓if_true, ↓if_false]) ls.1 ls.2 nmv (by omega) hbv (by simp only [Rnd]; simp (maxSteps := 2000000) (disch := first | assumption | omega | (simp only [nx_push, nx_set, ne_eq] <;> omega) | (simp only [XSide]; done) | decide) only [XWalk, XSl, ↓XPre, reduceIte, Nat.reduceEqDiff, Nat.reduceLT, Nat.reduceAdd, Nat.reduceSub, Nat.reduceMul, Nat.reduceBEq, reduceCtorEq, Int.reduceAdd, Int.reduceSub, Int.reduceMul, Int.reduceLT, Int.reduceLE, Int.reduceGT, Int.reduceGE, Int.reduceEq, Int.reduceNe, Int.reduceBEq, Int.reduceBNe, Int.reduceTMod, Int.reduceTDiv, ↓if_true, ↓if_false, he, q0, q8, q11, q83, q84]) (by simp (maxSteps := 2000000) (disch := first | assumption | omega | (simp only [nx_push, nx_set, ne_eq] <;> omega) | (simp only [XSide]; done) | decide) only [XWalk, XSl, ↓XPre, reduceIte, Nat.reduceEqDiff, Nat.reduceLT, Nat.reduceAdd, Nat.reduceSub, Nat.reduceMul, Nat.reduceBEq, reduceCtorEq, Int.reduceAdd, Int.reduceSub, Int.reduceMul, Int.reduceLT, Int.reduceLE, Int.reduceGT, Int.reduceGE, Int.reduceEq, Int.reduceNe, Int.reduceBEq, Int.reduceBNe, Int.reduceTMod, Int.reduceTDiv, ↓if_true, ↓if_false]; rfl) ?_
    intro e2 m2 hw2 hn2 hf2 hv2 hr2
    obtain ⟨he2, p0, p8, p11, p14, p83, p84⟩ := hr2
    simp (maxSteps := 2000000) (disch := first | assumption | omega | (simp only [nx_push, nx_set, ne_eq] <;> omega) | (simp only [XSide]; done) | decide) only [XWalk, XSl, ↓XPre, reduceIte, Nat.reduceEqDiff, Nat.reduceLT, Nat.reduceAdd, Nat.reduceSub, Nat.reduceMul, Nat.reduceBEq, reduceCtorEq, Int.reduceAdd, Int.reduceSub, Int.reduceMul, Int.reduceLT, Int.reduceLE, Int.reduceGT, Int.reduceGE, Int.reduceEq, Int.reduceNe, Int.reduceBEq, Int.reduceBNe, Int.reduceTMod, Int.reduceTDiv, ↓if_true, ↓if_false, he2]
    simp only [Mem.next_set, Mem.next_push] at hn2
    refine half2 (s := s) (M := M) (V := (sigma.take r).foldl (roundW M) V) (mb := mb) (vb := vb) (tb := m1.next) (r := r) (hv := hv) (t83 := .agg sigmaCells.toArray) hw2 (by rw [hf2 mb nmv]; simp (maxSteps := 2000000) (disch := first | assumption | omega | (simp only [nx_push, nx_set, ne_eq] <;> omega) | (simp only [XSide]; done) | decide) only [XWalk, XSl, ↓XPre, reduceIte, Nat.reduceEqDiff, Nat.reduceLT, Nat.reduceAdd, Nat.reduceSub, Nat.reduceMul, Nat.reduceBEq, reduceCtorEq, Int.reduceAdd, Int.reduceSub, Int.reduceMul, Int.reduceLT, Int.reduceLE, Int.reduceGT, Int.reduceGE, Int.reduceEq, Int.reduceNe, Int.reduceBEq, Int.reduceBNe, Int.reduceTMod, Int.reduceTDiv, ↓if_true, ↓if_false, hf1 mb hmlt nmv, hm]) lM hv2 (by rw [foldl_length (fun _ _ => roundW_length)]; exact lV) (by rw [hf2 m1.next (by omega)]; simp (maxSteps := 2000000) (disch := first | assumption | omega | (simp only [nx_push, nx_set, ne_eq] <;> omega) | (simp only [XSide]; done) | decide) only [XWalk, XSl, ↓XPre, reduceIte, Nat.reduceEqDiff, Nat.reduceLT, Nat.reduceAdd, Nat.reduceSub, Nat.reduceMul, Nat.reduceBEq, reduceCtorEq, Int.reduceAdd, Int.reduceSub, Int.reduceMul, Int.reduceLT, Int.reduceLE, Int.reduceGT, Int.reduceGE, Int.reduceEq, Int.reduceNe, Int.reduceBEq, Int.reduceBNe, Int.reduceTMod, Int.reduceTDiv, ↓if_true, ↓if_false]) ls.1 ls.2 nmv (by omega) hbv (by simp only [Rnd]; simp (maxSteps := 2000000) (disch := first | assumption | omega | (simp only [nx_push, nx_set, ne_eq] <;> omega) | (simp only [XSide]; done) | decide) only [XWalk, XSl, ↓XPre, reduceIte, Nat.reduceEqDiff, Nat.reduceLT, Nat.reduceAdd, Nat.reduceSub, Nat.reduceMul, Nat.reduceBEq, reduceCtorEq, Int.reduceAdd, Int.reduceSub, Int.reduceMul, Int.reduceLT, Int.reduceLE, Int.reduceGT, Int.reduceGE, Int.reduceEq, Int.reduceNe, Int.reduceBEq, Int.reduceBNe, Int.reduceTMod, Int.reduceTDiv, ↓if_true, ↓if_false, he2, p0, p8, p11, p14, p83, p84]) (by simp (maxSteps := 2000000) (disch := first | assumption | omega | (simp only [nx_push, nx_set, ne_eq] <;> omega) | (simp only [XSide]; done) | decide) only [XWalk, XSl, ↓XPre, reduceIte, Nat.reduceEqDiff, Nat.reduceLT, Nat.reduceAdd, Nat.reduceSub, Nat.reduceMul, Nat.reduceBEq, reduceCtorEq, Int.reduceAdd, Int.reduceSub, Int.reduceMul, Int.reduceLT, Int.reduceLE, Int.reduceGT, Int.reduceGE, Int.reduceEq, Int.reduceNe, Int.reduceBEq, Int.reduceBNe, Int.reduceTMod, Int.reduceTDiv, ↓if_true, ↓if_false]; rfl) ?_
    intro e3 m3 hw3 hn3 hf3 hv3 hr3
    obtain ⟨he3, r0, r8, r11, r14, r83, r84⟩ := hr3
    simp (maxSteps := 2000000) (disch := first | assumption | omega | (simp only [nx_push, nx_set, ne_eq] <;> omega) | (simp only [XSide]; done) | decide) only [XWalk, XSl, ↓XPre, reduceIte, Nat.reduceEqDiff, Nat.reduceLT, Nat.reduceAdd, Nat.reduceSub, Nat.reduceMul, Nat.reduceBEq, reduceCtorEq, Int.reduceAdd, Int.reduceSub, Int.reduceMul, Int.reduceLT, Int.reduceLE, Int.reduceGT, Int.reduceGE, Int.reduceEq, Int.reduceNe, Int.reduceBEq, Int.reduceBNe, Int.reduceTMod, Int.reduceTDiv, ↓if_true, ↓if_false, he3, r84, e6', r0, r8, r11, r83]
    refine ⟨k - 1, by omega, r + 1, by omega, rfl, hw3, by omega, fun b hb hne => ?_, ?_⟩
    · rw [hf3 b hne, hf2 b hne, Mem.get_set, if_neg (by omega), Mem.get_push, if_neg (by omega)]
      exact hf1 b hb hne
    · have hlt : r < sigma.length := hk
      have h1 : s = sigma[r] := by rw [← hs, List.getD_eq_getElem?_getD, List.getElem?_eq_getElem hlt]; exact Option.getD_some
      have key : (sigma.take (r + 1)).foldl (roundW M) V = roundW M ((sigma.take r).foldl (roundW M) V) s := by
        rw [List.take_succ_eq_append_getElem hlt, List.foldl_append, h1, List.foldl_cons, List.foldl_nil]
      rw [key]
      exact hv3
  · have hk : r = 10 := by simp at ht; omega
    subst hk
    simp (maxSteps := 2000000) (disch := first | assumption | omega | (simp only [nx_push, nx_set, ne_eq] <;> omega) | (simp only [XSide]; done) | decide) only [XWalk, XSl, ↓XPre, reduceIte, Nat.reduceEqDiff, Nat.reduceLT, Nat.reduceAdd, Nat.reduceSub, Nat.reduceMul, Nat.reduceBEq, reduceCtorEq, Int.reduceAdd, Int.reduceSub, Int.reduceMul, Int.reduceLT, Int.reduceLE, Int.reduceGT, Int.reduceGE, Int.reduceEq, Int.reduceNe, Int.reduceBEq, Int.reduceBNe, Int.reduceTMod, Int.reduceTDiv, ↓if_true, ↓if_false]
    refine hQ _ _ hw1 hn1 hf1 hv1 ?_ ?_ ?_ <;> simp (maxSteps := 2000000) (disch := first | assumption | omega | (simp only [nx_push, nx_set, ne_eq] <;> omega) | (simp only [XSide]; done) | decide) only [XWalk, XSl, ↓XPre, reduceIte, Nat.reduceEqDiff, Nat.reduceLT, Nat.reduceAdd, Nat.reduceSub, Nat.reduceMul, Nat.reduceBEq, reduceCtorEq, Int.reduceAdd, Int.reduceSub, Int.reduceMul, Int.reduceLT, Int.reduceLE, Int.reduceGT, Int.reduceGE, Int.reduceEq, Int.reduceNe, Int.reduceBEq, Int.reduceBNe, Int.reduceTMod, Int.reduceTDiv, ↓if_true, ↓if_false, he, q0, q11]

end Go.Big

/- The compression function of the hash, the program's: the whole. -/
set_option linter.unusedSimpArgs false
set_option linter.unusedVariables false
set_option maxRecDepth 100000
set_option maxHeartbeats 2000000
namespace Go.Big
open Go.Proofs

theorem words_x {m : Mem} (hw : WF m) {base hb : Nat} {hv lastv : Value} {bb bo bc mb : Nat} {bs : List Value} {l : List UInt8} (hbk : m.get bb = some (.row bs .rw)) (hB : (bs.drop bo).take 64 = u8s l) (lB : l.length = 64) (hc : 64 ≤ bc) {t : Nat} (hne : bb ≠ mb)
    (hmb : base ≤ mb) (hm : m.get mb = some (.row (fillV 16 (fun j => w32 (blkWord l j)) (fun _ => w32 0) 0) .rw)) {e : Env} (he : e.n = 173) (q0 : e.get 0 = hv) (q1 : e.get 1 = .slice (some ⟨bb, bo, none⟩) 64 bc)
    (q2 : e.get 2 = .int .u64 (t : Int)) (q3 : e.get 3 = lastv) (q8 : e.get 8 = .pointer (some ⟨mb, 0, none⟩)) (q18 : e.get 18 = .int .i64 ((0 : Nat) : Int)) {Q : Ex → Env → Mem → Prop}
    (hQ : ∀ e' m', WF m' → m'.next = m.next → (∀ b, b ≠ mb → m'.get b = m.get b) → m'.get mb = some (.row (w32s (blkWords l)) .rw) → e'.n = 173 → e'.get 0 = hv → e'.get 2 = .int .u64 (t : Int) → e'.get 3 = lastv →
      e'.get 8 = .pointer (some ⟨mb, 0, none⟩) → Q (.exit 0) e' m') : WX Tryd.prog S0 base [hb] (sub (bodyOf Tryd.f75) [true, false, true, true]) e m Q := by
  have hmn : mb < m.next := hw.lt (by rw [hm]; simp)
  refine x_loop (fun k e m1 => ∃ i, i + k = 16 ∧ e.n = 173 ∧ e.get 0 = hv ∧ e.get 1 = .slice (some ⟨bb, bo, none⟩) 64 bc ∧ e.get 2 = .int .u64 (t : Int) ∧ e.get 3 = lastv ∧ e.get 8 = .pointer (some ⟨mb, 0, none⟩) ∧ e.get 18 = .int .i64 ((i : Nat) : Int) ∧
    WF m1 ∧ m1.next = m.next ∧ (∀ b, b ≠ mb → m1.get b = m.get b) ∧ m1.get mb = some (.row (fillV 16 (fun j => w32 (blkWord l j)) (fun _ => w32 0) i) .rw)) 16 ⟨0, by omega, he, q0, q1, q2, q3, q8, q18, hw, rfl, fun _ _ => rfl, hm⟩ ?_
  rintro k e1 m1 ⟨i, hi, he, q0, q1, q2, q3, q8, q18, hw1, hn1, hf1, hm1⟩
  simp (maxSteps := 2000000) (disch := first | assumption | omega | (simp only [nx_push, nx_set, ne_eq] <;> omega) | (simp only [XSide, F75]; done) | decide) only [XWalk, XSl, ↓XPre, reduceIte, Nat.reduceEqDiff, Nat.reduceLT, Nat.reduceAdd, Nat.reduceSub, Nat.reduceMul, Nat.reduceBEq, reduceCtorEq, Int.reduceAdd, Int.reduceSub, Int.reduceMul, Int.reduceLT, Int.reduceLE, Int.reduceGT, Int.reduceGE, Int.reduceEq, Int.reduceNe, Int.reduceBEq, Int.reduceBNe, Int.reduceTMod, Int.reduceTDiv, ↓if_true, ↓if_false, F75, A75, he, q18]
  refine x_if (fun ht => ?_) (fun ht => ?_)
  · have hk : i < 16 := by simp at ht; omega
    have hbb : m1.get bb = some (.row bs .rw) := by rw [hf1 bb hne]; exact hbk
    have e1' : IntKind.wrap .i64 (4 * (i : Int)) = ((4 * i : Nat) : Int) := by rw [wrap_i64 (by omega) (by omega)]; omega
    have e2' : IntKind.wrap .i64 (((4 * i : Nat) : Int) + 4) = ((4 * i + 4 : Nat) : Int) := by rw [wrap_i64 (by omega) (by omega)]; omega
    have e3' : IntKind.wrap .i64 ((i : Int) + 1) = ((i + 1 : Nat) : Int) := by rw [wrap_i64 (by omega) (by omega)]; omega
    simp (maxSteps := 2000000) (disch := first | assumption | omega | (simp only [nx_push, nx_set, ne_eq] <;> omega) | (simp only [XSide, F75]; done) | decide) only [XWalk, XSl, ↓XPre, reduceIte, Nat.reduceEqDiff, Nat.reduceLT, Nat.reduceAdd, Nat.reduceSub, Nat.reduceMul, Nat.reduceBEq, reduceCtorEq, Int.reduceAdd, Int.reduceSub, Int.reduceMul, Int.reduceLT, Int.reduceLE, Int.reduceGT, Int.reduceGE, Int.reduceEq, Int.reduceNe, Int.reduceBEq, Int.reduceBNe, Int.reduceTMod, Int.reduceTDiv, ↓if_true, ↓if_false, F75, A75, he, q18, q1, e1', e2', aslice_max hbb (show idxSl Tryd.prog 22 = some 1 by simp only [F75]) (show 4 * i ≤ 4 * i + 4 by omega) (Nat.le_refl (4 * i + 4)) (show 4 * i + 4 ≤ bc by omega) (by omega)]
    refine x_draw [0, 0, 2, 6, 14, 0, 32, 96, 224, 480, 1022, 0, 2048, 6144, 14336, 30720, 65534, 0, 131072, 393216, 917504, 1966080, 4194302, 8388607, 16777215] (by kernel_rfl) ?_
    have hx0 : bs[bo + 4 * i]? = some (.int .u8 ((l.getD (4 * i) 0).toNat : Int)) := u8_at hB (by omega)
    have hx1 : bs[bo + 4 * i + 1]? = some (.int .u8 ((l.getD (4 * i + 1) 0).toNat : Int)) := by rw [Nat.add_assoc]; exact u8_at hB (by omega)
    have hx2 : bs[bo + 4 * i + 2]? = some (.int .u8 ((l.getD (4 * i + 2) 0).toNat : Int)) := by rw [Nat.add_assoc]; exact u8_at hB (by omega)
    have hx3 : bs[bo + 4 * i + 3]? = some (.int .u8 ((l.getD (4 * i + 3) 0).toNat : Int)) := by rw [Nat.add_assoc]; exact u8_at hB (by omega)
    simp (maxSteps := 2000000) (disch := first | assumption | omega | (simp only [nx_push, nx_set, ne_eq] <;> omega) | (simp only [XSide, F75]; done) | decide) only [XWalk, XSl, ↓XPre, reduceIte, Nat.reduceEqDiff, Nat.reduceLT, Nat.reduceAdd, Nat.reduceSub, Nat.reduceMul, Nat.reduceBEq, reduceCtorEq, Int.reduceAdd, Int.reduceSub, Int.reduceMul, Int.reduceLT, Int.reduceLE, Int.reduceGT, Int.reduceGE, Int.reduceEq, Int.reduceNe, Int.reduceBEq, Int.reduceBNe, Int.reduceTMod, Int.reduceTDiv, ↓if_true, ↓if_false, F75, A75, he, q18, q1, q8, hbb, Nat.add_sub_cancel_left, hx0, hx1, hx2, hx3, u8_u32, shl8, shl16, shl24, orI_32, hm1, fillV_length, hk, e3', q0, q2, q3]
    refine ⟨k - 1, by omega, i + 1, by omega, rfl, WF.set hw1 (by omega), hn1, fun b hb => ?_, ?_⟩
    · rw [Mem.get_set, if_neg hb]; exact hf1 b hb
    · have := fillV_set (n := 16) (f := fun j => w32 (blkWord l j)) (g := fun _ => w32 0) (i := i)
      rw [← this]
      rfl
  · have hk : i = 16 := by simp at ht; omega
    subst hk
    simp (maxSteps := 2000000) (disch := first | assumption | omega | (simp only [nx_push, nx_set, ne_eq] <;> omega) | (simp only [XSide]; done) | decide) only [XWalk, XSl, ↓XPre, reduceIte, Nat.reduceEqDiff, Nat.reduceLT, Nat.reduceAdd, Nat.reduceSub, Nat.reduceMul, Nat.reduceBEq, reduceCtorEq, Int.reduceAdd, Int.reduceSub, Int.reduceMul, Int.reduceLT, Int.reduceLE, Int.reduceGT, Int.reduceGE, Int.reduceEq, Int.reduceNe, Int.reduceBEq, Int.reduceBNe, Int.reduceTMod, Int.reduceTDiv, ↓if_true, ↓if_false]
    refine hQ _ _ hw1 hn1 hf1 (by rw [hm1]; rfl) ?_ ?_ ?_ ?_ ?_ <;> simp (maxSteps := 2000000) (disch := first | assumption | omega | (simp only [nx_push, nx_set, ne_eq] <;> omega) | (simp only [XSide]; done) | decide) only [XWalk, XSl, ↓XPre, reduceIte, Nat.reduceEqDiff, Nat.reduceLT, Nat.reduceAdd, Nat.reduceSub, Nat.reduceMul, Nat.reduceBEq, reduceCtorEq, Int.reduceAdd, Int.reduceSub, Int.reduceMul, Int.reduceLT, Int.reduceLE, Int.reduceGT, Int.reduceGE, Int.reduceEq, Int.reduceNe, Int.reduceBEq, Int.reduceBNe, Int.reduceTMod, Int.reduceTDiv, ↓if_true, ↓if_false, he, q0, q1, q2, q3, q8]

theorem mod32_of {t : Nat} : ((t : Int) % 4294967296) = ((UInt32.ofNat t).toNat : Int) := by
  rw [UInt32.toNat_ofNat']; omega
theorem not_32 {P : Program} {m : Mem} (x : UInt32) : aun (P := P) .xor (w32 x) m = some (w32 (x ^^^ 0xffffffff), m, [], .no) := by
  rw [aun_xor]
  have h : IntKind.wrap .u32 (BitVec.ofInt IntKind.u32.bits (if IntKind.u32.signed then -1 else IntKind.u32.max) ^^^ BitVec.ofInt IntKind.u32.bits (x.toNat : Int)).toNat = ((x ^^^ 0xffffffff).toNat : Int) := by
    have := xorI_32 0xffffffff x
    rw [UInt32.xor_comm] at this
    exact this
  rw [h]
theorem shr32_of {t : Nat} : shrK .u64 (t : Int) 32 = ((t / 4294967296 : Nat) : Int) := shrK_nat (k := .u64) (a := t) (n := 32) (by decide)

theorem compress_ct {m : Mem} (hw : WF m) {hb ho bb bo bc : Nat} {hs bs : List Value} {H : List UInt32} {l : List UInt8} (hh : m.get hb = some (.row hs .rw)) (hH : (hs.drop ho).take 8 = w32s H) (lH : H.length = 8) (lo : ho + 8 ≤ hs.length)
    (hbk : m.get bb = some (.row bs .rw)) (hB : (bs.drop bo).take 64 = u8s l) (lB : l.length = 64) (hc : 64 ≤ bc) {t : Nat} (ht : t < 18446744073709551616) {last : Bool} :
    Ct Tryd.prog S0 75 [.pointer (some ⟨hb, ho, none⟩), .slice (some ⟨bb, bo, none⟩) 64 bc, .int .u64 (t : Int), .bool last] m [hb]
      (fun out m' => out = .ret (.tuple #[]) ∧ m'.get hb = some (.row (win hs ho (w32s (compressW H l t last))) .rw)) := by
  have hblt : hb < m.next := hw.lt (by rw [hh]; simp)
  have bblt : bb < m.next := hw.lt (by rw [hbk]; simp)
  refine ct_x (spec0 _) (by rfl) Tryd.func75 rfl ?_
  simp (maxSteps := 2000000) (disch := first | assumption | omega | (simp only [nx_push, nx_set, ne_eq] <;> omega) | (simp only [XSide, F75]; done) | decide) only [XWalk, XSl, ↓XPre, reduceIte, Nat.reduceEqDiff, Nat.reduceLT, Nat.reduceAdd, Nat.reduceSub, Nat.reduceMul, Nat.reduceBEq, reduceCtorEq, Int.reduceAdd, Int.reduceSub, Int.reduceMul, Int.reduceLT, Int.reduceLE, Int.reduceGT, Int.reduceGE, Int.reduceEq, Int.reduceNe, Int.reduceBEq, Int.reduceBNe, Int.reduceTMod, Int.reduceTDiv, ↓if_true, ↓if_false, F75, A75, Tryd.ntmps75]
  refine words_x (hb := hb) (hv := .pointer (some ⟨hb, ho, none⟩)) (lastv := .bool last) (bb := bb) (bo := bo) (bc := bc) (mb := m.next) (l := l) (t := t) hw.push (by simp (maxSteps := 2000000) (disch := first | assumption | omega | (simp only [nx_push, nx_set, ne_eq] <;> omega) | (simp only [XSide]; done) | decide) only [XWalk, XSl, ↓XPre, reduceIte, Nat.reduceEqDiff, Nat.reduceLT, Nat.reduceAdd, Nat.reduceSub, Nat.reduceMul, Nat.reduceBEq, reduceCtorEq, Int.reduceAdd, Int.reduceSub, Int.reduceMul, Int.reduceLT, Int.reduceLE, Int.reduceGT, Int.reduceGE, Int.reduceEq, Int.reduceNe, Int.reduceBEq, Int.reduceBNe, Int.reduceTMod, Int.reduceTDiv, ↓if_true, ↓if_false, hbk]) hB lB hc (by omega) (Nat.le_refl _) (by simp (maxSteps := 2000000) (disch := first | assumption | omega | (simp only [nx_push, nx_set, ne_eq] <;> omega) | (simp only [XSide]; done) | decide) only [XWalk, XSl, ↓XPre, reduceIte, Nat.reduceEqDiff, Nat.reduceLT, Nat.reduceAdd, Nat.reduceSub, Nat.reduceMul, Nat.reduceBEq, reduceCtorEq, Int.reduceAdd, Int.reduceSub, Int.reduceMul, Int.reduceLT, Int.reduceLE, Int.reduceGT, Int.reduceGE, Int.reduceEq, Int.reduceNe, Int.reduceBEq, Int.reduceBNe, Int.reduceTMod, Int.reduceTDiv, ↓if_true, ↓if_false]; rfl) (by simp (maxSteps := 2000000) (disch := first | assumption | omega | (simp only [nx_push, nx_set, ne_eq] <;> omega) | (simp only [XSide]; done) | decide) only [XWalk, XSl, ↓XPre, reduceIte, Nat.reduceEqDiff, Nat.reduceLT, Nat.reduceAdd, Nat.reduceSub, Nat.reduceMul, Nat.reduceBEq, reduceCtorEq, Int.reduceAdd, Int.reduceSub, Int.reduceMul, Int.reduceLT, Int.reduceLE, Int.reduceGT, Int.reduceGE, Int.reduceEq, Int.reduceNe, Int.reduceBEq, Int.reduceBNe, Int.reduceTMod, Int.reduceTDiv, ↓if_true, ↓if_false]) (by simp (maxSteps := 2000000) (disch := first | assumption | omega | (simp only [nx_push, nx_set, ne_eq] <;> omega) | (simp only [XSide]; done) | decide) only [XWalk, XSl, ↓XPre, reduceIte, Nat.reduceEqDiff, Nat.reduceLT, Nat.reduceAdd, Nat.reduceSub, Nat.reduceMul, Nat.reduceBEq, reduceCtorEq, Int.reduceAdd, Int.reduceSub, Int.reduceMul, Int.reduceLT, Int.reduceLE, Int.reduceGT, Int.reduceGE, Int.reduceEq, Int.reduceNe, Int.reduceBEq, Int.reduceBNe, Int.reduceTMod, Int.reduceTDiv, ↓if_true, ↓if_false]) (by simp (maxSteps := 2000000) (disch := first | assumption | omega | (simp only [nx_push, nx_set, ne_eq] <;> omega) | (simp only [XSide]; done) | decide) only [XWalk, XSl, ↓XPre, reduceIte, Nat.reduceEqDiff, Nat.reduceLT, Nat.reduceAdd, Nat.reduceSub, Nat.reduceMul, Nat.reduceBEq, reduceCtorEq, Int.reduceAdd, Int.reduceSub, Int.reduceMul, Int.reduceLT, Int.reduceLE, Int.reduceGT, Int.reduceGE, Int.reduceEq, Int.reduceNe, Int.reduceBEq, Int.reduceBNe, Int.reduceTMod, Int.reduceTDiv, ↓if_true, ↓if_false]) (by simp (maxSteps := 2000000) (disch := first | assumption | omega | (simp only [nx_push, nx_set, ne_eq] <;> omega) | (simp only [XSide]; done) | decide) only [XWalk, XSl, ↓XPre, reduceIte, Nat.reduceEqDiff, Nat.reduceLT, Nat.reduceAdd, Nat.reduceSub, Nat.reduceMul, Nat.reduceBEq, reduceCtorEq, Int.reduceAdd, Int.reduceSub, Int.reduceMul, Int.reduceLT, Int.reduceLE, Int.reduceGT, Int.reduceGE, Int.reduceEq, Int.reduceNe, Int.reduceBEq, Int.reduceBNe, Int.reduceTMod, Int.reduceTDiv, ↓if_true, ↓if_false]) (by simp (maxSteps := 2000000) (disch := first | assumption | omega | (simp only [nx_push, nx_set, ne_eq] <;> omega) | (simp only [XSide]; done) | decide) only [XWalk, XSl, ↓XPre, reduceIte, Nat.reduceEqDiff, Nat.reduceLT, Nat.reduceAdd, Nat.reduceSub, Nat.reduceMul, Nat.reduceBEq, reduceCtorEq, Int.reduceAdd, Int.reduceSub, Int.reduceMul, Int.reduceLT, Int.reduceLE, Int.reduceGT, Int.reduceGE, Int.reduceEq, Int.reduceNe, Int.reduceBEq, Int.reduceBNe, Int.reduceTMod, Int.reduceTDiv, ↓if_true, ↓if_false]) (by simp (maxSteps := 2000000) (disch := first | assumption | omega | (simp only [nx_push, nx_set, ne_eq] <;> omega) | (simp only [XSide]; done) | decide) only [XWalk, XSl, ↓XPre, reduceIte, Nat.reduceEqDiff, Nat.reduceLT, Nat.reduceAdd, Nat.reduceSub, Nat.reduceMul, Nat.reduceBEq, reduceCtorEq, Int.reduceAdd, Int.reduceSub, Int.reduceMul, Int.reduceLT, Int.reduceLE, Int.reduceGT, Int.reduceGE, Int.reduceEq, Int.reduceNe, Int.reduceBEq, Int.reduceBNe, Int.reduceTMod, Int.reduceTDiv, ↓if_true, ↓if_false]) (by simp (maxSteps := 2000000) (disch := first | assumption | omega | (simp only [nx_push, nx_set, ne_eq] <;> omega) | (simp only [XSide]; done) | decide) only [XWalk, XSl, ↓XPre, reduceIte, Nat.reduceEqDiff, Nat.reduceLT, Nat.reduceAdd, Nat.reduceSub, Nat.reduceMul, Nat.reduceBEq, reduceCtorEq, Int.reduceAdd, Int.reduceSub, Int.reduceMul, Int.reduceLT, Int.reduceLE, Int.reduceGT, Int.reduceGE, Int.reduceEq, Int.reduceNe, Int.reduceBEq, Int.reduceBNe, Int.reduceTMod, Int.reduceTDiv, ↓if_true, ↓if_false]; rfl) ?_
  intro e1 m1 hw1 hn1 hf1 hm1 he q0 q2 q3 q8
  simp only [Mem.next_push] at hn1
  simp (maxSteps := 2000000) (disch := first | assumption | omega | (simp only [nx_push, nx_set, ne_eq] <;> omega) | (simp only [XSide, F75]; done) | decide) only [XWalk, XSl, ↓XPre, reduceIte, Nat.reduceEqDiff, Nat.reduceLT, Nat.reduceAdd, Nat.reduceSub, Nat.reduceMul, Nat.reduceBEq, reduceCtorEq, Int.reduceAdd, Int.reduceSub, Int.reduceMul, Int.reduceLT, Int.reduceLE, Int.reduceGT, Int.reduceGE, Int.reduceEq, Int.reduceNe, Int.reduceBEq, Int.reduceBNe, Int.reduceTMod, Int.reduceTDiv, ↓if_true, ↓if_false, F75, A75, he]
  refine wcall_x specLoc start_ct hw1.push ?_
  rintro out m2 hw2 hn2 f2 rfl
  simp only [Mem.next_push] at hn2 f2
  have hv2 : m2.get m1.next = some (.row (w32s (List.replicate 16 0)) .rw) := by rw [f2 _ (by omega), get_push_self]; rfl
  have hm2 : m2.get m.next = some (.row (w32s (blkWords l)) .rw) := by rw [f2 _ (by omega), get_push_ne (by omega)]; exact hm1
  have g2 : ∀ b, b < m.next → m2.get b = m.get b := fun b hb => by rw [f2 b (by omega), get_push_ne (by omega), hf1 b (by omega), get_push_ne (by omega)]
  have e8 : Nat.beq (w32s ivW).length 8 = true := rfl
  simp (maxSteps := 2000000) (disch := first | assumption | omega | (simp only [nx_push, nx_set, ne_eq] <;> omega) | (simp only [XSide, F75]; done) | decide) only [XWalk, XSl, ↓XPre, reduceIte, Nat.reduceEqDiff, Nat.reduceLT, Nat.reduceAdd, Nat.reduceSub, Nat.reduceMul, Nat.reduceBEq, reduceCtorEq, Int.reduceAdd, Int.reduceSub, Int.reduceMul, Int.reduceLT, Int.reduceLE, Int.reduceGT, Int.reduceGE, Int.reduceEq, Int.reduceNe, Int.reduceBEq, Int.reduceBNe, Int.reduceTMod, Int.reduceTDiv, ↓if_true, ↓if_false, F75, A75, he, e8]
  refine x_keep2 (fun e m3 => e.n = 173 ∧ e.get 0 = .pointer (some ⟨hb, ho, none⟩) ∧ e.get 2 = .int .u64 (t : Int) ∧ e.get 3 = .bool last ∧ e.get 8 = .pointer (some ⟨m.next, 0, none⟩) ∧ e.get 11 = .pointer (some ⟨m1.next, 0, none⟩) ∧ e.get 12 = .pointer (some ⟨m2.next, 0, none⟩) ∧
    WF m3 ∧ m3.next = m2.next + 1 ∧ (∀ b, b < m.next → m3.get b = m.get b) ∧ m3.get m1.next = some (.row (w32s (List.replicate 16 0)) .rw) ∧ m3.get m2.next = some (.row (w32s ivW) .rw) ∧ m3.get m.next = some (.row (w32s (blkWords l)) .rw))
    ⟨by simp (maxSteps := 2000000) (disch := first | assumption | omega | (simp only [nx_push, nx_set, ne_eq] <;> omega) | (simp only [XSide]; done) | decide) only [XWalk, XSl, ↓XPre, reduceIte, Nat.reduceEqDiff, Nat.reduceLT, Nat.reduceAdd, Nat.reduceSub, Nat.reduceMul, Nat.reduceBEq, reduceCtorEq, Int.reduceAdd, Int.reduceSub, Int.reduceMul, Int.reduceLT, Int.reduceLE, Int.reduceGT, Int.reduceGE, Int.reduceEq, Int.reduceNe, Int.reduceBEq, Int.reduceBNe, Int.reduceTMod, Int.reduceTDiv, ↓if_true, ↓if_false, he], by simp (maxSteps := 2000000) (disch := first | assumption | omega | (simp only [nx_push, nx_set, ne_eq] <;> omega) | (simp only [XSide]; done) | decide) only [XWalk, XSl, ↓XPre, reduceIte, Nat.reduceEqDiff, Nat.reduceLT, Nat.reduceAdd, Nat.reduceSub, Nat.reduceMul, Nat.reduceBEq, reduceCtorEq, Int.reduceAdd, Int.reduceSub, Int.reduceMul, Int.reduceLT, Int.reduceLE, Int.reduceGT, Int.reduceGE, Int.reduceEq, Int.reduceNe, Int.reduceBEq, Int.reduceBNe, Int.reduceTMod, Int.reduceTDiv, ↓if_true, ↓if_false, q0], by simp (maxSteps := 2000000) (disch := first | assumption | omega | (simp only [nx_push, nx_set, ne_eq] <;> omega) | (simp only [XSide]; done) | decide) only [XWalk, XSl, ↓XPre, reduceIte, Nat.reduceEqDiff, Nat.reduceLT, Nat.reduceAdd, Nat.reduceSub, Nat.reduceMul, Nat.reduceBEq, reduceCtorEq, Int.reduceAdd, Int.reduceSub, Int.reduceMul, Int.reduceLT, Int.reduceLE, Int.reduceGT, Int.reduceGE, Int.reduceEq, Int.reduceNe, Int.reduceBEq, Int.reduceBNe, Int.reduceTMod, Int.reduceTDiv, ↓if_true, ↓if_false, q2], by simp (maxSteps := 2000000) (disch := first | assumption | omega | (simp only [nx_push, nx_set, ne_eq] <;> omega) | (simp only [XSide]; done) | decide) only [XWalk, XSl, ↓XPre, reduceIte, Nat.reduceEqDiff, Nat.reduceLT, Nat.reduceAdd, Nat.reduceSub, Nat.reduceMul, Nat.reduceBEq, reduceCtorEq, Int.reduceAdd, Int.reduceSub, Int.reduceMul, Int.reduceLT, Int.reduceLE, Int.reduceGT, Int.reduceGE, Int.reduceEq, Int.reduceNe, Int.reduceBEq, Int.reduceBNe, Int.reduceTMod, Int.reduceTDiv, ↓if_true, ↓if_false, q3], by simp (maxSteps := 2000000) (disch := first | assumption | omega | (simp only [nx_push, nx_set, ne_eq] <;> omega) | (simp only [XSide]; done) | decide) only [XWalk, XSl, ↓XPre, reduceIte, Nat.reduceEqDiff, Nat.reduceLT, Nat.reduceAdd, Nat.reduceSub, Nat.reduceMul, Nat.reduceBEq, reduceCtorEq, Int.reduceAdd, Int.reduceSub, Int.reduceMul, Int.reduceLT, Int.reduceLE, Int.reduceGT, Int.reduceGE, Int.reduceEq, Int.reduceNe, Int.reduceBEq, Int.reduceBNe, Int.reduceTMod, Int.reduceTDiv, ↓if_true, ↓if_false, q8], by simp (maxSteps := 2000000) (disch := first | assumption | omega | (simp only [nx_push, nx_set, ne_eq] <;> omega) | (simp only [XSide]; done) | decide) only [XWalk, XSl, ↓XPre, reduceIte, Nat.reduceEqDiff, Nat.reduceLT, Nat.reduceAdd, Nat.reduceSub, Nat.reduceMul, Nat.reduceBEq, reduceCtorEq, Int.reduceAdd, Int.reduceSub, Int.reduceMul, Int.reduceLT, Int.reduceLE, Int.reduceGT, Int.reduceGE, Int.reduceEq, Int.reduceNe, Int.reduceBEq, Int.reduceBNe, Int.reduceTMod, Int.reduceTDiv, ↓if_true, ↓if_false], by simp (maxSteps := 2000000) (disch := first | assumption | omega | (simp only [nx_push, nx_set, ne_eq] <;> omega) | (simp only [XSide]; done) | decide) only [XWalk, XSl, ↓XPre, reduceIte, Nat.reduceEqDiff, Nat.reduceLT, Nat.reduceAdd, Nat.reduceSub, Nat.reduceMul, Nat.reduceBEq, reduceCtorEq, Int.reduceAdd, Int.reduceSub, Int.reduceMul, Int.reduceLT, Int.reduceLE, Int.reduceGT, Int.reduceGE, Int.reduceEq, Int.reduceNe, Int.reduceBEq, Int.reduceBNe, Int.reduceTMod, Int.reduceTDiv, ↓if_true, ↓if_false], hw2.push.set (by simp), rfl, fun b hb => by rw [get_set_ne (by omega), get_push_ne (by omega)]; exact g2 b hb, by simp (maxSteps := 2000000) (disch := first | assumption | omega | (simp only [nx_push, nx_set, ne_eq] <;> omega) | (simp only [XSide]; done) | decide) only [XWalk, XSl, ↓XPre, reduceIte, Nat.reduceEqDiff, Nat.reduceLT, Nat.reduceAdd, Nat.reduceSub, Nat.reduceMul, Nat.reduceBEq, reduceCtorEq, Int.reduceAdd, Int.reduceSub, Int.reduceMul, Int.reduceLT, Int.reduceLE, Int.reduceGT, Int.reduceGE, Int.reduceEq, Int.reduceNe, Int.reduceBEq, Int.reduceBNe, Int.reduceTMod, Int.reduceTDiv, ↓if_true, ↓if_false, hv2], by simp (maxSteps := 2000000) (disch := first | assumption | omega | (simp only [nx_push, nx_set, ne_eq] <;> omega) | (simp only [XSide]; done) | decide) only [XWalk, XSl, ↓XPre, reduceIte, Nat.reduceEqDiff, Nat.reduceLT, Nat.reduceAdd, Nat.reduceSub, Nat.reduceMul, Nat.reduceBEq, reduceCtorEq, Int.reduceAdd, Int.reduceSub, Int.reduceMul, Int.reduceLT, Int.reduceLE, Int.reduceGT, Int.reduceGE, Int.reduceEq, Int.reduceNe, Int.reduceBEq, Int.reduceBNe, Int.reduceTMod, Int.reduceTDiv, ↓if_true, ↓if_false], by simp (maxSteps := 2000000) (disch := first | assumption | omega | (simp only [nx_push, nx_set, ne_eq] <;> omega) | (simp only [XSide]; done) | decide) only [XWalk, XSl, ↓XPre, reduceIte, Nat.reduceEqDiff, Nat.reduceLT, Nat.reduceAdd, Nat.reduceSub, Nat.reduceMul, Nat.reduceBEq, reduceCtorEq, Int.reduceAdd, Int.reduceSub, Int.reduceMul, Int.reduceLT, Int.reduceLE, Int.reduceGT, Int.reduceGE, Int.reduceEq, Int.reduceNe, Int.reduceBEq, Int.reduceBNe, Int.reduceTMod, Int.reduceTDiv, ↓if_true, ↓if_false, hm2]⟩ ?_
  clear q0 q2 q3 q8 he e1
  rintro e m3 ⟨he, q0, q2, q3, q8, q11, q12, hw3, hn3, hf3, hv3, hi3, hm3⟩
  have hhb : m3.get hb = some (.row hs .rw) := by rw [hf3 hb hblt]; exact hh
  refine x_draw [0, 0, 2, 6, 15] (by kernel_rfl) ?_
  simp (maxSteps := 2000000) (disch := first | assumption | omega | (simp only [nx_push, nx_set, ne_eq] <;> omega) | (simp only [XSide, F75]; done) | decide) only [XWalk, XSl, ↓XPre, reduceIte, Nat.reduceEqDiff, Nat.reduceLT, Nat.reduceAdd, Nat.reduceSub, Nat.reduceMul, Nat.reduceBEq, reduceCtorEq, Int.reduceAdd, Int.reduceSub, Int.reduceMul, Int.reduceLT, Int.reduceLE, Int.reduceGT, Int.reduceGE, Int.reduceEq, Int.reduceNe, Int.reduceBEq, Int.reduceBNe, Int.reduceTMod, Int.reduceTDiv, ↓if_true, ↓if_false, F75, A75, he, q0, q11, hv3, hhb]
  rw [acopy_row (new := w32s H) (rs := w32s (List.replicate 16 0)) (k := .rw) (by simp only [F75]) (Sl.of_row (n := 8) hhb hH (by rw [w32s_len]; exact lH) (Nat.le_refl _)).elems hv3 rfl w32s_one' rfl (by rw [w32s_len, lH]; decide) (by rw [w32s_len, lH]; decide)]
  have lw : (w32s H).length = 8 := by rw [w32s_len]; exact lH
  have mm : Nat.min 8 8 = 8 := rfl
  have hc1 : (w32s (List.replicate 16 0)).take 0 ++ (w32s H).take 8 ++ (w32s (List.replicate 16 0)).drop (0 + 8) = w32s (H ++ List.replicate 8 0) := by
    rw [List.take_of_length_le (l := w32s H) (by rw [w32s_len]; omega)]
    simp [w32s]
  rw [lw, mm, hc1]
  simp (maxSteps := 2000000) (disch := first | assumption | omega | (simp only [nx_push, nx_set, ne_eq] <;> omega) | (simp only [XSide, F75]; done) | decide) only [XWalk, XSl, ↓XPre, reduceIte, Nat.reduceEqDiff, Nat.reduceLT, Nat.reduceAdd, Nat.reduceSub, Nat.reduceMul, Nat.reduceBEq, reduceCtorEq, Int.reduceAdd, Int.reduceSub, Int.reduceMul, Int.reduceLT, Int.reduceLE, Int.reduceGT, Int.reduceGE, Int.reduceEq, Int.reduceNe, Int.reduceBEq, Int.reduceBNe, Int.reduceTMod, Int.reduceTDiv, ↓if_true, ↓if_false, F75, A75, he, q0, q11, hv3, hhb]
  refine x_draw [0, 0, 3] (by kernel_rfl) ?_
  simp (maxSteps := 2000000) (disch := first | assumption | omega | (simp only [nx_push, nx_set, ne_eq] <;> omega) | (simp only [XSide, F75]; done) | decide) only [XWalk, XSl, ↓XPre, reduceIte, Nat.reduceEqDiff, Nat.reduceLT, Nat.reduceAdd, Nat.reduceSub, Nat.reduceMul, Nat.reduceBEq, reduceCtorEq, Int.reduceAdd, Int.reduceSub, Int.reduceMul, Int.reduceLT, Int.reduceLE, Int.reduceGT, Int.reduceGE, Int.reduceEq, Int.reduceNe, Int.reduceBEq, Int.reduceBNe, Int.reduceTMod, Int.reduceTDiv, ↓if_true, ↓if_false, F75, A75, he, q0, q11, q12, hi3]
  have hc2 : (w32s (H ++ List.replicate 8 0)).take (0 + 8) ++ (w32s ivW).take 8 ++ (w32s (H ++ List.replicate 8 0)).drop (0 + 8 + 8) = w32s (H ++ ivW) := by
    have e1 : w32s (H ++ List.replicate 8 0) = w32s H ++ w32s (List.replicate 8 0) := by simp [w32s]
    rw [e1, show 0 + 8 = (w32s H).length from by omega, List.take_left, List.drop_eq_nil_of_le (by simp [w32s, lH])]
    simp [w32s, ivW]
  rw [acopy_row (new := w32s ivW) (rs := w32s (H ++ List.replicate 8 0)) (n := 8) (k := .rw) (by simp only [F75]) (Sl.of_row (n := 8) (rs := w32s ivW) (by simp (maxSteps := 2000000) (disch := first | assumption | omega | (simp only [nx_push, nx_set, ne_eq] <;> omega) | (simp only [XSide]; done) | decide) only [XWalk, XSl, ↓XPre, reduceIte, Nat.reduceEqDiff, Nat.reduceLT, Nat.reduceAdd, Nat.reduceSub, Nat.reduceMul, Nat.reduceBEq, reduceCtorEq, Int.reduceAdd, Int.reduceSub, Int.reduceMul, Int.reduceLT, Int.reduceLE, Int.reduceGT, Int.reduceGE, Int.reduceEq, Int.reduceNe, Int.reduceBEq, Int.reduceBNe, Int.reduceTMod, Int.reduceTDiv, ↓if_true, ↓if_false, hi3]) rfl rfl (Nat.le_refl _)).elems (by simp (maxSteps := 2000000) (disch := first | assumption | omega | (simp only [nx_push, nx_set, ne_eq] <;> omega) | (simp only [XSide]; done) | decide) only [XWalk, XSl, ↓XPre, reduceIte, Nat.reduceEqDiff, Nat.reduceLT, Nat.reduceAdd, Nat.reduceSub, Nat.reduceMul, Nat.reduceBEq, reduceCtorEq, Int.reduceAdd, Int.reduceSub, Int.reduceMul, Int.reduceLT, Int.reduceLE, Int.reduceGT, Int.reduceGE, Int.reduceEq, Int.reduceNe, Int.reduceBEq, Int.reduceBNe, Int.reduceTMod, Int.reduceTDiv, ↓if_true, ↓if_false]) rfl w32s_one' rfl (by decide) (by rw [w32s_len]; simp [lH])]
  rw [mm, hc2]
  have lv : (H ++ ivW).length = 16 := by simp [lH, ivW]
  have v12 : (w32s (H ++ ivW))[12]? = some (w32 0x510e527f) := by simp only [w32s, List.map_append]; rw [List.getElem?_append_right (by simp [lH])]; simp [lH, ivW]
  have v13 : (w32s (H ++ ivW))[13]? = some (w32 0x9b05688c) := by simp only [w32s, List.map_append]; rw [List.getElem?_append_right (by simp [lH])]; simp [lH, ivW]
  have v14 : (w32s (H ++ ivW))[14]? = some (w32 0x1f83d9ab) := by simp only [w32s, List.map_append]; rw [List.getElem?_append_right (by simp [lH])]; simp [lH, ivW]
  have lw16 : (w32s (H ++ ivW)).length = 16 := by rw [w32s_len]; exact lv
  simp (maxSteps := 2000000) (disch := first | assumption | omega | (simp only [nx_push, nx_set, ne_eq] <;> omega) | (simp only [XSide, F75]; done) | decide) only [XWalk, XSl, ↓XPre, reduceIte, Nat.reduceEqDiff, Nat.reduceLT, Nat.reduceAdd, Nat.reduceSub, Nat.reduceMul, Nat.reduceBEq, reduceCtorEq, Int.reduceAdd, Int.reduceSub, Int.reduceMul, Int.reduceLT, Int.reduceLE, Int.reduceGT, Int.reduceGE, Int.reduceEq, Int.reduceNe, Int.reduceBEq, Int.reduceBNe, Int.reduceTMod, Int.reduceTDiv, ↓if_true, ↓if_false, F75, A75, he, q0, q2, q3, q11, q12, v12, v13, lw16, mod32_of, shr32_of, xorI_32]
  have hT : w32s (initV H t true) = w32s ((((H ++ ivW).set 12 (0x510e527f ^^^ UInt32.ofNat t)).set 13 (0x9b05688c ^^^ UInt32.ofNat (t / 4294967296))).set 14 (0x1f83d9ab ^^^ 0xffffffff)) := by
    match H, lH with
    | [h0, h1, h2, h3, h4, h5, h6, h7], _ => rfl
  have hF : w32s (initV H t false) = w32s (((H ++ ivW).set 12 (0x510e527f ^^^ UInt32.ofNat t)).set 13 (0x9b05688c ^^^ UInt32.ofNat (t / 4294967296))) := by
    match H, lH with
    | [h0, h1, h2, h3, h4, h5, h6, h7], _ => rfl
  refine x_join (fun e m4 => e.n = 173 ∧ e.get 0 = .pointer (some ⟨hb, ho, none⟩) ∧ e.get 8 = .pointer (some ⟨m.next, 0, none⟩) ∧ e.get 11 = .pointer (some ⟨m1.next, 0, none⟩) ∧
    WF m4 ∧ m4.next = m3.next ∧ (∀ b, b < m.next → m4.get b = m.get b) ∧ m4.get m1.next = some (.row (w32s (initV H t last)) .rw) ∧ m4.get m.next = some (.row (w32s (blkWords l)) .rw)) (fun hl => ?_) (fun hl => ?_) ?_
  · subst hl
    simp (maxSteps := 2000000) (disch := first | assumption | omega | (simp only [nx_push, nx_set, ne_eq] <;> omega) | (simp only [XSide, F75]; done) | decide) only [XWalk, XSl, ↓XPre, reduceIte, Nat.reduceEqDiff, Nat.reduceLT, Nat.reduceAdd, Nat.reduceSub, Nat.reduceMul, Nat.reduceBEq, reduceCtorEq, Int.reduceAdd, Int.reduceSub, Int.reduceMul, Int.reduceLT, Int.reduceLE, Int.reduceGT, Int.reduceGE, Int.reduceEq, Int.reduceNe, Int.reduceBEq, Int.reduceBNe, Int.reduceTMod, Int.reduceTDiv, ↓if_true, ↓if_false, F75, A75, he, q0, q8, q11, v14, lw16, not_32, hm3]
    refine ⟨?_, fun b hb => ?_, ?_⟩
    · (repeat (first | exact hw3 | apply WF.push | (refine WF.set ?_ (by first | omega | (simp only [Mem.next_set, Mem.next_push]; omega)))))
    · simp (maxSteps := 2000000) (disch := first | assumption | omega | (simp only [nx_push, nx_set, ne_eq] <;> omega) | (simp only [XSide]; done) | decide) only [XWalk, XSl, ↓XPre, reduceIte, Nat.reduceEqDiff, Nat.reduceLT, Nat.reduceAdd, Nat.reduceSub, Nat.reduceMul, Nat.reduceBEq, reduceCtorEq, Int.reduceAdd, Int.reduceSub, Int.reduceMul, Int.reduceLT, Int.reduceLE, Int.reduceGT, Int.reduceGE, Int.reduceEq, Int.reduceNe, Int.reduceBEq, Int.reduceBNe, Int.reduceTMod, Int.reduceTDiv, ↓if_true, ↓if_false, hf3 b hb]
    · rw [hT]
      simp only [w32s_set]
  · subst hl
    simp (maxSteps := 2000000) (disch := first | assumption | omega | (simp only [nx_push, nx_set, ne_eq] <;> omega) | (simp only [XSide, F75]; done) | decide) only [XWalk, XSl, ↓XPre, reduceIte, Nat.reduceEqDiff, Nat.reduceLT, Nat.reduceAdd, Nat.reduceSub, Nat.reduceMul, Nat.reduceBEq, reduceCtorEq, Int.reduceAdd, Int.reduceSub, Int.reduceMul, Int.reduceLT, Int.reduceLE, Int.reduceGT, Int.reduceGE, Int.reduceEq, Int.reduceNe, Int.reduceBEq, Int.reduceBNe, Int.reduceTMod, Int.reduceTDiv, ↓if_true, ↓if_false, F75, A75, he, q0, q8, q11, v14, lw16, not_32, hm3]
    refine ⟨?_, fun b hb => ?_, ?_⟩
    · (repeat (first | exact hw3 | apply WF.push | (refine WF.set ?_ (by first | omega | (simp only [Mem.next_set, Mem.next_push]; omega)))))
    · simp (maxSteps := 2000000) (disch := first | assumption | omega | (simp only [nx_push, nx_set, ne_eq] <;> omega) | (simp only [XSide]; done) | decide) only [XWalk, XSl, ↓XPre, reduceIte, Nat.reduceEqDiff, Nat.reduceLT, Nat.reduceAdd, Nat.reduceSub, Nat.reduceMul, Nat.reduceBEq, reduceCtorEq, Int.reduceAdd, Int.reduceSub, Int.reduceMul, Int.reduceLT, Int.reduceLE, Int.reduceGT, Int.reduceGE, Int.reduceEq, Int.reduceNe, Int.reduceBEq, Int.reduceBNe, Int.reduceTMod, Int.reduceTDiv, ↓if_true, ↓if_false, hf3 b hb]
    · rw [hF]
      simp only [w32s_set]
  rintro e m4 ⟨he, q0, q8, q11, hw4, hn4, hf4, hv4, hm4⟩
  simp (maxSteps := 2000000) (disch := first | assumption | omega | (simp only [nx_push, nx_set, ne_eq] <;> omega) | (simp only [XSide, F75]; done) | decide) only [XWalk, XSl, ↓XPre, reduceIte, Nat.reduceEqDiff, Nat.reduceLT, Nat.reduceAdd, Nat.reduceSub, Nat.reduceMul, Nat.reduceBEq, reduceCtorEq, Int.reduceAdd, Int.reduceSub, Int.reduceMul, Int.reduceLT, Int.reduceLE, Int.reduceGT, Int.reduceGE, Int.reduceEq, Int.reduceNe, Int.reduceBEq, Int.reduceBNe, Int.reduceTMod, Int.reduceTDiv, ↓if_true, ↓if_false, F75, A75, he]
  refine wcall_x specLoc rows_ct hw4 ?_
  rintro out m5 hw5 hn5 f5 rfl
  simp (maxSteps := 2000000) (disch := first | assumption | omega | (simp only [nx_push, nx_set, ne_eq] <;> omega) | (simp only [XSide, F75]; done) | decide) only [XWalk, XSl, ↓XPre, reduceIte, Nat.reduceEqDiff, Nat.reduceLT, Nat.reduceAdd, Nat.reduceSub, Nat.reduceMul, Nat.reduceBEq, reduceCtorEq, Int.reduceAdd, Int.reduceSub, Int.reduceMul, Int.reduceLT, Int.reduceLE, Int.reduceGT, Int.reduceGE, Int.reduceEq, Int.reduceNe, Int.reduceBEq, Int.reduceBNe, Int.reduceTMod, Int.reduceTDiv, ↓if_true, ↓if_false, F75, A75, he]
  refine rounds_x (hb := hb) (mb := m.next) (vb := m1.next) (hv := .pointer (some ⟨hb, ho, none⟩)) (V := initV H t last) (M := blkWords l) hw5 (by rw [f5 _ (by omega)]; exact hm4) (by simp [blkWords]) (by rw [f5 _ (by omega)]; exact hv4) (by simp [initV, lH]) (by omega) (by omega) (by omega) (by simp (maxSteps := 2000000) (disch := first | assumption | omega | (simp only [nx_push, nx_set, ne_eq] <;> omega) | (simp only [XSide]; done) | decide) only [XWalk, XSl, ↓XPre, reduceIte, Nat.reduceEqDiff, Nat.reduceLT, Nat.reduceAdd, Nat.reduceSub, Nat.reduceMul, Nat.reduceBEq, reduceCtorEq, Int.reduceAdd, Int.reduceSub, Int.reduceMul, Int.reduceLT, Int.reduceLE, Int.reduceGT, Int.reduceGE, Int.reduceEq, Int.reduceNe, Int.reduceBEq, Int.reduceBNe, Int.reduceTMod, Int.reduceTDiv, ↓if_true, ↓if_false, he]) (by simp (maxSteps := 2000000) (disch := first | assumption | omega | (simp only [nx_push, nx_set, ne_eq] <;> omega) | (simp only [XSide]; done) | decide) only [XWalk, XSl, ↓XPre, reduceIte, Nat.reduceEqDiff, Nat.reduceLT, Nat.reduceAdd, Nat.reduceSub, Nat.reduceMul, Nat.reduceBEq, reduceCtorEq, Int.reduceAdd, Int.reduceSub, Int.reduceMul, Int.reduceLT, Int.reduceLE, Int.reduceGT, Int.reduceGE, Int.reduceEq, Int.reduceNe, Int.reduceBEq, Int.reduceBNe, Int.reduceTMod, Int.reduceTDiv, ↓if_true, ↓if_false, q0]) (by simp (maxSteps := 2000000) (disch := first | assumption | omega | (simp only [nx_push, nx_set, ne_eq] <;> omega) | (simp only [XSide]; done) | decide) only [XWalk, XSl, ↓XPre, reduceIte, Nat.reduceEqDiff, Nat.reduceLT, Nat.reduceAdd, Nat.reduceSub, Nat.reduceMul, Nat.reduceBEq, reduceCtorEq, Int.reduceAdd, Int.reduceSub, Int.reduceMul, Int.reduceLT, Int.reduceLE, Int.reduceGT, Int.reduceGE, Int.reduceEq, Int.reduceNe, Int.reduceBEq, Int.reduceBNe, Int.reduceTMod, Int.reduceTDiv, ↓if_true, ↓if_false, q8]) (by simp (maxSteps := 2000000) (disch := first | assumption | omega | (simp only [nx_push, nx_set, ne_eq] <;> omega) | (simp only [XSide]; done) | decide) only [XWalk, XSl, ↓XPre, reduceIte, Nat.reduceEqDiff, Nat.reduceLT, Nat.reduceAdd, Nat.reduceSub, Nat.reduceMul, Nat.reduceBEq, reduceCtorEq, Int.reduceAdd, Int.reduceSub, Int.reduceMul, Int.reduceLT, Int.reduceLE, Int.reduceGT, Int.reduceGE, Int.reduceEq, Int.reduceNe, Int.reduceBEq, Int.reduceBNe, Int.reduceTMod, Int.reduceTDiv, ↓if_true, ↓if_false, q11]) (by simp (maxSteps := 2000000) (disch := first | assumption | omega | (simp only [nx_push, nx_set, ne_eq] <;> omega) | (simp only [XSide]; done) | decide) only [XWalk, XSl, ↓XPre, reduceIte, Nat.reduceEqDiff, Nat.reduceLT, Nat.reduceAdd, Nat.reduceSub, Nat.reduceMul, Nat.reduceBEq, reduceCtorEq, Int.reduceAdd, Int.reduceSub, Int.reduceMul, Int.reduceLT, Int.reduceLE, Int.reduceGT, Int.reduceGE, Int.reduceEq, Int.reduceNe, Int.reduceBEq, Int.reduceBNe, Int.reduceTMod, Int.reduceTDiv, ↓if_true, ↓if_false]) (by simp (maxSteps := 2000000) (disch := first | assumption | omega | (simp only [nx_push, nx_set, ne_eq] <;> omega) | (simp only [XSide]; done) | decide) only [XWalk, XSl, ↓XPre, reduceIte, Nat.reduceEqDiff, Nat.reduceLT, Nat.reduceAdd, Nat.reduceSub, Nat.reduceMul, Nat.reduceBEq, reduceCtorEq, Int.reduceAdd, Int.reduceSub, Int.reduceMul, Int.reduceLT, Int.reduceLE, Int.reduceGT, Int.reduceGE, Int.reduceEq, Int.reduceNe, Int.reduceBEq, Int.reduceBNe, Int.reduceTMod, Int.reduceTDiv, ↓if_true, ↓if_false]; rfl) ?_
  intro e6 m6 hw6 hn6 hf6 hv6 he q0 q11
  simp (maxSteps := 2000000) (disch := first | assumption | omega | (simp only [nx_push, nx_set, ne_eq] <;> omega) | (simp only [XSide, F75]; done) | decide) only [XWalk, XSl, ↓XPre, reduceIte, Nat.reduceEqDiff, Nat.reduceLT, Nat.reduceAdd, Nat.reduceSub, Nat.reduceMul, Nat.reduceBEq, reduceCtorEq, Int.reduceAdd, Int.reduceSub, Int.reduceMul, Int.reduceLT, Int.reduceLE, Int.reduceGT, Int.reduceGE, Int.reduceEq, Int.reduceNe, Int.reduceBEq, Int.reduceBNe, Int.reduceTMod, Int.reduceTDiv, ↓if_true, ↓if_false, F75, A75, he]
  have hh6 : m6.get hb = some (.row hs .rw) := by rw [hf6 hb (by omega) (by omega), f5 hb (by omega), hf4 hb hblt]; exact hh
  refine fin_x (hb := hb) (ho := ho) (vb := m1.next) (H := H) hw6 hh6 hH lH lo hv6 (by rw [foldl_length (fun _ _ => roundW_length)]; simp [initV, lH]) (by omega) hblt (by simp (maxSteps := 2000000) (disch := first | assumption | omega | (simp only [nx_push, nx_set, ne_eq] <;> omega) | (simp only [XSide]; done) | decide) only [XWalk, XSl, ↓XPre, reduceIte, Nat.reduceEqDiff, Nat.reduceLT, Nat.reduceAdd, Nat.reduceSub, Nat.reduceMul, Nat.reduceBEq, reduceCtorEq, Int.reduceAdd, Int.reduceSub, Int.reduceMul, Int.reduceLT, Int.reduceLE, Int.reduceGT, Int.reduceGE, Int.reduceEq, Int.reduceNe, Int.reduceBEq, Int.reduceBNe, Int.reduceTMod, Int.reduceTDiv, ↓if_true, ↓if_false, he]) (by simp (maxSteps := 2000000) (disch := first | assumption | omega | (simp only [nx_push, nx_set, ne_eq] <;> omega) | (simp only [XSide]; done) | decide) only [XWalk, XSl, ↓XPre, reduceIte, Nat.reduceEqDiff, Nat.reduceLT, Nat.reduceAdd, Nat.reduceSub, Nat.reduceMul, Nat.reduceBEq, reduceCtorEq, Int.reduceAdd, Int.reduceSub, Int.reduceMul, Int.reduceLT, Int.reduceLE, Int.reduceGT, Int.reduceGE, Int.reduceEq, Int.reduceNe, Int.reduceBEq, Int.reduceBNe, Int.reduceTMod, Int.reduceTDiv, ↓if_true, ↓if_false, q0]) (by simp (maxSteps := 2000000) (disch := first | assumption | omega | (simp only [nx_push, nx_set, ne_eq] <;> omega) | (simp only [XSide]; done) | decide) only [XWalk, XSl, ↓XPre, reduceIte, Nat.reduceEqDiff, Nat.reduceLT, Nat.reduceAdd, Nat.reduceSub, Nat.reduceMul, Nat.reduceBEq, reduceCtorEq, Int.reduceAdd, Int.reduceSub, Int.reduceMul, Int.reduceLT, Int.reduceLE, Int.reduceGT, Int.reduceGE, Int.reduceEq, Int.reduceNe, Int.reduceBEq, Int.reduceBNe, Int.reduceTMod, Int.reduceTDiv, ↓if_true, ↓if_false, q11]) (by simp (maxSteps := 2000000) (disch := first | assumption | omega | (simp only [nx_push, nx_set, ne_eq] <;> omega) | (simp only [XSide]; done) | decide) only [XWalk, XSl, ↓XPre, reduceIte, Nat.reduceEqDiff, Nat.reduceLT, Nat.reduceAdd, Nat.reduceSub, Nat.reduceMul, Nat.reduceBEq, reduceCtorEq, Int.reduceAdd, Int.reduceSub, Int.reduceMul, Int.reduceLT, Int.reduceLE, Int.reduceGT, Int.reduceGE, Int.reduceEq, Int.reduceNe, Int.reduceBEq, Int.reduceBNe, Int.reduceTMod, Int.reduceTDiv, ↓if_true, ↓if_false]; rfl) ?_
  intro e7 m7 hw7 hn7 hf7 hh7
  simp (maxSteps := 2000000) (disch := first | assumption | omega | (simp only [nx_push, nx_set, ne_eq] <;> omega) | (simp only [XSide, F75]; done) | decide) only [XWalk, XSl, ↓XPre, reduceIte, Nat.reduceEqDiff, Nat.reduceLT, Nat.reduceAdd, Nat.reduceSub, Nat.reduceMul, Nat.reduceBEq, reduceCtorEq, Int.reduceAdd, Int.reduceSub, Int.reduceMul, Int.reduceLT, Int.reduceLE, Int.reduceGT, Int.reduceGE, Int.reduceEq, Int.reduceNe, Int.reduceBEq, Int.reduceBNe, Int.reduceTMod, Int.reduceTDiv, ↓if_true, ↓if_false, F75, A75]
  exact hh7

end Go.Big

/- A running computation of a hash: what it holds. -/
set_option linter.unusedSimpArgs false
set_option linter.unusedVariables false
set_option maxRecDepth 100000
set_option maxHeartbeats 2000000
namespace Go.Big
open Go.Proofs

def pad64 (d : List UInt8) : List UInt8 := d ++ List.replicate (64 - d.length) 0

/-- The words of the hash of what is left, where so many bytes went before. -/
def hashFin (H : List UInt32) (t : Nat) (d : List UInt8) : List UInt32 :=
  if d.length ≤ 64 then compressW H (pad64 d) (t + d.length) true else hashFin (compressW H (d.take 64) (t + 64) false) (t + 64) (d.drop 64)
termination_by d.length
decreasing_by simp; omega

def key0 (n : Nat) : List UInt32 := ((0x6a09e667 : UInt32) ^^^ ((0x01010020 : UInt32) + ((UInt32.ofNat n) <<< (8 : UInt32)))) :: ivW.drop 1

def wordB (w : UInt32) : List UInt8 := [w.toUInt8, (w >>> 8).toUInt8, (w >>> 16).toUInt8, (w >>> 24).toUInt8]
def wordsB (l : List UInt32) : List UInt8 := l.flatMap wordB

/-- The hash of bytes with a key (of at most 32 bytes). -/
def blakeB (key d : List UInt8) : List UInt8 := wordsB (hashFin (key0 key.length) 0 ((if key = [] then [] else pad64 key) ++ d))

theorem hashFin_length : ∀ (n : Nat) (H : List UInt32) (t : Nat) (d : List UInt8), d.length ≤ n → (hashFin H t d).length = 8 := by
  intro n
  induction n with
  | zero => intro H t d h; rw [hashFin, if_pos (by omega)]; exact compressW_length
  | succ n ih =>
    intro H t d h
    rw [hashFin]
    split
    · exact compressW_length
    · exact ih _ _ _ (by simp; omega)
theorem wordsB_length {l : List UInt32} : (wordsB l).length = 4 * l.length := by
  induction l with
  | nil => rfl
  | cons w l ih => simp only [wordsB, List.flatMap_cons, List.length_append, List.length_cons] at ih ⊢; rw [ih]; simp [wordB]; omega
theorem blakeB_length {key d : List UInt8} : (blakeB key d).length = 32 := by
  rw [blakeB, wordsB_length, hashFin_length _ _ _ _ (Nat.le_refl _)]

def hashRow (H : List UInt32) (R : List UInt8) (used done : Nat) (cnt : Int) : List Value := w32s H ++ u8s R ++ [.int .i64 (used : Int), .int .u64 (done : Int), .int .i64 cnt, .bool true]

section
variable {H H' : List UInt32} {R : List UInt8} {used done : Nat} {cnt : Int}
theorem hr_len (lH : H.length = 8) (lR : R.length = 64) : (hashRow H R used done cnt).length = 76 := by simp [hashRow, w32s, u8s, lH, lR]
theorem hr_pre (lH : H.length = 8) (lR : R.length = 64) : (w32s H ++ u8s R).length = 72 := by simp [w32s, u8s, lH, lR]
theorem hr_get (lH : H.length = 8) (lR : R.length = 64) (i : Nat) : (hashRow H R used done cnt)[72 + i]? = [Value.int .i64 (used : Int), .int .u64 (done : Int), .int .i64 cnt, .bool true][i]? := by
  unfold hashRow
  rw [List.getElem?_append_right (by rw [hr_pre lH lR]; omega), hr_pre lH lR, Nat.add_sub_cancel_left]
theorem hr72 (lH : H.length = 8) (lR : R.length = 64) : (hashRow H R used done cnt)[72]? = some (.int .i64 (used : Int)) := hr_get lH lR 0
theorem hr73 (lH : H.length = 8) (lR : R.length = 64) : (hashRow H R used done cnt)[73]? = some (.int .u64 (done : Int)) := hr_get lH lR 1
theorem hr74 (lH : H.length = 8) (lR : R.length = 64) : (hashRow H R used done cnt)[74]? = some (.int .i64 cnt) := hr_get lH lR 2
theorem hr75 (lH : H.length = 8) (lR : R.length = 64) : (hashRow H R used done cnt)[75]? = some (.bool true) := hr_get lH lR 3
theorem hr_set (lH : H.length = 8) (lR : R.length = 64) (i : Nat) (x : Value) : (hashRow H R used done cnt).set (72 + i) x = w32s H ++ u8s R ++ [Value.int .i64 (used : Int), .int .u64 (done : Int), .int .i64 cnt, .bool true].set i x := by
  unfold hashRow
  rw [List.set_append_right _ _ (by rw [hr_pre lH lR]; omega), hr_pre lH lR, Nat.add_sub_cancel_left]
theorem hr_set72 (lH : H.length = 8) (lR : R.length = 64) {n : Nat} : (hashRow H R used done cnt).set 72 (.int .i64 (n : Int)) = hashRow H R n done cnt := hr_set lH lR 0 _
theorem hr_set73 (lH : H.length = 8) (lR : R.length = 64) {n : Nat} : (hashRow H R used done cnt).set 73 (.int .u64 (n : Int)) = hashRow H R used n cnt := hr_set lH lR 1 _
theorem hr_set74 (lH : H.length = 8) (lR : R.length = 64) {n : Int} : (hashRow H R used done cnt).set 74 (.int .i64 n) = hashRow H R used done n := hr_set lH lR 2 _
theorem hr_words (lH : H.length = 8) : ((hashRow H R used done cnt).drop 0).take 8 = w32s H := by
  unfold hashRow
  rw [List.drop_zero, List.append_assoc, List.take_append_of_le_length (by rw [w32s_len]; omega), List.take_of_length_le (by rw [w32s_len]; omega)]
theorem hr_rest (lH : H.length = 8) (lR : R.length = 64) : ((hashRow H R used done cnt).drop 8).take 64 = u8s R := by
  unfold hashRow
  have h1 : (w32s H).length = 8 := by rw [w32s_len]; exact lH
  rw [List.append_assoc, ← h1, List.drop_left, List.take_append_of_le_length (by rw [u8s_length]; omega), List.take_of_length_le (by rw [u8s_length]; omega)]
theorem hr_win (lH : H.length = 8) (lH' : H'.length = 8) : win (hashRow H R used done cnt) 0 (w32s H') = hashRow H' R used done cnt := by
  unfold win hashRow
  have h1 : 0 + (w32s H').length = (w32s H).length := by rw [w32s_len, w32s_len]; omega
  rw [h1, List.append_assoc (w32s H), List.drop_left]
  simp
theorem hr_copy (lH : H.length = 8) (lR : R.length = 64) {x : List UInt8} {u : Nat} (h : u + x.length ≤ 64) : (hashRow H R used done cnt).take (8 + u) ++ u8s x ++ (hashRow H R used done cnt).drop (8 + u + x.length) = hashRow H (R.take u ++ x ++ R.drop (u + x.length)) used done cnt := by
  unfold hashRow
  have h1 : (w32s H).length = 8 := by rw [w32s_len]; exact lH
  have e1 : (w32s H ++ u8s R ++ [Value.int .i64 (used : Int), .int .u64 (done : Int), .int .i64 cnt, .bool true]).take (8 + u) = w32s H ++ u8s (R.take u) := by
    rw [List.append_assoc, List.take_append, h1, Nat.add_sub_cancel_left, List.take_of_length_le (by omega), List.take_append_of_le_length (by rw [u8s_length]; omega), u8s_take]
  have e2 : (w32s H ++ u8s R ++ [Value.int .i64 (used : Int), .int .u64 (done : Int), .int .i64 cnt, .bool true]).drop (8 + u + x.length) = u8s (R.drop (u + x.length)) ++ [Value.int .i64 (used : Int), .int .u64 (done : Int), .int .i64 cnt, .bool true] := by
    rw [List.append_assoc, List.drop_append, h1, List.drop_eq_nil_of_le (by omega), List.nil_append, List.drop_append_of_le_length (by rw [u8s_length]; omega), u8s_drop]
    congr 2
    congr 1
    omega
  rw [e1, e2]
  simp only [u8s_append, List.append_assoc]
end

/-- The computation at a block has taken in these bytes. -/
structure HashSt (k : List UInt32) (p : List UInt8) (H : List UInt32) (R : List UInt8) (used done : Nat) : Prop where
  lH : H.length = 8
  lR : R.length = 64
  le : used ≤ 64
  sum : done + used = p.length
  fin : ∀ more, hashFin k 0 (p ++ more) = hashFin H done (R.take used ++ more)

def HashAt (m : Mem) (hb : Nat) (k : List UInt32) (p : List UInt8) : Prop := ∃ H R used done cnt, m.get hb = some (.row (hashRow H R used done cnt) .rw) ∧ HashSt k p H R used done

section
variable {k H : List UInt32} {p R : List UInt8} {used done : Nat}
/-- A full block is compressed as soon as more follows. -/
theorem HashSt.flush (h : HashSt k p H R 64 done) {q : UInt8} {qs : List UInt8} : ∀ more, hashFin k 0 (p ++ (q :: qs ++ more)) = hashFin (compressW H R (done + 64) false) (done + 64) (q :: qs ++ more) := by
  intro more
  rw [h.fin, List.take_of_length_le (by rw [h.lR]; omega), hashFin, if_neg (by simp [h.lR]), List.take_append_of_le_length (by rw [h.lR]; omega), List.take_of_length_le (by rw [h.lR]; omega)]
  congr 1
  rw [← h.lR, List.drop_left]
end

end Go.Big

/- The hash: absorbing. -/
set_option linter.unusedSimpArgs false
set_option linter.unusedVariables false
set_option maxRecDepth 100000
set_option maxHeartbeats 2000000
namespace Go.Big
open Go.Proofs

theorem hnone_ct {m : Mem} {hb : Nat} {k : List UInt32} {p : List UInt8} (h : HashAt m hb k p) : Ct Tryd.prog S0 76 [.pointer (some ⟨hb, 0, none⟩)] m [] (fun out m' => out = .ret (.bool false) ∧ m' = m) := by
  obtain ⟨H, R, used, done, cnt, hm, hs⟩ := h
  refine ct_x (spec0 _) (by rfl) Tryd.func76 rfl ?_
  simp (maxSteps := 2000000) (disch := first | assumption | omega | (simp only [nx_push, nx_set, ne_eq] <;> omega) | (simp only [XSide, F76]; done) | decide) only [XWalk, XSl, ↓XPre, reduceIte, Nat.reduceEqDiff, Nat.reduceLT, Nat.reduceAdd, Nat.reduceSub, Nat.reduceMul, Nat.reduceBEq, reduceCtorEq, Int.reduceAdd, Int.reduceSub, Int.reduceMul, Int.reduceLT, Int.reduceLE, Int.reduceGT, Int.reduceGE, Int.reduceEq, Int.reduceNe, Int.reduceBEq, Int.reduceBNe, Int.reduceTMod, Int.reduceTDiv, ↓if_true, ↓if_false, F76, A76, Tryd.ntmps76, hm, hr75 hs.lH hs.lR]

theorem acopy_sl {P : Program} {m : Mem} {t0 t1 : TypeId} (ht : idxSl P t0 = some 1) {x : Value} {new : List Value} (hx : Sl m x new) {b off dLen c : Nat} {rs : List Value} (hm : m.get b = some (.row rs .rw))
    (hone : new.all oneCell = true) (h0 : min new.length dLen ≠ 0) (hl : off + min new.length dLen ≤ rs.length) :
    acopy P #[t0, t1] (.slice (some ⟨b, off, none⟩) dLen c) x m = some (.int .i64 ((min new.length dLen : Nat) : Int), m.set b (.row (rs.take off ++ new.take (min new.length dLen) ++ rs.drop (off + min new.length dLen)) .rw), [b], .all) :=
  acopy_row ht hx.elems hm rfl hone rfl h0 hl

/-- One round of the taking in: what is left of the bytes. -/
theorem absorb_ct {m : Mem} (hw : WF m) {hb pb pc : Nat} {v : Value} {kd : Kind} {k : List UInt32} {p l : List UInt8} (hh : HashAt m hb k p) (hp : m.get pb = some (.row [v] kd)) (hv : Bs m v l) (hne : slBlk v ≠ some hb) (hpb : pb ≠ hb) (hlen : p.length + l.length ≤ 1099511627776) :
    Ct Tryd.prog S0 58 [.pointer (some ⟨hb, 0, none⟩), .slice (some ⟨pb, 0, none⟩) 1 pc] m [hb] (fun out m' => out = .ret (.tuple #[]) ∧ HashAt m' hb k (p ++ l)) := by
  have hblt : hb < m.next := by obtain ⟨H, R, used, done, cnt, hm, hs⟩ := hh; exact hw.lt (by rw [hm]; simp)
  refine ct_x (spec0 _) (by rfl) Tryd.func58 rfl ?_
  simp (maxSteps := 2000000) (disch := first | assumption | omega | (simp only [nx_push, nx_set, ne_eq] <;> omega) | (simp only [XSide, F58]; done) | decide) only [XWalk, XSl, ↓XPre, reduceIte, Nat.reduceEqDiff, Nat.reduceLT, Nat.reduceAdd, Nat.reduceSub, Nat.reduceMul, Nat.reduceBEq, reduceCtorEq, Int.reduceAdd, Int.reduceSub, Int.reduceMul, Int.reduceLT, Int.reduceLE, Int.reduceGT, Int.reduceGE, Int.reduceEq, Int.reduceNe, Int.reduceBEq, Int.reduceBNe, Int.reduceTMod, Int.reduceTDiv, ↓if_true, ↓if_false, F58, A58, Tryd.ntmps58]
  refine x_loop_once ?_
  simp (maxSteps := 2000000) (disch := first | assumption | omega | (simp only [nx_push, nx_set, ne_eq] <;> omega) | (simp only [XSide, F58]; done) | decide) only [XWalk, XSl, ↓XPre, reduceIte, Nat.reduceEqDiff, Nat.reduceLT, Nat.reduceAdd, Nat.reduceSub, Nat.reduceMul, Nat.reduceBEq, reduceCtorEq, Int.reduceAdd, Int.reduceSub, Int.reduceMul, Int.reduceLT, Int.reduceLE, Int.reduceGT, Int.reduceGE, Int.reduceEq, Int.reduceNe, Int.reduceBEq, Int.reduceBNe, Int.reduceTMod, Int.reduceTDiv, ↓if_true, ↓if_false, F58, A58, hp, List.getElem?_cons_zero, cast_lit]
  refine x_loop (fun q e m1 => ∃ v5 l5 p5, l5.length = q ∧ p5 ++ l5 = p ++ l ∧ e.n = 65 ∧ e.get 0 = .pointer (some ⟨hb, 0, none⟩) ∧ e.get 5 = v5 ∧ e.get 8 = .int .i64 1 ∧ e.get 9 = .int .i64 0 ∧ WF m1 ∧ m.next ≤ m1.next ∧ (∀ b, b < m.next → b ≠ hb → m1.get b = m.get b) ∧ HashAt m1 hb k p5 ∧
    Bs m1 v5 l5 ∧ (∀ b, slBlk v5 = some b → slBlk v = some b)) l.length ⟨v, l, p, rfl, rfl, by simp (maxSteps := 2000000) (disch := first | assumption | omega | (simp only [nx_push, nx_set, ne_eq] <;> omega) | (simp only [XSide]; done) | decide) only [XWalk, XSl, ↓XPre, reduceIte, Nat.reduceEqDiff, Nat.reduceLT, Nat.reduceAdd, Nat.reduceSub, Nat.reduceMul, Nat.reduceBEq, reduceCtorEq, Int.reduceAdd, Int.reduceSub, Int.reduceMul, Int.reduceLT, Int.reduceLE, Int.reduceGT, Int.reduceGE, Int.reduceEq, Int.reduceNe, Int.reduceBEq, Int.reduceBNe, Int.reduceTMod, Int.reduceTDiv, ↓if_true, ↓if_false], by simp (maxSteps := 2000000) (disch := first | assumption | omega | (simp only [nx_push, nx_set, ne_eq] <;> omega) | (simp only [XSide]; done) | decide) only [XWalk, XSl, ↓XPre, reduceIte, Nat.reduceEqDiff, Nat.reduceLT, Nat.reduceAdd, Nat.reduceSub, Nat.reduceMul, Nat.reduceBEq, reduceCtorEq, Int.reduceAdd, Int.reduceSub, Int.reduceMul, Int.reduceLT, Int.reduceLE, Int.reduceGT, Int.reduceGE, Int.reduceEq, Int.reduceNe, Int.reduceBEq, Int.reduceBNe, Int.reduceTMod, Int.reduceTDiv, ↓if_true, ↓if_false], by simp (maxSteps := 2000000) (disch := first | assumption | omega | (simp only [nx_push, nx_set, ne_eq] <;> omega) | (simp only [XSide]; done) | decide) only [XWalk, XSl, ↓XPre, reduceIte, Nat.reduceEqDiff, Nat.reduceLT, Nat.reduceAdd, Nat.reduceSub, Nat.reduceMul, Nat.reduceBEq, reduceCtorEq, Int.reduceAdd, Int.reduceSub, Int.reduceMul, Int.reduceLT, Int.reduceLE, Int.reduceGT, Int.reduceGE, Int.reduceEq, Int.reduceNe, Int.reduceBEq, Int.reduceBNe, Int.reduceTMod, Int.reduceTDiv, ↓if_true, ↓if_false], by simp (maxSteps := 2000000) (disch := first | assumption | omega | (simp only [nx_push, nx_set, ne_eq] <;> omega) | (simp only [XSide]; done) | decide) only [XWalk, XSl, ↓XPre, reduceIte, Nat.reduceEqDiff, Nat.reduceLT, Nat.reduceAdd, Nat.reduceSub, Nat.reduceMul, Nat.reduceBEq, reduceCtorEq, Int.reduceAdd, Int.reduceSub, Int.reduceMul, Int.reduceLT, Int.reduceLE, Int.reduceGT, Int.reduceGE, Int.reduceEq, Int.reduceNe, Int.reduceBEq, Int.reduceBNe, Int.reduceTMod, Int.reduceTDiv, ↓if_true, ↓if_false], by simp (maxSteps := 2000000) (disch := first | assumption | omega | (simp only [nx_push, nx_set, ne_eq] <;> omega) | (simp only [XSide]; done) | decide) only [XWalk, XSl, ↓XPre, reduceIte, Nat.reduceEqDiff, Nat.reduceLT, Nat.reduceAdd, Nat.reduceSub, Nat.reduceMul, Nat.reduceBEq, reduceCtorEq, Int.reduceAdd, Int.reduceSub, Int.reduceMul, Int.reduceLT, Int.reduceLE, Int.reduceGT, Int.reduceGE, Int.reduceEq, Int.reduceNe, Int.reduceBEq, Int.reduceBNe, Int.reduceTMod, Int.reduceTDiv, ↓if_true, ↓if_false], hw, Nat.le_refl _, fun _ _ _ => rfl, hh, hv, fun _ h => h⟩ ?_
  rintro q e m1 ⟨v5, l5, p5, rfl, hpl, he, q0, q5, q8, q9, hw1, hn1, hf1, hh1, hv5, hb5⟩
  have hlp : p5.length + l5.length ≤ 1099511627776 := by
    have := congrArg List.length hpl
    simp at this; omega
  have hv5ne : ∀ b, slBlk v5 = some b → b < m.next ∧ b ≠ hb := fun b hb' => ⟨hv.blk_lt hw (hb5 b hb'), fun e => hne (by rw [← e]; exact hb5 b hb')⟩
  simp (maxSteps := 2000000) (disch := first | assumption | omega | (simp only [nx_push, nx_set, ne_eq] <;> omega) | (simp only [XSide, F58]; done) | decide) only [XWalk, XSl, ↓XPre, reduceIte, Nat.reduceEqDiff, Nat.reduceLT, Nat.reduceAdd, Nat.reduceSub, Nat.reduceMul, Nat.reduceBEq, reduceCtorEq, Int.reduceAdd, Int.reduceSub, Int.reduceMul, Int.reduceLT, Int.reduceLE, Int.reduceGT, Int.reduceGE, Int.reduceEq, Int.reduceNe, Int.reduceBEq, Int.reduceBNe, Int.reduceTMod, Int.reduceTDiv, ↓if_true, ↓if_false, F58, A58, he, q5, alen_bs hv5]
  refine x_if (fun ht => ?_) (fun ht => ?_)
  · have hl0 : 0 < l5.length := by simp at ht; omega
    obtain ⟨H, R, used, done, cnt, hm1, hs⟩ := hh1
    simp (maxSteps := 2000000) (disch := first | assumption | omega | (simp only [nx_push, nx_set, ne_eq] <;> omega) | (simp only [XSide, F58]; done) | decide) only [XWalk, XSl, ↓XPre, reduceIte, Nat.reduceEqDiff, Nat.reduceLT, Nat.reduceAdd, Nat.reduceSub, Nat.reduceMul, Nat.reduceBEq, reduceCtorEq, Int.reduceAdd, Int.reduceSub, Int.reduceMul, Int.reduceLT, Int.reduceLE, Int.reduceGT, Int.reduceGE, Int.reduceEq, Int.reduceNe, Int.reduceBEq, Int.reduceBNe, Int.reduceTMod, Int.reduceTDiv, ↓if_true, ↓if_false, F58, A58, he, q0, hm1, hr72 hs.lH hs.lR]
    have hm1lt : hb < m1.next := by omega
    refine x_join (fun e m2 => ∃ H1 done1 used1, e.n = 65 ∧ e.get 0 = .pointer (some ⟨hb, 0, none⟩) ∧ e.get 5 = v5 ∧ e.get 8 = .int .i64 1 ∧ e.get 9 = .int .i64 0 ∧ WF m2 ∧ m1.next ≤ m2.next ∧ (∀ b, b < m1.next → b ≠ hb → m2.get b = m1.get b) ∧
      m2.get hb = some (.row (hashRow H1 R used1 done1 cnt) .rw) ∧ H1.length = 8 ∧ used1 < 64 ∧ done1 + used1 = p5.length ∧ ∀ more, hashFin k 0 (p5 ++ (l5.take 1 ++ more)) = hashFin H1 done1 (R.take used1 ++ (l5.take 1 ++ more))) (fun hu => ?_) (fun hu => ?_) ?_
    · have hu64 : used = 64 := by simp at hu; omega
      subst hu64
      have e1 : IntKind.wrap .u64 ((done : Int) + 64) = ((done + 64 : Nat) : Int) := by rw [wrap_u64 (by omega) (by have := hs.sum; omega)]; omega
      simp (maxSteps := 2000000) (disch := first | assumption | omega | (simp only [nx_push, nx_set, ne_eq] <;> omega) | (simp only [XSide, F58]; done) | decide) only [XWalk, XSl, ↓XPre, reduceIte, Nat.reduceEqDiff, Nat.reduceLT, Nat.reduceAdd, Nat.reduceSub, Nat.reduceMul, Nat.reduceBEq, reduceCtorEq, Int.reduceAdd, Int.reduceSub, Int.reduceMul, Int.reduceLT, Int.reduceLE, Int.reduceGT, Int.reduceGE, Int.reduceEq, Int.reduceNe, Int.reduceBEq, Int.reduceBNe, Int.reduceTMod, Int.reduceTDiv, ↓if_true, ↓if_false, F58, A58, he, q0, hm1, hr73 hs.lH hs.lR, e1, hr_len hs.lH hs.lR, hr_set73 hs.lH hs.lR]
      refine x_draw [0, 1, 3, 0, 8, 24, 56, 0, 128, 384, 896, 2047] (by kernel_rfl) ?_
      simp (maxSteps := 2000000) (disch := first | assumption | omega | (simp only [nx_push, nx_set, ne_eq] <;> omega) | (simp only [XSide, F58]; done) | decide) only [XWalk, XSl, ↓XPre, reduceIte, Nat.reduceEqDiff, Nat.reduceLT, Nat.reduceAdd, Nat.reduceSub, Nat.reduceMul, Nat.reduceBEq, reduceCtorEq, Int.reduceAdd, Int.reduceSub, Int.reduceMul, Int.reduceLT, Int.reduceLE, Int.reduceGT, Int.reduceGE, Int.reduceEq, Int.reduceNe, Int.reduceBEq, Int.reduceBNe, Int.reduceTMod, Int.reduceTDiv, ↓if_true, ↓if_false, F58, A58, he, q0, hr73 hs.lH hs.lR]
      refine wcall_of specLoc (compress_ct (ho := 0) (bo := 8) (hs := hashRow H R 64 (done + 64) cnt) (bs := hashRow H R 64 (done + 64) cnt) (H := H) (l := R) (hw1.set hm1lt) (by simp (maxSteps := 2000000) (disch := first | assumption | omega | (simp only [nx_push, nx_set, ne_eq] <;> omega) | (simp only [XSide]; done) | decide) only [XWalk, XSl, ↓XPre, reduceIte, Nat.reduceEqDiff, Nat.reduceLT, Nat.reduceAdd, Nat.reduceSub, Nat.reduceMul, Nat.reduceBEq, reduceCtorEq, Int.reduceAdd, Int.reduceSub, Int.reduceMul, Int.reduceLT, Int.reduceLE, Int.reduceGT, Int.reduceGE, Int.reduceEq, Int.reduceNe, Int.reduceBEq, Int.reduceBNe, Int.reduceTMod, Int.reduceTDiv, ↓if_true, ↓if_false]) (hr_words hs.lH) hs.lH (by rw [hr_len hs.lH hs.lR]; omega) (by simp (maxSteps := 2000000) (disch := first | assumption | omega | (simp only [nx_push, nx_set, ne_eq] <;> omega) | (simp only [XSide]; done) | decide) only [XWalk, XSl, ↓XPre, reduceIte, Nat.reduceEqDiff, Nat.reduceLT, Nat.reduceAdd, Nat.reduceSub, Nat.reduceMul, Nat.reduceBEq, reduceCtorEq, Int.reduceAdd, Int.reduceSub, Int.reduceMul, Int.reduceLT, Int.reduceLE, Int.reduceGT, Int.reduceGE, Int.reduceEq, Int.reduceNe, Int.reduceBEq, Int.reduceBNe, Int.reduceTMod, Int.reduceTDiv, ↓if_true, ↓if_false]) (hr_rest hs.lH hs.lR) hs.lR (Nat.le_refl _) (by have := hs.sum; omega)) (hw1.set hm1lt) (fun b hb' hlt => hb') ?_
      rintro out m3 wr hwr hw3 hn3 hf3 _ ⟨rfl, hh3⟩
      rw [hr_win hs.lH compressW_length] at hh3
      simp only [Mem.next_set] at hn3 hf3
      simp (maxSteps := 2000000) (disch := first | assumption | omega | (simp only [nx_push, nx_set, ne_eq] <;> omega) | (simp only [XSide, F58]; done) | decide) only [XWalk, XSl, ↓XPre, reduceIte, Nat.reduceEqDiff, Nat.reduceLT, Nat.reduceAdd, Nat.reduceSub, Nat.reduceMul, Nat.reduceBEq, reduceCtorEq, Int.reduceAdd, Int.reduceSub, Int.reduceMul, Int.reduceLT, Int.reduceLE, Int.reduceGT, Int.reduceGE, Int.reduceEq, Int.reduceNe, Int.reduceBEq, Int.reduceBNe, Int.reduceTMod, Int.reduceTDiv, ↓if_true, ↓if_false, F58, A58, he, q0, hh3, hr_len compressW_length hs.lR]
      obtain ⟨x5, y5, rfl⟩ : ∃ x5 y5, l5 = x5 :: y5 := by
        cases l5 with
        | nil => simp at hl0
        | cons x y => exact ⟨x, y, rfl⟩
      refine ⟨compressW H R (done + 64) false, done + 64, 0, q5, q8, q9, by (repeat (first | exact hw3 | apply WF.push | (refine WF.set ?_ (by first | omega | (simp only [Mem.next_set, Mem.next_push]; omega))))), hn3, fun b hb1 hb2 => ?_, ?_, compressW_length, by omega, by have := hs.sum; omega, fun more => ?_⟩
      · rw [get_set_ne hb2, hf3 b (by omega) (by simpa using hb2), get_set_ne hb2]
      · congr 2
        exact hr_set72 (n := 0) compressW_length hs.lR
      · exact hs.flush (q := x5) (qs := []) more
    · have hu64 : used ≠ 64 := by
        rintro rfl
        simp at hu
      simp (maxSteps := 2000000) (disch := first | assumption | omega | (simp only [nx_push, nx_set, ne_eq] <;> omega) | (simp only [XSide, F58]; done) | decide) only [XWalk, XSl, ↓XPre, reduceIte, Nat.reduceEqDiff, Nat.reduceLT, Nat.reduceAdd, Nat.reduceSub, Nat.reduceMul, Nat.reduceBEq, reduceCtorEq, Int.reduceAdd, Int.reduceSub, Int.reduceMul, Int.reduceLT, Int.reduceLE, Int.reduceGT, Int.reduceGE, Int.reduceEq, Int.reduceNe, Int.reduceBEq, Int.reduceBNe, Int.reduceTMod, Int.reduceTDiv, ↓if_true, ↓if_false, F58, A58]
      exact ⟨H, done, used, he, q0, q5, q8, q9, hw1, Nat.le_refl _, by simp, hm1, hs.lH, by have := hs.le; omega, hs.sum, fun more => hs.fin _⟩
    · rintro e m2 ⟨H1, done1, used1, he, q0, q5, q8, q9, hw2, hn2, hf2, hm2, lH1, lu1, hsum1, hfin1⟩
      have hv5' : Bs m2 v5 l5 := hv5.frame_at fun b hb' => hf2 b (by have := hv5ne b hb'; omega) (hv5ne b hb').2
      simp (maxSteps := 2000000) (disch := first | assumption | omega | (simp only [nx_push, nx_set, ne_eq] <;> omega) | (simp only [XSide, F58]; done) | decide) only [XWalk, XSl, ↓XPre, reduceIte, Nat.reduceEqDiff, Nat.reduceLT, Nat.reduceAdd, Nat.reduceSub, Nat.reduceMul, Nat.reduceBEq, reduceCtorEq, Int.reduceAdd, Int.reduceSub, Int.reduceMul, Int.reduceLT, Int.reduceLE, Int.reduceGT, Int.reduceGE, Int.reduceEq, Int.reduceNe, Int.reduceBEq, Int.reduceBNe, Int.reduceTMod, Int.reduceTDiv, ↓if_true, ↓if_false, F58, A58]
      refine x_draw [0, 1, 3, 0, 8, 24, 56, 127, 0, 511, 1023] (by kernel_rfl) ?_
      simp (maxSteps := 2000000) (disch := first | assumption | omega | (simp only [nx_push, nx_set, ne_eq] <;> omega) | (simp only [XSide, F58]; done) | decide) only [XWalk, XSl, ↓XPre, reduceIte, Nat.reduceEqDiff, Nat.reduceLT, Nat.reduceAdd, Nat.reduceSub, Nat.reduceMul, Nat.reduceBEq, reduceCtorEq, Int.reduceAdd, Int.reduceSub, Int.reduceMul, Int.reduceLT, Int.reduceLE, Int.reduceGT, Int.reduceGE, Int.reduceEq, Int.reduceNe, Int.reduceBEq, Int.reduceBNe, Int.reduceTMod, Int.reduceTDiv, ↓if_true, ↓if_false, F58, A58, he, q0, q5, q8, q9, hm2, hr72 lH1 hs.lR]
      rw [acopy_sl (by simp only [F58]) hv5' hm2 u8s_one (by rw [u8s_length]; omega) (by rw [u8s_length, hr_len lH1 hs.lR]; omega)]
      have hcp : (u8s l5).take (min (u8s l5).length (64 - used1)) = u8s (l5.take (64 - used1)) := by rw [u8s_length, u8s_take]; congr 1; rw [List.take_eq_take_iff]; omega
      have hcl : (l5.take (64 - used1)).length = min (u8s l5).length (64 - used1) := by rw [u8s_length, List.length_take]; omega
      rw [hcp, ← hcl, hr_copy lH1 hs.lR (by rw [List.length_take]; omega)]
      generalize hn : (l5.take (64 - used1)).length = n at *
      have lR' : (R.take used1 ++ l5.take (64 - used1) ++ R.drop (used1 + n)).length = 64 := by rw [List.length_append, List.length_append, hn, List.length_take, List.length_drop, hs.lR]; omega
      generalize hR' : R.take used1 ++ l5.take (64 - used1) ++ R.drop (used1 + n) = R' at *
      simp (maxSteps := 2000000) (disch := first | assumption | omega | (simp only [nx_push, nx_set, ne_eq] <;> omega) | (simp only [XSide, F58]; done) | decide) only [XWalk, XSl, ↓XPre, reduceIte, Nat.reduceEqDiff, Nat.reduceLT, Nat.reduceAdd, Nat.reduceSub, Nat.reduceMul, Nat.reduceBEq, reduceCtorEq, Int.reduceAdd, Int.reduceSub, Int.reduceMul, Int.reduceLT, Int.reduceLE, Int.reduceGT, Int.reduceGE, Int.reduceEq, Int.reduceNe, Int.reduceBEq, Int.reduceBNe, Int.reduceTMod, Int.reduceTDiv, ↓if_true, ↓if_false, F58, A58, he, q0, q5, q8, q9, hr72 lH1 lR', hr_len lH1 lR']
      have en : ((used1 : Int) + (n : Int)) = ((used1 + n : Nat) : Int) := by omega
      rw [en, hr_set72 lH1 lR']
      have hnl : n ≤ l5.length := by rw [← hn, List.length_take]; omega
      have hv5'' : Bs ((m2.set hb (.row (hashRow H1 R' used1 done1 cnt) .rw)).set hb (.row (hashRow H1 R' (used1 + n) done1 cnt) .rw)) v5 l5 := hv5'.frame_at fun b hb' => by rw [get_set_ne (hv5ne b hb').2, get_set_ne (hv5ne b hb').2]
      refine hv5''.wslice (a := n) (b := l5.length) (by simp only [F58]) (hv5.not_nil hl0) rfl rfl hnl (Nat.le_refl _) fun v6 hv6 hb6 => ?_
      simp (maxSteps := 2000000) (disch := first | assumption | omega | (simp only [nx_push, nx_set, ne_eq] <;> omega) | (simp only [XSide, F58]; done) | decide) only [XWalk, XSl, ↓XPre, reduceIte, Nat.reduceEqDiff, Nat.reduceLT, Nat.reduceAdd, Nat.reduceSub, Nat.reduceMul, Nat.reduceBEq, reduceCtorEq, Int.reduceAdd, Int.reduceSub, Int.reduceMul, Int.reduceLT, Int.reduceLE, Int.reduceGT, Int.reduceGE, Int.reduceEq, Int.reduceNe, Int.reduceBEq, Int.reduceBNe, Int.reduceTMod, Int.reduceTDiv, ↓if_true, ↓if_false, F58, A58, he, q0, q5, q8, q9]
      have hn0 : 0 < n := by rw [← hn, List.length_take]; omega
      have htk : l5.take n = l5.take 1 ++ (l5.take n).drop 1 := by
        have := (List.take_append_drop 1 (l5.take n)).symm
        rw [List.take_take, Nat.min_eq_left hn0] at this
        exact this
      have hta : l5.take (64 - used1) = l5.take n := by
        rw [List.take_eq_take_iff, ← hn, List.length_take]; omega
      refine ⟨l5.length - n, by omega, v6, l5.drop n, p5 ++ l5.take n, by simp, by rw [List.append_assoc, List.take_append_drop]; exact hpl, rfl, by (repeat (first | exact hw2 | apply WF.push | (refine WF.set ?_ (by first | omega | (simp only [Mem.next_set, Mem.next_push]; omega))))), by omega, fun b hb1 hb2 => ?_, ⟨H1, R', used1 + n, done1, cnt, by simp (maxSteps := 2000000) (disch := first | assumption | omega | (simp only [nx_push, nx_set, ne_eq] <;> omega) | (simp only [XSide]; done) | decide) only [XWalk, XSl, ↓XPre, reduceIte, Nat.reduceEqDiff, Nat.reduceLT, Nat.reduceAdd, Nat.reduceSub, Nat.reduceMul, Nat.reduceBEq, reduceCtorEq, Int.reduceAdd, Int.reduceSub, Int.reduceMul, Int.reduceLT, Int.reduceLE, Int.reduceGT, Int.reduceGE, Int.reduceEq, Int.reduceNe, Int.reduceBEq, Int.reduceBNe, Int.reduceTMod, Int.reduceTDiv, ↓if_true, ↓if_false], lH1, lR', ?_, ?_, fun more => ?_⟩, ?_, fun b hb' => hb5 b (hb6 b hb')⟩
      · rw [get_set_ne hb2, get_set_ne hb2, hf2 b (by omega) hb2]; exact hf1 b hb1 hb2
      · rw [← hn, List.length_take]; omega
      · rw [List.length_append, List.length_take]; omega
      · have e5 : R'.take (used1 + n) = R.take used1 ++ l5.take n := by
          rw [← hR', hta]
          have hl : (R.take used1 ++ l5.take n).length = used1 + n := by rw [List.length_append, List.length_take, List.length_take, hs.lR]; omega
          rw [← hl, List.take_left]
        rw [e5, List.append_assoc, List.append_assoc, htk, List.append_assoc]
        exact hfin1 _
      · rw [List.take_of_length_le (by simp)] at hv6; exact hv6
  · have hl0 : l5 = [] := by
      have := of_decide_eq_false ht
      exact List.eq_nil_of_length_eq_zero (by omega)
    subst hl0
    simp (maxSteps := 2000000) (disch := first | assumption | omega | (simp only [nx_push, nx_set, ne_eq] <;> omega) | (simp only [XSide, F58]; done) | decide) only [XWalk, XSl, ↓XPre, reduceIte, Nat.reduceEqDiff, Nat.reduceLT, Nat.reduceAdd, Nat.reduceSub, Nat.reduceMul, Nat.reduceBEq, reduceCtorEq, Int.reduceAdd, Int.reduceSub, Int.reduceMul, Int.reduceLT, Int.reduceLE, Int.reduceGT, Int.reduceGE, Int.reduceEq, Int.reduceNe, Int.reduceBEq, Int.reduceBNe, Int.reduceTMod, Int.reduceTDiv, ↓if_true, ↓if_false, F58, A58, he, q9]
    refine x_loop_once ?_
    simp (maxSteps := 2000000) (disch := first | assumption | omega | (simp only [nx_push, nx_set, ne_eq] <;> omega) | (simp only [XSide, F58]; done) | decide) only [XWalk, XSl, ↓XPre, reduceIte, Nat.reduceEqDiff, Nat.reduceLT, Nat.reduceAdd, Nat.reduceSub, Nat.reduceMul, Nat.reduceBEq, reduceCtorEq, Int.reduceAdd, Int.reduceSub, Int.reduceMul, Int.reduceLT, Int.reduceLE, Int.reduceGT, Int.reduceGE, Int.reduceEq, Int.reduceNe, Int.reduceBEq, Int.reduceBNe, Int.reduceTMod, Int.reduceTDiv, ↓if_true, ↓if_false, F58, A58, he, q8, q9, cast_lit]
    rw [List.append_nil] at hpl
    rw [← hpl]; exact hh1

end Go.Big
