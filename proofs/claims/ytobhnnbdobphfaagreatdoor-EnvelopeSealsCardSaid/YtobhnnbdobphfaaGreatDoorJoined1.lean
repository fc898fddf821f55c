/- An abstract memory and a deterministic evaluator over it: definitions, and the laws of the finite map. -/
import Derived.Orders
import Derived.Below
import Derived.KernelRfl
import Derived.Laws.IdiomCopy
import Derived.Laws.Cells
import Derived.Laws.Rows
import Derived.Laws.World
import Derived.Laws.Sem
import Derived.Room.Entries
import Derived.Laws.BytesString
import Derived.Laws.AppendOwn
set_option linter.unusedSimpArgs false
set_option linter.unusedVariables false
namespace Go.Big

/-- A finite map from numbers, as a tree. -/
inductive T (α : Type) where
  | nil
  | node (l : T α) (v : Option α) (r : T α)
  | over (k : Nat) (v : α) (t : T α)

def T.get {α : Type} : T α → Nat → Option α
  | .nil, _ => none
  | .node l v r, k => bif Nat.beq k 0 then v else bif Nat.beq (k % 2) 1 then l.get (k / 2) else r.get (k / 2 - 1)
  | .over j v t, k => bif Nat.beq k j then some v else t.get k

def T.set {α : Type} : Nat → T α → Nat → α → T α
  | 0, t, k, v => .over k v t
  | n + 1, .nil, k, v =>
    bif Nat.beq k 0 then .node .nil (some v) .nil else bif Nat.beq (k % 2) 1 then .node (T.set n .nil (k / 2) v) none .nil
    else .node .nil none (T.set n .nil (k / 2 - 1) v)
  | n + 1, .node l x r, k, v =>
    bif Nat.beq k 0 then .node l (some v) r else bif Nat.beq (k % 2) 1 then .node (T.set n l (k / 2) v) x r
    else .node l x (T.set n r (k / 2 - 1) v)
  | _ + 1, .over j u t, k, v => .over k v (.over j u t)

theorem T.get_set {α : Type} (v : α) : ∀ (n : Nat) (t : T α) (k j : Nat), (T.set n t k v).get j = if j = k then some v else t.get j := by
  have hb : ∀ a b : Nat, Nat.beq a b = decide (a = b) := fun a b => by
    cases h : Nat.beq a b with
    | true => simp [Nat.eq_of_beq_eq_true h]
    | false => simp [Nat.ne_of_beq_eq_false h]
  intro n
  induction n with
  | zero => intro t k j; by_cases h : j = k <;> simp [T.set, T.get, hb, h]
  | succ n ih =>
    intro t k j
    cases t with
    | nil =>
      by_cases hk : k = 0
      · subst hk; by_cases hj : j = 0 <;> simp [T.set, T.get, hb, hj]
      · by_cases hp : k % 2 = 1
        · by_cases hj : j = 0
          · subst hj; simp [T.set, T.get, hb, hk, hp, Ne.symm hk]
          · by_cases hq : j % 2 = 1
            · have : (j / 2 = k / 2) ↔ j = k := by omega
              simp [T.set, T.get, hb, hk, hp, hj, hq, ih, this]
            · have : j ≠ k := by omega
              simp [T.set, T.get, hb, hk, hp, hj, hq, this]
        · by_cases hj : j = 0
          · subst hj; simp [T.set, T.get, hb, hk, hp, Ne.symm hk]
          · by_cases hq : j % 2 = 1
            · have : j ≠ k := by omega
              simp [T.set, T.get, hb, hk, hp, hj, hq, this]
            · have : (j / 2 - 1 = k / 2 - 1) ↔ j = k := by omega
              simp [T.set, T.get, hb, hk, hp, hj, hq, ih, this]
    | node l x r =>
      by_cases hk : k = 0
      · subst hk; by_cases hj : j = 0 <;> simp [T.set, T.get, hb, hj]
      · by_cases hp : k % 2 = 1
        · by_cases hj : j = 0
          · subst hj; simp [T.set, T.get, hb, hk, hp, Ne.symm hk]
          · by_cases hq : j % 2 = 1
            · have : (j / 2 = k / 2) ↔ j = k := by omega
              simp [T.set, T.get, hb, hk, hp, hj, hq, ih, this]
            · have : j ≠ k := by omega
              simp [T.set, T.get, hb, hk, hp, hj, hq, this]
        · by_cases hj : j = 0
          · subst hj; simp [T.set, T.get, hb, hk, hp, Ne.symm hk]
          · by_cases hq : j % 2 = 1
            · have : j ≠ k := by omega
              simp [T.set, T.get, hb, hk, hp, hj, hq, this]
            · have : (j / 2 - 1 = k / 2 - 1) ↔ j = k := by omega
              simp [T.set, T.get, hb, hk, hp, hj, hq, ih, this]
    | over i u t => by_cases h : j = k <;> simp [T.set, T.get, hb, h]

/-- What a row of cells may be used for: only read; read and written; the same, with spare room behind its end of which nothing is known (elements of so many cells). -/
inductive Kind where
  | ro | rw | slack (size : Nat)
  deriving DecidableEq

inductive AObj where
  | row (cells : List Value) (kind : Kind)
  | map (entries : List MapEntry) (clock : Nat)
  | dead

structure Mem where
  next : Nat
  t : T AObj

def Mem.get (m : Mem) (b : Nat) : Option AObj := m.t.get b
def Mem.set (m : Mem) (b : Nat) (o : AObj) : Mem := { next := m.next, t := T.set 24 m.t b o }
def Mem.push (m : Mem) (o : AObj) : Mem := { next := m.next + 1, t := T.set 24 m.t m.next o }
def Mem.at_ (m : Mem) (n : Nat) : Mem := { next := n, t := m.t }

theorem Mem.get_set (m : Mem) (b j : Nat) (o : AObj) : (m.set b o).get j = if j = b then some o else m.get j := T.get_set o 24 m.t b j
theorem Mem.get_push (m : Mem) (j : Nat) (o : AObj) : (m.push o).get j = if j = m.next then some o else m.get j := T.get_set o 24 m.t m.next j
@[simp] theorem Mem.next_set (m : Mem) (b : Nat) (o : AObj) : (m.set b o).next = m.next := rfl
@[simp] theorem Mem.next_push (m : Mem) (o : AObj) : (m.push o).next = m.next + 1 := rfl
@[simp] theorem Mem.get_at (m : Mem) (n b : Nat) : (m.at_ n).get b = m.get b := rfl
@[simp] theorem Mem.next_at (m : Mem) (n : Nat) : (m.at_ n).next = n := rfl

/-- The temporaries of a frame. -/
structure Env where
  n : Nat
  t : T Value

def Env.get (e : Env) (d : Nat) : Value := (e.t.get d).getD undef
def Env.set (e : Env) (d : Nat) (v : Value) : Env := { n := e.n, t := T.set 12 e.t d v }
def Env.put (e : Env) (d : Option Nat) (v : Value) : Option Env :=
  match d with
  | none => some e
  | some d => bif Nat.blt d e.n then some (e.set d v) else none

theorem Env.get_set (e : Env) (d j : Nat) (v : Value) : (e.set d v).get j = if j = d then v else e.get j := by
  unfold Env.get Env.set
  simp only [T.get_set]
  by_cases h : j = d <;> simp [h]
@[simp] theorem Env.n_set (e : Env) (d : Nat) (v : Value) : (e.set d v).n = e.n := rfl

def Env.ofArgs (n : Nat) : Nat → List Value → Env
  | _, [] => { n, t := .nil }
  | i, v :: r => (Env.ofArgs n (i + 1) r).set i v

def Env.eval (e : Env) : Operand → Value
  | .tmp t => e.get t
  | .const v => v
  | .global _ => undef
  | .func f => .func (.func f) #[] #[]

/-- A value without an address in one cell. -/
def scalar : Value → Bool
  | .bool _ | .int _ _ | .float _ _ | .complex _ _ _ | .string _ | .pointer none | .slice none _ _ | .map none | .nilFunc | .nilIface => true
  | _ => false

def plain1 : Value → Bool
  | .agg cs => cs.toList.all scalar
  | v => scalar v

def plain : Value → Bool
  | .iface _ v => plain1 v
  | .tuple cs => cs.toList.all plain1
  | v => plain1 v

/-- A value of one cell. -/
def oneCell : Value → Bool
  | .agg _ | .tuple _ => false
  | _ => true

/-- What a computation without memory comes to. -/
def eval0 {α : Type} (P : Program) : Sem α → Option α
  | .pure a => some a
  | .program k => eval0 P (k P)
  | _ => none

theorem eval0_run {α : Type} (P : Program) (w : World) : ∀ (s : Sem α) (a : α), eval0 P s = some a → s.run P w = .ok a w := by
  intro s
  induction s with
  | pure x => intro a h; simp [eval0] at h; subst h; rfl
  | program k ih => intro a h; exact ih P a h
  | _ => intro a h; simp [eval0] at h

def isAggD : TypeDesc → Bool
  | .struct _ | .array _ _ => true
  | _ => false

def loadN (cs : List Value) (off n : Nat) : Option (List Value) :=
  let l := (cs.drop off).take n
  bif Nat.beq l.length n then some l else none

def storeN (cs : List Value) (off : Nat) (vs : List Value) : Option (List Value) :=
  bif Nat.ble (off + vs.length) cs.length then some (cs.take off ++ vs ++ cs.drop (off + vs.length)) else none

def cell1 (cs : List Value) (off : Nat) : Option Value := (cs.drop off).head?

def szOf (P : Program) (t : TypeId) : Option Nat := (P.info? t).map (·.size)

def aload (P : Program) (t : TypeId) (a : Addr) (m : Mem) : Option Value :=
  match a.spot, m.get a.block, P.underlying t, szOf P t with
  | none, some (.row cs _), some d, some n => bif isAggD d then (loadN cs a.off n).map (fun l => .agg l.toArray) else cell1 cs a.off
  | _, _, _, _ => none

def writable : Kind → Bool
  | .ro => false
  | _ => true

/-- Cells written into a row. -/
def putCells (m : Mem) (b off : Nat) (vs : List Value) : Option Mem :=
  match m.get b with
  | some (.row cs k) => bif writable k && vs.all oneCell then (storeN cs off vs).map fun cs' => m.set b (.row cs' k) else none
  | _ => none

def getCells (m : Mem) (b off n : Nat) : Option (List Value) :=
  match m.get b with
  | some (.row cs _) => loadN cs off n
  | _ => none

def astore (P : Program) (t : TypeId) (a : Addr) (v : Value) (m : Mem) : Option Mem :=
  match a.spot, szOf P t with
  | none, some n => bif Nat.beq v.cells.size n then putCells m a.block a.off v.cells.toList else none
  | _, _ => none

def newCells (m : Mem) (cs : List Value) (k : Kind) : Option (Value × Mem) :=
  bif cs.all oneCell then some (.pointer (some ⟨m.next, 0, none⟩), m.push (.row cs k)) else none

/-- An empty slice of which only that is known (and that it is not nil). -/
def deadS : Value := .slice (some ⟨0, 0, some 0⟩) 0 0

/-- Does a slice reach the end of a row with spare room? -/
def isOpen (cs : List Value) (k : Kind) (off cap : Nat) : Bool :=
  match k with
  | .slack s => Nat.beq (off + cap * s) cs.length
  | _ => false

def natOf : Value → Option Nat
  | .int _ (.ofNat n) => some n
  | _ => none

def optNat (d : Option Nat) : Option Value → Option Nat
  | some v => natOf v
  | none => d

/-- The three bounds of a slice expression. -/
def bounds (len cap : Nat) (lo hi mx : Option Value) : Option (Nat × Nat × Nat) :=
  (optNat (some cap) mx).bind fun m => (optNat (bif mx.isSome then none else some len) hi).bind fun h => (optNat (some 0) lo).bind fun l =>
    bif Nat.ble m cap && Nat.ble h m && Nat.ble l h then some (l, h, m) else none

/-- The array that a variable is, or a pointer points to. -/
def arrOf (P : Program) (t : TypeId) : Option (Nat × TypeId) :=
  match P.underlying t with
  | some (.array n e) => some (n, e)
  | some (.pointer arr) => (match P.underlying arr with | some (.array n e) => some (n, e) | _ => none)
  | _ => none

/-- A slice with a capacity that is known. -/
def closedS (cs : List Value) (k : Kind) (a : Addr) (s l h mm : Nat) : Option Value :=
  let a' := bif Nat.beq mm l then a else a.add (l * s)
  bif isOpen cs k a'.off (mm - l) then none else some (.slice (some a') (h - l) (mm - l))

def aslice (P : Program) (t : TypeId) (x : Value) (lo hi mx : Option Value) (m : Mem) : Option Value :=
  match x with
  | .pointer (some a) =>
    (match arrOf P t, a.spot, m.get a.block with
    | some (n, e), none, some (.row cs k) =>
      (match bounds n n lo hi mx, szOf P e with
      | some (l, h, mm), some s => closedS cs k a s l h mm
      | _, _ => none)
    | _, _, _ => none)
  | .slice (some a) len cap =>
    (match P.underlying t with
    | some (.slice elem) =>
      (match bounds len cap lo hi mx, szOf P elem with
      | some (l, h, mm), some s =>
        (match a.spot with
        | some _ => bif Nat.beq len 0 && Nat.beq cap 0 && mx.isNone then some deadS else none
        | none =>
          (match m.get a.block with
          | some (.row cs k) =>
            bif isOpen cs k a.off cap && mx.isNone then
              (match k with
              | .slack s' => bif Nat.beq s s' then (bif Nat.beq l cap then some deadS else some (.slice (some (a.add (l * s))) (h - l) (mm - l))) else none
              | _ => none)
            else bif isOpen cs k a.off cap then none
            else closedS cs k a s l h mm
          | _ => none))
      | _, _ => none)
    | _ => none)
  | _ => none

def bytesCells (s : ByteArray) : List Value := s.data.toList.map fun b => .int .u8 b.toNat

/-- The elements of a slice or a string: how many, and their cells. -/
def elemsOf (size : Nat) (x : Value) (m : Mem) : Option (Nat × List Value) :=
  match x with
  | .slice none n _ => bif Nat.beq n 0 then some (0, []) else none
  | .slice (some a) n _ =>
    match a.spot with
    | some _ => bif Nat.beq n 0 then some (0, []) else none
    | none => (getCells m a.block a.off (n * size)).map fun l => (n, l)
  | .string s => bif Nat.beq size 1 then some (s.size, bytesCells s) else none
  | _ => none

inductive Rd where
  | no
  | one (b : Nat)
  | all

/-- What is read at an address. -/
def rdA (a : Addr) : Rd := match a.spot with | none => .one a.block | some _ => .no
/-- What is read of a slice. -/
def rdV : Value → Rd
  | .pointer (some a) | .slice (some a) _ _ => rdA a
  | _ => .no

abbrev Res := Option (Value × Mem × List Nat × Rd)

def smallB (need bytes : Nat) : Bool := Nat.ble need 1073741824 && Nat.ble bytes 65536

def sliceish : Option TypeDesc → Bool
  | some (.int _) => false
  | none => false
  | _ => true

def appendTo (size bytes n : Nat) (new : List Value) (s : Value) (m : Mem) : Res :=
  match s with
  | .slice none 0 0 =>
    bif Nat.beq n 0 then some (.slice none 0 0, m, [], .all)
    else bif smallB n bytes && new.all oneCell then some (.slice (some ⟨m.next, 0, none⟩) n n, m.push (.row new (.slack size)), [], .all) else none
  | .slice (some a) sLen sCap =>
    match a.spot with
    | some _ => bif Nat.beq n 0 && Nat.beq sLen 0 then some (deadS, m, [], .all) else none
    | none =>
      bif Nat.beq n 0 && Nat.ble sLen sCap then some (.slice (some a) sLen sCap, m, [], .all)
      else bif Nat.ble (sLen + n) sCap then (putCells m a.block (a.off + sLen * size) new).map fun m' => (.slice (some a) (sLen + n) sCap, m', [a.block], .all)
      else
        match m.get a.block, getCells m a.block a.off (sLen * size) with
        | some (.row cs k), some old =>
          bif smallB (sLen + n) bytes && new.all oneCell then
            (bif isOpen cs k a.off sCap then
              (match k with
              | .slack s' => bif Nat.beq s' size then
                  some (.slice (some ⟨m.next, 0, none⟩) (sLen + n) (sLen + n), (m.set a.block .dead).push (.row (old ++ new) (.slack size)), [a.block], .all)
                else none
              | _ => none)
            else some (.slice (some ⟨m.next, 0, none⟩) (sLen + n) (sLen + n), m.push (.row (old ++ new) (.slack size)), [], .all))
          else none
        | _, _ => none
  | _ => none

def zeroCellsN (z : List Value) : Nat → List Value
  | 0 => []
  | n + 1 => z ++ zeroCellsN z n

def intish : Option TypeDesc → Bool
  | some (.int _) => true
  | _ => false

/-- So many zero elements appended to nil. -/
def appendZ (size bytes : Nat) (z : List Value) (s x : Value) (m : Mem) : Res :=
  match s, natOf x with
  | .slice none 0 0, some n => bif Nat.blt 0 n && smallB n bytes then some (.slice (some ⟨m.next, 0, none⟩) n n, m.push (.row (zeroCellsN z n) (.slack size)), [], .all) else none
  | _, _ => none

def aappend (P : Program) (argTypes : Array TypeId) (s x : Value) (m : Mem) : Res :=
  match (argTypes[0]?).bind P.underlying, (argTypes[1]?).bind P.underlying with
  | some (.slice elem), xd =>
    match szOf P elem, (P.info? elem).map (·.bytes), (P.info? elem).bind (·.zero) with
    | some size, some bytes, some z =>
      bif Nat.beq z.cells.size size && sliceish xd && Nat.blt 0 size then
        match elemsOf size x m with
        | none => none
        | some (n, new) => appendTo size bytes n new s m
      else bif Nat.beq z.cells.size size && intish xd && Nat.blt 0 size && z.cells.toList.all scalar then appendZ size bytes z.cells.toList s x m
      else none
    | _, _, _ => none
  | _, _ => none

def acopy (P : Program) (argTypes : Array TypeId) (d x : Value) (m : Mem) : Res :=
  match (argTypes[0]?).bind P.underlying with
  | some (.slice elem) =>
    match szOf P elem, elemsOf ((szOf P elem).getD 0) x m with
    | some size, some (n, new) =>
      match d with
      | .slice none 0 _ => some (goInt 0, m, [], .all)
      | .slice (some a) dLen _ =>
        let k := Nat.min n dLen
        bif Nat.beq k 0 then some (goInt 0, m, [], .all) else
        match a.spot with
        | some _ => none
        | none => (putCells m a.block a.off (new.take (k * size))).map fun m' => (goInt k, m', [a.block], .all)
      | _ => none
    | _, _ => none
  | _ => none

def aclear (P : Program) (argTypes : Array TypeId) (x : Value) (m : Mem) : Res :=
  match (argTypes[0]?).bind P.underlying, x with
  | some (.slice elem), .slice (some a) n _ =>
    bif Nat.beq n 0 then some (.tuple #[], m, [], .all) else
    match a.spot, (P.info? elem).bind (·.zero) with
    | none, some z => bif z.cells.toList.all scalar then (putCells m a.block a.off (zeroCellsN z.cells.toList n)).map fun m' => (.tuple #[], m', [a.block], .all) else none
    | _, _ => none
  | _, _ => none

def partOf (P : Program) (t : TypeId) (cs : Array Value) (off : Nat) : Option Value :=
  match P.underlying t, szOf P t with
  | some d, some n => bif isAggD d then some (.agg (cs.extract off (off + n))) else cs[off]?
  | _, _ => none

/-- The place in a map of the entry with a key. -/
def findIdx (P : Program) (kt : TypeId) (k : Value) (es : List MapEntry) : Option (Option Nat) :=
  bif plain k && es.all (fun e => plain e.key) then
    (match eval0 P (do Instr.checkKey es.isEmpty 10000 kt k; Instr.checkKey false 10000 kt k; Instr.findKey kt k (es.map fun e => { e with val := undef })) with
    | some r => some (r.map (·.1))
    | none => none)
  else none

def alookup (P : Program) (t : TypeId) (x k : Value) (ok : Bool) (m : Mem) : Res :=
  match P.underlying t, x with
  | some (.map kt et), .map (some r) =>
    match m.get r with
    | some (.map es _) =>
      match findIdx P kt k es, (P.info? et).bind (·.zero) with
      | some (some i), _ => (es[i]?).map fun e => (bif ok then .tuple #[e.val, .bool true] else e.val, m, [], .all)
      | some none, some z => bif plain z then some (bif ok then .tuple #[z, .bool false] else z, m, [], .all) else none
      | _, _ => none
    | _ => none
  | _, _ => none

def amapUpdate (P : Program) (t : TypeId) (x k v : Value) (m : Mem) : Res :=
  match P.underlying t, x with
  | some (.map kt _), .map (some r) =>
    match m.get r with
    | some (.map es clock) =>
      match findIdx P kt k es with
      | some (some i) =>
        (es[i]?).bind fun e => bif Instr.sameBits 10000 e.key k then some (undef, m.set r (.map (es.set i { e with key := k, val := v }) clock), [r], .all) else none
      | some none => some (undef, m.set r (.map (es ++ [{ key := k, val := v, born := clock }]) (clock + 1)), [r], .all)
      | none => none
    | _ => none
  | _, _ => none

def adelete (P : Program) (argTypes : Array TypeId) (x k : Value) (m : Mem) : Res :=
  match (argTypes[0]?).bind P.underlying, x with
  | some (.map kt _), .map (some r) =>
    match m.get r with
    | some (.map es clock) =>
      match findIdx P kt k es with
      | some (some i) => some (.tuple #[], m.set r (.map (es.eraseIdx i) clock), [r], .all)
      | some none => some (.tuple #[], m.set r (.map es clock), [r], .all)
      | none => none
    | _ => none
  | _, _ => none

/-- 'x == nil' where x is not nil, for the types whose values hold addresses. -/
def notNil (d : TypeDesc) (x y : Value) : Bool :=
  match d, x, y with
  | .pointer _, .pointer (some _), .pointer none | .pointer _, .pointer none, .pointer (some _)
  | .slice _, .slice (some _) _ _, .slice none _ _ | .slice _, .slice none _ _, .slice (some _) _ _
  | .map _ _, .map (some _), .map none | .map _ _, .map none, .map (some _)
  | .func _ _ _, .func _ _ _, .nilFunc | .func _ _ _, .nilFunc, .func _ _ _
  | .interface _, .iface _ _, .nilIface | .interface _, .nilIface, .iface _ _ => true
  | _, _, _ => false



def afieldAddr (P : Program) (t : TypeId) (x : Value) (f : Nat) : Option Value :=
  match P.underlying t, x with
  | some (.struct fs), .pointer (some a) =>
    match a.spot, fs[f]? with
    | none, some fd => match szOf P fd.type with
      | some (_ + 1) => some (.pointer (some (a.add fd.offset)))
      | _ => none
    | _, _ => none
  | _, _ => none

def aindexAddr (P : Program) (t : TypeId) (x ix : Value) : Option Value :=
  match P.underlying t, x, natOf ix with
  | some (.array len elem), .pointer (some a), some i | some (.slice elem), .slice (some a) len _, some i =>
    match a.spot, szOf P elem with
    | none, some s => bif Nat.blt i len then some (.pointer (some (a.add (i * s)))) else none
    | _, _ => none
  | _, _, _ => none

/-- Parts laid into a row of cells. -/
def afill (place : Nat → Option (Nat × Nat)) : List Value → List (Nat × Value) → Option (List Value)
  | cells, [] => some cells
  | cells, (i, v) :: rest =>
    match place i with
    | some (off, size) =>
      bif Nat.beq v.cells.size size then (match storeN cells off v.cells.toList with | some c => afill place c rest | none => none) else none
    | none => none

def abuild (P : Program) (t : TypeId) (parts : List (Nat × Value)) : Option Value :=
  match P.underlying t, (P.info? t).bind (·.zero) with
  | some (.struct fields), some z =>
    bif z.cells.toList.all scalar && fields.toList.all (fun f => (szOf P f.type).isSome) then
      (afill (fun i => (fields[i]?).bind fun f => (szOf P f.type).map fun n => (f.offset, n)) z.cells.toList parts).map fun l => .agg l.toArray
    else none
  | some (.array _ elem), some z =>
    bif z.cells.toList.all scalar then
      (match szOf P elem with
      | some size => (afill (fun i => some (i * size, size)) z.cells.toList parts).map fun l => .agg l.toArray
      | none => none)
    else none
  | _, _ => none

def abuildSlice (P : Program) (t : TypeId) (len : Nat) (parts : List (Nat × Value)) (m : Mem) : Option (Value × Mem) :=
  match P.underlying t with
  | some (.slice elem) =>
    match szOf P elem, (P.info? elem).bind (·.zero) with
    | some size, some z =>
      bif Nat.ble (len * size) 65536 && Nat.beq z.cells.size size && z.cells.toList.all scalar then
        match afill (fun i => some (i * size, size)) (zeroCellsN z.cells.toList len) parts with
        | some cells => bif cells.all oneCell then some (.slice (some ⟨m.next, 0, none⟩) len len, m.push (.row cells .rw)) else none
        | none => none
      else none
    | _, _ => none
  | _ => none

def amakeSlice (P : Program) (t : TypeId) (l c : Value) (m : Mem) : Option (Value × Mem) :=
  match P.underlying t, natOf l, natOf c with
  | some (.slice elem), some l, some c =>
    match szOf P elem, (P.info? elem).bind (·.zero), (P.info? elem).map (·.bytes) with
    | some size, some z, some bytes =>
      bif smallB c bytes && Nat.ble l c && Nat.beq z.cells.size size && z.cells.toList.all scalar then
        some (.slice (some ⟨m.next, 0, none⟩) l c, m.push (.row (zeroCellsN z.cells.toList c) .rw))
      else none
    | _, _, _ => none
  | _, _, _ => none

def byteOfCell : Value → Option UInt8
  | .int .u8 n => some (UInt8.ofNat n.toNat)
  | _ => none

def aconvert (P : Program) (src dst : TypeId) (x : Value) (m : Mem) : Res :=
  match P.underlying src, P.underlying dst, x with
  | some .string, some (.slice e), .string s =>
    (match P.underlying e with
    | some (.int .u8) => bif smallB s.size 1 then some (.slice (some ⟨m.next, 0, none⟩) s.size s.size, m.push (.row (bytesCells s) (.slack 1)), [], .no) else none
    | _ => none)
  | some (.slice e), some .string, .slice (some _) _ _ =>
    (match P.underlying e with
    | some (.int .u8) =>
      (match elemsOf 1 x m with
      | some (_, cs) => (cs.mapM byteOfCell).map fun bs => (.string ⟨bs.toArray⟩, m, [], rdV x)
      | none => none)
    | _ => none)
  | some (.slice _), some (.slice e), .slice (some a) n c =>
    (match P.underlying e, a.spot, m.get a.block with
    | some (.int .u8), none, some (.row _ k) => bif Nat.beq src dst && writable k then some (.slice (some a) n c, m, [], .one a.block) else none
    | _, _, _ => none)
  | _, _, _ => none

/-- Operations on values without addresses: the model's own. -/
def pureOp (P : Program) (ρ : Operand → Value) (o : Oper) : Option Value :=
  bif o.op.operands.toList.all (fun x => plain (ρ x)) then
    match eval0 P (execOp ρ o) with
    | some (.value v) => bif plain v then some v else none
    | _ => none
  else none

def pv (m : Mem) (v : Option Value) : Res := v.map fun v => (v, m, [], .no)
def pm (r : Option (Value × Mem)) : Res := r.map fun p => (p.1, p.2, [], .no)

def abuiltin (P : Program) (ρ : Operand → Value) (o : Oper) (b : Builtin) (argTypes : Array TypeId) (args : List Value) (m : Mem) : Res :=
  match b, args with
  | .append, [s, x] => aappend P argTypes s x m
  | .copy, [d, x] => acopy P argTypes d x m
  | .clear, [x] => aclear P argTypes x m
  | .delete, [x, k] => adelete P argTypes x k m
  | .len, [.slice (some _) n _] => (match (argTypes[0]?).bind P.underlying with | some (.slice _) => some (goInt n, m, [], .no) | _ => none)
  | .len, [.map (some r)] =>
    (match (argTypes[0]?).bind P.underlying, m.get r with | some (.map _ _), some (.map es _) => some (goInt es.length, m, [], .all) | _, _ => none)
  | .cap, [.slice (some a) _ c] =>
    (match (argTypes[0]?).bind P.underlying, a.spot, m.get a.block with
    | some (.slice _), none, some (.row cs k) => bif isOpen cs k a.off c then none else some (goInt c, m, [], .all)
    | _, _, _ => none)
  | _, _ => pv m (pureOp P ρ o)

/-- One operation, but for calls of functions. -/
def aop (P : Program) (ρ : Operand → Value) (o : Oper) (m : Mem) : Res :=
  match o.op with
  | .move x | .assign x => some (ρ x, m, [], .no)
  | .pick c a b => (match ρ c with | .bool t => some (bif t then ρ a else ρ b, m, [], .no) | _ => none)
  | .alloc t => (match (P.info? t).bind (·.zero) with | some z => bif z.cells.toList.all scalar then pm (newCells m z.cells.toList .rw) else none | none => none)
  | .box _ x => pm (newCells m (ρ x).cells.toList .rw)
  | .build t ps => pv m (abuild P t (ps.toList.map fun p => (p.1, ρ p.2)))
  | .buildSlice t n ps => pm (abuildSlice P t n (ps.toList.map fun p => (p.1, ρ p.2)) m)
  | .load t a => (match ρ a with | .pointer (some a) => (aload P t a m).map fun v => (v, m, [], .one a.block) | _ => none)
  | .store t a x => (match ρ a with | .pointer (some a) => (astore P t a (ρ x) m).map fun m' => (undef, m', [a.block], .one a.block) | _ => none)
  | .nilCheck x => (match ρ x with | .pointer (some a) => some (.pointer (some a), m, [], .no) | .func (.func f) a b => some (.func (.func f) a b, m, [], .no) | _ => none)
  | .binOp op t x y _ =>
    bif (match op, P.underlying t with | .eql, some d | .neq, some d => notNil d (ρ x) (ρ y) | _, _ => false) then
      some (.bool (match op with | .eql => false | _ => true), m, [], .no)
    else pv m (pureOp P ρ o)
  | .convert s d x =>
    (match ρ x with
    | .string _ => (match P.underlying d with | some (.slice _) => aconvert P s d (ρ x) m | _ => pv m (pureOp P ρ o))
    | .slice (some _) _ _ => aconvert P s d (ρ x) m
    | _ => pv m (pureOp P ρ o))
  | .makeInterface t x => (match P.underlying t with | some (.interface _) => none | some _ => some (.iface t (ρ x), m, [], .no) | none => none)
  | .makeFunc (.func f) first cap => some (.func (.func f) (first.map ρ) (cap.map ρ), m, [], .no)
  | .makeMap _ none => some (.map (some m.next), m.push (.map [] 0), [], .no)
  | .makeSlice t l c => pm (amakeSlice P t (ρ l) (ρ c) m)
  | .slice t x lo hi mx => (match ρ x with
    | .pointer (some _) | .slice (some _) _ _ => (aslice P t (ρ x) (lo.map ρ) (hi.map ρ) (mx.map ρ) m).map fun v => (v, m, [], rdV (ρ x))
    | _ => pv m (pureOp P ρ o))
  | .fieldAddr t x f => pv m (afieldAddr P t (ρ x) f)
  | .field t x f => (match ρ x, P.underlying t with
    | .agg cs, some (.struct fs) => pv m ((fs[f]?).bind fun fd => partOf P fd.type cs fd.offset)
    | _, _ => none)
  | .indexAddr t x i => pv m (aindexAddr P t (ρ x) (ρ i))
  | .index t x i => (match ρ x, P.underlying t with
    | .agg cs, some (.array len e) => pv m ((natOf (ρ i)).bind fun i => (szOf P e).bind fun s => bif Nat.blt i len then partOf P e cs (i * s) else none)
    | _, _ => pv m (pureOp P ρ o))
  | .lookup t x k ok => (match ρ x with | .map (some _) => alookup P t (ρ x) (ρ k) ok m | _ => pv m (pureOp P ρ o))
  | .mapUpdate t x k v => amapUpdate P t (ρ x) (ρ k) (ρ v) m
  | .extract x i => (match ρ x with | .tuple vs => pv m (vs[i]?) | _ => none)
  | .call c => (match c.callee with
    | .builtin b => abuiltin P ρ o b c.argTypes (c.args.toList.map ρ) m
    | _ => none)
  | .select _ _ => none
  | _ => pv m (pureOp P ρ o)

end Go.Big

/- The evaluator: regions, code, calls. -/
namespace Go.Big

/-- How a piece of code ends. -/
inductive Ex where
  | normal
  | exit (id : Nat)
  | ret
  | panic (v : Value)

structure Out where
  ex : Ex
  env : Env
  mem : Mem
  wr : List Nat

inductive COut where
  | ret (v : Value)
  | panic (v : Value)

abbrev CallF := FuncId → List Value → Mem → Option (COut × Mem × List Nat)

inductive OpOut where
  | val (v : Value) (m : Mem) (wr : List Nat) (rd : Rd)
  | panic (v : Value) (m : Mem) (wr : List Nat)

def runOp (P : Program) (call : CallF) (o : Oper) (e : Env) (m : Mem) : Option OpOut :=
  match o.op with
  | .call { callee := .value f, args, argTypes := _ } =>
    (match e.eval f with
    | .func (.func g) first captured =>
      (match call g (first.toList ++ args.toList.map e.eval ++ captured.toList) m with
      | some (.ret v, m', w) => some (.val v m' w .all)
      | some (.panic v, m', w) => some (.panic v m' w)
      | none => none)
    | _ => none)
  | .panic x => (match e.eval x with | .iface t v => some (.panic (.iface t v) m []) | _ => none)
  | _ => (match aop P e.eval o m with | some (v, m', w, r) => some (.val v m' w r) | none => none)

def yieldedA (ops : Array Oper) (e : Env) (j : Nat) : Option Bool :=
  match (ops[j]?).bind (·.dst) with
  | some d => (match e.get d with | .bool b => some b | _ => none)
  | none => none

def keep (base : Nat) (w : List Nat) : List Nat := w.filter fun b => Nat.blt b base

/-- The operations of a region whose order is fixed. -/
def runOps (P : Program) (base : Nat) (call : CallF) (ops : Array Oper) : List Oper → Env → Mem → Option Out
  | [], e, m => some ⟨.normal, e, m, []⟩
  | o :: rest, e, m =>
    bif Region.wanted o (yieldedA ops e) then
      match runOp P call o e m with
      | some (.val v m' w _) =>
        (match e.put o.dst v with
        | some e' => (match runOps P base call ops rest e' m' with
          | some r => some { r with wr := keep base w ++ r.wr }
          | none => none)
        | none => none)
      | some (.panic v m' w) => some ⟨.panic v, e, m', keep base w⟩
      | none => none
    else
      match e.put o.dst undef with
      | some e' => runOps P base call ops rest e' m
      | none => none

/-- What an operation touches: the blocks that it makes, writes and reads. -/
structure Fp where
  lo : Nat
  hi : Nat
  wr : List Nat
  rd : Rd

def Rd.has (r : Rd) (b : Nat) : Bool :=
  match r with
  | .no => false
  | .one c => Nat.beq b c
  | .all => true

def memNat (b : Nat) (l : List Nat) : Bool := l.any fun c => Nat.beq b c

/-- May two operations, the first ahead of the second in the text, be carried out in either order? -/
def Fp.free (f g : Fp) : Bool :=
  f.wr.all (fun b => !(g.rd.has b || memNat b g.wr)) &&
  (match g.rd with
   | .no => true
   | .one b => !(Nat.ble f.lo b && Nat.blt b f.hi)
   | .all => Nat.beq f.lo f.hi) &&
  g.wr.all (fun b => !(f.rd.has b) && !(Nat.ble f.lo b && Nat.blt b f.hi)) &&
  (match f.rd with
   | .one b => !(Nat.ble g.lo b && Nat.blt b g.hi)
   | _ => true)

def Fp.boring (f : Fp) : Bool := Nat.beq f.lo f.hi && f.wr.isEmpty && (match f.rd with | .no => true | _ => false)

/-- The operations that are surely ahead of an operation, as the bits of a number; 'pre' holds those of the earlier ones. -/
def maskOf (pre : T Nat) (o : Oper) : Nat :=
  o.after.toList.foldl (fun s e => bif Region.binds .any e then Nat.lor s (Nat.lor (2 ^ e.on) ((pre.get e.on).getD 0)) else s) 0

/-- The operations of a region whose order is drawn: in the order of the text, where no two of them that may change places meet in memory. -/
def runDraw (P : Program) (base : Nat) (call : CallF) (ops : Array Oper) : List Oper → Nat → T Nat → List (Nat × Fp) → Env → Mem → Option Out
  | [], _, _, _, e, m => some ⟨.normal, e, m, []⟩
  | o :: rest, i, pre, fps, e, m =>
    let mask := maskOf pre o
    bif Region.wanted o (yieldedA ops e) then
      match runOp P call o e m with
      | some (.val v m' w r) =>
        let f : Fp := ⟨m.next, m'.next, w, r⟩
        bif f.boring then
          (match e.put o.dst v with
          | some e' => (match runDraw P base call ops rest (i + 1) (T.set 8 pre i mask) fps e' m' with
            | some r => some { r with wr := keep base w ++ r.wr }
            | none => none)
          | none => none)
        else bif fps.all (fun p => Nat.testBit mask p.1 || p.2.free f) then
          (match e.put o.dst v with
          | some e' => (match runDraw P base call ops rest (i + 1) (T.set 8 pre i mask) ((i, f) :: fps) e' m' with
            | some r => some { r with wr := keep base w ++ r.wr }
            | none => none)
          | none => none)
        else none
      | _ => none
    else
      match e.put o.dst undef with
      | some e' => runDraw P base call ops rest (i + 1) (T.set 8 pre i mask) fps e' m
      | none => none

def execStep (P : Program) (call : CallF) (self : Nat → Code → Env → Mem → Option Out) (base : Nat) : Code → Env → Mem → Option Out
  | .skip, e, m => some ⟨.normal, e, m, []⟩
  | .label _, e, m => some ⟨.normal, e, m, []⟩
  | .region _ ops d, e, m => bif d then runDraw P base call ops ops.toList 0 .nil [] e m else runOps P base call ops ops.toList e m
  | .seq a b, e, m =>
    (match self base a e m with
    | some ⟨.normal, e1, m1, w1⟩ => (match self base b e1 m1 with | some r => some { r with wr := w1 ++ r.wr } | none => none)
    | r => r)
  | .cond c a b, e, m => (match e.eval c with | .bool t => bif t then self base a e m else self base b e m | _ => none)
  | .block id b, e, m =>
    (match self base b e m with
    | some ⟨.exit i, e1, m1, w1⟩ => bif Nat.beq i id then some ⟨.normal, e1, m1, w1⟩ else some ⟨.exit i, e1, m1, w1⟩
    | r => r)
  | .loop b, e, m =>
    (match self base b e m with
    | some ⟨.normal, e1, m1, w1⟩ => (match self base (.loop b) e1 m1 with | some r => some { r with wr := w1 ++ r.wr } | none => none)
    | r => r)
  | .exit id, e, m => some ⟨.exit id, e, m, []⟩
  | .ret, e, m => some ⟨.ret, e, m, []⟩
  | _, _, _ => none

def aresult (P : Program) (e : Env) (m : Mem) : ResultVar → Option Value
  | .tmp t => some (e.get t)
  | .cell a t => (match e.get a with | .pointer (some a) => aload P t a m | _ => none)

def aresults (P : Program) (fn : Func) (e : Env) (m : Mem) : Option Value :=
  match fn.results.toList.mapM (aresult P e m) with
  | some [v] => some v
  | some vs => some (.tuple vs.toArray)
  | none => none

/-- Functions that are known by a contract of their own. -/
abbrev Spec := FuncId → Option (List Value → Mem → Option (COut × Mem × List Nat))

/-- The functions known by contracts, and (as the bits of a number) those that may be entered. -/
structure Cfg where
  spec : Spec
  ok : Nat

def callStep (P : Program) (S : Cfg) (exec : Nat → Code → Env → Mem → Option Out) : CallF := fun f args m =>
  match S.spec f with
  | some G => G args m
  | none =>
    bif Nat.testBit S.ok f then
      match P.funcs[f]? with
      | some fn =>
        (match fn.body with
        | some c =>
          (match exec m.next c (Env.ofArgs fn.ntmps 0 args) m with
          | some ⟨.panic v, _, m', w⟩ => some (.panic v, m', w)
          | some ⟨.exit _, _, _, _⟩ => none
          | some ⟨_, e', m', w⟩ => (match aresults P fn e' m' with | some v => some (.ret v, m', w) | none => none)
          | none => none)
        | none => none)
      | none => none
    else none

structure Ev where
  call : CallF
  exec : Nat → Code → Env → Mem → Option Out

def ev (P : Program) (S : Cfg) : Nat → Ev
  | 0 => ⟨fun _ _ _ => none, fun _ _ _ _ => none⟩
  | n + 1 => ⟨callStep P S (ev P S n).exec, execStep P (ev P S n).call (ev P S n).exec⟩

def Mem.empty : Mem := ⟨0, .nil⟩
def noSpec : Cfg := ⟨fun _ => none, 2 ^ 4096 - 1⟩

end Go.Big

/- How the abstract memory stands to a world: values, blocks, and what keeps the relation. -/
namespace Go.Big
open Go.RowKit

/-- Where a block lies in the heap: the heap's block, the offset, how many cells there are its own, how many of them are known, and (a row with spare room) the cells of an element. -/
structure Pl where
  blk : Nat
  off : Nat
  lim : Nat
  len : Nat
  esz : Option Nat

abbrev Place := Nat → Option Pl
def Place.le (φ ψ : Place) : Prop := ∀ b p, φ b = some p → ψ b = some p
theorem Place.le_refl (φ : Place) : φ.le φ := fun _ _ h => h
theorem Place.le_trans {φ ψ χ : Place} (h : φ.le ψ) (k : ψ.le χ) : φ.le χ := fun b p hb => k b p (h b p hb)
theorem Place.le.trans_le {φ ψ χ : Place} (h : φ.le ψ) (k : ψ.le χ) : φ.le χ := Place.le_trans h k
def Place.add (φ : Place) (b : Nat) (p : Pl) : Place := fun c => if c = b then some p else φ c
theorem Place.le_add {φ : Place} {b : Nat} {p : Pl} (h : φ b = none) : φ.le (φ.add b p) := fun c q hc => by
  unfold Place.add
  by_cases e : c = b
  · subst e; rw [h] at hc; cases hc
  · simp [e, hc]

def capRel (p : Pl) (off cap cap' : Nat) : Prop :=
  match p.esz with
  | some s => if off + cap * s = p.len then cap ≤ cap' ∧ off + cap' * s ≤ p.lim else cap' = cap
  | none => cap' = cap

inductive VRel (φ : Place) : Value → Value → Prop where
  | base {v : Value} : scalar v = true → VRel φ v v
  | ptr {b o : Nat} {p : Pl} : φ b = some p → VRel φ (.pointer (some ⟨b, o, none⟩)) (.pointer (some ⟨p.blk, p.off + o, none⟩))
  | slice {b o n c c' : Nat} {p : Pl} : φ b = some p → capRel p o c c' → VRel φ (.slice (some ⟨b, o, none⟩) n c) (.slice (some ⟨p.blk, p.off + o, none⟩) n c')
  | dead {a : Addr} {c : Nat} : VRel φ (.slice (some ⟨0, 0, some 0⟩) 0 0) (.slice (some a) 0 c)
  | map {r : Nat} {p : Pl} : φ r = some p → VRel φ (.map (some r)) (.map (some p.blk))
  | iface {t : TypeId} {v v' : Value} : VRel φ v v' → VRel φ (.iface t v) (.iface t v')
  | func {f : FuncId} {x x' y y' : Array Value} : x.size = x'.size → (∀ i, i < x.size → VRel φ (x.getD i undef) (x'.getD i undef)) →
      y.size = y'.size → (∀ i, i < y.size → VRel φ (y.getD i undef) (y'.getD i undef)) → VRel φ (.func (.func f) x y) (.func (.func f) x' y')
  | agg {x x' : Array Value} : x.size = x'.size → (∀ i, i < x.size → VRel φ (x.getD i undef) (x'.getD i undef)) → VRel φ (.agg x) (.agg x')
  | tuple {x x' : Array Value} : x.size = x'.size → (∀ i, i < x.size → VRel φ (x.getD i undef) (x'.getD i undef)) → VRel φ (.tuple x) (.tuple x')

/-- The same of lists. -/
def LRel (φ : Place) (l l' : List Value) : Prop := l.length = l'.length ∧ ∀ (i : Nat) (v v' : Value), l[i]? = some v → l'[i]? = some v' → VRel φ v v'
def ARel (φ : Place) (x x' : Array Value) : Prop := x.size = x'.size ∧ ∀ (i : Nat), i < x.size → VRel φ (x.getD i undef) (x'.getD i undef)

section
variable {φ ψ : Place}

theorem VRel.mono (h : φ.le ψ) {v v' : Value} (hv : VRel φ v v') : VRel ψ v v' := by
  induction hv with
  | base h1 => exact .base h1
  | ptr h1 => exact .ptr (h _ _ h1)
  | slice h1 h2 => exact .slice (h _ _ h1) h2
  | dead => exact .dead
  | map h1 => exact .map (h _ _ h1)
  | iface _ ih => exact .iface ih
  | func h1 _ h3 _ ih1 ih2 => exact .func h1 ih1 h3 ih2
  | agg h1 _ ih => exact .agg h1 ih
  | tuple h1 _ ih => exact .tuple h1 ih

theorem VRel.undef_ : VRel φ undef undef := .tuple rfl (fun i hi => by simp at hi)

theorem LRel.nil : LRel φ [] [] := ⟨rfl, fun i v v' h => by simp at h⟩
theorem LRel.cons {v v' : Value} {l l' : List Value} (hv : VRel φ v v') (hl : LRel φ l l') : LRel φ (v :: l) (v' :: l') :=
  ⟨by simp [hl.1], fun i x x' h h' => by
    cases i with
    | zero => simp at h h'; subst h; subst h'; exact hv
    | succ i => exact hl.2 i x x' (by simpa using h) (by simpa using h')⟩
theorem LRel.head {v v' : Value} {l l' : List Value} (h : LRel φ (v :: l) (v' :: l')) : VRel φ v v' := h.2 0 v v' rfl rfl
theorem LRel.tail {v v' : Value} {l l' : List Value} (h : LRel φ (v :: l) (v' :: l')) : LRel φ l l' :=
  ⟨by simpa using h.1, fun i x x' hx hx' => h.2 (i + 1) x x' (by simpa using hx) (by simpa using hx')⟩
theorem LRel.mono (h : φ.le ψ) {l l' : List Value} (hl : LRel φ l l') : LRel ψ l l' := ⟨hl.1, fun i v v' a b => (hl.2 i v v' a b).mono h⟩
theorem LRel.of_nil {l : List Value} (h : LRel φ [] l) : l = [] := List.eq_nil_of_length_eq_zero h.1.symm
theorem LRel.cons_inv {v : Value} {l l' : List Value} (h : LRel φ (v :: l) l') : ∃ v' r', l' = v' :: r' ∧ VRel φ v v' ∧ LRel φ l r' := by
  cases l' with
  | nil => have := h.1; simp at this
  | cons v' r' => exact ⟨v', r', rfl, h.head, h.tail⟩
theorem LRel.append {a a' b b' : List Value} (h : LRel φ a a') (k : LRel φ b b') : LRel φ (a ++ b) (a' ++ b') := by
  induction a generalizing a' with
  | nil => rw [h.of_nil]; exact k
  | cons v r ih =>
    obtain ⟨v', r', rfl, hv, hr⟩ := h.cons_inv
    exact .cons hv (ih hr)
theorem LRel.take {a a' : List Value} (h : LRel φ a a') (n : Nat) : LRel φ (a.take n) (a'.take n) :=
  ⟨by simp [h.1], fun i v v' hv hv' => by
    rw [List.getElem?_take] at hv hv'
    split at hv
    · exact h.2 i v v' hv (by simpa [*] using hv')
    · cases hv⟩
theorem LRel.drop {a a' : List Value} (h : LRel φ a a') (n : Nat) : LRel φ (a.drop n) (a'.drop n) :=
  ⟨by simp [h.1], fun i v v' hv hv' => by
    rw [List.getElem?_drop] at hv hv'
    exact h.2 _ v v' hv hv'⟩
theorem LRel.get {a a' : List Value} (h : LRel φ a a') {i : Nat} {v : Value} (hv : a[i]? = some v) : ∃ v', a'[i]? = some v' ∧ VRel φ v v' := by
  have hi : i < a.length := by
    rcases Nat.lt_or_ge i a.length with h1 | h1
    · exact h1
    · rw [List.getElem?_eq_none h1] at hv; cases hv
  have hi' : i < a'.length := by have := h.1; omega
  exact ⟨a'[i], List.getElem?_eq_getElem hi', h.2 i _ _ hv (List.getElem?_eq_getElem hi')⟩
theorem LRel.of_scalars {l : List Value} (h : l.all scalar = true) : LRel φ l l :=
  ⟨rfl, fun i v v' hv hv' => by
    rw [hv] at hv'; cases hv'
    exact .base (List.all_eq_true.1 h v (List.mem_of_getElem? hv))⟩
theorem LRel.map_of {α : Type} {f g : α → Value} {l : List α} (h : ∀ x ∈ l, VRel φ (f x) (g x)) : LRel φ (l.map f) (l.map g) := by
  induction l with
  | nil => exact .nil
  | cons x r ih => exact .cons (h x (by simp)) (ih fun y hy => h y (by simp [hy]))

theorem ARel.list {x x' : Array Value} (h : ARel φ x x') : LRel φ x.toList x'.toList :=
  ⟨by simpa using h.1, fun i v v' hv hv' => by
    have hi : i < x.size := by
      rcases Nat.lt_or_ge i x.size with h1 | h1
      · exact h1
      · simp [Array.getElem?_eq_none h1] at hv
    have := h.2 i hi
    simp at hv hv'
    simpa [hv, hv'] using this⟩
theorem LRel.arr {l l' : List Value} (h : LRel φ l l') : ARel φ l.toArray l'.toArray :=
  ⟨by simpa using h.1, fun i hi => by
    simp at hi
    obtain ⟨v', hv', hr⟩ := h.get (List.getElem?_eq_getElem hi)
    simpa [List.getElem?_eq_getElem hi, hv'] using hr⟩
theorem ARel.of_list {x x' : Array Value} (h : LRel φ x.toList x'.toList) : ARel φ x x' := by simpa using h.arr
theorem ARel.agg {x x' : Array Value} (h : ARel φ x x') : VRel φ (.agg x) (.agg x') := .agg h.1 h.2
theorem ARel.tuple {x x' : Array Value} (h : ARel φ x x') : VRel φ (.tuple x) (.tuple x') := .tuple h.1 h.2
theorem ARel.func {f : FuncId} {x x' y y' : Array Value} (h : ARel φ x x') (k : ARel φ y y') : VRel φ (.func (.func f) x y) (.func (.func f) x' y') := .func h.1 h.2 k.1 k.2

/-! Inversions -/
theorem VRel.scalar_eq {v v' : Value} (h : VRel φ v v') (hs : scalar v = true) : v' = v := by
  cases h <;> first | rfl | (simp [scalar] at hs)
theorem VRel.agg_inv {x : Array Value} {v' : Value} (h : VRel φ (.agg x) v') : ∃ x', v' = .agg x' ∧ ARel φ x x' := by
  cases h with
  | base hs => simp [scalar] at hs
  | agg h1 h2 => exact ⟨_, rfl, h1, h2⟩
theorem VRel.tuple_inv {x : Array Value} {v' : Value} (h : VRel φ (.tuple x) v') : ∃ x', v' = .tuple x' ∧ ARel φ x x' := by
  cases h with
  | base hs => simp [scalar] at hs
  | tuple h1 h2 => exact ⟨_, rfl, h1, h2⟩
theorem VRel.func_inv {f : FuncId} {x y : Array Value} {v' : Value} (h : VRel φ (.func (.func f) x y) v') : ∃ x' y', v' = .func (.func f) x' y' ∧ ARel φ x x' ∧ ARel φ y y' := by
  cases h with
  | base hs => simp [scalar] at hs
  | func h1 h2 h3 h4 => exact ⟨_, _, rfl, ⟨h1, h2⟩, ⟨h3, h4⟩⟩
theorem VRel.iface_inv {t : TypeId} {v v' : Value} (h : VRel φ (.iface t v) v') : ∃ u, v' = .iface t u ∧ VRel φ v u := by
  cases h with
  | base hs => simp [scalar] at hs
  | iface h1 => exact ⟨_, rfl, h1⟩
theorem VRel.ptr_inv {a : Addr} {v' : Value} (h : VRel φ (.pointer (some a)) v') : ∃ p, a.spot = none ∧ φ a.block = some p ∧ v' = .pointer (some ⟨p.blk, p.off + a.off, none⟩) := by
  cases h with
  | base hs => simp [scalar] at hs
  | ptr h1 => exact ⟨_, rfl, h1, rfl⟩
theorem VRel.slice_inv {a : Addr} {n c : Nat} {v' : Value} (h : VRel φ (.slice (some a) n c) v') :
    (∃ p c', a.spot = none ∧ φ a.block = some p ∧ capRel p a.off c c' ∧ v' = .slice (some ⟨p.blk, p.off + a.off, none⟩) n c') ∨
    (a = ⟨0, 0, some 0⟩ ∧ n = 0 ∧ c = 0 ∧ ∃ a' c', v' = .slice (some a') 0 c') := by
  cases h with
  | base hs => simp [scalar] at hs
  | slice h1 h2 => exact .inl ⟨_, _, rfl, h1, h2, rfl⟩
  | dead => exact .inr ⟨rfl, rfl, rfl, _, _, rfl⟩
theorem VRel.map_inv {r : Nat} {v' : Value} (h : VRel φ (.map (some r)) v') : ∃ p, φ r = some p ∧ v' = .map (some p.blk) := by
  cases h with
  | base hs => simp [scalar] at hs
  | map h1 => exact ⟨_, h1, rfl⟩

theorem ARel.scalars_eq {x x' : Array Value} (h : ARel φ x x') (hs : x.toList.all scalar = true) : x' = x := by
  have hl := h.list
  have : x'.toList = x.toList := by
    apply List.ext_getElem?
    intro i
    cases hv : x.toList[i]? with
    | none =>
      rw [List.getElem?_eq_none_iff] at hv ⊢
      have := hl.1; omega
    | some v =>
      obtain ⟨v', hv', hr⟩ := hl.get hv
      rw [hv', hr.scalar_eq (List.all_eq_true.1 hs v (List.mem_of_getElem? hv))]
  cases x; cases x'; simp_all

theorem VRel.plain1_eq {v v' : Value} (h : VRel φ v v') (hs : plain1 v = true) : v' = v := by
  cases v with
  | agg x =>
    obtain ⟨x', rfl, hx⟩ := h.agg_inv
    rw [hx.scalars_eq (by simpa [plain1] using hs)]
  | _ => exact h.scalar_eq (by simpa [plain1] using hs)

theorem VRel.plain_eq {v v' : Value} (h : VRel φ v v') (hs : plain v = true) : v' = v := by
  cases v with
  | iface t v =>
    obtain ⟨u, rfl, hu⟩ := h.iface_inv
    rw [hu.plain1_eq (by simpa [plain] using hs)]
  | tuple x =>
    obtain ⟨x', rfl, hx⟩ := h.tuple_inv
    have hl := hx.list
    have hs' : x.toList.all plain1 = true := by simpa [plain] using hs
    have : x'.toList = x.toList := by
      apply List.ext_getElem?
      intro i
      cases hv : x.toList[i]? with
      | none =>
        rw [List.getElem?_eq_none_iff] at hv ⊢
        have := hl.1; omega
      | some v =>
        obtain ⟨v', hv', hr⟩ := hl.get hv
        rw [hv', hr.plain1_eq (List.all_eq_true.1 hs' v (List.mem_of_getElem? hv))]
    cases x; cases x'; simp_all
  | _ => exact h.plain1_eq (by simpa [plain] using hs)

theorem VRel.of_plain1 {v : Value} (hs : plain1 v = true) : VRel φ v v := by
  cases v with
  | agg x => exact (ARel.of_list (LRel.of_scalars (by simpa [plain1] using hs))).agg
  | _ => exact .base (by simpa [plain1] using hs)

theorem VRel.of_plain {v : Value} (hs : plain v = true) : VRel φ v v := by
  cases v with
  | iface t v => exact .iface (.of_plain1 (by simpa [plain] using hs))
  | tuple x =>
    have hs' : x.toList.all plain1 = true := by simpa [plain] using hs
    refine (ARel.of_list ⟨rfl, fun i v v' hv hv' => ?_⟩).tuple
    rw [hv] at hv'; cases hv'
    exact .of_plain1 (List.all_eq_true.1 hs' v (List.mem_of_getElem? hv))
  | _ => exact .of_plain1 (by simpa [plain] using hs)

theorem VRel.cells {v v' : Value} (h : VRel φ v v') : LRel φ v.cells.toList v'.cells.toList := by
  cases h with
  | agg h1 h2 => exact ARel.list ⟨h1, h2⟩
  | base hs =>
    refine LRel.of_scalars ?_
    cases v <;> simp_all [Value.cells, scalar]
  | tuple h1 h2 => exact .cons (.tuple h1 h2) .nil
  | ptr h1 => exact .cons (.ptr h1) .nil
  | slice h1 h2 => exact .cons (.slice h1 h2) .nil
  | dead => exact .cons .dead .nil
  | map h1 => exact .cons (.map h1) .nil
  | iface h1 => exact .cons (.iface h1) .nil
  | func h1 h2 h3 h4 => exact .cons (.func h1 h2 h3 h4) .nil

theorem VRel.oneCell {v v' : Value} (h : VRel φ v v') (hv : oneCell v = true) : v'.oneCell' = true := by
  cases h with
  | base hs => cases v <;> simp_all [Value.oneCell', scalar]
  | agg h1 h2 => simp [Big.oneCell] at hv
  | tuple h1 h2 => simp [Big.oneCell] at hv
  | _ => rfl
end

/-! ### The relation -/

def live (m : Mem) (b : Nat) : Prop := (∃ cs k, m.get b = some (.row cs k) ∧ writable k = true) ∨ ∃ es c, m.get b = some (.map es c)

def ERel (φ : Place) (e e' : MapEntry) : Prop := VRel φ e.key e'.key ∧ VRel φ e.val e'.val ∧ e.born = e'.born
def MRel (φ : Place) (l l' : List MapEntry) : Prop := l.length = l'.length ∧ ∀ (i : Nat) (e e' : MapEntry), l[i]? = some e → l'[i]? = some e' → ERel φ e e'

/-- A row of the call's own in the heap. -/
def OwnAt (w : World) (p : Pl) : Prop := ∃ c e lo hi, w.heap[p.blk]? = some (.cells c e (lo, hi)) ∧ (lo = hi ∨ c.size ≤ lo) ∧ p.off + p.lim ≤ c.size

structure RowAt (H : Nat) (φ : Place) (w : World) (cs : List Value) (k : Kind) (p : Pl) : Prop where
  len : p.len = cs.length
  lim : cs.length ≤ p.lim
  kind : match k with | .slack s => 0 < s ∧ p.esz = some s | _ => p.esz = none ∧ p.lim = cs.length
  cells : ∀ i v, cs[i]? = some v → ∃ v', w.cell? ⟨p.blk, p.off + i, none⟩ = some v' ∧ VRel φ v v'
  own : writable k = true → H ≤ p.blk ∧ OwnAt w p
  old : writable k = false → p.blk < H

structure MapAt (H : Nat) (φ : Place) (w : World) (es : List MapEntry) (clock : Nat) (p : Pl) : Prop where
  zero : p.off = 0 ∧ p.lim = 1
  own : H ≤ p.blk
  obj : ∃ es', w.heap[p.blk]? = some (.map es' clock) ∧ MRel φ es es'.toList

def Apart (p q : Pl) : Prop := p.blk ≠ q.blk ∨ p.off + p.lim ≤ q.off ∨ q.off + q.lim ≤ p.off

structure Sim (H : Nat) (φ : Place) (m : Mem) (w : World) : Prop where
  low : H ≤ w.heap.size
  none_ : ∀ b, m.get b = none → φ b = none
  row : ∀ b cs k, m.get b = some (.row cs k) → ∃ p, φ b = some p ∧ RowAt H φ w cs k p
  map : ∀ b es c, m.get b = some (.map es c) → ∃ p, φ b = some p ∧ MapAt H φ w es c p
  apart : ∀ b c p q, b ≠ c → live m b → live m c → φ b = some p → φ c = some q → Apart p q

section
variable {H : Nat} {φ ψ : Place} {m : Mem} {w w' : World}

theorem OwnAt.lt {p : Pl} (h : OwnAt w p) : p.blk < w.heap.size := by
  obtain ⟨c, e, lo, hi, hh, _⟩ := h
  rcases Nat.lt_or_ge p.blk w.heap.size with h1 | h1
  · exact h1
  · rw [Array.getElem?_eq_none h1] at hh; cases hh

theorem OwnAt.there {p : Pl} (h : OwnAt w p) (i : Nat) (hi : i < p.lim) : (w.cell? ⟨p.blk, p.off + i, none⟩).isSome = true ∧ w.frozen? ⟨p.blk, p.off + i, none⟩ = false := by
  obtain ⟨c, e, lo, hi', hh, hf, hs⟩ := h
  have hlt : p.off + i < c.size := by omega
  constructor
  · simp [World.cell?, hh, Array.getElem?_eq_getElem hlt]
  · simp only [World.frozen?, hh]
    rcases hf with rfl | hf <;> simp <;> omega

theorem Sim.congr (h : Sim H φ m w) (hw : w'.heap = w.heap) : Sim H φ m w' := by
  have hc : ∀ a, w'.cell? a = w.cell? a := fun a => by simp [World.cell?, hw]
  refine ⟨hw ▸ h.low, h.none_, fun b cs k hb => ?_, fun b es c hb => ?_, h.apart⟩
  · obtain ⟨p, hp, hr⟩ := h.row b cs k hb
    exact ⟨p, hp, hr.len, hr.lim, hr.kind, fun i v hv => by rw [hc]; exact hr.cells i v hv, fun hk => by unfold OwnAt; rw [hw]; exact hr.own hk, hr.old⟩
  · obtain ⟨p, hp, hr⟩ := h.map b es c hb
    exact ⟨p, hp, hr.zero, hr.own, by rw [hw]; exact hr.obj⟩

theorem Sim.congr_mem {m' : Mem} (h : Sim H φ m w) (hm : ∀ b, m'.get b = m.get b) : Sim H φ m' w := by
  have hl : ∀ b, live m' b → live m b := fun b hb => by unfold live at *; rw [hm] at hb; exact hb
  exact ⟨h.low, fun b hb => h.none_ b (hm b ▸ hb), fun b cs k hb => h.row b cs k (hm b ▸ hb), fun b es c hb => h.map b es c (hm b ▸ hb),
    fun b c p q hbc hb hc hp hq => h.apart b c p q hbc (hl b hb) (hl c hc) hp hq⟩

theorem Sim.blk_lt (h : Sim H φ m w) {b : Nat} {p : Pl} (hb : live m b) (hp : φ b = some p) : p.blk < w.heap.size ∧ H ≤ p.blk := by
  rcases hb with ⟨cs, k, hg, hk⟩ | ⟨es, c, hg⟩
  · obtain ⟨q, hq, hr⟩ := h.row b cs k hg
    rw [hp] at hq; cases hq
    exact ⟨(hr.own hk).2.lt, (hr.own hk).1⟩
  · obtain ⟨q, hq, hr⟩ := h.map b es c hg
    rw [hp] at hq; cases hq
    obtain ⟨es', ho, _⟩ := hr.obj
    refine ⟨?_, hr.own⟩
    rcases Nat.lt_or_ge p.blk w.heap.size with h1 | h1
    · exact h1
    · rw [Array.getElem?_eq_none h1] at ho; cases ho

/-- A new block of the heap. -/
theorem Sim.alloc (h : Sim H φ m w) (o : Obj) : Sim H φ m (w.alloc o) := by
  have hc : ∀ a : Addr, a.block < w.heap.size → (w.alloc o).cell? a = w.cell? a := fun a ha => World.cell?_alloc_lt w o a ha
  have hg : ∀ i, i < w.heap.size → (w.alloc o).heap[i]? = w.heap[i]? := fun i hi => Below.heap_alloc w o i hi
  have hlt : ∀ (a : Addr) v, w.cell? a = some v → a.block < w.heap.size := fun a v hv => World.block_lt_of_cell? w a hv
  refine ⟨by have := h.low; simp; omega, h.none_, fun b cs k hb => ?_, fun b es c hb => ?_, h.apart⟩
  · obtain ⟨p, hp, hr⟩ := h.row b cs k hb
    refine ⟨p, hp, hr.len, hr.lim, hr.kind, fun i v hv => ?_, fun hk => ⟨(hr.own hk).1, ?_⟩, hr.old⟩
    · obtain ⟨v', hv', hvr⟩ := hr.cells i v hv
      exact ⟨v', by rw [hc _ (hlt _ _ hv')]; exact hv', hvr⟩
    · have := (hr.own hk).2
      unfold OwnAt at this ⊢
      rw [hg _ (OwnAt.lt this)]; exact this
  · obtain ⟨p, hp, hr⟩ := h.map b es c hb
    have := (h.blk_lt (.inr ⟨es, c, hb⟩) hp).1
    exact ⟨p, hp, hr.zero, hr.own, by rw [hg _ this]; exact hr.obj⟩

theorem MRel.mono {l l' : List MapEntry} (h : φ.le ψ) (hm : MRel φ l l') : MRel ψ l l' :=
  ⟨hm.1, fun i x x' hx hx' => ⟨(hm.2 i x x' hx hx').1.mono h, (hm.2 i x x' hx hx').2.1.mono h, (hm.2 i x x' hx hx').2.2⟩⟩

theorem RowAt.mono (h : φ.le ψ) {cs : List Value} {k : Kind} {p : Pl} (hr : RowAt H φ w cs k p) : RowAt H ψ w cs k p :=
  ⟨hr.len, hr.lim, hr.kind, fun i v hv => (hr.cells i v hv).imp fun _ hx => ⟨hx.1, hx.2.mono h⟩, hr.own, hr.old⟩
theorem MapAt.mono (h : φ.le ψ) {es : List MapEntry} {c : Nat} {p : Pl} (hr : MapAt H φ w es c p) : MapAt H ψ w es c p := by
  obtain ⟨es', ho, hm⟩ := hr.obj
  exact ⟨hr.zero, hr.own, es', ho, hm.mono h⟩

/-- A new abstract block. -/
theorem Sim.add (h : Sim H φ m w) {o : AObj} {p : Pl} (hn : m.get m.next = none) (hrow : ∀ cs k, o = .row cs k → RowAt H (φ.add m.next p) w cs k p)
    (hmap : ∀ es c, o = .map es c → MapAt H (φ.add m.next p) w es c p)
    (hnew : ∀ b q, live m b → φ b = some q → Apart p q) : Sim H (φ.add m.next p) (m.push o) w := by
  have hle : φ.le (φ.add m.next p) := Place.le_add (h.none_ _ hn)
  have hself : (φ.add m.next p) m.next = some p := by simp [Place.add]
  have hoth : ∀ b, b ≠ m.next → (φ.add m.next p) b = φ b := fun b hb => by simp [Place.add, hb]
  have hget : ∀ b, b ≠ m.next → (m.push o).get b = m.get b := fun b hb => by rw [Mem.get_push]; simp [hb]
  have hlive : ∀ b, b ≠ m.next → live (m.push o) b → live m b := fun b hb hl => by unfold live at *; rw [hget b hb] at hl; exact hl
  refine ⟨h.low, fun b hb => ?_, fun b cs' k' hb => ?_, fun b es c hb => ?_, fun b c p' q' hbc hlb hlc hp' hq' => ?_⟩
  · by_cases e : b = m.next
    · subst e; rw [Mem.get_push] at hb; simp at hb
    · rw [hget b e] at hb; rw [hoth b e]; exact h.none_ b hb
  · by_cases e : b = m.next
    · subst e
      rw [Mem.get_push] at hb; simp at hb
      exact ⟨p, hself, hrow _ _ hb⟩
    · rw [hget b e] at hb
      obtain ⟨q, hq, hr'⟩ := h.row b cs' k' hb
      exact ⟨q, hle _ _ hq, hr'.mono hle⟩
  · by_cases e : b = m.next
    · subst e
      rw [Mem.get_push] at hb; simp at hb
      exact ⟨p, hself, hmap _ _ hb⟩
    · rw [hget b e] at hb
      obtain ⟨q, hq, hr'⟩ := h.map b es c hb
      exact ⟨q, hle _ _ hq, hr'.mono hle⟩
  · by_cases e : b = m.next
    · subst e
      have e' : c ≠ m.next := Ne.symm hbc
      rw [hself] at hp'; cases hp'
      rw [hoth c e'] at hq'
      exact hnew c q' (hlive c e' hlc) hq'
    · by_cases e' : c = m.next
      · subst e'
        rw [hself] at hq'; cases hq'
        rw [hoth b e] at hp'
        have := hnew b p' (hlive b e hlb) hp'
        unfold Apart at *
        rcases this with h1 | h1 | h1
        · exact .inl (Ne.symm h1)
        · exact .inr (.inr h1)
        · exact .inr (.inl h1)
      · rw [hoth b e] at hp'; rw [hoth c e'] at hq'
        exact h.apart b c p' q' hbc (hlive b e hlb) (hlive c e' hlc) hp' hq'

/-- A new row in a new block of the heap, spare room behind it or not. -/
theorem Sim.push_row (h : Sim H φ m w) {cs cs' extra : List Value} {k : Kind} (hn : m.get m.next = none) (hk : writable k = true)
    (hkind : match k with | .slack s => 0 < s | _ => extra = []) (hcs : LRel φ cs cs') (e : TypeId) (lo hi : Nat) (hf : lo = hi ∨ (cs' ++ extra).length ≤ lo) :
    Sim H (φ.add m.next ⟨w.heap.size, 0, (cs' ++ extra).length, cs.length, match k with | .slack s => some s | _ => none⟩) (m.push (.row cs k))
      (w.alloc (.cells (cs' ++ extra).toArray e (lo, hi))) := by
  have hle : φ.le (φ.add m.next ⟨w.heap.size, 0, (cs' ++ extra).length, cs.length, match k with | .slack s => some s | _ => none⟩) := Place.le_add (h.none_ _ hn)
  refine (h.alloc _).add hn (fun cs2 k2 he => ?_) (fun _ _ he => by cases he) ?_
  · cases he
    refine ⟨rfl, by simp [hcs.1], ?_, fun i v hv => ?_, fun _ => ⟨h.low, ?_⟩, fun hx => by rw [hk] at hx; cases hx⟩
    · cases k with
      | slack s => exact ⟨hkind, rfl⟩
      | ro => simp only at hkind; subst hkind; exact ⟨rfl, by simp [hcs.1]⟩
      | rw => simp only at hkind; subst hkind; exact ⟨rfl, by simp [hcs.1]⟩
    · obtain ⟨v', hv', hr⟩ := hcs.get hv
      have hi : i < cs'.length := by
        rcases Nat.lt_or_ge i cs'.length with h1 | h1
        · exact h1
        · rw [List.getElem?_eq_none h1] at hv'; cases hv'
      refine ⟨v', ?_, hr.mono hle⟩
      simp only [World.cell?, heap_alloc_new, Nat.zero_add]
      simp [List.getElem?_append_left hi, hv']
    · exact ⟨(cs' ++ extra).toArray, e, lo, hi, heap_alloc_new w _, by simpa using hf, by simp⟩
  · intro b q hb hq
    exact .inl (by have := (h.blk_lt hb hq).1; simp; omega)

theorem Sim.push_map (h : Sim H φ m w) (hn : m.get m.next = none) :
    Sim H (φ.add m.next ⟨w.heap.size, 0, 1, 0, none⟩) (m.push (.map [] 0)) (w.alloc (.map #[] 0)) := by
  refine (h.alloc _).add hn (fun _ _ he => by cases he) (fun es c he => ?_) fun b q hb hq => .inl (by have := (h.blk_lt hb hq).1; simp; omega)
  cases he
  exact ⟨⟨rfl, rfl⟩, h.low, #[], heap_alloc_new w _, rfl, fun i e e' hi => by simp at hi⟩

end
end Go.Big

/- What keeps the relation: stores, appends, marks, maps. -/
namespace Go.Big
open Go.RowKit

section
variable {H : Nat} {φ ψ : Place} {m : Mem} {w w' : World}

theorem Sim.world (h : Sim H φ m w) (hl : w.heap.size ≤ w'.heap.size)
    (hrow : ∀ b cs k p, m.get b = some (.row cs k) → φ b = some p → (∀ i, i < cs.length → w'.cell? ⟨p.blk, p.off + i, none⟩ = w.cell? ⟨p.blk, p.off + i, none⟩) ∧ (writable k = true → OwnAt w' p))
    (hmap : ∀ b es c p, m.get b = some (.map es c) → φ b = some p → w'.heap[p.blk]? = w.heap[p.blk]?) : Sim H φ m w' := by
  refine ⟨Nat.le_trans h.low hl, h.none_, fun b cs k hb => ?_, fun b es c hb => ?_, h.apart⟩
  · obtain ⟨p, hp, hr⟩ := h.row b cs k hb
    obtain ⟨h1, h2⟩ := hrow b cs k p hb hp
    refine ⟨p, hp, hr.len, hr.lim, hr.kind, fun i v hv => ?_, fun hk => ⟨(hr.own hk).1, h2 hk⟩, hr.old⟩
    have hi : i < cs.length := by
      rcases Nat.lt_or_ge i cs.length with h1 | h1
      · exact h1
      · rw [List.getElem?_eq_none h1] at hv; cases hv
    rw [h1 i hi]; exact hr.cells i v hv
  · obtain ⟨p, hp, hr⟩ := h.map b es c hb
    exact ⟨p, hp, hr.zero, hr.own, by rw [hmap b es c p hb hp]; exact hr.obj⟩

theorem Sim.reset (h : Sim H φ m w) {b : Nat} {o : AObj} (hrow : ∀ cs k, o = .row cs k → ∃ p, φ b = some p ∧ RowAt H φ w cs k p)
    (hmap : ∀ es c, o = .map es c → ∃ p, φ b = some p ∧ MapAt H φ w es c p)
    (hap : live (m.set b o) b → ∀ p c q, φ b = some p → c ≠ b → live m c → φ c = some q → Apart p q) : Sim H φ (m.set b o) w := by
  have hget : ∀ c, c ≠ b → (m.set b o).get c = m.get c := fun c hc => by rw [Mem.get_set]; simp [hc]
  have hself : (m.set b o).get b = some o := by rw [Mem.get_set]; simp
  have hlive : ∀ c, c ≠ b → live (m.set b o) c → live m c := fun c hc hl => by unfold live at *; rw [hget c hc] at hl; exact hl
  refine ⟨h.low, fun c hc => ?_, fun c cs k hc => ?_, fun c es cl hc => ?_, fun c d p q hcd hlc hld hp hq => ?_⟩
  · by_cases e : c = b
    · subst e; rw [hself] at hc; cases hc
    · exact h.none_ c (hget c e ▸ hc)
  · by_cases e : c = b
    · subst e; rw [hself] at hc; cases hc; exact hrow _ _ rfl
    · exact h.row c cs k (hget c e ▸ hc)
  · by_cases e : c = b
    · subst e; rw [hself] at hc; cases hc; exact hmap _ _ rfl
    · exact h.map c es cl (hget c e ▸ hc)
  · by_cases e : c = b
    · subst e
      exact hap hlc p d q hp (Ne.symm hcd) (hlive d (Ne.symm hcd) hld) hq
    · by_cases e' : d = b
      · subst e'
        have := hap hld q c p hq e (hlive c e hlc) hp
        unfold Apart at *
        rcases this with h1 | h1 | h1
        · exact .inl (Ne.symm h1)
        · exact .inr (.inr h1)
        · exact .inr (.inl h1)
      · exact h.apart c d p q hcd (hlive c e hlc) (hlive d e' hld) hp hq

theorem Sim.kill (h : Sim H φ m w) (b : Nat) : Sim H φ (m.set b .dead) w :=
  h.reset (fun _ _ e => by cases e) (fun _ _ e => by cases e) fun hl => by
    unfold live at hl; rw [Mem.get_set] at hl; simp at hl

theorem OwnAt.setCell {p : Pl} (h : OwnAt w p) (a : Addr) (v : Value) : OwnAt (w.setCell a v) p := by
  obtain ⟨c, e, lo, hi, hh, hf, hs⟩ := h
  by_cases hb : p.blk = a.block
  · refine ⟨if a.spot.isSome then c else c.setIfInBounds a.off v, e, lo, hi, ?_, ?_, ?_⟩
    · simp only [World.setCell, Array.getElem?_modify]
      simp [← hb, hh]
    · split <;> simpa using hf
    · split <;> simpa using hs
  · exact ⟨c, e, lo, hi, by rw [Below.heap_setCell w a v p.blk hb]; exact hh, hf, hs⟩

theorem OwnAt.setCells {p : Pl} (b : Nat) : ∀ (vs : List Value) (o : Nat) (w : World), OwnAt w p → OwnAt (w.setCells b o vs) p
  | [], _, _, h => h
  | v :: r, o, w, h => OwnAt.setCells b r (o + 1) _ (h.setCell ⟨b, o, none⟩ v)

theorem size_setCells (b : Nat) : ∀ (vs : List Value) (o : Nat) (w : World), (w.setCells b o vs).heap.size = w.heap.size
  | [], _, _ => rfl
  | v :: r, o, w => (size_setCells b r (o + 1) _).trans (World.size_setCell w ⟨b, o, none⟩ v)

theorem map_setCells (b : Nat) {es : Array MapEntry} {cl : Nat} {i : Nat} : ∀ (vs : List Value) (o : Nat) (w : World), w.heap[i]? = some (.map es cl) → (w.setCells b o vs).heap[i]? = some (.map es cl)
  | [], _, _, h => h
  | v :: r, o, w, h => by
    refine map_setCells b r (o + 1) _ ?_
    by_cases hb : i = b
    · subst hb; simp [World.setCell, Array.getElem?_modify, h]
    · exact (Below.heap_setCell w ⟨b, o, none⟩ v i hb).trans h

theorem Below.setCells {B : Nat} {a : World} (b : Nat) (hb : B ≤ b) : ∀ (vs : List Value) (o : Nat) (w : World), Below B a w → Below B a (w.setCells b o vs)
  | [], _, _, h => h
  | v :: r, o, w, h => Below.setCells b hb r (o + 1) _ (h.setCell (p := ⟨b, o, none⟩) hb v)

/-- Cells that belong to no block are written. -/
theorem Sim.setCells_free (h : Sim H φ m w) {q : Pl} {o : Nat} {vs : List Value} (hq : H ≤ q.blk) (ho : q.off ≤ o ∧ o + vs.length ≤ q.off + q.lim)
    (hap : ∀ c p, live m c → φ c = some p → Apart q p) : Sim H φ m (w.setCells q.blk o vs) := by
  refine h.world (by rw [size_setCells]; exact Nat.le_refl _) (fun b cs k p hb hp => ?_) fun b es c p hb hp => ?_
  · obtain ⟨p', hp', hr⟩ := h.row b cs k hb
    rw [hp] at hp'; cases hp'
    refine ⟨fun i hi => ?_, fun hk => OwnAt.setCells _ _ _ _ (hr.own hk).2⟩
    refine World.cell?_setCells_out _ vs o w _ fun h1 _ => ?_
    cases hk : writable k with
    | false => have := hr.old hk; simp at h1; omega
    | true =>
      have := hap b p (.inl ⟨cs, k, hb, hk⟩) hp
      have hl := hr.lim
      simp at h1 ⊢
      unfold Apart at this
      rcases this with h2 | h2 | h2
      · exact absurd h1.symm h2
      · right; omega
      · left; omega
  · obtain ⟨p', hp', hr⟩ := h.map b es c hb
    rw [hp] at hp'; cases hp'
    obtain ⟨es', ho', _⟩ := hr.obj
    rw [ho']; exact map_setCells _ vs o w ho'

/-- A store into a row. -/
theorem Sim.setCells (h : Sim H φ m w) {b off : Nat} {cs : List Value} {k : Kind} {vs vs' : List Value} {p : Pl} (hb : m.get b = some (.row cs k)) (hk : writable k = true)
    (hp : φ b = some p) (hv : LRel φ vs vs') (ho : off + vs.length ≤ cs.length) :
    Sim H φ (m.set b (.row (cs.take off ++ vs ++ cs.drop (off + vs.length)) k)) (w.setCells p.blk (p.off + off) vs') := by
  obtain ⟨p', hp', hr⟩ := h.row b cs k hb
  rw [hp] at hp'; cases hp'
  have hlb : live m b := .inl ⟨cs, k, hb, hk⟩
  have hlen := hv.1
  have hlim := hr.lim
  have hap : ∀ c q, c ≠ b → live m c → φ c = some q → Apart p q := fun c q hc hlc hq => h.apart b c p q (Ne.symm hc) hlb hlc hp hq
  have h1 : Sim H φ (m.set b .dead) (w.setCells p.blk (p.off + off) vs') :=
    (h.kill b).setCells_free (hr.own hk).1 ⟨by omega, by omega⟩ fun c q hlc hq => by
      by_cases e : c = b
      · subst e; unfold live at hlc; rw [Mem.get_set] at hlc; simp at hlc
      · exact hap c q e (by unfold live at *; rw [Mem.get_set] at hlc; simpa [e] using hlc) hq
  have hown := hr.own hk
  have hthere : ∀ j, j < vs'.length → (w.cell? ⟨p.blk, p.off + off + j, none⟩).isSome = true := fun j hj => by
    have := (hown.2.there (off + j) (by omega)).1
    rwa [← Nat.add_assoc] at this
  have hrow : RowAt H φ (w.setCells p.blk (p.off + off) vs') (cs.take off ++ vs ++ cs.drop (off + vs.length)) k p := by
    have hl' : (cs.take off ++ vs ++ cs.drop (off + vs.length)).length = cs.length := by simp; omega
    refine ⟨by rw [hl']; exact hr.len, by rw [hl']; exact hlim, by rw [hl']; exact hr.kind, fun i v hi => ?_, fun _ => ⟨hown.1, OwnAt.setCells _ _ _ _ hown.2⟩, hr.old⟩
    by_cases c1 : i < off
    · rw [List.append_assoc, List.getElem?_append_left (by simp; omega), List.getElem?_take] at hi
      rw [if_pos c1] at hi
      obtain ⟨v', hv', hvr⟩ := hr.cells i v hi
      exact ⟨v', by rw [World.cell?_setCells_out _ vs' _ w _ (fun _ _ => by simp; omega)]; exact hv', hvr⟩
    · by_cases c2 : i < off + vs.length
      · rw [List.append_assoc, List.getElem?_append_right (by simp; omega), List.getElem?_append_left (by simp; omega)] at hi
        have e1 : i - (cs.take off).length = i - off := by simp; omega
        rw [e1] at hi
        obtain ⟨v', hv', hvr⟩ := hv.get hi
        have hj : i - off < vs'.length := by omega
        refine ⟨v', ?_, hvr⟩
        have := World.cell?_setCells_in p.blk vs' (p.off + off) w hthere (i - off) hj
        rw [show p.off + off + (i - off) = p.off + i from by omega] at this
        rw [this]
        rw [List.getElem?_eq_getElem hj] at hv'
        exact hv'
      · rw [List.getElem?_append_right (by simp; omega), List.getElem?_drop] at hi
        have e1 : off + vs.length + (i - (cs.take off ++ vs).length) = i := by simp; omega
        rw [e1] at hi
        obtain ⟨v', hv', hvr⟩ := hr.cells i v hi
        exact ⟨v', by rw [World.cell?_setCells_out _ vs' _ w _ (fun _ _ => by simp; omega)]; exact hv', hvr⟩
  have h2 := h1.reset (b := b) (o := .row (cs.take off ++ vs ++ cs.drop (off + vs.length)) k) (fun cs2 k2 e => by cases e; exact ⟨p, hp, hrow⟩) (fun _ _ e => by cases e)
    (fun _ p2 c q hp2 hc hlc hq => by
      rw [hp] at hp2; cases hp2
      exact hap c q hc (by unfold live at *; rw [Mem.get_set] at hlc; simpa [hc] using hlc) hq)
  exact h2.congr_mem fun c => by rw [Mem.get_set, Mem.get_set, Mem.get_set]; by_cases e : c = b <;> simp [e]

/-- An append that finds room behind a row's end: the row is given up, and lies on, longer, under a new number. -/
theorem Sim.append_room (h : Sim H φ m w) {b off n1 s : Nat} {cs new new' : List Value} {p : Pl} (hn : m.get m.next = none) (hb : m.get b = some (.row cs (.slack s)))
    (hp : φ b = some p) (hv : LRel φ new new') (h1 : off + n1 ≤ cs.length) (h2 : off + n1 + new.length ≤ p.lim) :
    Sim H (φ.add m.next ⟨p.blk, p.off + off, p.lim - off, n1 + new.length, some s⟩) ((m.set b .dead).push (.row ((cs.drop off).take n1 ++ new) (.slack s)))
      (w.setCells p.blk (p.off + off + n1) new') := by
  obtain ⟨p', hp', hr⟩ := h.row b cs _ hb
  rw [hp] at hp'; cases hp'
  have hk : writable (.slack s) = true := rfl
  have hlb : live m b := .inl ⟨cs, _, hb, hk⟩
  have hlen := hv.1
  have hown := hr.own hk
  have hbn : b ≠ m.next := fun e => by subst e; rw [hn] at hb; cases hb
  have hap : ∀ c q, live (m.set b .dead) c → φ c = some q → Apart p q := fun c q hlc hq => by
    by_cases e : c = b
    · subst e; unfold live at hlc; rw [Mem.get_set] at hlc; simp at hlc
    · exact h.apart b c p q (Ne.symm e) hlb (by unfold live at *; rw [Mem.get_set] at hlc; simpa [e] using hlc) hp hq
  have h3 : Sim H φ (m.set b .dead) (w.setCells p.blk (p.off + off + n1) new') :=
    (h.kill b).setCells_free hown.1 ⟨by omega, by omega⟩ hap
  have hnext : (m.set b .dead).get (m.set b .dead).next = none := by rw [Mem.get_set]; simp [Ne.symm hbn, hn]
  have hle : φ.le (φ.add m.next ⟨p.blk, p.off + off, p.lim - off, n1 + new.length, some s⟩) := Place.le_add (h.none_ _ hn)
  have hthere : ∀ j, j < new'.length → (w.cell? ⟨p.blk, p.off + off + n1 + j, none⟩).isSome = true := fun j hj => by
    have := (hown.2.there (off + n1 + j) (by omega)).1
    rwa [show p.off + (off + n1 + j) = p.off + off + n1 + j from by omega] at this
  have hl0 : ((cs.drop off).take n1).length = n1 := by simp; omega
  refine h3.add (m := m.set b .dead) hnext (fun cs2 k2 e => ?_) (fun _ _ e => by cases e) fun c q hlc hq => ?_
  · cases e
    refine ⟨by simp; omega, by simp; omega, ⟨hr.kind.1, rfl⟩, fun i v hi => ?_, fun _ => ⟨hown.1, ?_⟩, fun e => by cases e⟩
    · by_cases c1 : i < n1
      · rw [List.getElem?_append_left (by omega), List.getElem?_take, if_pos c1, List.getElem?_drop] at hi
        obtain ⟨v', hv', hvr⟩ := hr.cells _ v hi
        refine ⟨v', ?_, hvr.mono hle⟩
        rw [World.cell?_setCells_out _ new' _ w _ (fun _ _ => by simp; omega)]
        rw [show p.off + off + i = p.off + (off + i) from by omega]; exact hv'
      · rw [List.getElem?_append_right (by omega), hl0] at hi
        obtain ⟨v', hv', hvr⟩ := hv.get hi
        have hj : i - n1 < new'.length := by
          rcases Nat.lt_or_ge (i - n1) new'.length with h1 | h1
          · exact h1
          · rw [List.getElem?_eq_none h1] at hv'; cases hv'
        refine ⟨v', ?_, hvr.mono hle⟩
        have := World.cell?_setCells_in p.blk new' (p.off + off + n1) w hthere (i - n1) hj
        rw [show p.off + off + n1 + (i - n1) = p.off + off + i from by omega] at this
        rw [this]
        rw [List.getElem?_eq_getElem hj] at hv'
        exact hv'
    · obtain ⟨c, e, lo, hi, hh, hf, hs⟩ := OwnAt.setCells p.blk new' (p.off + off + n1) w hown.2
      exact ⟨c, e, lo, hi, hh, hf, by simp; omega⟩
  · have := hap c q hlc hq
    unfold Apart at *
    simp
    rcases this with h4 | h4 | h4
    · exact .inl h4
    · exact .inr (.inl (by omega))
    · exact .inr (.inr (by omega))

/-- The mark behind a row's end. -/
theorem OwnAt.freeze {p q : Pl} {c : Array Value} {e : TypeId} {f : Nat × Nat} (h : OwnAt w q) (hp : w.heap[p.blk]? = some (.cells c e f)) :
    OwnAt (w.freeze ⟨p.blk, c.size, none⟩ 1) q := by
  obtain ⟨c', e', lo, hi, hh, hf, hs⟩ := h
  by_cases hb : q.blk = p.blk
  · rw [hb, hp] at hh
    cases hh
    refine ⟨c, e, if lo == hi then c.size else min lo c.size, if lo == hi then c.size + 1 else max hi (c.size + 1), ?_, ?_, hs⟩
    · simp only [World.freeze, Nat.one_ne_zero, ↓reduceIte, Array.getElem?_modify]
      simp only [hb, ↓reduceIte, hp, Option.map_some]
      by_cases h1 : lo = hi <;> simp [h1]
    · right
      by_cases h1 : lo = hi
      · simp [h1]
      · simp [h1]; omega
  · refine ⟨c', e', lo, hi, ?_, hf, hs⟩
    simp only [World.freeze, Nat.one_ne_zero, ↓reduceIte, Array.getElem?_modify]
    rw [if_neg (fun e => hb e.symm)]; exact hh

theorem cell?_freeze (w : World) (a : Addr) (n : Nat) (x : Addr) : (w.freeze a n).cell? x = w.cell? x := by
  unfold World.freeze
  split
  · rfl
  · simp only [World.cell?, Array.getElem?_modify]
    by_cases hb : a.block = x.block
    · simp only [hb, ↓reduceIte]
      cases w.heap[x.block]? with
      | none => rfl
      | some o => cases o <;> rfl
    · simp [hb]

theorem Sim.freeze (h : Sim H φ m w) {p : Pl} {c : Array Value} {e : TypeId} {f : Nat × Nat} (hp : w.heap[p.blk]? = some (.cells c e f)) :
    Sim H φ m (w.freeze ⟨p.blk, c.size, none⟩ 1) := by
  refine h.world (by simp [World.freeze]) (fun b cs k q hb hq => ⟨fun i _ => cell?_freeze _ _ _ _, fun hk => ?_⟩) fun b es cl q hb hq => ?_
  · obtain ⟨q', hq', hr⟩ := h.row b cs k hb
    rw [hq] at hq'; cases hq'
    exact (hr.own hk).2.freeze hp
  · obtain ⟨q', hq', hr⟩ := h.map b es cl hb
    rw [hq] at hq'; cases hq'
    obtain ⟨es', ho, _⟩ := hr.obj
    have hne : p.blk ≠ q.blk := fun e => by rw [e, ho] at hp; cases hp
    simp only [World.freeze, Nat.one_ne_zero, ↓reduceIte, Array.getElem?_modify]
    rw [if_neg hne]

theorem Below.freeze_ {B : Nat} {a : World} (h : Below B a w) {x : Addr} (hx : B ≤ x.block) (n : Nat) : Below B a (w.freeze x n) := by
  refine ⟨?_, ?_, ?_, ?_, fun k hk => ?_⟩
  · rw [← h.os]; unfold World.freeze; split <;> rfl
  · rw [← h.tape]; unfold World.freeze; split <;> rfl
  · rw [← h.output]; unfold World.freeze; split <;> rfl
  · unfold World.freeze; split
    · exact h.size
    · simpa using h.size
  · unfold World.freeze; split
    · exact h.block k hk
    · simp only [Array.getElem?_modify]
      rw [if_neg (by omega)]; exact h.block k hk

/-- A map's object is replaced. -/
theorem Sim.set_map (h : Sim H φ m w) {r : Nat} {es es2 : List MapEntry} {cl cl2 : Nat} {es2' : Array MapEntry} {p : Pl} (hb : m.get r = some (.map es cl)) (hp : φ r = some p)
    (hm : MRel φ es2 es2'.toList) : Sim H φ (m.set r (.map es2 cl2)) { w with heap := w.heap.setIfInBounds p.blk (.map es2' cl2) } := by
  obtain ⟨p', hp', hr⟩ := h.map r es cl hb
  rw [hp] at hp'; cases hp'
  obtain ⟨es', ho, _⟩ := hr.obj
  have hlb : live m r := .inr ⟨es, cl, hb⟩
  have hlt : p.blk < w.heap.size := (h.blk_lt hlb hp).1
  have hap : ∀ c q, c ≠ r → live m c → φ c = some q → Apart p q := fun c q hc hlc hq => h.apart r c p q (Ne.symm hc) hlb hlc hp hq
  have hother : ∀ i, i ≠ p.blk → (w.heap.setIfInBounds p.blk (Obj.map es2' cl2))[i]? = w.heap[i]? := fun i hi => by
    rw [Array.getElem?_setIfInBounds_ne (Ne.symm hi)]
  have h1 : Sim H φ (m.set r .dead) { w with heap := w.heap.setIfInBounds p.blk (.map es2' cl2) } := by
    refine (h.kill r).world (by simp) (fun b cs k q hb' hq => ?_) fun b es3 c q hb' hq => ?_
    · have e : b ≠ r := fun e => by subst e; rw [Mem.get_set] at hb'; simp at hb'
      rw [Mem.get_set] at hb'; simp [e] at hb'
      obtain ⟨q', hq', hr'⟩ := h.row b cs k hb'
      rw [hq] at hq'; cases hq'
      have hblk : 0 < cs.length ∨ writable k = true → q.blk ≠ p.blk := fun hc e2 => by
        rcases hc with hc | hc
        · obtain ⟨v', hv', _⟩ := hr'.cells 0 _ (List.getElem?_eq_getElem hc)
          simp only [World.cell?, e2, ho] at hv'; cases hv'
        · obtain ⟨c, e3, lo, hi, hh, _⟩ := (hr'.own hc).2
          rw [e2, ho] at hh; cases hh
      refine ⟨fun i hi => ?_, fun hk => ?_⟩
      · simp only [World.cell?]
        rw [hother _ (hblk (.inl (by omega)))]
      · obtain ⟨c, e3, lo, hi, hh, hf, hs⟩ := (hr'.own hk).2
        exact ⟨c, e3, lo, hi, by rw [hother _ (hblk (.inr hk))]; exact hh, hf, hs⟩
    · have e : b ≠ r := fun e => by subst e; rw [Mem.get_set] at hb'; simp at hb'
      rw [Mem.get_set] at hb'; simp [e] at hb'
      have := hap b q e (.inr ⟨es3, c, hb'⟩) hq
      obtain ⟨q', hq', hr'⟩ := h.map b es3 c hb'
      rw [hq] at hq'; cases hq'
      refine hother _ fun e2 => ?_
      unfold Apart at this
      rcases this with h2 | h2 | h2
      · exact h2 e2.symm
      · have := hr.zero; have := hr'.zero; omega
      · have := hr.zero; have := hr'.zero; omega
  have h2 := h1.reset (b := r) (o := .map es2 cl2) (fun _ _ e => by cases e) (fun es3 c3 e => by
      cases e
      exact ⟨p, hp, hr.zero, hr.own, es2', by simp [Array.getElem?_setIfInBounds, hlt], hm⟩)
    (fun _ p2 c q hp2 hc hlc hq => by
      rw [hp] at hp2; cases hp2
      exact hap c q hc (by unfold live at *; rw [Mem.get_set] at hlc; simpa [hc] using hlc) hq)
  exact h2.congr_mem fun c => by rw [Mem.get_set, Mem.get_set, Mem.get_set]; by_cases e : c = r <;> simp [e]

end
end Go.Big

/- Each operation of the evaluator is one of the model's. -/
namespace Go.Big
open Go.RowKit

def NextIs (n : Next) (v' : Value) : Prop := n = .value v' ∨ (n = .skip ∧ v' = undef)

def OpOk (H : Nat) (φ : Place) (m' : Mem) (w : World) (v : Value) (r : Result Next) : Prop :=
  ∃ n v' w' ψ, r = .ok n w' ∧ NextIs n v' ∧ φ.le ψ ∧ Sim H ψ m' w' ∧ Below H w w' ∧ VRel ψ v v'

/-- The same of a value's computation. -/
def ValOk (H : Nat) (φ : Place) (m' : Mem) (w : World) (v : Value) (r : Result Value) : Prop :=
  ∃ v' w' ψ, r = .ok v' w' ∧ φ.le ψ ∧ Sim H ψ m' w' ∧ Below H w w' ∧ VRel ψ v v'

section
variable {P : Program} {H : Nat} {φ : Place} {m m' : Mem} {w : World}

theorem ValOk.op {v : Value} {s : Sem Value} (h : ValOk H φ m' w v (s.run P w)) : OpOk H φ m' w v ((do pure (Next.value (← s)) : Sem Next).run P w) := by
  obtain ⟨v', w', ψ, h1, h2⟩ := h
  exact ⟨.value v', v', w', ψ, by simp [h1], .inl rfl, h2⟩

theorem ValOk.pure_ (hS : Sim H φ m w) {v v' : Value} (hv : VRel φ v v') : ValOk H φ m w v (.ok v' w) :=
  ⟨v', w, φ, rfl, Place.le_refl φ, hS, Below.refl H w, hv⟩

theorem size_of {t : TypeId} {n : Nat} (h : szOf P t = some n) (w : World) : (sizeOf t).run P w = .ok n w := by
  unfold szOf at h
  cases hi : P.info? t with
  | none => simp [hi] at h
  | some i => simp [hi] at h; subst h; simp [sizeOf, typeInfo, hi]

theorem zero_of {t : TypeId} {z : Value} (h : (P.info? t).bind (·.zero) = some z) (w : World) : (zeroValue t).run P w = .ok z w := by
  cases hi : P.info? t with
  | none => simp [hi] at h
  | some i => simp [hi] at h; simp [zeroValue, typeInfo, hi, h]

theorem und_of {t : TypeId} {d : TypeDesc} (h : P.underlying t = some d) (w : World) : (underlying t).run P w = .ok d w := run_underlying h w

theorem isAgg_of {t : TypeId} {d : TypeDesc} (h : P.underlying t = some d) (w : World) : (isAgg t).run P w = .ok (isAggD d) w := by
  unfold isAgg
  rw [Sem.run_bind, und_of h]
  cases d <;> rfl

/-- What a part of a row reads as. -/
theorem RowAt.loadN {cs l : List Value} {k : Kind} {p : Pl} (hr : RowAt H φ w cs k p) {off n : Nat} (h : loadN cs off n = some l) :
    l.length = n ∧ ∃ l', LRel φ l l' ∧ ∀ j v, l'[j]? = some v → w.cell? ⟨p.blk, p.off + off + j, none⟩ = some v := by
  have hb : ∀ a b : Nat, Nat.beq a b = decide (a = b) := fun a b => by
    cases h : Nat.beq a b with
    | true => simp [Nat.eq_of_beq_eq_true h]
    | false => simp [Nat.ne_of_beq_eq_false h]
  unfold Big.loadN at h
  simp only [hb, cond_eq_ite, decide_eq_true_eq] at h
  split at h
  · rename_i hl
    cases h
    refine ⟨hl, (List.range n).map (fun j => (w.cell? ⟨p.blk, p.off + off + j, none⟩).getD undef), ⟨by simpa using hl, fun i v v' hv hv' => ?_⟩, fun j v hv => ?_⟩
    · have hi : i < n := by
        rcases Nat.lt_or_ge i n with h1 | h1
        · exact h1
        · rw [List.getElem?_eq_none (by simp at hl ⊢; omega)] at hv; cases hv
      rw [List.getElem?_take, if_pos hi, List.getElem?_drop] at hv
      obtain ⟨x, hx, hxr⟩ := hr.cells _ v hv
      simp [hi] at hv'
      subst hv'
      rw [show p.off + off + i = p.off + (off + i) from by omega, hx]
      exact hxr
    · have hi : j < n := by
        rcases Nat.lt_or_ge j n with h1 | h1
        · exact h1
        · rw [List.getElem?_eq_none (by simpa using h1)] at hv; cases hv
      simp [hi] at hv
      have hlt : off + j < cs.length := by simp at hl; omega
      obtain ⟨x, hx, _⟩ := hr.cells (off + j) _ (List.getElem?_eq_getElem hlt)
      rw [show p.off + (off + j) = p.off + off + j from by omega] at hx
      rw [hx] at hv ⊢
      simpa using hv
  · cases h

theorem addr_add (b o j : Nat) : (⟨b, o, none⟩ : Addr).add j = ⟨b, o + j, none⟩ := by unfold Addr.add; split <;> simp_all

theorem load_sim (hS : Sim H φ m w) {t : TypeId} {a : Addr} {v : Value} {p : Pl} (h : aload P t a m = some v) (hp : φ a.block = some p) :
    ∃ v', (loadVar t ⟨p.blk, p.off + a.off, none⟩).run P w = .ok v' w ∧ VRel φ v v' := by
  unfold aload at h
  split at h
  · rename_i cs k d n hspot hg hd hn
    obtain ⟨p', hp', hr⟩ := hS.row _ _ _ hg
    rw [hp] at hp'; cases hp'
    unfold loadVar
    rw [Sem.run_bind, isAgg_of hd]
    cases hA : isAggD d with
    | true =>
      simp only [hA, cond_true] at h
      cases hl : loadN cs a.off n with
      | none => simp [hl] at h
      | some l =>
        simp [hl] at h; subst h
        obtain ⟨hlen, l', hlr, hc⟩ := hr.loadN hl
        have hl' : l'.length = n := by rw [← hlr.1]; exact hlen
        refine ⟨.agg l'.toArray, ?_, hlr.arr.agg⟩
        have := run_loadCells_list (P := P) w ⟨p.blk, p.off + a.off, none⟩ l' (fun j v hv => by rw [addr_add]; exact hc j v hv)
        rw [hl'] at this
        simp [size_of hn, this]
    | false =>
      simp only [hA, cond_false] at h
      unfold cell1 at h
      have h' : cs[a.off]? = some v := by
        rw [List.head?_drop] at h
        exact h
      obtain ⟨v', hv', hvr⟩ := hr.cells _ v h'
      exact ⟨v', by simp [hv'], hvr⟩
  · cases h

theorem putCells_sim (hS : Sim H φ m w) {b off : Nat} {vs vs' : List Value} {p : Pl} (h : putCells m b off vs = some m') (hp : φ b = some p) (hv : LRel φ vs vs') (i : Nat) (hi : i = 0) :
    ∃ w', (storeCells ⟨p.blk, p.off + off, none⟩ vs' i).run P w = .ok () w' ∧ Sim H φ m' w' ∧ Below H w w' := by
  subst hi
  unfold putCells at h
  split at h
  · rename_i cs k hg
    obtain ⟨p', hp', hr⟩ := hS.row _ _ _ hg
    rw [hp] at hp'; cases hp'
    cases hk : (writable k && vs.all oneCell) with
    | false => simp [hk] at h
    | true =>
      simp only [hk, cond_true] at h
      rw [Bool.and_eq_true] at hk
      unfold storeN at h
      cases hle : Nat.ble (off + vs.length) cs.length with
      | false => simp [hle] at h
      | true =>
        simp only [hle, cond_true, Option.map_some] at h
        cases h
        have hle' := Nat.le_of_ble_eq_true hle
        have hown := hr.own hk.1
        have hlim := hr.lim
        have hlen := hv.1
        refine ⟨w.setCells p.blk (p.off + off) vs', ?_, hS.setCells hg hk.1 hp hv hle', Below.setCells _ hown.1 _ _ _ (Below.refl _ _)⟩
        have := run_storeCells_cells (P := P) p.blk (p.off + off) vs' 0 w
          (fun j hj => by
            have := (hown.2.there (off + j) (by omega)).1
            rwa [show p.off + (off + j) = p.off + off + 0 + j from by omega] at this)
          (fun j hj => by
            have := (hown.2.there (off + j) (by omega)).2
            rwa [show p.off + (off + j) = p.off + off + 0 + j from by omega] at this)
          (fun u hu => by
            obtain ⟨i, hi⟩ := List.getElem?_of_mem hu
            have hi' : i < vs.length := by
              rcases Nat.lt_or_ge i vs.length with h1 | h1
              · exact h1
              · rw [List.getElem?_eq_none (by omega)] at hi; cases hi
            exact (hv.2 i _ _ (List.getElem?_eq_getElem hi') hi).oneCell (List.all_eq_true.1 hk.2 _ (List.getElem_mem hi')))
        simpa using this
  · cases h

theorem store_sim (hS : Sim H φ m w) {t : TypeId} {a : Addr} {v v' : Value} {p : Pl} (h : astore P t a v m = some m') (hp : φ a.block = some p) (hv : VRel φ v v') :
    ∃ w', (storeVar t ⟨p.blk, p.off + a.off, none⟩ v').run P w = .ok () w' ∧ Sim H φ m' w' ∧ Below H w w' := by
  unfold astore at h
  split at h
  · rename_i n hspot hn
    cases hb : Nat.beq v.cells.size n with
    | false => simp [hb] at h
    | true =>
      simp only [hb, cond_true] at h
      have hb' := Nat.eq_of_beq_eq_true hb
      obtain ⟨w', h1, h2, h3⟩ := putCells_sim (P := P) hS h hp hv.cells 0 rfl
      have hl : v'.cells.size = n := by have := hv.cells.1; simp at this; omega
      exact ⟨w', by simp [storeVar, size_of hn, hl, h1], h2, h3⟩
  · cases h

theorem newCells_sim (hS : Sim H φ m w) {cs cs' : List Value} {v : Value} (h : newCells m cs .rw = some (v, m')) (hn : m.get m.next = none) (hcs : LRel φ cs cs') (e : TypeId) :
    ValOk H φ m' w v (.ok (.pointer (some ⟨w.heap.size, 0, none⟩)) (w.alloc (.cells cs'.toArray e))) := by
  unfold newCells at h
  cases h1 : cs.all oneCell with
  | false => simp [h1] at h
  | true =>
    simp only [h1, cond_true] at h
    cases h
    have := hS.push_row (k := .rw) (extra := []) hn rfl rfl hcs e 0 0 (.inl rfl)
    simp only [List.append_nil] at this
    exact ⟨_, _, _, rfl, Place.le_add (hS.none_ _ hn), this, (Below.refl H w).alloc hS.low _, .ptr (p := ⟨w.heap.size, 0, cs'.length, cs.length, none⟩) (by simp [Place.add])⟩

end
end Go.Big

/- Slices, appends, copies. -/
namespace Go.Big
open Go.RowKit

theorem beq_dec (a b : Nat) : Nat.beq a b = decide (a = b) := by
  cases h : Nat.beq a b with
  | true => simp [Nat.eq_of_beq_eq_true h]
  | false => simp [Nat.ne_of_beq_eq_false h]
theorem ble_dec (a b : Nat) : Nat.ble a b = decide (a ≤ b) := by
  cases h : Nat.ble a b with
  | true => simp [Nat.le_of_ble_eq_true h]
  | false =>
    symm; rw [decide_eq_false_iff_not]; intro h'
    rw [Nat.ble_eq_true_of_le h'] at h; cases h
theorem blt_dec (a b : Nat) : Nat.blt a b = decide (a < b) := by
  unfold Nat.blt; rw [ble_dec]; rfl

section
variable {P : Program} {H : Nat} {φ : Place} {m m' : Mem} {w : World}

/-- Optional operands that are related. -/
def ORel (φ : Place) : Option Value → Option Value → Prop
  | none, none => True
  | some v, some v' => VRel φ v v'
  | _, _ => False

theorem natOf_some {v : Value} {n : Nat} (h : natOf v = some n) : ∃ k, v = .int k (n : Int) := by
  unfold natOf at h
  split at h
  · cases h; exact ⟨_, rfl⟩
  · cases h

theorem bound_run {v v' : Value} {n : Nat} (h : natOf v = some n) (hr : VRel φ v v') (y : Nat) (hy : n ≤ y) (code : BoundsCode) (w : World) :
    (Instr.sliceBound v' y code).run P w = .ok n w := by
  obtain ⟨k, rfl⟩ := natOf_some h
  rw [hr.scalar_eq rfl]
  have : (n : Int) ≤ (y : Int) := by omega
  simp [Instr.sliceBound, asIntOf, this]

theorem bounds_run {len cap cap' l h mm : Nat} {lo hi mx lo' hi' mx' : Option Value} (hb : bounds len cap lo hi mx = some (l, h, mm)) (h1 : ORel φ lo lo') (h2 : ORel φ hi hi')
    (h3 : ORel φ mx mx') (hc : cap ≤ cap') (isS : Bool) (w : World) :
    (Instr.sliceBounds isS len cap' lo' hi' mx').run P w = .ok (l, h, bif mx.isSome then mm else cap') w ∧ l ≤ h ∧ h ≤ mm ∧ mm ≤ cap ∧ (mx.isSome = false → mm = cap) ∧
      (hi = none → h = len) ∧ (lo = none → l = 0) := by
  unfold bounds at hb
  simp only [Option.bind_eq_some_iff] at hb
  obtain ⟨m0, hm, h0, hh, l0, hl, hb⟩ := hb
  simp only [ble_dec, cond_eq_ite, Bool.and_eq_true, decide_eq_true_eq] at hb
  split at hb
  · rename_i hc3
    obtain ⟨⟨c1, c2⟩, c3⟩ := hc3
    simp only [Option.some.injEq, Prod.mk.injEq] at hb
    obtain ⟨rfl, rfl, rfl⟩ := hb
    unfold Instr.sliceBounds
    cases mx with
    | none =>
      cases mx' with
      | some _ => cases h3
      | none =>
        simp [optNat] at hm; subst hm
        cases hi with
        | none =>
          cases hi' with
          | some _ => cases h2
          | none =>
            simp [optNat] at hh; subst hh
            cases lo with
            | none =>
              cases lo' with
              | some _ => cases h1
              | none => simp [optNat] at hl; subst hl; simp [c2]
            | some v =>
              cases lo' with
              | none => cases h1
              | some v' => simp [optNat] at hl; simp [bound_run hl h1 _ c3, c2, c3]
        | some u =>
          cases hi' with
          | none => cases h2
          | some u' =>
            simp [optNat] at hh
            cases lo with
            | none =>
              cases lo' with
              | some _ => cases h1
              | none => simp [optNat] at hl; subst hl; simp [bound_run hh h2 cap' (by omega), c2]
            | some v =>
              cases lo' with
              | none => cases h1
              | some v' => simp [optNat] at hl; simp [bound_run hh h2 cap' (by omega), bound_run hl h1 _ c3, c2, c3]
    | some x =>
      cases mx' with
      | none => cases h3
      | some x' =>
        simp [optNat] at hm
        cases hi with
        | none => simp [optNat] at hh
        | some u =>
          cases hi' with
          | none => cases h2
          | some u' =>
            simp [optNat] at hh
            cases lo with
            | none =>
              cases lo' with
              | some _ => cases h1
              | none => simp [optNat] at hl; subst hl; simp [bound_run hm h3 cap' (by omega), bound_run hh h2 _ c2, c1, c2]
            | some v =>
              cases lo' with
              | none => cases h1
              | some v' => simp [optNat] at hl; simp [bound_run hm h3 cap' (by omega), bound_run hh h2 _ c2, bound_run hl h1 _ c3, c1, c2, c3]
  · cases hb

theorem capRel_closed {p : Pl} {cs : List Value} {k : Kind} (hr : RowAt H φ w cs k p) {off c c' : Nat} (ho : isOpen cs k off c = false) (h : capRel p off c c') : c' = c := by
  unfold capRel at h
  have hk := hr.kind
  cases k with
  | slack s =>
    simp only at hk
    simp only [isOpen, beq_dec, decide_eq_false_iff_not] at ho
    rw [hk.2] at h
    simp only at h
    rw [if_neg (by rw [hr.len]; exact ho)] at h
    exact h
  | ro => simp only at hk; rw [hk.1] at h; exact h
  | rw => simp only at hk; rw [hk.1] at h; exact h

theorem closed_capRel {p : Pl} {cs : List Value} {k : Kind} (hr : RowAt H φ w cs k p) {off c : Nat} (ho : isOpen cs k off c = false) : capRel p off c c := by
  unfold capRel
  have hk := hr.kind
  cases k with
  | slack s =>
    simp only at hk
    simp only [isOpen, beq_dec, decide_eq_false_iff_not] at ho
    rw [hk.2]
    simp only
    rw [if_neg (by rw [hr.len]; exact ho)]
    trivial
  | ro => simp only at hk; rw [hk.1]
  | rw => simp only at hk; rw [hk.1]

theorem capRel_le {p : Pl} {off c c' : Nat} (h : capRel p off c c') : c ≤ c' := by
  unfold capRel at h
  split at h
  · split at h
    · exact h.1
    · omega
  · omega

theorem open_capRel {p : Pl} {cs : List Value} {s : Nat} (hr : RowAt H φ w cs (.slack s) p) {off c c' : Nat} (ho : isOpen cs (.slack s) off c = true) (h : capRel p off c c') :
    c ≤ c' ∧ off + c' * s ≤ p.lim ∧ off + c * s = cs.length := by
  unfold capRel at h
  have hk := hr.kind
  simp only at hk
  simp only [isOpen, beq_dec, decide_eq_true_eq] at ho
  rw [hk.2] at h
  simp only at h
  rw [if_pos (by rw [hr.len]; exact ho)] at h
  exact ⟨h.1, h.2, ho⟩

theorem closedS_rel {cs : List Value} {k : Kind} {p : Pl} (hr : RowAt H φ w cs k p) {a : Addr} (hsp : a.spot = none) (hp : φ a.block = some p) {s l h mm : Nat} {v : Value}
    (hv : closedS cs k a s l h mm = some v) :
    VRel φ v (.slice (some (if mm = l then ⟨p.blk, p.off + a.off, none⟩ else (⟨p.blk, p.off + a.off, none⟩ : Addr).add (l * s))) (h - l) (mm - l)) := by
  obtain ⟨b, o, sp⟩ := a
  simp only at hsp hp; subst hsp
  unfold closedS at hv
  simp only [beq_dec, cond_eq_ite, decide_eq_true_eq] at hv
  by_cases e : mm = l
  · simp only [if_pos e] at hv ⊢
    split at hv
    · cases hv
    · rename_i ho
      cases hv
      exact .slice hp (closed_capRel hr (by simpa using ho))
  · simp only [if_neg e, addr_add] at hv ⊢
    split at hv
    · cases hv
    · rename_i ho
      cases hv
      rw [Nat.add_assoc]
      exact .slice hp (closed_capRel hr (by simpa using ho))

theorem arr_slice_run {t : TypeId} {n : Nat} {e : TypeId} (ha : arrOf P t = some (n, e)) {b : Addr} {lo' hi' mx' : Option Value} {l h mm s : Nat} (hs : szOf P e = some s)
    (hb : (Instr.sliceBounds false n n lo' hi' mx').run P w = .ok (l, h, mm) w) :
    (Instr.sliceAt t (.pointer (some b)) lo' hi' mx').run P w = .ok (.slice (some (if mm = l then b else b.add (l * s))) (h - l) (mm - l)) w := by
  unfold arrOf at ha
  split at ha
  · rename_i n' e' hu
    cases ha
    simp [Instr.sliceAt, und_of hu, Instr.sureAddr, hb, size_of hs]
  · rename_i arr hu
    split at ha
    · rename_i n' e' hu'
      cases ha
      simp [Instr.sliceAt, und_of hu, Instr.slice, asAddr, und_of hu', hb, size_of hs]
    · cases ha
  · cases ha

/-- A slice of an array behind a pointer, or of a slice. -/
theorem slice_sim (hS : Sim H φ m w) {t : TypeId} {x x' v : Value} {lo hi mx lo' hi' mx' : Option Value} (h : aslice P t x lo hi mx m = some v) (hx : VRel φ x x')
    (h1 : ORel φ lo lo') (h2 : ORel φ hi hi') (h3 : ORel φ mx mx') : ∃ v', (Instr.sliceAt t x' lo' hi' mx').run P w = .ok v' w ∧ VRel φ v v' := by
  unfold aslice at h
  split at h
  · rename_i a
    obtain ⟨p, hsp, hp, rfl⟩ := hx.ptr_inv
    split at h
    · rename_i n e cs k ha hspot hg
      split at h
      · rename_i l hh mm s hb hs
        obtain ⟨p', hp', hr⟩ := hS.row _ _ _ hg
        rw [hp] at hp'; cases hp'
        obtain ⟨hrun, _, _, _, hmc, _⟩ := bounds_run hb h1 h2 h3 (Nat.le_refl n) false w
        have hrun' : (Instr.sliceBounds false n n lo' hi' mx').run P w = .ok (l, hh, mm) w := by
          rw [hrun]
          cases hmx : mx.isSome with
          | true => rfl
          | false => simp [hmc hmx]
        exact ⟨_, arr_slice_run ha hs hrun', closedS_rel hr hspot hp h⟩
      · cases h
    · cases h
  · rename_i a len cap
    split at h
    · rename_i elem hu
      split at h
      · rename_i l hh mm s hb hs
        split at h
        · -- the empty slice of which nothing is known
          rename_i sp hsp
          simp only [beq_dec, cond_eq_ite, Bool.and_eq_true, decide_eq_true_eq] at h
          split at h
          · rename_i hc
            cases h
            obtain ⟨⟨rfl, rfl⟩, hmx⟩ := hc
            rcases hx.slice_inv with ⟨p, c', hsp', _⟩ | ⟨_, _, _, a', c', rfl⟩
            · rw [hsp'] at hsp; cases hsp
            · obtain ⟨hrun, hle1, hle2, hle3, _, _⟩ := bounds_run (P := P) hb h1 h2 h3 (Nat.zero_le c') true w
              have hmx' : mx.isSome = false := by cases mx <;> simp_all
              rw [hmx'] at hrun
              have e1 : l = 0 := by omega
              have e2 : hh = 0 := by omega
              subst e1; subst e2
              refine ⟨.slice (some (if c' = 0 then a' else a'.add (0 * s))) 0 c', ?_, .dead⟩
              simp only [Instr.sliceAt, Sem.run_bind, und_of hu, Result.andThen_ok, Instr.slice, hrun, size_of hs, cond_false, Sem.run_pure]
              by_cases hc0 : c' = 0 <;> simp [hc0]
          · cases h
        · rename_i hsp
          split at h
          · rename_i cs k hg
            rcases hx.slice_inv with ⟨p, c', hsp', hp, hcap, rfl⟩ | ⟨rfl, _, _, a', c', rfl⟩
            · obtain ⟨p', hp', hr⟩ := hS.row _ _ _ hg
              rw [hp] at hp'; cases hp'
              obtain ⟨hrun, hle1, hle2, hle3, hmc, _⟩ := bounds_run (P := P) hb h1 h2 h3 (capRel_le hcap) true w
              have hfin : ∀ mm' l' h', (Instr.sliceBounds true len c' lo' hi' mx').run P w = .ok (l', h', mm') w →
                  (Instr.sliceAt t (.slice (some ⟨p.blk, p.off + a.off, none⟩) len c') lo' hi' mx').run P w =
                    .ok (.slice (some (if mm' = l' then ⟨p.blk, p.off + a.off, none⟩ else (⟨p.blk, p.off + a.off, none⟩ : Addr).add (l' * s))) (h' - l') (mm' - l')) w := by
                intro mm' l' h' hr'
                simp only [Instr.sliceAt, Sem.run_bind, und_of hu, Result.andThen_ok, Instr.slice, hr', size_of hs, Sem.run_pure]
                split <;> simp_all
              have hspot : a = ⟨a.block, a.off, none⟩ := by cases a; simp_all
              by_cases hop : isOpen cs k a.off cap = true
              · cases mx with
                | some _ => simp [hop] at h
                | none =>
                  simp only [hop, Option.isNone_none, Bool.and_self, cond_true] at h
                  cases k with
                  | slack s' =>
                    simp only [beq_dec, cond_eq_ite, decide_eq_true_eq] at h
                    split at h
                    · rename_i hss
                      subst hss
                      obtain ⟨hc1, hc2, hc3⟩ := open_capRel hr hop hcap
                      have hmm : mm = cap := hmc rfl
                      have hrun2 := hfin _ _ _ hrun
                      simp only [Option.isSome_none, cond_false] at hrun2
                      split at h
                      · rename_i hl
                        cases h
                        have e : hh - l = 0 := by omega
                        rw [e] at hrun2
                        exact ⟨_, hrun2, .dead⟩
                      · rename_i hl
                        cases h
                        rw [if_neg (by omega), addr_add] at hrun2
                        refine ⟨_, hrun2, ?_⟩
                        rw [hspot, addr_add, Nat.add_assoc]
                        refine .slice hp ?_
                        unfold capRel
                        have hk := hr.kind
                        simp only at hk
                        rw [hk.2]
                        simp only
                        have m1 : (cap - l) * s = cap * s - l * s := Nat.sub_mul ..
                        have m2 : (c' - l) * s = c' * s - l * s := Nat.sub_mul ..
                        have m3 : l * s ≤ cap * s := Nat.mul_le_mul_right _ (by omega)
                        have m4 : cap * s ≤ c' * s := Nat.mul_le_mul_right _ hc1
                        rw [hmm, if_pos (by rw [hr.len, m1]; omega)]
                        exact ⟨by omega, by rw [m2]; omega⟩
                    · cases h
                  | ro => cases h
                  | rw => cases h
              · have hop' : isOpen cs k a.off cap = false := by simpa using hop
                simp only [hop', Bool.false_and, cond_false] at h
                have hcc := capRel_closed hr hop' hcap
                subst hcc
                have hrun' : (Instr.sliceBounds true len c' lo' hi' mx').run P w = .ok (l, hh, mm) w := by
                  rw [hrun]
                  cases hmx : mx.isSome with
                  | true => rfl
                  | false => simp [hmc hmx]
                exact ⟨_, hfin _ _ _ hrun', closedS_rel hr hsp hp h⟩
            · cases hsp
          · cases h
      · cases h
    · cases h
  · cases h

/-- The elements of a slice or a string. -/
theorem elems_sim (hS : Sim H φ m w) {size n : Nat} {x x' : Value} {l : List Value} (h : elemsOf size x m = some (n, l)) (hx : VRel φ x x') :
    l.length = n * size ∧ (Builtin.lenOf x').run P w = .ok n w ∧
      ∀ k, k ≤ n → ∃ l', LRel φ (l.take (k * size)) l' ∧ (Builtin.firstCells size k x').run P w = .ok l'.toArray w := by
  unfold elemsOf at h
  split at h
  · simp only [beq_dec, cond_eq_ite, decide_eq_true_eq] at h
    split at h
    · rename_i n' c hn
      cases h
      rw [hx.scalar_eq rfl]
      refine ⟨by simp, by simp [Builtin.lenOf, hn], fun k hk => ⟨[], by simpa using LRel.nil, by simp [Builtin.firstCells]⟩⟩
    · cases h
  · rename_i a n' c
    split at h
    · rename_i sp hsp
      simp only [beq_dec, cond_eq_ite, decide_eq_true_eq] at h
      split at h
      · rename_i hn
        cases h
        rcases hx.slice_inv with ⟨p, c', hsp', _⟩ | ⟨_, _, _, a', c', rfl⟩
        · rw [hsp'] at hsp; cases hsp
        · refine ⟨by simp, by simp [Builtin.lenOf], fun k hk => ⟨[], by simpa using LRel.nil, ?_⟩⟩
          have : k = 0 := by omega
          subst this
          show (loadCells a' (0 * size)).run P w = _
          rw [Nat.zero_mul]; rfl
      · cases h
    · rename_i hsp
      cases hg : getCells m a.block a.off (n' * size) with
      | none => simp [hg] at h
      | some l0 =>
        simp [hg] at h
        obtain ⟨rfl, rfl⟩ := h
        rcases hx.slice_inv with ⟨p, c', hsp', hp, hcap, rfl⟩ | ⟨rfl, _, _, a', c', rfl⟩
        · unfold getCells at hg
          split at hg
          · rename_i cs k hgm
            obtain ⟨p', hp', hr⟩ := hS.row _ _ _ hgm
            rw [hp] at hp'; cases hp'
            obtain ⟨hl, l', hlr, hc⟩ := hr.loadN hg
            refine ⟨hl, by simp [Builtin.lenOf], fun k hk => ⟨l'.take (k * size), hlr.take _, ?_⟩⟩
            have hle : k * size ≤ n' * size := Nat.mul_le_mul_right _ hk
            have hl2 : (l'.take (k * size)).length = k * size := by have := hlr.1; simp; omega
            have := run_loadCells_list (P := P) w ⟨p.blk, p.off + a.off, none⟩ (l'.take (k * size)) (fun j v hv => by
              rw [List.getElem?_take] at hv
              split at hv
              · rw [addr_add]; exact hc j v hv
              · cases hv)
            rw [hl2] at this
            simpa [Builtin.firstCells] using this
          · cases hg
        · cases hsp
  · rename_i s
    simp only [beq_dec, cond_eq_ite, decide_eq_true_eq] at h
    split at h
    · rename_i hs
      cases h
      subst hs
      rw [hx.scalar_eq rfl]
      refine ⟨by show (s.data.toList.map _).length = s.data.size * 1; simp, by simp [Builtin.lenOf], fun k hk => ⟨_, LRel.of_scalars ?_, ?_⟩⟩
      · rw [List.all_eq_true]; intro u hu
        have := List.mem_of_mem_take hu
        simp [bytesCells] at this
        obtain ⟨b, _, rfl⟩ := this
        rfl
      · simp [Builtin.firstCells, bytesCells]
        apply Array.toList_inj.1
        simp
    · cases h
  · cases h

end
end Go.Big

/- Appends, copies, new rows, parts of structs, conversions. -/
namespace Go.Big
open Go.RowKit Go.Room

section
variable {P : Program} {H : Nat} {φ : Place} {m m' : Mem} {w : World}

/-- A new row with spare room. -/
theorem grow_sim (hS : Sim H φ m w) {cs cs' extra : List Value} {s n c : Nat} (hn : m.get m.next = none) (hs : 0 < s) (hcs : LRel φ cs cs') (hl : cs.length = n * s)
    (he : extra.length = (c - n) * s) (hc : n ≤ c) (e : TypeId) (lo hi : Nat) (hf : lo = hi ∨ (cs' ++ extra).length ≤ lo) :
    ∃ ψ, Place.le φ ψ ∧ Sim H ψ (m.push (.row cs (.slack s))) (w.alloc (.cells (cs' ++ extra).toArray e (lo, hi))) ∧
      VRel ψ (.slice (some ⟨m.next, 0, none⟩) n n) (.slice (some ⟨w.heap.size, 0, none⟩) n c) := by
  have h := hS.push_row (k := .slack s) (extra := extra) hn rfl hs hcs e lo hi hf
  refine ⟨_, Place.le_add (hS.none_ _ hn), h, .slice (p := ⟨w.heap.size, 0, (cs' ++ extra).length, cs.length, some s⟩) (by simp [Place.add]) ?_⟩
  unfold capRel
  simp only
  rw [if_pos (by omega)]
  refine ⟨hc, ?_⟩
  have h1 := hcs.1
  have h2 : n * s + (c - n) * s = c * s := by rw [← Nat.add_mul]; congr 1; omega
  simp only [List.length_append, Nat.zero_add]
  omega

/-! ### Rows of zeros -/

theorem zeroCellsN_length (z : List Value) : ∀ n, (zeroCellsN z n).length = n * z.length
  | 0 => by simp [zeroCellsN]
  | n + 1 => by rw [zeroCellsN, List.length_append, zeroCellsN_length z n, Nat.add_mul]; omega

theorem zeroCellsN_get (z : List Value) (hz : 0 < z.length) : ∀ n i, i < n * z.length → (zeroCellsN z n)[i]? = z[i % z.length]?
  | 0, i, h => by simp at h
  | n + 1, i, h => by
    rw [zeroCellsN]
    by_cases c : i < z.length
    · rw [List.getElem?_append_left c, Nat.mod_eq_of_lt c]
    · rw [List.getElem?_append_right (by omega), zeroCellsN_get z hz n (i - z.length) (by rw [Nat.add_mul] at h; omega)]
      congr 1
      rw [← Nat.mod_eq_sub_mod (by omega)]

theorem zeros_list (z : Array Value) (n : Nat) : ((Array.range (n * z.size)).map fun i => z[i % z.size]!).toList = zeroCellsN z.toList n := by
  apply List.ext_getElem?
  intro i
  by_cases hi : i < n * z.size
  · have hz : 0 < z.size := by
      rcases Nat.eq_zero_or_pos z.size with h | h
      · rw [h] at hi; simp at hi
      · exact h
    rw [zeroCellsN_get z.toList (by simpa using hz) n i (by simpa using hi)]
    have hm : i % z.size < z.size := Nat.mod_lt _ hz
    simp [hi, hm]
  · rw [List.getElem?_eq_none (by simpa using hi), List.getElem?_eq_none (by rw [zeroCellsN_length]; simpa using hi)]

theorem zeroCells_list (z : Array Value) (n : Nat) : (Builtin.zeroCells z n).toList = zeroCellsN z.toList n := zeros_list z n

theorem zeroCellsN_scalar {z : List Value} (hz : z.all scalar = true) : ∀ n, (zeroCellsN z n).all scalar = true
  | 0 => rfl
  | n + 1 => by rw [zeroCellsN, List.all_append, hz, zeroCellsN_scalar hz n]; rfl

/-! ### The model's append -/

section model
variable {argTypes : Array TypeId} {sT xT elem ty : TypeId} {d : TypeDesc} {size bytes n : Nat} {x' z : Value} {new' : List Value}

theorem append_fits (h0 : argTypes[0]? = some sT) (hu : P.underlying sT = some (.slice elem)) (h1 : argTypes[1]? = some xT) (hd : P.underlying xT = some d) (hd' : ∀ k, d ≠ .int k)
    (hsz : szOf P elem = some size) (hlen : (Builtin.lenOf x').run P w = .ok n w) (hfirst : (Builtin.firstCells size n x').run P w = .ok new'.toArray w)
    (a : Addr) (sLen sCap : Nat) (hfit : sLen + n ≤ sCap) (w' : World) (hst : (storeCells (a.add (sLen * size)) new').run P w = .ok () w') :
    (Builtin.append_ argTypes ty #[.slice (some a) sLen sCap, x']).run P w = .ok (.slice (some a) (sLen + n) sCap) w' := by
  unfold Builtin.append_
  simp [h0, h1, und_of hu, und_of hd, size_of hsz, hlen, hfirst, hfit, hst]

theorem append_fits_none (h0 : argTypes[0]? = some sT) (hu : P.underlying sT = some (.slice elem)) (h1 : argTypes[1]? = some xT) (hd : P.underlying xT = some d) (hd' : ∀ k, d ≠ .int k)
    (hsz : szOf P elem = some size) (hlen : (Builtin.lenOf x').run P w = .ok 0 w) (hfirst : (Builtin.firstCells size 0 x').run P w = .ok new'.toArray w) :
    (Builtin.append_ argTypes ty #[.slice none 0 0, x']).run P w = .ok (.slice none 0 0) w := by
  unfold Builtin.append_
  simp [h0, h1, und_of hu, und_of hd, size_of hsz, hlen, hfirst]

theorem append_grows (h0 : argTypes[0]? = some sT) (hu : P.underlying sT = some (.slice elem)) (h1 : argTypes[1]? = some xT) (hd : P.underlying xT = some d) (hd' : ∀ k, d ≠ .int k)
    (hsz : szOf P elem = some size) (hby : (P.info? elem).map (·.bytes) = some bytes) (hz : (P.info? elem).bind (·.zero) = some z) (hzs : z.cells.size = size)
    (hlen : (Builtin.lenOf x').run P w = .ok n w) (hfirst : (Builtin.firstCells size n x').run P w.drew = .ok new'.toArray w.drew)
    (base : Option Addr) (sLen sCap : Nat) (hfit : sCap < sLen + n) (hsm : smallB (sLen + n) bytes = true) (old' : List Value)
    (hold : (Builtin.firstCells size sLen (.slice base sLen sCap)).run P w.drew = .ok old'.toArray w.drew) :
    ∃ c extra, sLen + n ≤ c ∧ extra.length = (c - (sLen + n)) * size ∧ (Builtin.append_ argTypes ty #[.slice base sLen sCap, x']).run P w =
      .ok (.slice (some ⟨w.heap.size, 0, none⟩) (sLen + n) c) (w.drew.alloc (.cells (old' ++ new' ++ extra).toArray elem)) := by
  unfold smallB at hsm
  rw [Bool.and_eq_true, ble_dec, ble_dec, decide_eq_true_eq, decide_eq_true_eq] at hsm
  have hi : ∃ i, P.info? elem = some i ∧ i.bytes = bytes := by
    cases hi : P.info? elem with
    | none => rw [hi] at hby; cases hby
    | some i => rw [hi] at hby; simp at hby; exact ⟨i, rfl, hby⟩
  obtain ⟨i, hi, hib⟩ := hi
  have hcap := nextslicecap_le' hfit
  have hb : ¬ (Builtin.nextslicecap (sLen + n) sCap * bytes > 2 ^ 48) := by
    have : Builtin.nextslicecap (sLen + n) sCap * bytes ≤ (2 * 1073741824) * 65536 := Nat.mul_le_mul (by omega) hsm.2
    omega
  have h63 : ¬ ((9223372036854775807 : Int) < (sLen : Int) + (n : Int)) := by omega
  let t := w.tape w.drawn (.appendCap (sLen + n) sCap elem)
  let c := sLen + n + t % (2 ^ 63 - (sLen + n))
  refine ⟨c, (Builtin.zeroCells z.cells (c - (sLen + n))).toList, by omega, by rw [Array.length_toList, size_zeroCells, hzs], ?_⟩
  have hq : (Question.appendCap (sLen + n) sCap elem).forced = false := rfl
  have hnf : ¬ (sLen + n ≤ sCap) := by omega
  unfold Builtin.append_
  simp [h0, h1, und_of hu, und_of hd, size_of hsz, hlen, hnf, typeInfo, hi, hib, h63, hb, hq, hold, hfirst, zero_of hz, newRow]
  refine ⟨rfl, congrArg (fun x => w.drew.alloc (Obj.cells x elem)) (Array.toList_inj.1 ?_)⟩
  simp
  rfl

theorem append_zeros (h0 : argTypes[0]? = some sT) (hu : P.underlying sT = some (.slice elem)) (h1 : argTypes[1]? = some xT) {k k' : IntKind} (hd : P.underlying xT = some (.int k))
    (hsz : szOf P elem = some size) (hby : (P.info? elem).map (·.bytes) = some bytes) (hz : (P.info? elem).bind (·.zero) = some z) (hzs : z.cells.size = size) (hpos : 0 < size)
    (hn : 0 < n) (hsm : smallB n bytes = true) :
    ∃ c extra, n ≤ c ∧ extra.length = (c - n) * size ∧ (Builtin.append_ argTypes ty #[.slice none 0 0, .int k' (n : Int)]).run P w =
      .ok (.slice (some ⟨w.heap.size, 0, none⟩) n c) (w.drew.alloc (.cells (zeroCellsN z.cells.toList n ++ extra).toArray elem)) := by
  unfold smallB at hsm
  rw [Bool.and_eq_true, ble_dec, ble_dec, decide_eq_true_eq, decide_eq_true_eq] at hsm
  have hi : ∃ i, P.info? elem = some i ∧ i.bytes = bytes := by
    cases hi : P.info? elem with
    | none => rw [hi] at hby; cases hby
    | some i => rw [hi] at hby; simp at hby; exact ⟨i, rfl, hby⟩
  obtain ⟨i, hi, hib⟩ := hi
  have hcap := nextslicecap_le' (need := n) (old := 0) (by omega)
  have hb : ¬ (Builtin.nextslicecap n 0 * bytes > 2 ^ 48) := by
    have : Builtin.nextslicecap n 0 * bytes ≤ (2 * 1073741824) * 65536 := Nat.mul_le_mul (by omega) hsm.2
    omega
  have hb2 : ¬ ((281474976710656 : Int) < (n : Int) * (bytes : Int)) := by
    have : n * bytes ≤ 1073741824 * 65536 := Nat.mul_le_mul (by omega) hsm.2
    have : ((n * bytes : Nat) : Int) ≤ ((1073741824 * 65536 : Nat) : Int) := Int.ofNat_le.2 this
    rw [Int.natCast_mul] at this
    omega
  have h63 : ¬ ((9223372036854775807 : Int) < (n : Int)) := by omega
  have hwr : IntKind.wrap .i64 (n : Int) = (n : Int) := by
    unfold IntKind.wrap IntKind.bits IntKind.signed
    simp
    omega
  have hneg : ¬ ((n : Int) < 0) := by omega
  have hnz : n ≠ 0 := by omega
  have hsz0 : size ≠ 0 := by omega
  let t := w.tape w.drawn (.appendCap n 0 elem)
  let c := n + t % (2 ^ 63 - n)
  refine ⟨c, (Builtin.zeroCells z.cells (c - n)).toList, by omega, by rw [Array.length_toList, size_zeroCells, hzs], ?_⟩
  have hq : (Question.appendCap n 0 elem).forced = false := rfl
  have hai : ∀ w, Sem.run P (asIntOf (Value.int k' (n : Int))) w = .ok (k', (n : Int)) w := fun _ => rfl
  unfold Builtin.append_
  simp [h0, h1, und_of hu, und_of hd, size_of hsz, typeInfo, hi, hib, h63, hb, hb2, hwr, hneg, hnz, hsz0, hq, zero_of hz, newRow, Builtin.firstCells, asInt, hai]
  have hns : n * size ≠ 0 := by have := Nat.mul_pos hn hpos; omega
  rw [if_neg hns]
  have hz1 : (zeroCellsN z.cells.toList n ++ (Builtin.zeroCells z.cells (c - n)).toList).toArray = Builtin.zeroCells z.cells n ++ Builtin.zeroCells z.cells (c - n) := by
    rw [← zeroCells_list]
    simp
  rw [hz1]
  rfl
end model

theorem append_sim (hS : Sim H φ m w) {argTypes : Array TypeId} {s x s' x' v : Value} {W : List Nat} {r : Rd} (h : aappend P argTypes s x m = some (v, m', W, r))
    (hs : VRel φ s s') (hx : VRel φ x x') (hn : m.next < m'.next → m.get m.next = none) (ty : TypeId) :
    ValOk H φ m' w v ((Builtin.append_ argTypes ty #[s', x']).run P w) := by
  unfold aappend at h
  split at h
  case h_2 => cases h
  rename_i _ elem hu0
  split at h
  case h_2 => cases h
  rename_i size bytes z hsz hby hz
  obtain ⟨sT, hsT, hu⟩ := Option.bind_eq_some_iff.1 hu0
  cases hcond : (Nat.beq z.cells.size size && sliceish ((argTypes[1]?).bind P.underlying) && Nat.blt 0 size) with
  | false =>
    simp only [hcond, cond_false] at h
    cases hc2 : (Nat.beq z.cells.size size && intish ((argTypes[1]?).bind P.underlying) && Nat.blt 0 size && z.cells.toList.all scalar) with
    | false => simp only [hc2, cond_false] at h; cases h
    | true =>
      simp only [hc2, cond_true] at h
      simp only [Bool.and_eq_true, beq_dec, blt_dec, decide_eq_true_eq] at hc2
      obtain ⟨⟨⟨hzs, hxd⟩, hpos⟩, hsc⟩ := hc2
      have hxT : ∃ xT k, argTypes[1]? = some xT ∧ P.underlying xT = some (.int k) := by
        cases h1 : (argTypes[1]?).bind P.underlying with
        | none => rw [h1] at hxd; cases hxd
        | some d =>
          obtain ⟨xT, hx1, hx2⟩ := Option.bind_eq_some_iff.1 h1
          rw [h1] at hxd
          cases d with
          | int k => exact ⟨xT, k, hx1, hx2⟩
          | _ => cases hxd
      obtain ⟨xT, k, hx1, hx2⟩ := hxT
      unfold appendZ at h
      split at h
      case h_2 => cases h
      rename_i n hnat
      simp only [cond_eq_ite] at h
      split at h
      case isFalse => cases h
      rename_i hc
      cases h
      rw [Bool.and_eq_true, blt_dec, decide_eq_true_eq] at hc
      have hxi : ∃ k', x = .int k' (n : Int) := by
        unfold natOf at hnat
        split at hnat
        · cases hnat; exact ⟨_, rfl⟩
        · cases hnat
      obtain ⟨k', rfl⟩ := hxi
      rw [hs.scalar_eq rfl, hx.scalar_eq rfl]
      obtain ⟨c, extra, hc1, hc2, hrun⟩ := append_zeros (w := w) (ty := ty) (k' := k') hsT hu hx1 hx2 hsz hby hz hzs hpos hc.1 hc.2
      rw [hrun]
      have hSd : Sim H φ m w.drew := hS.congr rfl
      have hzl : (zeroCellsN z.cells.toList n).length = n * size := by rw [zeroCellsN_length, Array.length_toList, hzs]
      obtain ⟨ψ, h1, h2, h3⟩ := grow_sim hSd (hn (by simp)) hpos (cs' := zeroCellsN z.cells.toList n) ⟨rfl, fun i v v' ha hb => by rw [ha] at hb; cases hb; exact .base (List.all_eq_true.1 (zeroCellsN_scalar hsc n) v (List.mem_of_getElem? ha))⟩ hzl hc2 hc1 elem 0 0 (.inl rfl)
      exact ⟨_, _, ψ, rfl, h1, h2, ((Below.refl H w).drew).alloc hS.low _, h3⟩
  | true =>
    simp only [hcond, cond_true] at h
    simp only [Bool.and_eq_true, beq_dec, blt_dec, decide_eq_true_eq] at hcond
    obtain ⟨⟨hzs, hxd⟩, hpos⟩ := hcond
    have hxT : ∃ xT d, argTypes[1]? = some xT ∧ P.underlying xT = some d ∧ ∀ k, d ≠ .int k := by
      cases h1 : (argTypes[1]?).bind P.underlying with
      | none => rw [h1] at hxd; cases hxd
      | some d =>
        obtain ⟨xT, hx1, hx2⟩ := Option.bind_eq_some_iff.1 h1
        refine ⟨xT, d, hx1, hx2, fun k e => ?_⟩
        rw [h1, e] at hxd; cases hxd
    obtain ⟨xT, d, hx1, hx2, hx3⟩ := hxT
    split at h
    case h_1 => cases h
    rename_i n new hel
    obtain ⟨hlen, hlenOf, hfirst⟩ := elems_sim (P := P) hS hel hx
    obtain ⟨new', hnew, hnewrun⟩ := hfirst n (Nat.le_refl n)
    rw [← hlen, List.take_length] at hnew
    have hSd : Sim H φ m w.drew := hS.congr rfl
    obtain ⟨newd, hnewd, hnewdrun⟩ := (elems_sim (P := P) hSd hel hx).2.2 n (Nat.le_refl n)
    rw [← hlen, List.take_length] at hnewd
    unfold appendTo at h
    split at h
    · -- onto nil
      rw [hs.scalar_eq rfl]
      simp only [beq_dec, cond_eq_ite, decide_eq_true_eq] at h
      split at h
      · rename_i h0
        cases h
        subst h0
        rw [append_fits_none hsT hu hx1 hx2 hx3 hsz hlenOf hnewrun]
        exact ValOk.pure_ hS (.base rfl)
      · rename_i h0
        split at h
        · rename_i hc
          cases h
          rw [Bool.and_eq_true] at hc
          obtain ⟨c, extra, hc1, hc2, hrun⟩ := append_grows (ty := ty) hsT hu hx1 hx2 hx3 hsz hby hz hzs hlenOf hnewdrun none 0 0 (by omega) (by simpa using hc.1) []
            (by simp [Builtin.firstCells])
          simp only [List.nil_append, Nat.zero_add] at hrun hc1 hc2
          rw [hrun]
          obtain ⟨ψ, h1, h2, h3⟩ := grow_sim hSd (hn (by simp)) hpos hnewd hlen hc2 hc1 elem 0 0 (.inl rfl)
          exact ⟨_, _, ψ, rfl, h1, h2, ((Below.refl H w).drew).alloc hS.low _, h3⟩
        · cases h
    · -- onto a row
      rename_i a sLen sCap
      split at h
      · -- onto the empty slice of which nothing is known
        rename_i sp hsp
        simp only [beq_dec, cond_eq_ite, Bool.and_eq_true, decide_eq_true_eq] at h
        split at h
        · rename_i hc
          cases h
          obtain ⟨h0, h0'⟩ := hc
          subst h0
          rcases hs.slice_inv with ⟨p, c', hsp', _⟩ | ⟨_, _, _, a', c', rfl⟩
          · rw [hsp'] at hsp; cases hsp
          · have hnil : new' = [] := by
              have h1 := hnew.1
              rw [hlen, Nat.zero_mul] at h1
              exact List.eq_nil_of_length_eq_zero h1.symm
            rw [append_fits hsT hu hx1 hx2 hx3 hsz hlenOf hnewrun a' 0 c' (by omega) w (by rw [hnil]; rfl)]
            exact ValOk.pure_ hS .dead
        · cases h
      · rename_i hsp
        rcases hs.slice_inv with ⟨p, c', hsp', hp, hcap, rfl⟩ | ⟨e, _, _, a', c', rfl⟩
        case inr => rw [e] at hsp; cases hsp
        have hspot : a = ⟨a.block, a.off, none⟩ := by cases a; simp_all
        have hle := capRel_le hcap
        simp only [beq_dec, ble_dec, cond_eq_ite, Bool.and_eq_true, decide_eq_true_eq] at h
        split at h
        · -- nothing is appended
          rename_i hc
          cases h
          obtain ⟨h0, h0'⟩ := hc
          subst h0
          have hnil : new' = [] := by
            have h1 := hnew.1
            rw [hlen, Nat.zero_mul] at h1
            exact List.eq_nil_of_length_eq_zero h1.symm
          rw [append_fits hsT hu hx1 hx2 hx3 hsz hlenOf hnewrun _ sLen c' (by omega) w (by rw [hnil]; rfl)]
          exact ValOk.pure_ hS hs
        · rename_i hne
          split at h
          · -- there is room that is known
            rename_i hfit
            cases hput : putCells m a.block (a.off + sLen * size) new with
            | none => simp [hput] at h
            | some m2 =>
              simp [hput] at h
              obtain ⟨rfl, rfl, _, _⟩ := h
              obtain ⟨w', hst, hS', hB'⟩ := putCells_sim (P := P) hS hput hp hnew 0 rfl
              rw [append_fits hsT hu hx1 hx2 hx3 hsz hlenOf hnewrun _ sLen c' (by omega) w' (by rw [addr_add, Nat.add_assoc]; exact hst)]
              refine ⟨_, _, φ, rfl, Place.le_refl φ, hS', hB', ?_⟩
              rw [hspot]
              exact .slice hp hcap
          · rename_i hfit
            split at h
            case h_2 => cases h
            rename_i cs k old hg hgc
            obtain ⟨p', hp', hr⟩ := hS.row _ _ _ hg
            rw [hp] at hp'; cases hp'
            have hgc' : loadN cs a.off (sLen * size) = some old := by simpa [getCells, hg] using hgc
            obtain ⟨hol, _⟩ := hr.loadN hgc'
            have hr2 : RowAt H φ w.drew cs k p := by
              obtain ⟨q, hq, hr2⟩ := hSd.row _ _ _ hg
              rw [hp] at hq; cases hq
              exact hr2
            obtain ⟨_, old', holdr, holdc⟩ := hr2.loadN hgc'
            have hol' : old'.length = sLen * size := by rw [← holdr.1]; exact hol
            have hold : (Builtin.firstCells size sLen (.slice (some ⟨p.blk, p.off + a.off, none⟩) sLen c')).run P w.drew = .ok old'.toArray w.drew := by
              have := run_loadCells_list (P := P) w.drew ⟨p.blk, p.off + a.off, none⟩ old' (fun j v hv => by rw [addr_add]; exact holdc j v hv)
              rw [hol'] at this
              simpa [Builtin.firstCells] using this
            split at h
            case isFalse => cases h
            rename_i hsm
            have hlen2 : (old ++ new).length = (sLen + n) * size := by rw [List.length_append, hol, hlen, Nat.add_mul]
            have hgrow : c' < sLen + n → ∀ (m1 : Mem), Sim H φ m1 w.drew → m1.get m1.next = none → m1.next = m.next →
                ValOk H φ (m1.push (.row (old ++ new) (.slack size))) w (.slice (some ⟨m.next, 0, none⟩) (sLen + n) (sLen + n))
                  ((Builtin.append_ argTypes ty #[.slice (some ⟨p.blk, p.off + a.off, none⟩) sLen c', x']).run P w) := by
              intro hlt m1 hS1 hn1 hnx
              obtain ⟨c, extra, hc1, hc2, hrun⟩ := append_grows (ty := ty) hsT hu hx1 hx2 hx3 hsz hby hz hzs hlenOf hnewdrun (some ⟨p.blk, p.off + a.off, none⟩) sLen c' hlt hsm.1 old' hold
              rw [hrun]
              obtain ⟨ψ, h1, h2, h3⟩ := grow_sim hS1 hn1 hpos (holdr.append hnewd) hlen2 hc2 hc1 elem 0 0 (.inl rfl)
              rw [hnx] at h3
              exact ⟨_, _, ψ, rfl, h1, h2, ((Below.refl H w).drew).alloc hS.low _, h3⟩
            split at h
            · -- the row's end is open: there may be room
              rename_i hop
              split at h
              case h_2 => cases h
              rename_i s'
              split at h
              case isFalse => cases h
              rename_i hss
              subst hss
              cases h
              have hnone : m.get m.next = none := hn (by simp)
              have hbn : a.block ≠ m.next := fun e => by rw [e, hnone] at hg; cases hg
              obtain ⟨hc1, hc2, hc3⟩ := open_capRel hr hop hcap
              by_cases hroom : sLen + n ≤ c'
              · have hst : ∃ w', (storeCells ((⟨p.blk, p.off + a.off, none⟩ : Addr).add (sLen * s')) new').run P w = .ok () w' ∧ w' = w.setCells p.blk (p.off + a.off + sLen * s') new' := by
                  have hown := hr.own rfl
                  have hnl := hnew.1
                  have hlim : a.off + sLen * s' + new'.length ≤ p.lim := by
                    have : (sLen + n) * s' ≤ c' * s' := Nat.mul_le_mul_right _ hroom
                    rw [Nat.add_mul] at this
                    omega
                  have := run_storeCells_cells (P := P) p.blk (p.off + a.off + sLen * s') new' 0 w
                    (fun j hj => by
                      have := (hown.2.there (a.off + sLen * s' + j) (by omega)).1
                      rwa [show p.off + (a.off + sLen * s' + j) = p.off + a.off + sLen * s' + 0 + j from by omega] at this)
                    (fun j hj => by
                      have := (hown.2.there (a.off + sLen * s' + j) (by omega)).2
                      rwa [show p.off + (a.off + sLen * s' + j) = p.off + a.off + sLen * s' + 0 + j from by omega] at this)
                    (fun u hu => by
                      obtain ⟨i, hi⟩ := List.getElem?_of_mem hu
                      have hi' : i < new.length := by
                        rcases Nat.lt_or_ge i new.length with h1 | h1
                        · exact h1
                        · rw [List.getElem?_eq_none (by omega)] at hi; cases hi
                      exact (hnew.2 i _ _ (List.getElem?_eq_getElem hi') hi).oneCell (List.all_eq_true.1 hsm.2 _ (List.getElem_mem hi')))
                  exact ⟨_, by rw [addr_add]; simpa using this, rfl⟩
                obtain ⟨w', hst, rfl⟩ := hst
                rw [append_fits hsT hu hx1 hx2 hx3 hsz hlenOf hnewrun _ sLen c' hroom _ hst]
                have hroom' : (sLen + n) * s' ≤ c' * s' := Nat.mul_le_mul_right _ hroom
                rw [Nat.add_mul] at hroom'
                have hle0 : sLen * s' ≤ sCap * s' ∨ sCap < sLen := by
                  rcases Nat.lt_or_ge sCap sLen with h1 | h1
                  · exact .inr h1
                  · exact .inl (Nat.mul_le_mul_right _ h1)
                have hsub : a.off + sLen * s' ≤ cs.length := by
                  have : old.length = ((cs.drop a.off).take (sLen * s')).length := by
                    unfold loadN at hgc'
                    simp only [beq_dec, cond_eq_ite, decide_eq_true_eq] at hgc'
                    split at hgc'
                    · cases hgc'; rfl
                    · cases hgc'
                  simp at this
                  rcases Nat.eq_zero_or_pos (sLen * s') with h0 | h0
                  · have := hr.lim; omega
                  · omega
                have hap := hS.append_room hnone hg hp hnew hsub (by omega)
                have hold2 : old = (cs.drop a.off).take (sLen * s') := by
                  unfold loadN at hgc'
                  simp only [beq_dec, cond_eq_ite, decide_eq_true_eq] at hgc'
                  split at hgc'
                  · cases hgc'; rfl
                  · cases hgc'
                refine ⟨_, _, _, rfl, Place.le_add (hS.none_ _ hnone), by rw [hold2]; exact hap, Below.setCells _ (hr.own rfl).1 _ _ _ (Below.refl _ _),
                  .slice (p := ⟨p.blk, p.off + a.off, p.lim - a.off, sLen * s' + new.length, some s'⟩) (by simp [Place.add]) ?_⟩
                unfold capRel
                simp only
                rw [if_pos (by rw [hlen, Nat.add_mul]; omega)]
                exact ⟨hroom, by omega⟩
              · refine hgrow (by omega) (m.set a.block .dead) ((hS.kill a.block).congr rfl) ?_ rfl
                rw [Mem.get_set]
                simp [Ne.symm hbn, hnone]
            · rename_i hop
              cases h
              have hop' : isOpen cs k a.off sCap = false := by simpa using hop
              have hcc := capRel_closed hr hop' hcap
              exact hgrow (by omega) m hSd (hn (by simp)) rfl
    · cases h

end
end Go.Big
