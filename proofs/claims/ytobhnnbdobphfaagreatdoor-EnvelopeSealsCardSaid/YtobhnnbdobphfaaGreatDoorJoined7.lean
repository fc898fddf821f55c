/- The compression function of the hash. -/
import Derived.Test.YtobhnnbdobphfaaGreatDoorJoined6
set_option linter.unusedSimpArgs false
set_option linter.unusedVariables false
set_option linter.unusedSimpArgs false
set_option maxRecDepth 100000
set_option maxHeartbeats 8000000
namespace Go.Big
open Go.Proofs

def blkWord (l : List UInt8) (i : Nat) : UInt32 :=
  (((l.getD (4 * i) 0).toUInt32 ||| (l.getD (4 * i + 1) 0).toUInt32 <<< 8) ||| (l.getD (4 * i + 2) 0).toUInt32 <<< 16) ||| (l.getD (4 * i + 3) 0).toUInt32 <<< 24

/-- One word of the message. -/
theorem u8_at {l : List UInt8} {bs : List Value} {bo i : Nat} (hB : (bs.drop bo).take 64 = u8s l) (hi : i < l.length) : bs[bo + i]? = some (.int .u8 ((l.getD i 0).toNat : Int)) := by
  have h1 : i < (u8s l).length := by rw [u8s_length]; exact hi
  rw [take_drop_get hB h1, u8s_get (b := l.getD i 0)]
  simp [hi]

end Go.Big

/- The compression function of the hash: what it computes. -/
set_option linter.unusedSimpArgs false
set_option maxRecDepth 100000
set_option maxHeartbeats 8000000
namespace Go.Big
open Go.Proofs

def initV (H : List UInt32) (t : Nat) (last : Bool) : List UInt32 :=
  H ++ [0x6a09e667, 0xbb67ae85, 0x3c6ef372, 0xa54ff53a, 0x510e527f ^^^ UInt32.ofNat t, 0x9b05688c ^^^ UInt32.ofNat (t / 4294967296), if last then 0x1f83d9ab ^^^ 0xffffffff else 0x1f83d9ab, 0x5be0cd19]

/-- The four places of a step. -/
def lane (i : Nat) : Nat × Nat × Nat × Nat :=
  if i < 4 then (i, 4 + i, 8 + i, 12 + i) else (i - 4, 4 + (i - 4 + 1) % 4, 8 + (i - 4 + 2) % 4, 12 + (i - 4 + 3) % 4)

def mixAt (v : List UInt32) (p : Nat × Nat × Nat × Nat) (x y : UInt32) : List UInt32 :=
  let r := mixW (v.getD p.1 0) (v.getD p.2.1 0) (v.getD p.2.2.1 0) (v.getD p.2.2.2 0) x y
  (((v.set p.1 r.a).set p.2.1 r.b).set p.2.2.1 r.c).set p.2.2.2 r.d

def blkWords (l : List UInt8) : List UInt32 := (List.range 16).map (blkWord l)

def stepW (M : List UInt32) (s : List Nat) (v : List UInt32) (i : Nat) : List UInt32 :=
  mixAt v (lane i) (M.getD (s.getD (2 * i) 0) 0) (M.getD (s.getD (2 * i + 1) 0) 0)

def roundW (M : List UInt32) (v : List UInt32) (s : List Nat) : List UInt32 := (List.range 8).foldl (stepW M s) v

def finW (H v : List UInt32) : List UInt32 := (List.range 8).map fun i => H.getD i 0 ^^^ (v.getD i 0 ^^^ v.getD (8 + i) 0)

def compressW (H : List UInt32) (l : List UInt8) (t : Nat) (last : Bool) : List UInt32 := finW H (sigma.foldl (roundW (blkWords l)) (initV H t last))

theorem mixAt_length {v : List UInt32} {p : Nat × Nat × Nat × Nat} {x y : UInt32} : (mixAt v p x y).length = v.length := by simp [mixAt]
theorem stepW_length {M : List UInt32} {s : List Nat} {v : List UInt32} {i : Nat} : (stepW M s v i).length = v.length := mixAt_length
theorem foldl_length {α β : Type} {f : List α → β → List α} (h : ∀ v b, (f v b).length = v.length) : ∀ (l : List β) (v : List α), (l.foldl f v).length = v.length
  | [], v => rfl
  | b :: l, v => by rw [List.foldl_cons, foldl_length h l, h]
theorem roundW_length {M : List UInt32} {s : List Nat} {v : List UInt32} : (roundW M v s).length = v.length := foldl_length (fun _ _ => stepW_length) _ _
theorem compressW_length {H : List UInt32} {l : List UInt8} {t : Nat} {last : Bool} : (compressW H l t last).length = 8 := by simp [compressW, finW]

end Go.Big

/- Going through code by its shape: what each kind of code owes, as equations. -/
set_option linter.unusedSimpArgs false
set_option maxRecDepth 100000
namespace Go.Big
open Go.Proofs

/-- A choice by a truth value. -/
def WC (v : Value) [K : Cont (Bool → Prop)] : Prop := match v with | .bool t => K.k t | _ => False

/-- An operation that is carried out if a guard yielded so. -/
def WG (v : Value) (b : Bool) [K : Cont (Bool → Prop)] : Prop := match v with | .bool t => K.k (t == b) | _ => K.k false

/-- What a piece of code owes, by its shape. -/
def WX (P : Program) (S : Cfg) (base : Nat) (L : List Nat) : Code → Env → Mem → (Ex → Env → Mem → Prop) → Prop
  | .seq a b, e, m, Q => WX P S base L a e m fun x e m => match x with | .normal => WX P S base L b e m Q | .exit i => Q (.exit i) e m | .ret => Q .ret e m | .panic v => Q (.panic v) e m
  | .region id ops d, e, m, Q => match d with | true => W P S base L (.region id ops true) e m Q | false => WO P S base L ops Q ops.toList e m
  | .cond c a b, e, m, Q => @WC (e.eval c) ⟨fun t => bif t then WX P S base L a e m Q else WX P S base L b e m Q⟩
  | .block id b, e, m, Q => WX P S base L b e m (inBlock id Q)
  | .exit id, e, m, Q => Q (.exit id) e m
  | .ret, e, m, Q => Q .ret e m
  | .skip, e, m, Q => Q .normal e m
  | .label _, e, m, Q => Q .normal e m
  | c, e, m, Q => W P S base L c e m Q

@[congr] theorem wx_congr {P : Program} {S : Cfg} {base : Nat} {L : List Nat} {c : Code} {Q : Ex → Env → Mem → Prop} {e e' : Env} {m m' : Mem} (h : e = e') (h2 : m = m') : WX P S base L c e m Q = WX P S base L c e' m' Q := by rw [h, h2]
@[congr] theorem wc_congr {v v' : Value} {K : Cont (Bool → Prop)} (h : v = v') : @WC v K = @WC v' K := by rw [h]
@[congr] theorem wg_congr {v v' : Value} {b : Bool} {K : Cont (Bool → Prop)} (h : v = v') : @WG v b K = @WG v' b K := by rw [h]

def andX (P : Program) (S : Cfg) (base : Nat) (L : List Nat) (b : Code) (Q : Ex → Env → Mem → Prop) : Ex → Env → Mem → Prop
  | .normal, e, m => WX P S base L b e m Q
  | .exit i, e, m => Q (.exit i) e m
  | .ret, e, m => Q .ret e m
  | .panic v, e, m => Q (.panic v) e m

section
variable {P : Program} {S : Cfg} {base : Nat} {L : List Nat} {e : Env} {m : Mem} {Q : Ex → Env → Mem → Prop} {a b : Code} {c : Operand} {i bi : Nat} {ops : Array Oper} {v : Value}
theorem wx_seq : WX P S base L (.seq a b) e m Q = WX P S base L a e m (andX P S base L b Q) := by
  rw [WX]
  congr 1
  funext x e m
  cases x <;> rfl
theorem wx_region : WX P S base L (.region bi ops false) e m Q = WO P S base L ops Q ops.toList e m := id rfl
theorem wx_cond : WX P S base L (.cond c a b) e m Q = @WC (e.eval c) ⟨fun t => bif t then WX P S base L a e m Q else WX P S base L b e m Q⟩ := id rfl
theorem wx_block : WX P S base L (.block bi b) e m Q = WX P S base L b e m (inBlock bi Q) := id rfl
theorem wx_exit : WX P S base L (.exit bi) e m Q = Q (.exit bi) e m := id rfl
theorem wx_ret : WX P S base L .ret e m Q = Q .ret e m := id rfl
theorem wx_skip : WX P S base L .skip e m Q = Q .normal e m := id rfl
theorem wx_label : WX P S base L (.label i) e m Q = Q .normal e m := id rfl
theorem andX_normal : andX P S base L b Q .normal e m = WX P S base L b e m Q := id rfl
theorem andX_exit : andX P S base L b Q (.exit i) e m = Q (.exit i) e m := id rfl
theorem andX_ret : andX P S base L b Q .ret e m = Q .ret e m := id rfl
theorem andX_panic : andX P S base L b Q (.panic v) e m = Q (.panic v) e m := id rfl
theorem inBlock_normal : inBlock bi Q .normal e m = Q .normal e m := id rfl
theorem inBlock_ret : inBlock bi Q .ret e m = Q .ret e m := id rfl
theorem inBlock_panic : inBlock bi Q (.panic v) e m = Q (.panic v) e m := id rfl
theorem inBlock_self : inBlock bi Q (.exit bi) e m = Q .normal e m := by simp [inBlock]
theorem inBlock_other (h : i ≠ bi) : inBlock bi Q (.exit i) e m = Q (.exit i) e m := by simp [inBlock, h]
theorem round_normal {I : Nat → Env → Mem → Prop} {k : Nat} : round I k Q .normal e m = ∃ j, j < k ∧ I j e m := id rfl
theorem round_exit {I : Nat → Env → Mem → Prop} {k : Nat} : round I k Q (.exit i) e m = Q (.exit i) e m := id rfl
theorem round_ret {I : Nat → Env → Mem → Prop} {k : Nat} : round I k Q .ret e m = Q .ret e m := id rfl
theorem round_panic {I : Nat → Env → Mem → Prop} {k : Nat} : round I k Q (.panic v) e m = Q (.panic v) e m := id rfl

theorem wc_true {A B : Prop} : @WC (.bool true) ⟨fun t => bif t then A else B⟩ = A := id rfl
theorem wc_false {A B : Prop} : @WC (.bool false) ⟨fun t => bif t then A else B⟩ = B := id rfl
theorem wg_tt {A B : Prop} : @WG (.bool true) true ⟨fun t => bif t then A else B⟩ = A := id rfl
theorem wg_ff {A B : Prop} : @WG (.bool false) false ⟨fun t => bif t then A else B⟩ = A := id rfl
theorem wg_tf {A B : Prop} : @WG (.bool true) false ⟨fun t => bif t then A else B⟩ = B := id rfl
theorem wg_ft {A B : Prop} : @WG (.bool false) true ⟨fun t => bif t then A else B⟩ = B := id rfl

theorem wg_undef {w : Bool} {A B : Prop} : @WG undef w ⟨fun t => bif t then A else B⟩ = B := id rfl
/-- Which truth value it is. -/
theorem x_if {t : Bool} {A B : Prop} (h1 : t = true → A) (h2 : t = false → B) : @WC (.bool t) ⟨fun t => bif t then A else B⟩ := by
  cases t with
  | true => exact h1 rfl
  | false => exact h2 rfl
theorem x_gd {t b : Bool} {A B : Prop} (h1 : t = b → A) (h2 : t = !b → B) : @WG (.bool t) b ⟨fun t => bif t then A else B⟩ := by
  cases t <;> cases b <;> first | exact h1 rfl | exact h2 rfl

theorem wx_sound {c : Code} : ∀ {e : Env} {m : Mem} {Q : Ex → Env → Mem → Prop}, WX P S base L c e m Q → W P S base L c e m Q := by
  induction c with
  | seq a b iha ihb =>
    intro e m Q h
    rw [wx_seq] at h
    refine w_seq (w_mono (iha h) fun x e m hx => ?_)
    cases x with
    | normal => exact ihb hx
    | _ => exact hx
  | region id ops d =>
    intro e m Q h
    cases d with
    | true => exact h
    | false => exact w_region h
  | cond c a b iha ihb =>
    intro e m Q h
    rw [wx_cond] at h
    unfold WC at h
    split at h
    case h_2 => exact h.elim
    rename_i t ht
    refine w_cond ht (fun h1 => ?_) (fun h1 => ?_)
    · subst h1; exact iha h
    · subst h1; exact ihb h
  | block id b ih => intro e m Q h; exact w_block (ih h)
  | exit id => intro e m Q h; exact w_exit h
  | ret => intro e m Q h; exact w_ret h
  | skip => intro e m Q h; exact w_skip h
  | label l => intro e m Q h; exact w_label h
  | _ => intro e m Q h; exact h

theorem wo_mono {Q' : Ex → Env → Mem → Prop} (hq : ∀ x e m, Q x e m → Q' x e m) : ∀ {l : List Oper} {e : Env} {m : Mem}, WO P S base L ops Q l e m → WO P S base L ops Q' l e m
  | [], e, m, h => hq _ _ _ h
  | o :: rest, e, m, h => by
    have put : ∀ {dst : Option Nat} {v : Value} {m' : Mem}, (WPut e dst v fun e' => WO P S base L ops Q rest e' m') → WPut e dst v fun e' => WO P S base L ops Q' rest e' m' := by
      intro dst v m' hp
      cases dst with
      | none => exact wo_mono hq hp
      | some d => exact ⟨hp.1, wo_mono hq hp.2⟩
    unfold WO at h ⊢
    cases hw : Region.wanted o (yieldedA ops e) with
    | false => rw [hw] at h; exact put h
    | true =>
      rw [hw] at h
      simp only [cond_true] at h ⊢
      split at h
      · split at h
        case h_2 => exact h.elim
        obtain ⟨out, m', wr, h1, h2, h3⟩ := h
        refine ⟨out, m', wr, h1, h2, ?_⟩
        cases out with
        | ret v => exact put h3
        | panic v => exact hq _ _ _ h3
      · split at h
        case h_2 => exact h.elim
        exact hq _ _ _ h
      · unfold WV at h ⊢
        split at h
        case h_2 => exact h.elim
        exact ⟨h.1, put h.2⟩

theorem wx_mono {c : Code} : ∀ {e : Env} {m : Mem} {Q Q' : Ex → Env → Mem → Prop}, (∀ x e m, Q x e m → Q' x e m) → WX P S base L c e m Q → WX P S base L c e m Q' := by
  induction c with
  | seq a b iha ihb =>
    intro e m Q Q' hq h
    rw [wx_seq] at h ⊢
    refine iha (fun x e m hx => ?_) h
    cases x with
    | normal => exact ihb hq hx
    | _ => exact hq _ _ _ hx
  | region id ops d =>
    intro e m Q Q' hq h
    cases d with
    | true => exact w_mono h hq
    | false => exact wo_mono hq h
  | cond c a b iha ihb =>
    intro e m Q Q' hq h
    rw [wx_cond] at h ⊢
    unfold WC at h ⊢
    split at h
    case h_2 => exact h.elim
    rename_i t ht
    cases t with
    | true => exact iha hq h
    | false => exact ihb hq h
  | block id b ih =>
    intro e m Q Q' hq h
    refine ih (fun x e m hx => ?_) h
    cases x with
    | exit i =>
      simp only [inBlock] at hx ⊢
      split at hx
      · rename_i hi; rw [if_pos hi]; exact hq _ _ _ hx
      · rename_i hi; rw [if_neg hi]; exact hq _ _ _ hx
    | _ => exact hq _ _ _ hx
  | exit id => intro e m Q Q' hq h; exact hq _ _ _ h
  | ret => intro e m Q Q' hq h; exact hq _ _ _ h
  | skip => intro e m Q Q' hq h; exact hq _ _ _ h
  | label l => intro e m Q Q' hq h; exact hq _ _ _ h
  | loop b => intro e m Q Q' hq h; exact w_mono h hq
  | _ => intro e m Q Q' hq h; exact w_mono h hq

/-- Behind a choice: what both ways come to. -/
theorem x_join {t : Bool} (I : Env → Mem → Prop) (h1 : t = true → WX P S base L a e m fun x e' m' => x = .normal ∧ I e' m') (h2 : t = false → WX P S base L b e m fun x e' m' => x = .normal ∧ I e' m') (h3 : ∀ e' m', I e' m' → Q .normal e' m') :
    @WC (.bool t) ⟨fun t => bif t then WX P S base L a e m Q else WX P S base L b e m Q⟩ := by
  have key : ∀ c, (WX P S base L c e m fun x e' m' => x = .normal ∧ I e' m') → WX P S base L c e m Q := fun c h => wx_mono (fun x e' m' hx => by obtain ⟨rfl, hi⟩ := hx; exact h3 _ _ hi) h
  cases t with
  | true => exact key _ (h1 rfl)
  | false => exact key _ (h2 rfl)

theorem x_draw (plan : List Nat) (hp : planOf ops ops.toList 0 .nil = plan) (h : WD P S base L ops Q ops.toList 0 plan [] e m) : WX P S base L (.region bi ops true) e m Q := w_draw plan hp h

/-- A loop by an invariant with a measure. -/
theorem x_loop (I : Nat → Env → Mem → Prop) (k : Nat) (h0 : I k e m) (hr : ∀ k e m, I k e m → WX P S base L b e m (round I k Q)) : WX P S base L (.loop b) e m Q :=
  w_loop I k h0 fun k e m h => wx_sound (hr k e m h)
theorem x_loop_once (h : WX P S base L b e m (andX P S base L (.loop b) Q)) : WX P S base L (.loop b) e m Q := by
  refine w_loop_once (w_mono (wx_sound h) fun x e m hx => ?_)
  cases x with
  | normal => exact hx
  | _ => exact hx

theorem x_keep (I : Env → Prop) (hI : I e) (h : ∀ e', I e' → WX P S base L b e' m Q) : WX P S base L b e m Q := h e hI
theorem x_keep2 (I : Env → Mem → Prop) (hI : I e m) (h : ∀ e' m', I e' m' → WX P S base L b e' m' Q) : WX P S base L b e m Q := h e m hI

/-! ### Guards -/

def gslot : List Oper → Nat → Option Nat
  | [], _ => none
  | o :: _, 0 => o.dst
  | _ :: l, n + 1 => gslot l n
theorem gslot_zero {o : Oper} {l : List Oper} : gslot (o :: l) 0 = o.dst := id rfl
theorem gslot_succ {o : Oper} {l : List Oper} {n : Nat} : gslot (o :: l) (n + 1) = gslot l n := id rfl
theorem gslot_eq : ∀ {l : List Oper} {j : Nat}, gslot l j = (l[j]?).bind (·.dst)
  | [], j => by simp [gslot]
  | o :: l, 0 => by simp [gslot]
  | o :: l, j + 1 => by simp [gslot, gslot_eq (l := l) (j := j)]

def gval (s : Option Nat) (e : Env) : Value := match s with | some d => e.get d | none => undef
theorem gval_some {d : Nat} {e : Env} : gval (some d) e = e.get d := id rfl

theorem wanted_eq {d : Option Nat} {op : Op} {ty : TypeId} {ps : String} {af : Array Edge} {j : Nat} {w : Bool} {e : Env} :
    Region.wanted ⟨d, op, ty, ps, af, some (j, w)⟩ (yieldedA ops e) = match gval (gslot ops.toList j) e with | .bool t => t == w | _ => false := by
  have h1 : Region.wanted ⟨d, op, ty, ps, af, some (j, w)⟩ (yieldedA ops e) = (yieldedA ops e j == some w) := rfl
  rw [h1, gslot_eq, Array.getElem?_toList]
  unfold yieldedA gval
  cases (ops[j]?).bind (·.dst) with
  | none => cases w <;> rfl
  | some d =>
    simp only
    cases e.get d with
    | bool t => cases t <;> cases w <;> rfl
    | _ => rfl

variable {rest : List Oper} {d : Option Nat} {op : Op} {ty : TypeId} {ps : String} {af : Array Edge} {j : Nat} {w : Bool} {mask : Nat} {plan : List Nat} {fps : List (Nat × Fp)}
theorem wo_gd : WO P S base L ops Q (⟨d, op, ty, ps, af, some (j, w)⟩ :: rest) e m =
    @WG (gval (gslot ops.toList j) e) w ⟨fun t => bif t then WO P S base L ops Q (⟨d, op, ty, ps, af, none⟩ :: rest) e m else WPut e d undef fun e' => WO P S base L ops Q rest e' m⟩ := by
  have h1 : ∀ g, WO P S base L ops Q (⟨d, op, ty, ps, af, g⟩ :: rest) e m = bif Region.wanted ⟨d, op, ty, ps, af, g⟩ (yieldedA ops e) then WO P S base L ops Q (⟨d, op, ty, ps, af, none⟩ :: rest) e m else WPut e d undef fun e' => WO P S base L ops Q rest e' m := by
    intro g
    rw [WO]
    cases hg : Region.wanted ⟨d, op, ty, ps, af, g⟩ (yieldedA ops e) with
    | false => rfl
    | true => rw [WO]; rfl
  rw [h1, wanted_eq]
  unfold WG
  cases gval (gslot ops.toList j) e <;> rfl
theorem wd_gd : WD P S base L ops Q (⟨d, op, ty, ps, af, some (j, w)⟩ :: rest) i (mask :: plan) fps e m =
    @WG (gval (gslot ops.toList j) e) w ⟨fun t => bif t then WD P S base L ops Q (⟨d, op, ty, ps, af, none⟩ :: rest) i (mask :: plan) fps e m else WPut e d undef fun e' => WD P S base L ops Q rest (i + 1) plan fps e' m⟩ := by
  have h1 : ∀ g, WD P S base L ops Q (⟨d, op, ty, ps, af, g⟩ :: rest) i (mask :: plan) fps e m = bif Region.wanted ⟨d, op, ty, ps, af, g⟩ (yieldedA ops e) then WD P S base L ops Q (⟨d, op, ty, ps, af, none⟩ :: rest) i (mask :: plan) fps e m else WPut e d undef fun e' => WD P S base L ops Q rest (i + 1) plan fps e' m := by
    intro g
    rw [WD]
    cases hg : Region.wanted ⟨d, op, ty, ps, af, g⟩ (yieldedA ops e) with
    | false => rfl
    | true => rw [WD]; rfl
  rw [h1, wanted_eq]
  unfold WG
  cases gval (gslot ops.toList j) e <;> rfl

/-! ### The beginning and the end of a body -/

theorem ct_x {f : FuncId} {fn : Func} {c : Code} {args : List Value} {QQ : COut → Mem → Prop} (hs : S.spec f = none) (hok : Nat.testBit S.ok f = true) (hf : P.funcs[f]? = some fn) (hb : fn.body = some c)
    (h : WX P S m.next L c (Env.ofArgs fn.ntmps 0 args) m (bodyQ P fn QQ)) : Ct P S f args m L QQ := ct_body hs hok hf hb (wx_sound h)

/-- What a body hands back. -/
def WR (v : Option Value) (QQ : COut → Mem → Prop) (m : Mem) : Prop := match v with | some v => QQ (.ret v) m | none => False
@[congr] theorem wr_congr {v v' : Option Value} {QQ : COut → Mem → Prop} {m m' : Mem} (h : v = v') (h2 : m = m') : WR v QQ m = WR v' QQ m' := by rw [h, h2]
theorem bodyQ_ret {fn : Func} {QQ : COut → Mem → Prop} : bodyQ P fn QQ .ret e m = WR (aresults P fn e m) QQ m := id rfl
theorem bodyQ_normal {fn : Func} {QQ : COut → Mem → Prop} : bodyQ P fn QQ .normal e m = WR (aresults P fn e m) QQ m := id rfl
theorem bodyQ_panic {fn : Func} {QQ : COut → Mem → Prop} : bodyQ P fn QQ (.panic v) e m = QQ (.panic v) m := id rfl
theorem wr_some {QQ : COut → Mem → Prop} : WR (some v) QQ m = QQ (.ret v) m := id rfl

def resT (r : Value) : Option Value := some r
def resC (P : Program) (t : TypeId) (v : Value) (m : Mem) : Option Value := match v with | .pointer (some a) => aload P t a m | _ => none
theorem resC_ptr {t : TypeId} {b off : Nat} : resC P t (.pointer (some ⟨b, off, none⟩)) m = loadRow (ldk P t) (m.get b) off := aload_row
def res2 (a b : Option Value) : Option Value := match a, b with | some a, some b => some (.tuple #[a, b]) | _, _ => none
theorem res2_some {a b : Value} : res2 (some a) (some b) = some (.tuple #[a, b]) := id rfl
def res3 (a b c : Option Value) : Option Value := match a, b, c with | some a, some b, some c => some (.tuple #[a, b, c]) | _, _, _ => none
theorem res3_some {a b c : Value} : res3 (some a) (some b) (some c) = some (.tuple #[a, b, c]) := id rfl

def resV (P : Program) (e : Env) (m : Mem) : ResultVar → Option Value
  | .tmp t => some (e.get t)
  | .cell a t => resC P t (e.get a) m
theorem resV_eq : resV P e m = aresult P e m := by
  funext r
  cases r with
  | tmp t => rfl
  | cell a t => simp only [resV, aresult, resC]; cases e.get a <;> rfl
theorem ares0 {fn : Func} (h : fn.results = #[]) : aresults P fn e m = some (.tuple #[]) := by simp [aresults, h]
theorem ares1 {fn : Func} {r : ResultVar} (h : fn.results = #[r]) : aresults P fn e m = resV P e m r := by
  rw [resV_eq]
  simp only [aresults, h, List.mapM_cons, List.mapM_nil]
  cases aresult P e m r <;> rfl
theorem ares2 {fn : Func} {r s : ResultVar} (h : fn.results = #[r, s]) : aresults P fn e m = res2 (resV P e m r) (resV P e m s) := by
  rw [resV_eq]
  simp only [aresults, h, List.mapM_cons, List.mapM_nil]
  cases aresult P e m r with
  | none => rfl
  | some _ => cases aresult P e m s <;> rfl
theorem resV_tmp {t : Nat} : resV P e m (.tmp t) = some (e.get t) := id rfl
theorem resV_cell {a : Nat} {t : TypeId} : resV P e m (.cell a t) = resC P t (e.get a) m := id rfl

/-- Operations that only read do not meet. -/
theorem free_quiet {a b i' : Nat} {r r' : Rd} {mask' : Nat} {fps' : List (Nat × Fp)} : FpsFree mask' ⟨a, a, [], r⟩ ((i', ⟨b, b, [], r'⟩) :: fps') = FpsFree mask' ⟨a, a, [], r⟩ fps' := by
  have h0 : ∀ c n : Nat, (decide (n ≤ c) && decide (c < n)) = false := fun c n => by simp
  have : Fp.free ⟨b, b, [], r'⟩ ⟨a, a, [], r⟩ = true := by
    cases r <;> cases r' <;> simp [Fp.free, ble_dec, blt_dec, h0]
  simp [FpsFree, this]
/-- A block that was made is not what is read. -/
theorem free_alloc_one {a b c i' : Nat} {mask' : Nat} {fps' : List (Nat × Fp)} (h : c ≠ b) : FpsFree mask' ⟨a, a, [], .one c⟩ ((i', ⟨b, b + 1, [], .no⟩) :: fps') = FpsFree mask' ⟨a, a, [], .one c⟩ fps' := by
  have h0 : (decide (b ≤ c) && decide (c < b + 1)) = false := by simp; omega
  have : Fp.free ⟨b, b + 1, [], .no⟩ ⟨a, a, [], .one c⟩ = true := by simp [Fp.free, ble_dec, blt_dec, h0]
  simp [FpsFree, this]
theorem free_no_alloc {a b i' : Nat} {mask' : Nat} {fps' : List (Nat × Fp)} : FpsFree mask' ⟨a, a + 1, [], .no⟩ ((i', ⟨b, b + 1, [], .no⟩) :: fps') = FpsFree mask' ⟨a, a + 1, [], .no⟩ fps' := by
  have : Fp.free ⟨b, b + 1, [], .no⟩ ⟨a, a + 1, [], .no⟩ = true := by simp [Fp.free]
  simp [FpsFree, this]

/-- An operation of a drawn region may change places with a call that only makes new memory. -/
theorem free_call_one {a c d b i' : Nat} {mask' : Nat} {fps' : List (Nat × Fp)} (h : d < a) : FpsFree mask' ⟨a, c, [], .all⟩ ((i', ⟨b, b, [], .one d⟩) :: fps') = FpsFree mask' ⟨a, c, [], .all⟩ fps' := by
  have h0 : (decide (a ≤ d) && decide (d < c)) = false := by simp; omega
  have h1 : (decide (b ≤ d) && decide (d < b)) = false := by simp
  have : Fp.free ⟨b, b, [], .one d⟩ ⟨a, c, [], .all⟩ = true := by simp [Fp.free, ble_dec, blt_dec, h0]
  simp [FpsFree, this]

/-- What is read is older than what a call made. -/
theorem free_one_call {a c d b i' : Nat} {mask' : Nat} {fps' : List (Nat × Fp)} (h : d < a) : FpsFree mask' ⟨b, b, [], .one d⟩ ((i', ⟨a, c, [], .all⟩) :: fps') = FpsFree mask' ⟨b, b, [], .one d⟩ fps' := by
  have h0 : (decide (a ≤ d) && decide (d < c)) = false := by simp; omega
  have : Fp.free ⟨a, c, [], .all⟩ ⟨b, b, [], .one d⟩ = true := by simp [Fp.free, ble_dec, blt_dec, h0]
  simp [FpsFree, this]
theorem abox_row {l : List Value} (h : l.all oneCell = true) : abox (.agg l.toArray) m = some (.pointer (some ⟨m.next, 0, none⟩), m.push (.row l .rw), [], .no) := by
  rw [abox_agg, List.toList_toArray, h]; rfl

/-! ### Memory -/

theorem nx_push {o : AObj} : (m.push o).next = m.next + 1 := id rfl
theorem nx_set {o : AObj} {j : Nat} : (m.set j o).next = m.next := id rfl
theorem get_push_self {o : AObj} : (m.push o).get m.next = some o := by rw [Mem.get_push, if_pos rfl]
theorem get_push_ne {o : AObj} {j : Nat} (h : j ≠ m.next) : (m.push o).get j = m.get j := by rw [Mem.get_push, if_neg h]
theorem get_push_eq {o : AObj} {j : Nat} (h : j = m.next) : (m.push o).get j = some o := by rw [h, get_push_self]
theorem get_set_self {o : AObj} {j : Nat} : (m.set j o).get j = some o := by rw [Mem.get_set, if_pos rfl]
theorem get_set_ne {o : AObj} {j k : Nat} (h : k ≠ j) : (m.set j o).get k = m.get k := by rw [Mem.get_set, if_neg h]

/-- Memory that only grew. -/
def Keep (m m' : Mem) : Prop := ∀ b, m.get b ≠ none → m'.get b = m.get b
theorem Keep.refl (m : Mem) : Keep m m := fun _ _ => rfl
theorem Keep.trans {m1 m2 m3 : Mem} (h : Keep m1 m2) (k : Keep m2 m3) : Keep m1 m3 := fun b hb => by rw [k b (by rw [h b hb]; exact hb), h b hb]
theorem Keep.push (hw : WF m) {o : AObj} : Keep m (m.push o) := push_keep hw

/-- A call of which is known that it leaves all that was there. -/
theorem wcall_x (hL : SpecLoc S.spec) {g : FuncId} {args : List Value} {R : COut → Mem → Prop} {K : COut → Mem → List Nat → Prop} (h : Ct P S g args m [] R) (hw : WF m)
    (hk : ∀ out m', WF m' → m.next ≤ m'.next → (∀ b, b < m.next → m'.get b = m.get b) → R out m' → K out m' []) : @WCall P S base L g args m ⟨K⟩ := by
  refine wcall_of hL h hw (by simp) fun out m' wr h1 h2 h3 h4 _ h5 => ?_
  have : wr = [] := List.eq_nil_iff_forall_not_mem.2 fun b hb => by simpa using h1 b hb
  subst this
  exact hk out m' h2 h3 (fun b hb => h4 b hb (by simp)) h5
theorem keep_of {m' : Mem} (hw : WF m) (h : ∀ b, b < m.next → m'.get b = m.get b) : Keep m m' := fun b hb => h b (hw.lt hb)

theorem ct_nil {g : FuncId} {args : List Value} {L0 : List Nat} {R : COut → Mem → Prop} (h : Ct P S g args m L0 R) (hl : L0 = []) : Ct P S g args m [] R := by subst hl; exact h
/-- Where a function only answers: a value, of which something is known. -/
def Rv (R : Value → Mem → Prop) : COut → Mem → Prop := fun out m' => ∃ v, out = .ret v ∧ R v m'
theorem wcall_v (hL : SpecLoc S.spec) {g : FuncId} {args : List Value} {R : Value → Mem → Prop} {K : COut → Mem → List Nat → Prop} (h : Ct P S g args m [] (Rv R)) (hw : WF m)
    (hk : ∀ v m', WF m' → m.next ≤ m'.next → (∀ b, b < m.next → m'.get b = m.get b) → R v m' → K (.ret v) m' []) : @WCall P S base L g args m ⟨K⟩ := by
  refine wcall_x hL h hw fun out m' h1 h2 h3 h4 => ?_
  obtain ⟨v, rfl, h5⟩ := h4
  exact hk v m' h1 h2 h3 h5
end

end Go.Big

/- The laws of going through code, bundled. -/
set_option linter.unusedSimpArgs false
set_option maxRecDepth 100000
namespace Go.Big
open Go.Proofs

theorem gslot_arr {l : List Oper} {j : Nat} : gslot (l.toArray).toList j = gslot l j := id rfl

theorem eval_tmp {e : Env} {t : Tmp} : e.eval (.tmp t) = e.get t := id rfl
theorem eval_const {e : Env} {v : Value} : e.eval (.const v) = v := id rfl
theorem eval_func {e : Env} {f : FuncId} : e.eval (.func f) = .func (.func f) #[] #[] := id rfl

theorem ite_res {c : Prop} [Decidable c] {a b : Res} (h : c) : (if c then a else b) = a := if_pos h
set_option linter.defProp false
def XWalk := And.intro @abin_rem <| And.intro @abin_quo <| And.intro @ite_res <| And.intro @wo_nil <| And.intro @wd_nil <| And.intro @wo_panic <| And.intro @wo_call <| And.intro @wd_call <| And.intro @wcallv_func <| And.intro @wo_move <| And.intro @wd_move <| And.intro @wo_assign <| And.intro @wd_assign <| And.intro @wo_pick <| And.intro @wd_pick <| And.intro @wo_alloc <| And.intro @wd_alloc <| And.intro @wo_box <| And.intro @wd_box <| And.intro @wo_build <| And.intro @wd_build <| And.intro @wo_buildSlice <| And.intro @wd_buildSlice <| And.intro @wo_load <| And.intro @wd_load <| And.intro @wo_store <| And.intro @wd_store <| And.intro @wo_nilCheck <| And.intro @wd_nilCheck <| And.intro @wo_binOp <| And.intro @wd_binOp <| And.intro @wo_unOp <| And.intro @wd_unOp <| And.intro @wo_convert <| And.intro @wd_convert <| And.intro @wo_makeInterface <| And.intro @wd_makeInterface <| And.intro @wo_makeFunc <| And.intro @wd_makeFunc <| And.intro @wo_makeMap <| And.intro @wd_makeMap <| And.intro @wo_makeSlice <| And.intro @wd_makeSlice <| And.intro @wo_slice <| And.intro @wd_slice <| And.intro @wo_fieldAddr <| And.intro @wd_fieldAddr <| And.intro @wo_field <| And.intro @wd_field <| And.intro @wo_indexAddr <| And.intro @wd_indexAddr <| And.intro @wo_index <| And.intro @wd_index <| And.intro @wo_lookup <| And.intro @wd_lookup <| And.intro @wo_extract <| And.intro @wd_extract <| And.intro @wo_builtin <| And.intro @wd_builtin <| And.intro @wdn_pure <| And.intro @wdn_one <| And.intro @wdn_all <| And.intro @wdn_push <| And.intro @wv_some <| And.intro @set_self <| And.intro @List.getElem?_set_ne.{0} <| And.intro @List.length_set.{0} <| And.intro @free_nil <| And.intro @free_quiet <| And.intro @free_alloc_one <| And.intro @free_no_alloc <| And.intro @free_call_one <| And.intro @free_one_call <| And.intro @abox_row <| And.intro @List.getElem?_cons_zero.{0} <| And.intro @List.getElem?_cons_succ.{0} <| And.intro @free_anc <| And.intro @okw_self <| And.intro @okw_self2 <| And.intro @okw_fresh <| And.intro @size_agg <| And.intro @storeRow_all <| And.intro @List.size_toArray.{0} <| And.intro @List.length_cons.{0} <| And.intro @List.length_nil.{0} <| And.intro @aop_move <| And.intro @aop_assign <| And.intro @aop_pick <| And.intro @apick_bool <| And.intro @bif_bool <| And.intro @aop_alloc <| And.intro @aalloc_some <| And.intro @aop_box <| And.intro @aop_buildSlice <| And.intro @aop_build <| And.intro @abuildR_eq <| And.intro @pv_ok <| And.intro @aop_load <| And.intro @aloadV_ptr <| And.intro @aop_store <| And.intro @astoreV_ptr <| And.intro @aop_nilCheck <| And.intro @aop_slice <| And.intro @aslM_ptr <| And.intro @aslM_sl <| And.intro @rdA_none <| And.intro @anil_ptr <| And.intro @aop_fieldAddr <| And.intro @afld_ptr <| And.intro @aop_indexAddr <| And.intro @aidxA_slice <| And.intro @aidxA_arr <| And.intro @aidxA_slice_lit <| And.intro @aidxA_arr_lit <| And.intro @aop_binOp <| And.intro @abin_add <| And.intro @abin_sub <| And.intro @abin_mul <| And.intro @abin_and <| And.intro @abin_or <| And.intro @abin_xor <| And.intro @abin_eql <| And.intro @abin_neq <| And.intro @abin_lss <| And.intro @abin_leq <| And.intro @abin_gtr <| And.intro @abin_geq <| And.intro @abin_shl <| And.intro @abin_shr <| And.intro @aconv_intN <| And.intro @aconvN_some <| And.intro @bs1 <| And.intro @bs2 <| And.intro @bs3 <| And.intro @bs4 <| And.intro @bs5 <| And.intro @bs8 <| And.intro @size_one <| And.intro @size_int <| And.intro @size_bool <| And.intro @size_str <| And.intro @size_slice <| And.intro @size_ptr <| And.intro @size_map <| And.intro @beq_self <| And.intro @storeRow_one <| And.intro @writable_rw <| And.intro @writable_sl <| And.intro @one_int <| And.intro @one_bool <| And.intro @one_str <| And.intro @one_slice <| And.intro @one_ptr <| And.intro @one_map <| And.intro @loadRow_one <| And.intro @List.head?_drop.{0} <| And.intro @wrap_u8 <| And.intro @wrap_u32 <| And.intro @wrap_i64 <| And.intro @wrap_u64 <| And.intro @aop_unOp <| And.intro @aun_not <| And.intro @aop_convert <| And.intro @aop_extract <| And.intro @aext_two0 <| And.intro @aext_two1 <| And.intro @aop_append <| And.intro @aop_copy <| And.intro @eval_tmp <| And.intro @eval_const <| And.intro @eval_func <| And.intro @Env.get_set <| And.intro @Env.n_set <| And.intro @getNil <| And.intro @Mem.next_set <| And.intro @Mem.next_push <| And.intro @okw_nil <| And.intro @List.toList_toArray.{0} <| And.intro @List.map_cons.{0, 0} <| And.intro @List.map_nil.{0, 0} <| And.intro @List.nil_append.{0} <| And.intro @List.append_nil.{0} <| And.intro @Option.map_some.{0, 0} <| And.intro @Option.map_none.{0, 0} <| And.intro @Option.bind_some.{0, 0} <| And.intro @and_true <| And.intro @true_and <| And.intro @false_and <| And.intro @and_false <| And.intro @if_true.{1} <| And.intro @if_false.{1} <| And.intro @cond_true.{1} <| And.intro @cond_false.{1} <| And.intro @Nat.add_zero <| And.intro @Nat.zero_add <| And.intro @Nat.mul_one <| And.intro @ne_eq.{1} <| And.intro @not_false_eq_true <| And.intro @not_true_eq_false <| And.intro @wx_seq <| And.intro @wx_region <| And.intro @wx_cond <| And.intro @wx_block <| And.intro @wx_exit <| And.intro @wx_ret <| And.intro @wx_skip <| And.intro @wx_label <| And.intro @andX_normal <| And.intro @andX_exit <| And.intro @andX_ret <| And.intro @andX_panic <| And.intro @inBlock_normal <| And.intro @inBlock_ret <| And.intro @inBlock_panic <| And.intro @inBlock_self <| And.intro @inBlock_other <| And.intro @round_normal <| And.intro @round_exit <| And.intro @round_ret <| And.intro @round_panic <| And.intro @wc_true <| And.intro @wc_false <| And.intro @wg_undef <| And.intro @wg_tt <| And.intro @wg_ff <| And.intro @wg_tf <| And.intro @wg_ft <| And.intro @wo_gd <| And.intro @wd_gd <| And.intro @gval_some <| And.intro @bodyQ_ret <| And.intro @bodyQ_normal <| And.intro @bodyQ_panic <| And.intro @wr_some <| And.intro @resV_tmp <| And.intro @resV_cell <| And.intro @resC_ptr <| And.intro @res2_some <| And.intro @res3_some <| And.intro @get_push_self <| And.intro @get_push_ne <| And.intro @get_push_eq <| And.intro @get_set_self <| And.intro @get_set_ne <| And.intro @ofArgs_cons <| And.intro @ofArgs_nil <| And.intro @Option.isSome_some.{0} <| And.intro @decide_true <| And.intro @decide_false <| And.intro @Bool.not_true <| And.intro @Bool.not_false <| And.intro @aext_three0 <| And.intro @aext_three1 <| And.intro @aext_three2 <| And.intro @aop_makeInterface <| And.intro @aop_makeFunc <| And.intro @aop_makeSlice <| @aop_index
def XPre := And.intro @wput_some <| And.intro @wput_none <| And.intro @gslot_arr <| And.intro @gslot_succ <| @gslot_zero
def XSide := And.intro @Option.isSome_some.{0} <| And.intro @List.all_cons.{0} <| And.intro @List.all_nil.{0} <| And.intro @Bool.and_self <| And.intro @List.length_cons.{0} <| And.intro @List.length_nil.{0} <| And.intro @writable_rw <| And.intro @writable_sl <| And.intro @one_int <| And.intro @one_bool <| And.intro @one_str <| And.intro @one_slice <| And.intro @one_ptr <| @one_map

theorem A2 {e : Env} {m : Mem} : aresults Tryz.prog Tryz.f2 e m = some (.tuple #[]) := ares0 Tryz.results2
theorem A3 {e : Env} {m : Mem} : aresults Tryz.prog Tryz.f3 e m = resV Tryz.prog e m (.tmp 4) := ares1 Tryz.results3
theorem A4 {e : Env} {m : Mem} : aresults Tryz.prog Tryz.f4 e m = resV Tryz.prog e m (.tmp 14) := ares1 Tryz.results4
theorem A8 {e : Env} {m : Mem} : aresults Tryz.prog Tryz.f8 e m = resV Tryz.prog e m (.tmp 0) := ares1 Tryz.results8
theorem A10 {e : Env} {m : Mem} : aresults Tryz.prog Tryz.f10 e m = res2 (resV Tryz.prog e m (.tmp 6)) (resV Tryz.prog e m (.tmp 7)) := ares2 Tryz.results10
theorem A12 {e : Env} {m : Mem} : aresults Tryz.prog Tryz.f12 e m = resV Tryz.prog e m (.tmp 4) := ares1 Tryz.results12
theorem A14 {e : Env} {m : Mem} : aresults Tryz.prog Tryz.f14 e m = resV Tryz.prog e m (.tmp 4) := ares1 Tryz.results14
theorem A15 {e : Env} {m : Mem} : aresults Tryz.prog Tryz.f15 e m = res2 (resV Tryz.prog e m (.tmp 2)) (resV Tryz.prog e m (.tmp 3)) := ares2 Tryz.results15
theorem A16 {e : Env} {m : Mem} : aresults Tryz.prog Tryz.f16 e m = res2 (resV Tryz.prog e m (.tmp 2)) (resV Tryz.prog e m (.tmp 3)) := ares2 Tryz.results16
theorem A17 {e : Env} {m : Mem} : aresults Tryz.prog Tryz.f17 e m = res2 (resV Tryz.prog e m (.cell 14 24)) (resV Tryz.prog e m (.tmp 15)) := ares2 Tryz.results17
theorem A18 {e : Env} {m : Mem} : aresults Tryz.prog Tryz.f18 e m = res2 (resV Tryz.prog e m (.cell 14 24)) (resV Tryz.prog e m (.tmp 15)) := ares2 Tryz.results18
theorem A19 {e : Env} {m : Mem} : aresults Tryz.prog Tryz.f19 e m = resV Tryz.prog e m (.tmp 4) := ares1 Tryz.results19
theorem A25 {e : Env} {m : Mem} : aresults Tryz.prog Tryz.f25 e m = resV Tryz.prog e m (.tmp 2) := ares1 Tryz.results25
theorem A28 {e : Env} {m : Mem} : aresults Tryz.prog Tryz.f28 e m = resV Tryz.prog e m (.tmp 2) := ares1 Tryz.results28
theorem A29 {e : Env} {m : Mem} : aresults Tryz.prog Tryz.f29 e m = resV Tryz.prog e m (.tmp 4) := ares1 Tryz.results29
theorem A30 {e : Env} {m : Mem} : aresults Tryz.prog Tryz.f30 e m = res2 (resV Tryz.prog e m (.tmp 4)) (resV Tryz.prog e m (.tmp 5)) := ares2 Tryz.results30
theorem A31 {e : Env} {m : Mem} : aresults Tryz.prog Tryz.f31 e m = res2 (resV Tryz.prog e m (.tmp 4)) (resV Tryz.prog e m (.tmp 5)) := ares2 Tryz.results31
theorem A33 {e : Env} {m : Mem} : aresults Tryz.prog Tryz.f33 e m = resV Tryz.prog e m (.tmp 4) := ares1 Tryz.results33
theorem A34 {e : Env} {m : Mem} : aresults Tryz.prog Tryz.f34 e m = resV Tryz.prog e m (.tmp 2) := ares1 Tryz.results34
theorem A35 {e : Env} {m : Mem} : aresults Tryz.prog Tryz.f35 e m = resV Tryz.prog e m (.tmp 8) := ares1 Tryz.results35
theorem A36 {e : Env} {m : Mem} : aresults Tryz.prog Tryz.f36 e m = resV Tryz.prog e m (.tmp 2) := ares1 Tryz.results36
theorem A37 {e : Env} {m : Mem} : aresults Tryz.prog Tryz.f37 e m = res2 (resV Tryz.prog e m (.tmp 6)) (resV Tryz.prog e m (.tmp 7)) := ares2 Tryz.results37
theorem A38 {e : Env} {m : Mem} : aresults Tryz.prog Tryz.f38 e m = resV Tryz.prog e m (.tmp 2) := ares1 Tryz.results38
theorem A39 {e : Env} {m : Mem} : aresults Tryz.prog Tryz.f39 e m = resV Tryz.prog e m (.cell 2 77) := ares1 Tryz.results39
theorem A40 {e : Env} {m : Mem} : aresults Tryz.prog Tryz.f40 e m = resV Tryz.prog e m (.tmp 2) := ares1 Tryz.results40
theorem A41 {e : Env} {m : Mem} : aresults Tryz.prog Tryz.f41 e m = resV Tryz.prog e m (.cell 2 77) := ares1 Tryz.results41
theorem A42 {e : Env} {m : Mem} : aresults Tryz.prog Tryz.f42 e m = res2 (resV Tryz.prog e m (.cell 4 64)) (resV Tryz.prog e m (.tmp 5)) := ares2 Tryz.results42
theorem A43 {e : Env} {m : Mem} : aresults Tryz.prog Tryz.f43 e m = resV Tryz.prog e m (.tmp 6) := ares1 Tryz.results43
theorem A44 {e : Env} {m : Mem} : aresults Tryz.prog Tryz.f44 e m = res2 (resV Tryz.prog e m (.tmp 6)) (resV Tryz.prog e m (.tmp 7)) := ares2 Tryz.results44
theorem A45 {e : Env} {m : Mem} : aresults Tryz.prog Tryz.f45 e m = res2 (resV Tryz.prog e m (.tmp 6)) (resV Tryz.prog e m (.tmp 7)) := ares2 Tryz.results45
theorem A46 {e : Env} {m : Mem} : aresults Tryz.prog Tryz.f46 e m = resV Tryz.prog e m (.tmp 4) := ares1 Tryz.results46
theorem A47 {e : Env} {m : Mem} : aresults Tryz.prog Tryz.f47 e m = resV Tryz.prog e m (.tmp 8) := ares1 Tryz.results47
theorem A56 {e : Env} {m : Mem} : aresults Tryz.prog Tryz.f56 e m = some (.tuple #[]) := ares0 Tryz.results56
theorem A57 {e : Env} {m : Mem} : aresults Tryz.prog Tryz.f57 e m = some (.tuple #[]) := ares0 Tryz.results57
theorem A58 {e : Env} {m : Mem} : aresults Tryz.prog Tryz.f58 e m = res2 (resV Tryz.prog e m (.tmp 2)) (resV Tryz.prog e m (.tmp 3)) := ares2 Tryz.results58
theorem A60 {e : Env} {m : Mem} : aresults Tryz.prog Tryz.f60 e m = resV Tryz.prog e m (.tmp 2) := ares1 Tryz.results60
theorem A61 {e : Env} {m : Mem} : aresults Tryz.prog Tryz.f61 e m = resV Tryz.prog e m (.tmp 2) := ares1 Tryz.results61
theorem A65 {e : Env} {m : Mem} : aresults Tryz.prog Tryz.f65 e m = resV Tryz.prog e m (.cell 2 64) := ares1 Tryz.results65
theorem A67 {e : Env} {m : Mem} : aresults Tryz.prog Tryz.f67 e m = res2 (resV Tryz.prog e m (.cell 4 77)) (resV Tryz.prog e m (.tmp 5)) := ares2 Tryz.results67
theorem A68 {e : Env} {m : Mem} : aresults Tryz.prog Tryz.f68 e m = res2 (resV Tryz.prog e m (.tmp 4)) (resV Tryz.prog e m (.tmp 5)) := ares2 Tryz.results68
theorem A69 {e : Env} {m : Mem} : aresults Tryz.prog Tryz.f69 e m = resV Tryz.prog e m (.tmp 4) := ares1 Tryz.results69
theorem A70 {e : Env} {m : Mem} : aresults Tryz.prog Tryz.f70 e m = res2 (resV Tryz.prog e m (.tmp 6)) (resV Tryz.prog e m (.tmp 7)) := ares2 Tryz.results70
theorem A71 {e : Env} {m : Mem} : aresults Tryz.prog Tryz.f71 e m = resV Tryz.prog e m (.tmp 4) := ares1 Tryz.results71
theorem A72 {e : Env} {m : Mem} : aresults Tryz.prog Tryz.f72 e m = resV Tryz.prog e m (.tmp 6) := ares1 Tryz.results72
theorem A73 {e : Env} {m : Mem} : aresults Tryz.prog Tryz.f73 e m = resV Tryz.prog e m (.tmp 4) := ares1 Tryz.results73
theorem A74 {e : Env} {m : Mem} : aresults Tryz.prog Tryz.f74 e m = resV Tryz.prog e m (.tmp 0) := ares1 Tryz.results74
theorem A75 {e : Env} {m : Mem} : aresults Tryz.prog Tryz.f75 e m = resV Tryz.prog e m (.cell 4 77) := ares1 Tryz.results75
theorem A76 {e : Env} {m : Mem} : aresults Tryz.prog Tryz.f76 e m = resV Tryz.prog e m (.tmp 2) := ares1 Tryz.results76
theorem A77 {e : Env} {m : Mem} : aresults Tryz.prog Tryz.f77 e m = res2 (resV Tryz.prog e m (.cell 4 77)) (resV Tryz.prog e m (.tmp 5)) := ares2 Tryz.results77
theorem A78 {e : Env} {m : Mem} : aresults Tryz.prog Tryz.f78 e m = resV Tryz.prog e m (.tmp 4) := ares1 Tryz.results78
theorem A79 {e : Env} {m : Mem} : aresults Tryz.prog Tryz.f79 e m = resV Tryz.prog e m (.cell 2 77) := ares1 Tryz.results79
theorem A80 {e : Env} {m : Mem} : aresults Tryz.prog Tryz.f80 e m = resV Tryz.prog e m (.tmp 2) := ares1 Tryz.results80
theorem A81 {e : Env} {m : Mem} : aresults Tryz.prog Tryz.f81 e m = resV Tryz.prog e m (.tmp 6) := ares1 Tryz.results81
theorem A91 {e : Env} {m : Mem} : aresults Tryz.prog Tryz.f91 e m = some (.tuple #[]) := ares0 Tryz.results91
theorem A92 {e : Env} {m : Mem} : aresults Tryz.prog Tryz.f92 e m = some (.tuple #[]) := ares0 Tryz.results92
theorem A93 {e : Env} {m : Mem} : aresults Tryz.prog Tryz.f93 e m = some (.tuple #[]) := ares0 Tryz.results93
theorem A95 {e : Env} {m : Mem} : aresults Tryz.prog Tryz.f95 e m = resV Tryz.prog e m (.tmp 2) := ares1 Tryz.results95
theorem A96 {e : Env} {m : Mem} : aresults Tryz.prog Tryz.f96 e m = resV Tryz.prog e m (.tmp 2) := ares1 Tryz.results96
theorem A97 {e : Env} {m : Mem} : aresults Tryz.prog Tryz.f97 e m = resV Tryz.prog e m (.tmp 2) := ares1 Tryz.results97
theorem A102 {e : Env} {m : Mem} : aresults Tryz.prog Tryz.f102 e m = res2 (resV Tryz.prog e m (.tmp 6)) (resV Tryz.prog e m (.tmp 7)) := ares2 Tryz.results102
theorem A103 {e : Env} {m : Mem} : aresults Tryz.prog Tryz.f103 e m = resV Tryz.prog e m (.tmp 0) := ares1 Tryz.results103
theorem A104 {e : Env} {m : Mem} : aresults Tryz.prog Tryz.f104 e m = resV Tryz.prog e m (.tmp 8) := ares1 Tryz.results104
theorem A105 {e : Env} {m : Mem} : aresults Tryz.prog Tryz.f105 e m = res2 (resV Tryz.prog e m (.tmp 2)) (resV Tryz.prog e m (.tmp 3)) := ares2 Tryz.results105
theorem A106 {e : Env} {m : Mem} : aresults Tryz.prog Tryz.f106 e m = some (.tuple #[]) := ares0 Tryz.results106
theorem A107 {e : Env} {m : Mem} : aresults Tryz.prog Tryz.f107 e m = res2 (resV Tryz.prog e m (.cell 2 77)) (resV Tryz.prog e m (.tmp 3)) := ares2 Tryz.results107
theorem A115 {e : Env} {m : Mem} : aresults Tryz.prog Tryz.f115 e m = resV Tryz.prog e m (.tmp 4) := ares1 Tryz.results115
theorem A118 {e : Env} {m : Mem} : aresults Tryz.prog Tryz.f118 e m = resV Tryz.prog e m (.tmp 4) := ares1 Tryz.results118
theorem A119 {e : Env} {m : Mem} : aresults Tryz.prog Tryz.f119 e m = resV Tryz.prog e m (.tmp 2) := ares1 Tryz.results119
theorem A120 {e : Env} {m : Mem} : aresults Tryz.prog Tryz.f120 e m = resV Tryz.prog e m (.tmp 2) := ares1 Tryz.results120
theorem A121 {e : Env} {m : Mem} : aresults Tryz.prog Tryz.f121 e m = some (.tuple #[]) := ares0 Tryz.results121
theorem A122 {e : Env} {m : Mem} : aresults Tryz.prog Tryz.f122 e m = resV Tryz.prog e m (.tmp 2) := ares1 Tryz.results122
theorem A124 {e : Env} {m : Mem} : aresults Tryz.prog Tryz.f124 e m = some (.tuple #[]) := ares0 Tryz.results124
theorem A125 {e : Env} {m : Mem} : aresults Tryz.prog Tryz.f125 e m = resV Tryz.prog e m (.tmp 2) := ares1 Tryz.results125
theorem A128 {e : Env} {m : Mem} : aresults Tryz.prog Tryz.f128 e m = res2 (resV Tryz.prog e m (.cell 2 183)) (resV Tryz.prog e m (.tmp 3)) := ares2 Tryz.results128
theorem A129 {e : Env} {m : Mem} : aresults Tryz.prog Tryz.f129 e m = resV Tryz.prog e m (.tmp 4) := ares1 Tryz.results129
theorem A130 {e : Env} {m : Mem} : aresults Tryz.prog Tryz.f130 e m = resV Tryz.prog e m (.tmp 4) := ares1 Tryz.results130
theorem A134 {e : Env} {m : Mem} : aresults Tryz.prog Tryz.f134 e m = resV Tryz.prog e m (.tmp 4) := ares1 Tryz.results134
theorem A137 {e : Env} {m : Mem} : aresults Tryz.prog Tryz.f137 e m = resV Tryz.prog e m (.tmp 4) := ares1 Tryz.results137
end Go.Big

/- Slices of bytes and strings, as the walk meets them. -/
set_option linter.unusedSimpArgs false
set_option linter.unusedVariables false
set_option maxRecDepth 100000
set_option maxHeartbeats 8000000
namespace Go.Big
open Go.Proofs
set_option linter.defProp false

abbrev Bs (m : Mem) (v : Value) (l : List UInt8) : Prop := Sl m v (u8s l)
abbrev str (l : List UInt8) : Value := .string ⟨l.toArray⟩

section
variable {P : Program} {ρ : Operand → Value} {m m' : Mem} {d : Option Nat} {ty : TypeId} {ps : String} {af : Array Edge} {g : Option (Nat × Bool)} {t : TypeId} {v : Value} {l : List UInt8} {cs : List Value}

/-! ### Lengths -/

def alenV (P : Program) (t : TypeId) (v : Value) (m : Mem) : Res :=
  match v with
  | .slice (some _) n _ => (match P.underlying t with | some (.slice _) => some (goInt n, m, [], .no) | _ => none)
  | .map (some r) => (match P.underlying t, m.get r with | some (.map _ _), some (.map es _) => some (goInt es.length, m, [], .all) | _, _ => none)
  | x => pv m (bif plain x then (match eval0 P (Builtin.len_ #[t] ty #[x]) with | some v => bif plain v then some v else none | none => none) else none)

theorem aop_len {x : Operand} : aop P ρ ⟨d, .call { callee := .builtin .len, args := #[x], argTypes := #[t] }, ty, ps, af, g⟩ m = alenV (ty := ty) P t (ρ x) m := by
  have hp : pureOp P ρ ⟨d, .call { callee := .builtin .len, args := #[x], argTypes := #[t] }, ty, ps, af, g⟩ = (bif plain (ρ x) then (match eval0 P (Builtin.len_ #[t] ty #[ρ x]) with | some v => bif plain v then some v else none | none => none) else none) := by
    cases hx : plain (ρ x) with
    | true => rw [len_pure hx]; rfl
    | false =>
      have ho : (Op.call { callee := .builtin .len, args := #[x], argTypes := #[t] }).operands = #[x] := rfl
      simp only [pureOp, ho, List.all_cons, List.all_nil, hx, Bool.false_and, cond_false]
  simp only [aop, abuiltin, List.map_cons, List.map_nil, alenV, hp]
  cases ρ x with
  | slice a n c => cases a <;> rfl
  | map r => cases r <;> rfl
  | _ => rfl

theorem alen_sl (h : Sl m v cs) (ht : tyTag P t = 2) : alenV (ty := ty) P t v m = some (.int .i64 (cs.length : Int), m, [], .no) := by
  have := len_sl (P := P) (ρ := fun _ => v) (x := .tmp 0) (d := none) (ty := ty) (ps := "") (af := #[]) (g := none) rfl h ht
  rw [aop_len] at this
  exact this
theorem alen_bs (h : Bs m v l) (ht : tyTag P t = 2) : alenV (ty := ty) P t v m = some (.int .i64 (l.length : Int), m, [], .no) := by
  rw [alen_sl h ht, u8s_length]
theorem alen_lit {a : Addr} {n c : Nat} (ht : tyTag P t = 2) : alenV (ty := ty) P t (.slice (some a) n c) m = some (.int .i64 (n : Int), m, [], .no) := by
  obtain ⟨e, he⟩ := tyTag_slice ht
  simp [alenV, he, goInt]
theorem alen_string {b : ByteArray} (ht : tyTag P t = 6) : alenV (ty := ty) P t (.string b) m = some (.int .i64 (b.size : Int), m, [], .no) := by
  have := len_str (P := P) (m := m) (ρ := fun _ => .string b) (x := .tmp 0) (d := none) (ty := ty) (ps := "") (af := #[]) (g := none) rfl ht
  rw [aop_len] at this
  exact this
theorem size_str' : (⟨l.toArray⟩ : ByteArray).size = l.length := by simp [ByteArray.size]

/-! ### Strings -/

theorem toList_str : (⟨l.toArray⟩ : ByteArray).toList = l := by
  have key : ∀ (n : Nat) (bs : ByteArray) (i : Nat) (r : List UInt8), bs.size - i = n → ByteArray.toList.loop bs i r = r.reverse ++ bs.data.toList.drop i := by
    intro n
    induction n with
    | zero =>
      intro bs i r h
      rw [ByteArray.toList.loop, if_neg (by omega)]
      rw [List.drop_eq_nil_of_le (by simp only [Array.length_toList]; show bs.size ≤ i; omega)]
      simp
    | succ n ih =>
      intro bs i r h
      rw [ByteArray.toList.loop, if_pos (by omega), ih _ _ _ (by omega)]
      have hlt : i < bs.data.size := by show i < bs.size; omega
      have hget : bs.get! i = bs.data[i] := by
        exact getElem!_pos bs.data i hlt
      have hd := List.drop_eq_getElem_cons (l := bs.data.toList) (i := i) (by simpa using hlt)
      rw [hget, hd]
      simp
  show ByteArray.toList.loop _ 0 [] = l
  rw [key _ _ _ _ rfl]
  simp
theorem str_eta (s : ByteArray) : ∃ l : List UInt8, s = ⟨l.toArray⟩ ∧ l.length = s.size := ⟨s.data.toList, by cases s; rfl, by cases s; rfl⟩

theorem abin_str_eql {x y : Operand} {a b : List UInt8} : abin P .eql t x y (str a) (str b) m = some (.bool (a == b), m, [], .no) := by
  rw [abin_str_eq, toList_str, toList_str]
theorem abin_str_neq {x y : Operand} {a b : List UInt8} : abin P .neq t x y (str a) (str b) m = some (.bool (!(a == b)), m, [], .no) := by
  rw [abin_str_ne, toList_str, toList_str]
theorem abin_str_add {x y : Operand} {a b : List UInt8} (h : a.length + b.length ≤ 1073741824) : abin P .add t x y (str a) (str b) m = some (str (a ++ b), m, [], .no) := by
  rw [abin_str]
  have e2 : ¬ ((((⟨a.toArray⟩ : ByteArray).size + (⟨b.toArray⟩ : ByteArray).size : Nat) : Int) > IntKind.i64.max) := by
    rw [size_str', size_str', show IntKind.i64.max = 9223372036854775807 from rfl]; omega
  have e1 : (⟨a.toArray⟩ : ByteArray) ++ ⟨b.toArray⟩ = ⟨(a ++ b).toArray⟩ := by
    apply ByteArray.ext
    simp
  simp only [binS, if_neg e2, Option.map_some, e1]
theorem aidx_str' {k : IntKind} {i : Nat} {c : UInt8} (ht : tyTag P t = 6) (hi : l[i]? = some c) : aidx P t (str l) (.int k (i : Int)) m = some (.int .u8 c.toNat, m, [], .no) := by
  refine aidx_str ht ?_
  show (⟨l.toArray⟩ : ByteArray)[i]? = some c
  have hlt : i < l.length := by
    rcases Nat.lt_or_ge i l.length with h1 | h1
    · exact h1
    · rw [List.getElem?_eq_none h1] at hi; cases hi
  have hc : l[i] = c := by rw [List.getElem?_eq_getElem hlt] at hi; exact Option.some.inj hi
  have hs : i < (⟨l.toArray⟩ : ByteArray).size := by rw [size_str']; exact hlt
  rw [getElem?_pos (⟨l.toArray⟩ : ByteArray) i hs]
  congr 1

/-! ### Strings made bytes, bytes made strings -/

theorem aconv_str2 {s t : TypeId} {l : List UInt8} (hs : tyTag P s = 6) (ht : isBytesT P t = true) (hsz : l.length ≤ 65536) :
    aconv P s t (str l) m = some (.slice (some ⟨m.next, 0, none⟩) l.length l.length, m.push (.row (u8s l) (.slack 1)), [], .no) := by
  rw [aconv_toBytes hs ht (by rw [size_str']; exact hsz), size_str', bytesCells_eq]
theorem Bs.conv {s t : TypeId} (h : Bs m v l) (hs : isBytesT P s = true) (ht : tyTag P t = 6) : ∃ r, r = rdV v ∧ aconv P s t v m = some (str l, m, [], r) := by
  rcases h.shape with ⟨rfl, h0⟩ | ⟨a, c, rfl⟩
  · obtain ⟨r, hr⟩ := conv_str hs ht h
    have : r = .no := by
      have h1 := hr
      simp only [aconv, pv] at h1
      generalize (bif plain (Value.slice none 0 0) then (match eval0 P (convert s t (Value.slice none 0 0)) with | some v => bif plain v then some v else none | none => none) else none) = q at h1
      cases q with
      | none => cases h1
      | some q => cases h1; rfl
    exact ⟨.no, rfl, by rw [hr, this]⟩
  · have he := h.elems
    rw [u8s_length] at he ⊢
    exact ⟨rdA a, rfl, aconv_ofBytes hs ht he u8s_of⟩
/-- The same where the order is fixed (what was read does not matter). -/
theorem Bs.wconv {s t : TypeId} (h : Bs m v l) (hs : isBytesT P s = true) (ht : tyTag P t = 6) {K : Value → Mem → List Nat → Rd → Prop} (hk : ∀ r, r = rdV v → K (str l) m [] r) : @WV (aconv P s t v m) ⟨K⟩ := by
  obtain ⟨r, hr, e⟩ := h.conv (P := P) hs ht
  rw [e]
  exact hk r hr

/-! ### Is it nil? -/

/-! ### Appending -/

/-- A slice of the call's own that can be appended to. -/
inductive App (m : Mem) (n0 : Nat) : Value → List Value → Prop where
  | nil : App m n0 (.slice none 0 0) []
  | own {b : Nat} {cs : List Value} : n0 ≤ b → m.get b = some (.row cs (.slack 1)) → App m n0 (.slice (some ⟨b, 0, none⟩) cs.length cs.length) cs
  | buf {b n c : Nat} {cs rs : List Value} : n0 ≤ b → m.get b = some (.row rs .rw) → rs.take n = cs → cs.length = n → n ≤ c → c ≤ rs.length → App m n0 (.slice (some ⟨b, 0, none⟩) n c) cs

theorem Own.app {n0 : Nat} (h : Own m n0 v cs) : App m n0 v cs := by
  cases h with
  | nil => exact .nil
  | row h1 h2 h3 => exact .own h1 h3
theorem App.sl {n0 : Nat} (h : App m n0 v cs) : Sl m v cs := by
  cases h with
  | nil => exact .nil
  | own h1 h2 => exact .row h2 (by simp) rfl (Nat.le_refl _) (fun s hs => by cases hs; exact ⟨rfl, by simp⟩)
  | buf h1 h2 h3 h4 h5 h6 => exact .row h2 (by simpa using h3) h4 h5 (fun s hs => by cases hs)
theorem App.frame {n0 : Nat} (h : App m n0 v cs) (hf : ∀ b, slBlk v = some b → m'.get b = m.get b) : App m' n0 v cs := by
  cases h with
  | nil => exact .nil
  | own h1 h2 => exact .own h1 (by rw [hf _ rfl]; exact h2)
  | buf h1 h2 h3 h4 h5 h6 => exact .buf h1 (by rw [hf _ rfl]; exact h2) h3 h4 h5 h6
theorem App.keep {n0 : Nat} (h : App m n0 v cs) (k : Keep m m') : App m' n0 v cs := h.frame fun b hb => k b (h.sl.blk hb)
theorem Sl.keep (h : Sl m v cs) (k : Keep m m') : Sl m' v cs := h.frame k
theorem App.mono {n0 n1 : Nat} (h : App m n0 v cs) (hn : n1 ≤ n0) : App m n1 v cs := by
  cases h with
  | nil => exact .nil
  | own h1 h2 => exact .own (by omega) h2
  | buf h1 h2 h3 h4 h5 h6 => exact .buf (by omega) h2 h3 h4 h5 h6
theorem App.blk_ge {n0 b : Nat} (h : App m n0 v cs) (hb : slBlk v = some b) : n0 ≤ b := by
  cases h with
  | nil => cases hb
  | own h1 h2 => cases hb; exact h1
  | buf h1 => cases hb; exact h1
theorem App.blk_lt {n0 b : Nat} (h : App m n0 v cs) (hw : WF m) (hb : slBlk v = some b) : b < m.next := hw.lt (h.sl.blk hb)
theorem Sl.blk_lt {b : Nat} (h : Sl m v cs) (hw : WF m) (hb : slBlk v = some b) : b < m.next := hw.lt (h.blk hb)

/-- What an append leaves. -/
structure Appd (m : Mem) (n0 : Nat) (v : Value) (cs : List Value) (v' : Value) (m' : Mem) (w : List Nat) : Prop where
  app : App m' n0 v' cs
  wr : ∀ b ∈ w, slBlk v = some b
  next : m.next ≤ m'.next
  wf : WF m'
  frame : ∀ b, b < m.next → slBlk v ≠ some b → m'.get b = m.get b
  blk : ∀ b, slBlk v' = some b → slBlk v = some b ∨ m.next ≤ b

theorem append_app {aT : Array TypeId} {bytes n0 : Nat} (h : appK P aT = some bytes) (hv : App m n0 v cs) {x : Value} {new : List Value} (hx : Sl m x new) (hnew : new.all oneCell = true)
    (hlen : cs.length + new.length ≤ 1073741824) (hn0 : n0 ≤ m.next) (hw : WF m) :
    ∃ v' m' w, aappend P aT v x m = some (v', m', w, .all) ∧ Appd m n0 v (cs ++ new) v' m' w := by
  have hb := appK_bytes h
  rw [aappend_of h hx.elems]
  by_cases hn : new = []
  · subst hn
    have key : appendTo 1 bytes 0 [] v m = some (v, m, [], .all) := by
      cases hv with
      | nil => rfl
      | own h1 h2 => simp [appendTo, ble_dec]
      | buf h1 h2 h3 h4 h5 h6 => simp [appendTo, ble_dec, h5]
    exact ⟨v, m, [], key, by rw [List.append_nil]; exact hv, by simp, Nat.le_refl _, hw, fun _ _ _ => rfl, fun b hb => .inl hb⟩
  have hnl : new.length ≠ 0 := by simpa using hn
  have fresh : ∀ (old : List Value), old = cs → ∀ (m1 : Mem), WF m1 → m1.next = m.next → (∀ b, b < m.next → slBlk v ≠ some b → m1.get b = m.get b) → ∀ w, (∀ b ∈ w, slBlk v = some b) →
      Appd m n0 v (cs ++ new) (.slice (some ⟨m.next, 0, none⟩) (cs.length + new.length) (cs.length + new.length)) (m1.push (.row (old ++ new) (.slack 1))) w := by
    rintro old rfl m1 hw1 hn1 hf1 w hw2
    refine ⟨?_, hw2, by simp; omega, hw1.push, fun b hb hne => ?_, fun b hb => ?_⟩
    · have := App.own (m := m1.push (.row (old ++ new) (.slack 1))) (n0 := n0) (b := m.next) (cs := old ++ new) hn0 (by rw [Mem.get_push, if_pos hn1.symm])
      rw [List.length_append] at this
      exact this
    · rw [Mem.get_push, if_neg (by omega)]; exact hf1 b hb hne
    · simp only [slBlk] at hb; cases hb; exact .inr (Nat.le_refl _)
  cases hv with
  | nil =>
    have hf := fresh [] rfl m hw rfl (fun _ _ _ => rfl) [] (by simp)
    refine ⟨_, _, [], ?_, hf⟩
    · have e2 : new.length ≤ 1073741824 := by simp at hlen; omega
      simp only [appendTo, beq_dec, decide_eq_false hnl, cond_false, smallB, ble_dec, decide_eq_true e2, decide_eq_true hb, hnew, Bool.and_self, cond_true]
      simp
  | @own b cs h1 h2 =>
    have hlt : b < m.next := hw.lt (by rw [h2]; simp)
    have e1 : ¬ cs.length + new.length ≤ cs.length := by omega
    refine ⟨_, _, [b], ?_, fresh cs rfl (m.set b .dead) (hw.set hlt) rfl (fun b' hb' hne => by rw [Mem.get_set, if_neg (fun e => hne (by simp [slBlk, e]))]) [b] (by simp [slBlk])⟩
    have hg : getCells m b 0 (cs.length * 1) = some cs := by
      simp only [getCells, h2, Nat.mul_one]
      exact loadN_of (by simp) rfl
    have ho : isOpen cs (.slack 1) 0 cs.length = true := by rw [isOpen_eq]; simp
    simp only [appendTo, beq_dec, decide_eq_false hnl, Bool.false_and, cond_false, ble_dec, decide_eq_false e1, h2, hg, smallB, decide_eq_true hlen, decide_eq_true hb, hnew, Bool.and_self, cond_true, ho, decide_true]
  | @buf b n c cs rs h1 h2 h3 h4 h5 h6 =>
    subst h4
    have hlt : b < m.next := hw.lt (by rw [h2]; simp)
    by_cases hc : cs.length + new.length ≤ c
    · have hst : storeN rs (0 + cs.length * 1) new = some (cs ++ new ++ rs.drop (cs.length + new.length)) := by
        unfold storeN
        rw [show 0 + cs.length * 1 = cs.length from by omega, ble_dec, decide_eq_true (by omega), cond_true, h3]
      refine ⟨.slice (some ⟨b, 0, none⟩) (cs.length + new.length) c, m.set b (.row (cs ++ new ++ rs.drop (cs.length + new.length)) .rw), [b], ?_, ?_⟩
      · have e3 : Nat.ble (cs.length + new.length) c = true := by rw [ble_dec]; simpa using hc
        simp only [appendTo, beq_dec, decide_eq_false hnl, Bool.false_and, cond_false, e3, cond_true, putCells, h2, writable_rw, hnew, Bool.and_self, hst, Option.map_some]
      · refine ⟨.buf (rs := cs ++ new ++ rs.drop (cs.length + new.length)) h1 (by rw [Mem.get_set, if_pos rfl]) ?_ (by simp) hc ?_, by simp [slBlk], by simp, hw.set hlt, fun b' hb' hne => ?_, fun b' hb' => .inl hb'⟩
        · rw [List.take_append_of_le_length (by simp)]
          rw [List.take_of_length_le (by simp)]
        · simp; omega
        · rw [Mem.get_set, if_neg (fun e => hne (by simp [slBlk, e]))]
    · refine ⟨_, _, [], ?_, fresh cs rfl m hw rfl (fun _ _ _ => rfl) [] (by simp)⟩
      have e1 : Nat.ble (cs.length + new.length) c = false := by rw [ble_dec]; simp; omega
      have hg : getCells m b 0 (cs.length * 1) = some cs := by
        simp only [getCells, h2, Nat.mul_one]
        exact loadN_of (by simpa using h3) rfl
      have ho : isOpen rs .rw 0 c = false := rfl
      simp only [appendTo, beq_dec, decide_eq_false hnl, Bool.false_and, cond_false, e1, h2, hg, smallB, ble_dec, decide_eq_true hlen, decide_eq_true hb, hnew, Bool.and_self, cond_true, ho]

/-! ### Slices of arrays -/

def aslA (k : Option (Nat × Nat)) (o : Option AObj) (b off : Nat) (lo hi : Option Value) : Option Value :=
  match k, o with
  | some (n, s), some (.row cs kd) => (match bounds n n lo hi none with | some (l, h, mm) => closedS cs kd ⟨b, off, none⟩ s l h mm | none => none)
  | _, _ => none
theorem aslice_ptr {b off : Nat} {lo hi : Option Value} : aslice P t (.pointer (some ⟨b, off, none⟩)) lo hi none m = aslA (arrSl P t) (m.get b) b off lo hi := by
  unfold aslice aslA arrSl
  simp only
  cases arrOf P t with
  | none => rfl
  | some q =>
    obtain ⟨n, e⟩ := q
    simp only
    cases m.get b with
    | none => cases szOf P e <;> rfl
    | some o =>
      cases o with
      | row cs k =>
        simp only
        cases hb : bounds n n lo hi none with
        | none => cases szOf P e <;> simp [hb]
        | some q => cases szOf P e <;> simp [hb]
      | _ => cases szOf P e <;> rfl
section
variable {n b off l h : Nat} {rs : List Value} {k k' : IntKind}
theorem aslA_all : aslA (some (n, 1)) (some (.row rs .rw)) b off none none = some (.slice (some ⟨b, off, none⟩) n n) := by
  have hb : bounds n n none none none = some (0, n, n) := bounds_of rfl rfl (Nat.zero_le _) (Nat.le_refl _)
  by_cases h0 : n = 0
  · subst h0; simp [aslA, hb, closedS, isOpen]
  · have e4 : Nat.beq n 0 = false := by rw [beq_dec]; simp [h0]
    simp [aslA, hb, closedS, isOpen, e4, addr_add]
theorem aslA_hi (hh : h ≤ n) : aslA (some (n, 1)) (some (.row rs .rw)) b off none (some (.int k (h : Int))) = some (.slice (some ⟨b, off, none⟩) h n) := by
  have hb : bounds n n none (some (.int k (h : Int))) none = some (0, h, n) := bounds_of rfl rfl (Nat.zero_le _) hh
  by_cases h0 : n = 0
  · subst h0; simp [aslA, hb, closedS, isOpen]
  · have e4 : Nat.beq n 0 = false := by rw [beq_dec]; simp [h0]
    simp [aslA, hb, closedS, isOpen, e4, addr_add]
theorem aslA_lo (hl : l < n) : aslA (some (n, 1)) (some (.row rs .rw)) b off (some (.int k (l : Int))) none = some (.slice (some ⟨b, off + l, none⟩) (n - l) (n - l)) := by
  have hb : bounds n n (some (.int k (l : Int))) none none = some (l, n, n) := bounds_of rfl rfl (by omega) (Nat.le_refl _)
  have e4 : Nat.beq n l = false := by rw [beq_dec]; simp; omega
  simp [aslA, hb, closedS, isOpen, e4, addr_add]
theorem aslA_end : aslA (some (n, 1)) (some (.row rs .rw)) b off (some (.int k (n : Int))) none = some (.slice (some ⟨b, off, none⟩) 0 0) := by
  have hb : bounds n n (some (.int k (n : Int))) none none = some (n, n, n) := bounds_of rfl rfl (Nat.le_refl _) (Nat.le_refl _)
  simp [aslA, hb, closedS, isOpen]
theorem aslA_hi_lit (hh : h ≤ n) : aslA (some (n, 1)) (some (.row rs .rw)) b off none (some (.int k (no_index (OfNat.ofNat h)))) = some (.slice (some ⟨b, off, none⟩) h n) := aslA_hi hh
theorem aslA_lo_lit (hl : l < n) : aslA (some (n, 1)) (some (.row rs .rw)) b off (some (.int k (no_index (OfNat.ofNat l)))) none = some (.slice (some ⟨b, off + l, none⟩) (n - l) (n - l)) := aslA_lo hl
end
theorem Sl.of_row {b off n c : Nat} {rs cs : List Value} (h : m.get b = some (.row rs .rw)) (h1 : (rs.drop off).take n = cs) (h2 : cs.length = n) (h3 : n ≤ c) : Sl m (.slice (some ⟨b, off, none⟩) n c) cs :=
  .row h h1 h2 h3 (fun s hs => by cases hs)
theorem w32s_one' {l : List UInt32} : (l.map w32).all oneCell = true := by
  rw [List.all_eq_true]
  intro x hx
  simp only [List.mem_map] at hx
  obtain ⟨b, _, rfl⟩ := hx
  rfl
end

section
variable {P : Program} {m : Mem} {t : TypeId} {x y : Operand} {a : Addr} {r n c n' c' : Nat}
theorem nil_pe (ht : tyTag P t = 1) : abin P .eql t x y (.pointer (some a)) (.pointer none) m = some (.bool false, m, [], .no) := abin_ptr_nil ht (.inl rfl)
theorem nil_pn (ht : tyTag P t = 1) : abin P .neq t x y (.pointer (some a)) (.pointer none) m = some (.bool true, m, [], .no) := abin_ptr_nil ht (.inr rfl)
theorem nil_ppe (ht : tyTag P t = 1) : abin P .eql t x y (.pointer none) (.pointer none) m = some (.bool true, m, [], .no) := abin_nil_nil ht (.inl rfl)
theorem nil_ppn (ht : tyTag P t = 1) : abin P .neq t x y (.pointer none) (.pointer none) m = some (.bool false, m, [], .no) := abin_nil_nil ht (.inr rfl)
theorem nil_se (ht : tyTag P t = 2) : abin P .eql t x y (.slice (some a) n c) (.slice none n' c') m = some (.bool false, m, [], .no) := abin_slice_nil ht (.inl rfl)
theorem nil_sn (ht : tyTag P t = 2) : abin P .neq t x y (.slice (some a) n c) (.slice none n' c') m = some (.bool true, m, [], .no) := abin_slice_nil ht (.inr rfl)
theorem nil_sse (ht : tyTag P t = 2) : abin P .eql t x y (.slice none n c) (.slice none n' c') m = some (.bool true, m, [], .no) := abin_sl_nil_nil ht (.inl rfl)
theorem nil_ssn (ht : tyTag P t = 2) : abin P .neq t x y (.slice none n c) (.slice none n' c') m = some (.bool false, m, [], .no) := abin_sl_nil_nil ht (.inr rfl)
theorem nil_me (ht : tyTag P t = 3) : abin P .eql t x y (.map (some r)) (.map none) m = some (.bool false, m, [], .no) := abin_map_nil ht (.inl rfl)
theorem nil_mn (ht : tyTag P t = 3) : abin P .neq t x y (.map (some r)) (.map none) m = some (.bool true, m, [], .no) := abin_map_nil ht (.inr rfl)
end

theorem Bs.wslice {P : Program} {m : Mem} {v : Value} {l : List UInt8} {t : TypeId} (h : Bs m v l) (ht : idxSl P t = some 1) (hne : v ≠ .slice none 0 0) {lo hi : Option Value} {a b : Nat} (hl : optNat (some 0) lo = some a) (hh : optNat (some l.length) hi = some b)
    (h1 : a ≤ b) (h2 : b ≤ l.length) {other : Res} {K : Value → Mem → List Nat → Rd → Prop} (hk : ∀ v', Bs m v' ((l.drop a).take (b - a)) → (∀ b, slBlk v' = some b → slBlk v = some b) → K v' m [] (rdV v)) : @WV (aslM P t v lo hi none m other) ⟨K⟩ := by
  obtain ⟨v', e, hs, hb⟩ := Sl.slice (P := P) h ht hne (lo := lo) (hi := hi) (l := a) (hh := b) hl (by rw [u8s_length]; exact hh) h1 (by rw [u8s_length]; exact h2)
  rw [u8s_drop, u8s_take] at hs
  rcases h.shape with ⟨rfl, h0⟩ | ⟨ad, c, rfl⟩
  · exact absurd rfl hne
  · rw [aslM_sl, e]
    exact hk v' hs hb
theorem Bs.not_nil {m : Mem} {v : Value} {l : List UInt8} (h : Bs m v l) (hl : 0 < l.length) : v ≠ .slice none 0 0 := by
  rcases h.shape with ⟨_, h0⟩ | ⟨a, c, h0⟩
  · have := congrArg List.length h0
    rw [u8s_length] at this
    simp at this
    subst this
    simp at hl
  · rintro rfl
    cases h0

theorem cast_lit {n : Nat} : ((no_index (OfNat.ofNat n) : Nat) : Int) = (OfNat.ofNat n : Int) := id rfl

def XSl := And.intro @nil_pe <| And.intro @nil_pn <| And.intro @nil_ppe <| And.intro @nil_ppn <| And.intro @nil_se <| And.intro @nil_sn <| And.intro @nil_sse <| And.intro @nil_ssn <| And.intro @nil_me <| And.intro @nil_mn <| And.intro @aop_len <| And.intro @alen_lit <| And.intro @alen_string <| And.intro @size_str' <| And.intro @abin_str_eql <| And.intro @abin_str_neq <| And.intro @aslice_ptr <| And.intro @aslA_all <| And.intro @aslA_hi <| And.intro @aslA_lo <| And.intro @aslA_hi_lit <| @aslA_lo_lit

end Go.Big

/- The compression function of the hash, the program's: its parts. -/
set_option linter.unusedSimpArgs false
set_option linter.unusedVariables false
set_option maxRecDepth 100000
set_option maxHeartbeats 8000000
namespace Go.Big
open Go.Proofs

/-! ### A window of a row -/

def win (hs : List Value) (o : Nat) (W : List Value) : List Value := hs.take o ++ W ++ hs.drop (o + W.length)
section
variable {hs W : List Value} {o i : Nat} {x : Value}
theorem win_get (h : o ≤ hs.length) (hi : i < W.length) : (win hs o W)[o + i]? = W[i]? := by
  unfold win
  have h1 : (hs.take o).length = o := by rw [List.length_take]; omega
  rw [List.append_assoc, List.getElem?_append_right (by omega), h1, Nat.add_sub_cancel_left, List.getElem?_append_left hi]
theorem win_set (h : o ≤ hs.length) (hi : i < W.length) : (win hs o W).set (o + i) x = win hs o (W.set i x) := by
  unfold win
  have h1 : (hs.take o).length = o := by rw [List.length_take]; omega
  rw [List.append_assoc, List.set_append_right _ _ (by omega), h1, Nat.add_sub_cancel_left, List.set_append_left _ _ hi, ← List.append_assoc, List.length_set]
theorem win_self {n : Nat} (h : (hs.drop o).take n = W) (hl : W.length = n) : win hs o W = hs := by
  unfold win
  rw [hl, ← h, List.append_assoc]
  have : (hs.drop o).take n ++ hs.drop (o + n) = hs.drop o := by rw [← List.drop_drop]; exact List.take_append_drop n _
  rw [this, List.take_append_drop]
theorem win_length (h : o + W.length ≤ hs.length) : (win hs o W).length = hs.length := by
  unfold win; simp; omega
end

theorem w32s_get {l : List UInt32} {i : Nat} (h : i < l.length) : (w32s l)[i]? = some (w32 (l.getD i 0)) := by
  simp [w32s, h]
theorem w32s_set {l : List UInt32} {i : Nat} {x : UInt32} : (w32s l).set i (w32 x) = w32s (l.set i x) := by
  simp [w32s, List.map_set]
theorem w32s_len {l : List UInt32} : (w32s l).length = l.length := by simp [w32s]

/-- The last loop: the words that were, changed with those that were mixed. -/
theorem fin_x {m : Mem} (hw : WF m) {base : Nat} {hb ho vb : Nat} {hs : List Value} {H V : List UInt32} (hh : m.get hb = some (.row hs .rw)) (hH : (hs.drop ho).take 8 = w32s H) (lH : H.length = 8) (lo : ho + 8 ≤ hs.length)
    (hv : m.get vb = some (.row (w32s V) .rw)) (lV : V.length = 16) (hne : hb ≠ vb) (hbl : hb < base) {e : Env} (he : e.n = 173) (q0 : e.get 0 = .pointer (some ⟨hb, ho, none⟩)) (q11 : e.get 11 = .pointer (some ⟨vb, 0, none⟩)) (q153 : e.get 153 = .int .i64 ((0 : Nat) : Int))
    {Q : Ex → Env → Mem → Prop} (hQ : ∀ e' m', WF m' → m'.next = m.next → (∀ b, b ≠ hb → m'.get b = m.get b) → m'.get hb = some (.row (win hs ho (w32s ((List.range 8).map fun i => H.getD i 0 ^^^ (V.getD i 0 ^^^ V.getD (8 + i) 0)))) .rw) → Q (.exit 8) e' m') :
    WX Tryz.prog S0 base [hb] (sub (bodyOf Tryz.f124) [true, true, true, true, true, true, true, true, true, true, true, true]) e m Q := by
  have hlt : hb < m.next := hw.lt (by rw [hh]; simp)
  refine x_loop (fun k e m1 => ∃ i, i + k = 8 ∧ e.n = 173 ∧ e.get 0 = .pointer (some ⟨hb, ho, none⟩) ∧ e.get 11 = .pointer (some ⟨vb, 0, none⟩) ∧ e.get 153 = .int .i64 ((i : Nat) : Int) ∧ WF m1 ∧ m1.next = m.next ∧ (∀ b, b ≠ hb → m1.get b = m.get b) ∧
    m1.get hb = some (.row (win hs ho (fillV 8 (fun i => w32 (H.getD i 0 ^^^ (V.getD i 0 ^^^ V.getD (8 + i) 0))) (fun i => w32 (H.getD i 0)) i)) .rw)) 8 ⟨0, by omega, he, q0, q11, q153, hw, rfl, fun _ _ => rfl, ?_⟩ ?_
  · rw [win_self (n := 8) (by rw [hH]; apply List.ext_getElem?; intro j; by_cases hj : j < 8; · rw [fillV_get hj, w32s_get (by omega)]; rfl
                              · rw [List.getElem?_eq_none (by rw [w32s_len]; omega), List.getElem?_eq_none (by rw [fillV_length]; omega)]) fillV_length]
    exact hh
  · rintro k e1 m1 ⟨i, hi, he, q0, q11, q153, hw1, hn1, hf1, hh1⟩
    simp (maxSteps := 2000000) (disch := first | assumption | omega | (simp only [nx_push, nx_set, ne_eq] <;> omega) | (simp only [XSide, F124]; done) | decide) only [XWalk, XSl, ↓XPre, reduceIte, Nat.reduceEqDiff, Nat.reduceLT, Nat.reduceAdd, Nat.reduceSub, Nat.reduceMul, Nat.reduceBEq, reduceCtorEq, Int.reduceAdd, Int.reduceSub, Int.reduceMul, Int.reduceLT, Int.reduceLE, Int.reduceGT, Int.reduceGE, Int.reduceEq, Int.reduceNe, Int.reduceBEq, Int.reduceBNe, Int.reduceTMod, Int.reduceTDiv, ↓if_true, ↓if_false, F124, A124, he, q153]
    refine x_if (fun ht => ?_) (fun ht => ?_)
    · have hk : i < 8 := by simp at ht; omega
      simp (maxSteps := 2000000) (disch := first | assumption | omega | (simp only [nx_push, nx_set, ne_eq] <;> omega) | (simp only [XSide, F124]; done) | decide) only [XWalk, XSl, ↓XPre, reduceIte, Nat.reduceEqDiff, Nat.reduceLT, Nat.reduceAdd, Nat.reduceSub, Nat.reduceMul, Nat.reduceBEq, reduceCtorEq, Int.reduceAdd, Int.reduceSub, Int.reduceMul, Int.reduceLT, Int.reduceLE, Int.reduceGT, Int.reduceGE, Int.reduceEq, Int.reduceNe, Int.reduceBEq, Int.reduceBNe, Int.reduceTMod, Int.reduceTDiv, ↓if_true, ↓if_false, F124, A124, he, q153]
      refine x_draw [0, 0, 1, 7, 15, 0, 32, 96, 0, 256, 768, 1792, 4064, 8191, 1, 32767, 65535] (by kernel_rfl) ?_
      have g1 := win_get (i := i) (W := fillV 8 (fun i => w32 (H.getD i 0 ^^^ (V.getD i 0 ^^^ V.getD (8 + i) 0))) (fun i => w32 (H.getD i 0)) i) (show ho ≤ hs.length by omega) (by rw [fillV_length]; omega)
      have g2 : (w32s V)[i]? = some (w32 (V.getD i 0)) := w32s_get (by omega)
      have g3 : (w32s V)[8 + i]? = some (w32 (V.getD (8 + i) 0)) := w32s_get (by omega)
      rw [fillV_get hk, if_neg (by omega)] at g1
      have gl : (win hs ho (fillV 8 (fun i => w32 (H.getD i 0 ^^^ (V.getD i 0 ^^^ V.getD (8 + i) 0))) (fun i => w32 (H.getD i 0)) i)).length = hs.length := win_length (by rw [fillV_length]; exact lo)
      have e1' : IntKind.wrap .i64 (8 + (i : Int)) = ((8 + i : Nat) : Int) := by rw [wrap_i64 (by omega) (by omega)]; omega
      have e3' : IntKind.wrap .i64 ((i : Int) + 1) = ((i + 1 : Nat) : Int) := by rw [wrap_i64 (by omega) (by omega)]; omega
      have hv1 : m1.get vb = some (.row (w32s V) .rw) := by rw [hf1 vb hne.symm]; exact hv
      simp (maxSteps := 2000000) (disch := first | assumption | omega | (simp only [nx_push, nx_set, ne_eq] <;> omega) | (simp only [XSide, F124]; done) | decide) only [XWalk, XSl, ↓XPre, reduceIte, Nat.reduceEqDiff, Nat.reduceLT, Nat.reduceAdd, Nat.reduceSub, Nat.reduceMul, Nat.reduceBEq, reduceCtorEq, Int.reduceAdd, Int.reduceSub, Int.reduceMul, Int.reduceLT, Int.reduceLE, Int.reduceGT, Int.reduceGE, Int.reduceEq, Int.reduceNe, Int.reduceBEq, Int.reduceBNe, Int.reduceTMod, Int.reduceTDiv, ↓if_true, ↓if_false, F124, A124, he, q153, q0, q11, hh1, hv1, g1, g2, g3, e1', e3', xorI_32, gl]
      refine ⟨k - 1, by omega, i + 1, by omega, rfl, hw1.set (by omega), hn1, fun b hb => ?_, ?_⟩
      · rw [Mem.get_set, if_neg hb]; exact hf1 b hb
      · rw [win_set (by omega) (by rw [fillV_length]; exact hk)]
        have := fillV_set (n := 8) (f := fun i => w32 (H.getD i 0 ^^^ (V.getD i 0 ^^^ V.getD (8 + i) 0))) (g := fun i => w32 (H.getD i 0)) (i := i)
        rw [← this]
    · have hk : i = 8 := by simp at ht; omega
      subst hk
      simp (maxSteps := 2000000) (disch := first | assumption | omega | (simp only [nx_push, nx_set, ne_eq] <;> omega) | (simp only [XSide]; done) | decide) only [XWalk, XSl, ↓XPre, reduceIte, Nat.reduceEqDiff, Nat.reduceLT, Nat.reduceAdd, Nat.reduceSub, Nat.reduceMul, Nat.reduceBEq, reduceCtorEq, Int.reduceAdd, Int.reduceSub, Int.reduceMul, Int.reduceLT, Int.reduceLE, Int.reduceGT, Int.reduceGE, Int.reduceEq, Int.reduceNe, Int.reduceBEq, Int.reduceBNe, Int.reduceTMod, Int.reduceTDiv, ↓if_true, ↓if_false]
      refine hQ _ _ hw1 hn1 hf1 ?_
      rw [hh1]
      congr 2

end Go.Big

/- The compression function of the hash, the program's: a round. -/
set_option linter.unusedSimpArgs false
set_option linter.unusedVariables false
set_option maxRecDepth 100000
set_option maxHeartbeats 8000000
namespace Go.Big
open Go.Proofs

theorem mixV_ct {m : Mem} {vb : Nat} {V : List UInt32} (hv : m.get vb = some (.row (w32s V) .rw)) (lV : V.length = 16) {ia ib ic id : Nat} (la : ia < 16) (lb : ib < 16) (lc : ic < 16) (ld : id < 16) (nab : ia ≠ ib) (nac : ia ≠ ic) (nad : ia ≠ id) (nbc : ib ≠ ic) (nbd : ib ≠ id) (ncd : ic ≠ id) {x y : UInt32} :
    Ct Tryz.prog S0 136 [.pointer (some ⟨vb, ia, none⟩), .pointer (some ⟨vb, ib, none⟩), .pointer (some ⟨vb, ic, none⟩), .pointer (some ⟨vb, id, none⟩), w32 x, w32 y] m [vb]
      (fun out m' => out = .ret (.tuple #[]) ∧ m'.next = m.next ∧ m'.get vb = some (.row (w32s (mixAt V (ia, ib, ic, id) x y)) .rw)) := by
  have h0 : R4 m vb (w32s V) ia ib ic id (V.getD ia 0) (V.getD ib 0) (V.getD ic 0) (V.getD id 0) :=
    ⟨hv, w32s_get (by omega), w32s_get (by omega), w32s_get (by omega), w32s_get (by omega), by rw [w32s_len]; omega, by rw [w32s_len]; omega, by rw [w32s_len]; omega, by rw [w32s_len]; omega⟩
  refine ct_mono (mix_ct h0 nab nac nad nbc nbd ncd) ?_
  rintro out m' ⟨h1, h2, cs', h3, h4, h5⟩
  refine ⟨h1, h2, ?_⟩
  rw [h3.hm]
  congr 2
  rw [w32s_len] at h4
  apply List.ext_getElem?
  intro j
  simp only [mixAt, ← w32s_set]
  by_cases jd : j = id
  · subst jd; rw [h3.hd, set_self, if_pos (by simp [w32s_len]; omega)]
  rw [List.getElem?_set_ne (Ne.symm jd)]
  by_cases jc : j = ic
  · subst jc; rw [h3.hc, set_self, if_pos (by simp [w32s_len]; omega)]
  rw [List.getElem?_set_ne (Ne.symm jc)]
  by_cases jb : j = ib
  · subst jb; rw [h3.hb, set_self, if_pos (by simp [w32s_len]; omega)]
  rw [List.getElem?_set_ne (Ne.symm jb)]
  by_cases ja : j = ia
  · subst ja; rw [h3.ha, set_self, if_pos (by simp [w32s_len]; omega)]
  rw [List.getElem?_set_ne (Ne.symm ja)]
  exact h5 j ja jb jc jd

def natCells (s : List Nat) : List Value := s.map fun (n : Nat) => .int .u8 (n : Int)
theorem natCells_get {s : List Nat} {j : Nat} (h : j < s.length) : (natCells s)[j]? = some (.int .u8 ((s.getD j 0 : Nat) : Int)) := by simp [natCells, h]
theorem natCells_len {s : List Nat} : (natCells s).length = s.length := by simp [natCells]

theorem aidx_rows {m : Mem} {r : Nat} (h : r < 10) : aidx Tryz.prog 194 (.agg sigmaCells.toArray) (.int .i64 (r : Int)) m = some (.agg (natCells (sigma.getD r [])).toArray, m, [], .no) := by
  have : r = 0 ∨ r = 1 ∨ r = 2 ∨ r = 3 ∨ r = 4 ∨ r = 5 ∨ r = 6 ∨ r = 7 ∨ r = 8 ∨ r = 9 := by omega
  rcases this with rfl | rfl | rfl | rfl | rfl | rfl | rfl | rfl | rfl | rfl <;> (show aidx _ _ _ _ _ = _; kernel_rfl)

theorem sigma_ok {r : Nat} (h : r < 10) : (sigma.getD r []).length = 16 ∧ ∀ j, j < 16 → (sigma.getD r []).getD j 0 < 16 := by
  have key : ∀ r : Fin 10, (sigma.getD r.val []).length = 16 ∧ ∀ j : Fin 16, (sigma.getD r.val []).getD j.val 0 < 16 := by decide +kernel
  exact ⟨(key ⟨r, h⟩).1, fun j hj => (key ⟨r, h⟩).2 ⟨j, hj⟩⟩

/-- What a half of a round keeps of the temporaries. -/
def Rnd (e : Env) (hv : Value) (mb vb tb : Nat) (t83 : Value) (r : Nat) : Prop :=
  e.n = 173 ∧ e.get 0 = hv ∧ e.get 8 = .pointer (some ⟨mb, 0, none⟩) ∧ e.get 11 = .pointer (some ⟨vb, 0, none⟩) ∧ e.get 14 = .pointer (some ⟨tb, 0, none⟩) ∧ e.get 83 = t83 ∧ e.get 84 = .int .i64 (r : Int)

theorem foldl_range_succ {α : Type} {f : α → Nat → α} {v : α} {i : Nat} : (List.range (i + 1)).foldl f v = f ((List.range i).foldl f v) i := by
  rw [List.range_succ, List.foldl_append]; rfl

theorem half1 {m : Mem} (hw : WF m) {base : Nat} {hb mb vb tb r : Nat} {hv t83 : Value} {V M : List UInt32} {s : List Nat} (hm : m.get mb = some (.row (w32s M) .rw)) (lM : M.length = 16) (hvv : m.get vb = some (.row (w32s V) .rw)) (lV : V.length = 16)
    (ht : m.get tb = some (.row (natCells s) .rw)) (ls : s.length = 16) (hs : ∀ j, j < 16 → s.getD j 0 < 16) (nmv : mb ≠ vb) (ntv : tb ≠ vb) (hbv : base ≤ vb) {e : Env} (he : Rnd e hv mb vb tb t83 r) (q87 : e.get 87 = .int .i64 ((0 : Nat) : Int))
    {Q : Ex → Env → Mem → Prop} (hQ : ∀ e' m', WF m' → m'.next = m.next → (∀ b, b ≠ vb → m'.get b = m.get b) → m'.get vb = some (.row (w32s ((List.range 4).foldl (stepW M s) V)) .rw) → Rnd e' hv mb vb tb t83 r → Q (.exit 4) e' m') :
    WX Tryz.prog S0 base [hb] (sub (bodyOf Tryz.f124) [true, true, true, true, true, true, true, true, true, false, true, true, true, true, true, false, true, true, false, true, true]) e m Q := by
  refine x_loop (fun k e m1 => ∃ i, i + k = 4 ∧ Rnd e hv mb vb tb t83 r ∧ e.get 87 = .int .i64 ((i : Nat) : Int) ∧ WF m1 ∧ m1.next = m.next ∧ (∀ b, b ≠ vb → m1.get b = m.get b) ∧ m1.get vb = some (.row (w32s ((List.range i).foldl (stepW M s) V)) .rw)) 4
    ⟨0, by omega, he, q87, hw, rfl, fun _ _ => rfl, hvv⟩ ?_
  rintro k e1 m1 ⟨i, hi, ⟨he, q0, q8, q11, q14, q83, q84⟩, q87, hw1, hn1, hf1, hv1⟩
  simp (maxSteps := 2000000) (disch := first | assumption | omega | (simp only [nx_push, nx_set, ne_eq] <;> omega) | (simp only [XSide, F124]; done) | decide) only [XWalk, XSl, ↓XPre, reduceIte, Nat.reduceEqDiff, Nat.reduceLT, Nat.reduceAdd, Nat.reduceSub, Nat.reduceMul, Nat.reduceBEq, reduceCtorEq, Int.reduceAdd, Int.reduceSub, Int.reduceMul, Int.reduceLT, Int.reduceLE, Int.reduceGT, Int.reduceGE, Int.reduceEq, Int.reduceNe, Int.reduceBEq, Int.reduceBNe, Int.reduceTMod, Int.reduceTDiv, ↓if_true, ↓if_false, F124, A124, he, q87]
  refine x_if (fun ht => ?_) (fun ht => ?_)
  · have hk : i < 4 := by simp at ht; omega
    simp (maxSteps := 2000000) (disch := first | assumption | omega | (simp only [nx_push, nx_set, ne_eq] <;> omega) | (simp only [XSide, F124]; done) | decide) only [XWalk, XSl, ↓XPre, reduceIte, Nat.reduceEqDiff, Nat.reduceLT, Nat.reduceAdd, Nat.reduceSub, Nat.reduceMul, Nat.reduceBEq, reduceCtorEq, Int.reduceAdd, Int.reduceSub, Int.reduceMul, Int.reduceLT, Int.reduceLE, Int.reduceGT, Int.reduceGE, Int.reduceEq, Int.reduceNe, Int.reduceBEq, Int.reduceBNe, Int.reduceTMod, Int.reduceTDiv, ↓if_true, ↓if_false, F124, A124, he, q87]
    refine x_draw [0, 1, 0, 4, 12, 0, 32, 96, 0, 256, 768, 0, 2048, 6144, 14336, 30720, 63488, 0, 131072, 393216, 917504, 1966080, 4063232, 8257536, 16777215] (by kernel_rfl) ?_
    have hm1 : m1.get mb = some (.row (w32s M) .rw) := by rw [hf1 mb nmv]; exact hm
    have ht1 : m1.get tb = some (.row (natCells s) .rw) := by rw [hf1 tb ntv]; assumption
    have gs0 : (natCells s)[2 * i]? = _ := natCells_get (by omega)
    have gs1 : (natCells s)[2 * i + 1]? = _ := natCells_get (by omega)
    have gb0 := hs (2 * i) (by omega)
    have gb1 := hs (2 * i + 1) (by omega)
    have gM0 : (w32s M)[s.getD (2 * i) 0]? = _ := w32s_get (by omega)
    have gM1 : (w32s M)[s.getD (2 * i + 1) 0]? = _ := w32s_get (by omega)
    have e1' : IntKind.wrap .i64 (4 + (i : Int)) = ((4 + i : Nat) : Int) := by rw [wrap_i64 (by omega) (by omega)]; omega
    have e2' : IntKind.wrap .i64 (8 + (i : Int)) = ((8 + i : Nat) : Int) := by rw [wrap_i64 (by omega) (by omega)]; omega
    have e3' : IntKind.wrap .i64 (12 + (i : Int)) = ((12 + i : Nat) : Int) := by rw [wrap_i64 (by omega) (by omega)]; omega
    have e4' : IntKind.wrap .i64 (2 * (i : Int)) = ((2 * i : Nat) : Int) := by rw [wrap_i64 (by omega) (by omega)]; omega
    have e5' : IntKind.wrap .i64 (((2 * i : Nat) : Int) + 1) = ((2 * i + 1 : Nat) : Int) := by rw [wrap_i64 (by omega) (by omega)]; omega
    have e6' : IntKind.wrap .i64 ((i : Int) + 1) = ((i + 1 : Nat) : Int) := by rw [wrap_i64 (by omega) (by omega)]; omega
    simp (maxSteps := 2000000) (disch := first | assumption | omega | (simp only [nx_push, nx_set, ne_eq] <;> omega) | (simp only [XSide, F124]; done) | decide) only [XWalk, XSl, ↓XPre, reduceIte, Nat.reduceEqDiff, Nat.reduceLT, Nat.reduceAdd, Nat.reduceSub, Nat.reduceMul, Nat.reduceBEq, reduceCtorEq, Int.reduceAdd, Int.reduceSub, Int.reduceMul, Int.reduceLT, Int.reduceLE, Int.reduceGT, Int.reduceGE, Int.reduceEq, Int.reduceNe, Int.reduceBEq, Int.reduceBNe, Int.reduceTMod, Int.reduceTDiv, ↓if_true, ↓if_false, F124, A124, he, q87, q0, q8, q11, q14, q83, q84, hm1, ht1, hv1, gs0, gs1, gM0, gM1, e1', e2', e3', e4', e5', e6']
    refine wcall_of specLoc (mixV_ct hv1 (by rw [foldl_length (fun _ _ => stepW_length)]; exact lV) (by omega) (by omega) (by omega) (by omega) (by omega) (by omega) (by omega) (by omega) (by omega) (by omega)) hw1 (fun b hb hlt => ?_) ?_
    · simp at hb; omega
    rintro out m2 wr hwr hw2 hn2 hf2 _ ⟨rfl, hn2', hv2⟩
    simp (maxSteps := 2000000) (disch := first | assumption | omega | (simp only [nx_push, nx_set, ne_eq] <;> omega) | (simp only [XSide, F124]; done) | decide) only [XWalk, XSl, ↓XPre, reduceIte, Nat.reduceEqDiff, Nat.reduceLT, Nat.reduceAdd, Nat.reduceSub, Nat.reduceMul, Nat.reduceBEq, reduceCtorEq, Int.reduceAdd, Int.reduceSub, Int.reduceMul, Int.reduceLT, Int.reduceLE, Int.reduceGT, Int.reduceGE, Int.reduceEq, Int.reduceNe, Int.reduceBEq, Int.reduceBNe, Int.reduceTMod, Int.reduceTDiv, ↓if_true, ↓if_false, F124, A124, he, q87, q0, q8, q11, q14, q83, q84, e6', Rnd]
    refine ⟨k - 1, by omega, i + 1, by omega, rfl, hw2, by omega, fun b hb => ?_, ?_⟩
    · by_cases hbl : b < m1.next
      · rw [hf2 b hbl (by simpa using hb)]; exact hf1 b hb
      · rw [hw2 b (by omega), ← hf1 b hb, hw1 b (by omega)]
    · rw [foldl_range_succ, hv2]
      congr 2
      simp only [stepW, lane, if_pos hk]
  · have hk : i = 4 := by simp at ht; omega
    subst hk
    simp (maxSteps := 2000000) (disch := first | assumption | omega | (simp only [nx_push, nx_set, ne_eq] <;> omega) | (simp only [XSide]; done) | decide) only [XWalk, XSl, ↓XPre, reduceIte, Nat.reduceEqDiff, Nat.reduceLT, Nat.reduceAdd, Nat.reduceSub, Nat.reduceMul, Nat.reduceBEq, reduceCtorEq, Int.reduceAdd, Int.reduceSub, Int.reduceMul, Int.reduceLT, Int.reduceLE, Int.reduceGT, Int.reduceGE, Int.reduceEq, Int.reduceNe, Int.reduceBEq, Int.reduceBNe, Int.reduceTMod, Int.reduceTDiv, ↓if_true, ↓if_false]
    refine hQ _ _ hw1 hn1 hf1 hv1 ?_
    refine ⟨?_, ?_, ?_, ?_, ?_, ?_, ?_⟩ <;> simp (maxSteps := 2000000) (disch := first | assumption | omega | (simp only [nx_push, nx_set, ne_eq] <;> omega) | (simp only [XSide]; done) | decide) only [XWalk, XSl, ↓XPre, reduceIte, Nat.reduceEqDiff, Nat.reduceLT, Nat.reduceAdd, Nat.reduceSub, Nat.reduceMul, Nat.reduceBEq, reduceCtorEq, Int.reduceAdd, Int.reduceSub, Int.reduceMul, Int.reduceLT, Int.reduceLE, Int.reduceGT, Int.reduceGE, Int.reduceEq, Int.reduceNe, Int.reduceBEq, Int.reduceBNe, Int.reduceTMod, Int.reduceTDiv, ↓if_true, ↓if_false, he, q0, q8, q11, q14, q83, q84]

end Go.Big

/- The compression function of the hash, the program's: the second half of a round. -/
set_option linter.unusedSimpArgs false
set_option linter.unusedVariables false
set_option maxRecDepth 100000
set_option maxHeartbeats 8000000
namespace Go.Big
open Go.Proofs

theorem tmod4 {n : Nat} : Int.tmod (n : Int) 4 = ((n % 4 : Nat) : Int) := by
  rw [Int.tmod_eq_emod_of_nonneg (by omega)]; omega

theorem half2 {m : Mem} (hw : WF m) {base : Nat} {hb mb vb tb r : Nat} {hv t83 : Value} {V M : List UInt32} {s : List Nat} (hm : m.get mb = some (.row (w32s M) .rw)) (lM : M.length = 16) (hvv : m.get vb = some (.row (w32s ((List.range 4).foldl (stepW M s) V)) .rw)) (lV : V.length = 16)
    (ht : m.get tb = some (.row (natCells s) .rw)) (ls : s.length = 16) (hs : ∀ j, j < 16 → s.getD j 0 < 16) (nmv : mb ≠ vb) (ntv : tb ≠ vb) (hbv : base ≤ vb) {e : Env} (he : Rnd e hv mb vb tb t83 r) (q116 : e.get 116 = .int .i64 ((0 : Nat) : Int))
    {Q : Ex → Env → Mem → Prop} (hQ : ∀ e' m', WF m' → m'.next = m.next → (∀ b, b ≠ vb → m'.get b = m.get b) → m'.get vb = some (.row (w32s (roundW M V s)) .rw) → Rnd e' hv mb vb tb t83 r → Q (.exit 6) e' m') :
    WX Tryz.prog S0 base [hb] (sub (bodyOf Tryz.f124) [true, true, true, true, true, true, true, true, true, false, true, true, true, true, true, false, true, true, true, true, true]) e m Q := by
  refine x_loop (fun k e m1 => ∃ i, i + k = 4 ∧ Rnd e hv mb vb tb t83 r ∧ e.get 116 = .int .i64 ((i : Nat) : Int) ∧ WF m1 ∧ m1.next = m.next ∧ (∀ b, b ≠ vb → m1.get b = m.get b) ∧ m1.get vb = some (.row (w32s ((List.range (4 + i)).foldl (stepW M s) V)) .rw)) 4
    ⟨0, by omega, he, q116, hw, rfl, fun _ _ => rfl, hvv⟩ ?_
  rintro k e1 m1 ⟨i, hi, ⟨he, q0, q8, q11, q14, q83, q84⟩, q116, hw1, hn1, hf1, hv1⟩
  simp (maxSteps := 2000000) (disch := first | assumption | omega | (simp only [nx_push, nx_set, ne_eq] <;> omega) | (simp only [XSide, F124]; done) | decide) only [XWalk, XSl, ↓XPre, reduceIte, Nat.reduceEqDiff, Nat.reduceLT, Nat.reduceAdd, Nat.reduceSub, Nat.reduceMul, Nat.reduceBEq, reduceCtorEq, Int.reduceAdd, Int.reduceSub, Int.reduceMul, Int.reduceLT, Int.reduceLE, Int.reduceGT, Int.reduceGE, Int.reduceEq, Int.reduceNe, Int.reduceBEq, Int.reduceBNe, Int.reduceTMod, Int.reduceTDiv, ↓if_true, ↓if_false, F124, A124, he, q116]
  refine x_if (fun ht => ?_) (fun ht => ?_)
  · have hk : i < 4 := by simp at ht; omega
    simp (maxSteps := 2000000) (disch := first | assumption | omega | (simp only [nx_push, nx_set, ne_eq] <;> omega) | (simp only [XSide, F124]; done) | decide) only [XWalk, XSl, ↓XPre, reduceIte, Nat.reduceEqDiff, Nat.reduceLT, Nat.reduceAdd, Nat.reduceSub, Nat.reduceMul, Nat.reduceBEq, reduceCtorEq, Int.reduceAdd, Int.reduceSub, Int.reduceMul, Int.reduceLT, Int.reduceLE, Int.reduceGT, Int.reduceGE, Int.reduceEq, Int.reduceNe, Int.reduceBEq, Int.reduceBNe, Int.reduceTMod, Int.reduceTDiv, ↓if_true, ↓if_false, F124, A124, he, q116]
    refine x_draw [0, 1, 0, 4, 12, 28, 60, 0, 128, 384, 896, 1920, 0, 4096, 12288, 28672, 61440, 0, 131072, 393216, 917504, 1966080, 4063232, 8257536, 0, 16777216, 50331648, 117440512, 251658240, 520093696, 1056964608, 2147483647] (by kernel_rfl) ?_
    have hm1 : m1.get mb = some (.row (w32s M) .rw) := by rw [hf1 mb nmv]; exact hm
    have ht1 : m1.get tb = some (.row (natCells s) .rw) := by rw [hf1 tb ntv]; assumption
    have gs0 : (natCells s)[8 + 2 * i]? = _ := natCells_get (by omega)
    have gs1 : (natCells s)[9 + 2 * i]? = _ := natCells_get (by omega)
    have gb0 := hs (8 + 2 * i) (by omega)
    have gb1 := hs (9 + 2 * i) (by omega)
    have gM0 : (w32s M)[s.getD (8 + 2 * i) 0]? = _ := w32s_get (by omega)
    have gM1 : (w32s M)[s.getD (9 + 2 * i) 0]? = _ := w32s_get (by omega)
    have e1' : IntKind.wrap .i64 ((i : Int) + 1) = ((i + 1 : Nat) : Int) := by rw [wrap_i64 (by omega) (by omega)]; omega
    have e2' : IntKind.wrap .i64 ((i : Int) + 2) = ((i + 2 : Nat) : Int) := by rw [wrap_i64 (by omega) (by omega)]; omega
    have e3' : IntKind.wrap .i64 ((i : Int) + 3) = ((i + 3 : Nat) : Int) := by rw [wrap_i64 (by omega) (by omega)]; omega
    have e4' : IntKind.wrap .i64 (2 * (i : Int)) = ((2 * i : Nat) : Int) := by rw [wrap_i64 (by omega) (by omega)]; omega
    have e5' : IntKind.wrap .i64 (8 + ((2 * i : Nat) : Int)) = ((8 + 2 * i : Nat) : Int) := by rw [wrap_i64 (by omega) (by omega)]; omega
    have e6' : IntKind.wrap .i64 (9 + ((2 * i : Nat) : Int)) = ((9 + 2 * i : Nat) : Int) := by rw [wrap_i64 (by omega) (by omega)]; omega
    have e7' : IntKind.wrap .i64 (4 + (((i + 1) % 4 : Nat) : Int)) = ((4 + (i + 1) % 4 : Nat) : Int) := by rw [wrap_i64 (by omega) (by omega)]; omega
    have e8' : IntKind.wrap .i64 (8 + (((i + 2) % 4 : Nat) : Int)) = ((8 + (i + 2) % 4 : Nat) : Int) := by rw [wrap_i64 (by omega) (by omega)]; omega
    have e9' : IntKind.wrap .i64 (12 + (((i + 3) % 4 : Nat) : Int)) = ((12 + (i + 3) % 4 : Nat) : Int) := by rw [wrap_i64 (by omega) (by omega)]; omega
    simp (maxSteps := 2000000) (disch := first | assumption | omega | (simp only [nx_push, nx_set, ne_eq] <;> omega) | (simp only [XSide, F124]; done) | decide) only [XWalk, XSl, ↓XPre, reduceIte, Nat.reduceEqDiff, Nat.reduceLT, Nat.reduceAdd, Nat.reduceSub, Nat.reduceMul, Nat.reduceBEq, reduceCtorEq, Int.reduceAdd, Int.reduceSub, Int.reduceMul, Int.reduceLT, Int.reduceLE, Int.reduceGT, Int.reduceGE, Int.reduceEq, Int.reduceNe, Int.reduceBEq, Int.reduceBNe, Int.reduceTMod, Int.reduceTDiv, ↓if_true, ↓if_false, F124, A124, he, q116, q0, q8, q11, q14, q83, q84, hm1, ht1, hv1, gs0, gs1, gM0, gM1, e1', e2', e3', e4', e5', e6', e7', e8', e9', tmod4]
    refine wcall_of specLoc (mixV_ct hv1 (by rw [foldl_length (fun _ _ => stepW_length)]; exact lV) (by omega) (by omega) (by omega) (by omega) (by omega) (by omega) (by omega) (by omega) (by omega) (by omega)) hw1 (fun b hb hlt => ?_) ?_
    · simp at hb; omega
    rintro out m2 wr hwr hw2 hn2 hf2 _ ⟨rfl, hn2', hv2⟩
    simp (maxSteps := 2000000) (disch := first | assumption | omega | (simp only [nx_push, nx_set, ne_eq] <;> omega) | (simp only [XSide, F124]; done) | decide) only [XWalk, XSl, ↓XPre, reduceIte, Nat.reduceEqDiff, Nat.reduceLT, Nat.reduceAdd, Nat.reduceSub, Nat.reduceMul, Nat.reduceBEq, reduceCtorEq, Int.reduceAdd, Int.reduceSub, Int.reduceMul, Int.reduceLT, Int.reduceLE, Int.reduceGT, Int.reduceGE, Int.reduceEq, Int.reduceNe, Int.reduceBEq, Int.reduceBNe, Int.reduceTMod, Int.reduceTDiv, ↓if_true, ↓if_false, F124, A124, he, q116, q0, q8, q11, q14, q83, q84, e1', Rnd]
    refine ⟨k - 1, by omega, i + 1, by omega, rfl, hw2, by omega, fun b hb => ?_, ?_⟩
    · by_cases hbl : b < m1.next
      · rw [hf2 b hbl (by simpa using hb)]; exact hf1 b hb
      · rw [hw2 b (by omega), ← hf1 b hb, hw1 b (by omega)]
    · rw [show 4 + (i + 1) = (4 + i) + 1 from by omega, foldl_range_succ, hv2]
      congr 2
      simp only [stepW, lane, if_neg (show ¬ 4 + i < 4 by omega), show 4 + i - 4 = i from by omega, show 2 * (4 + i) = 8 + 2 * i from by omega, show 8 + 2 * i + 1 = 9 + 2 * i from by omega]
  · have hk : i = 4 := by simp at ht; omega
    subst hk
    simp (maxSteps := 2000000) (disch := first | assumption | omega | (simp only [nx_push, nx_set, ne_eq] <;> omega) | (simp only [XSide]; done) | decide) only [XWalk, XSl, ↓XPre, reduceIte, Nat.reduceEqDiff, Nat.reduceLT, Nat.reduceAdd, Nat.reduceSub, Nat.reduceMul, Nat.reduceBEq, reduceCtorEq, Int.reduceAdd, Int.reduceSub, Int.reduceMul, Int.reduceLT, Int.reduceLE, Int.reduceGT, Int.reduceGE, Int.reduceEq, Int.reduceNe, Int.reduceBEq, Int.reduceBNe, Int.reduceTMod, Int.reduceTDiv, ↓if_true, ↓if_false]
    refine hQ _ _ hw1 hn1 hf1 hv1 ?_
    refine ⟨?_, ?_, ?_, ?_, ?_, ?_, ?_⟩ <;> simp (maxSteps := 2000000) (disch := first | assumption | omega | (simp only [nx_push, nx_set, ne_eq] <;> omega) | (simp only [XSide]; done) | decide) only [XWalk, XSl, ↓XPre, reduceIte, Nat.reduceEqDiff, Nat.reduceLT, Nat.reduceAdd, Nat.reduceSub, Nat.reduceMul, Nat.reduceBEq, reduceCtorEq, Int.reduceAdd, Int.reduceSub, Int.reduceMul, Int.reduceLT, Int.reduceLE, Int.reduceGT, Int.reduceGE, Int.reduceEq, Int.reduceNe, Int.reduceBEq, Int.reduceBNe, Int.reduceTMod, Int.reduceTDiv, ↓if_true, ↓if_false, he, q0, q8, q11, q14, q83, q84]

/-- The rounds. -/
theorem rounds_x {m : Mem} (hw : WF m) {base : Nat} {hb mb vb : Nat} {hv : Value} {V M : List UInt32} (hm : m.get mb = some (.row (w32s M) .rw)) (lM : M.length = 16) (hvv : m.get vb = some (.row (w32s V) .rw)) (lV : V.length = 16)
    (nmv : mb ≠ vb) (hbv : base ≤ vb) (hbm : base ≤ m.next) {e : Env} (he : e.n = 173) (q0 : e.get 0 = hv) (q8 : e.get 8 = .pointer (some ⟨mb, 0, none⟩)) (q11 : e.get 11 = .pointer (some ⟨vb, 0, none⟩)) (q83 : e.get 83 = .agg sigmaCells.toArray) (q84 : e.get 84 = .int .i64 ((0 : Nat) : Int))
    {Q : Ex → Env → Mem → Prop} (hQ : ∀ e' m', WF m' → m.next ≤ m'.next → (∀ b, b < m.next → b ≠ vb → m'.get b = m.get b) → m'.get vb = some (.row (w32s (sigma.foldl (roundW M) V)) .rw) → e'.n = 173 → e'.get 0 = hv → e'.get 11 = .pointer (some ⟨vb, 0, none⟩) → Q (.exit 2) e' m') :
    WX Tryz.prog S0 base [hb] (sub (bodyOf Tryz.f124) [true, true, true, true, true, true, true, true, true, false, true, true]) e m Q := by
  have hmlt : mb < m.next := hw.lt (by rw [hm]; simp)
  have hvlt : vb < m.next := hw.lt (by rw [hvv]; simp)
  refine x_loop (fun k e m1 => ∃ r, r + k = 10 ∧ e.n = 173 ∧ e.get 0 = hv ∧ e.get 8 = .pointer (some ⟨mb, 0, none⟩) ∧ e.get 11 = .pointer (some ⟨vb, 0, none⟩) ∧ e.get 83 = .agg sigmaCells.toArray ∧ e.get 84 = .int .i64 ((r : Nat) : Int) ∧ WF m1 ∧ m.next ≤ m1.next ∧ (∀ b, b < m.next → b ≠ vb → m1.get b = m.get b) ∧
    m1.get vb = some (.row (w32s ((sigma.take r).foldl (roundW M) V)) .rw)) 10 ⟨0, by omega, he, q0, q8, q11, q83, q84, hw, Nat.le_refl _, fun _ _ _ => rfl, hvv⟩ ?_
  rintro k e1 m1 ⟨r, hi, he, q0, q8, q11, q83, q84, hw1, hn1, hf1, hv1⟩
  simp (maxSteps := 2000000) (disch := first | assumption | omega | (simp only [nx_push, nx_set, ne_eq] <;> omega) | (simp only [XSide, F124]; done) | decide) only [XWalk, XSl, ↓XPre, reduceIte, Nat.reduceEqDiff, Nat.reduceLT, Nat.reduceAdd, Nat.reduceSub, Nat.reduceMul, Nat.reduceBEq, reduceCtorEq, Int.reduceAdd, Int.reduceSub, Int.reduceMul, Int.reduceLT, Int.reduceLE, Int.reduceGT, Int.reduceGE, Int.reduceEq, Int.reduceNe, Int.reduceBEq, Int.reduceBNe, Int.reduceTMod, Int.reduceTDiv, ↓if_true, ↓if_false, F124, A124, he, q84]
  refine x_if (fun ht => ?_) (fun ht => ?_)
  · have hk : r < 10 := by simp at ht; omega
    have ls := sigma_ok hk
    have e6' : IntKind.wrap .i64 ((r : Int) + 1) = ((r + 1 : Nat) : Int) := by rw [wrap_i64 (by omega) (by omega)]; omega
    generalize hs : sigma.getD r [] = s at ls
    have hbq : Nat.beq (natCells s).length 16 = true := by rw [natCells_len, ls.1]; rfl
    have hone : (natCells s).all oneCell = true := by
      rw [List.all_eq_true]
      intro x hx
      simp only [natCells, List.mem_map] at hx
      obtain ⟨b, _, rfl⟩ := hx
      rfl
    simp (maxSteps := 2000000) (disch := first | assumption | omega | (simp only [nx_push, nx_set, ne_eq] <;> omega) | (simp only [XSide, F124]; done) | decide) only [XWalk, XSl, ↓XPre, reduceIte, Nat.reduceEqDiff, Nat.reduceLT, Nat.reduceAdd, Nat.reduceSub, Nat.reduceMul, Nat.reduceBEq, reduceCtorEq, Int.reduceAdd, Int.reduceSub, Int.reduceMul, Int.reduceLT, Int.reduceLE, Int.reduceGT, Int.reduceGE, Int.reduceEq, Int.reduceNe, Int.reduceBEq, Int.reduceBNe, Int.reduceTMod, Int.reduceTDiv, ↓if_true, ↓if_false, F124, A124, he, q84, q83, aidx_rows hk, hs, hbq]
    rw [storeRow_all (vs := natCells s) rfl hone (by rw [natCells_len, ls.1]; rfl)]
    simp (maxSteps := 2000000) (disch := first | assumption | omega | (simp only [nx_push, nx_set, ne_eq] <;> omega) | (simp only [XSide, F124]; done) | decide) only [XWalk, XSl, ↓XPre, reduceIte, Nat.reduceEqDiff, Nat.reduceLT, Nat.reduceAdd, Nat.reduceSub, Nat.reduceMul, Nat.reduceBEq, reduceCtorEq, Int.reduceAdd, Int.reduceSub, Int.reduceMul, Int.reduceLT, Int.reduceLE, Int.reduceGT, Int.reduceGE, Int.reduceEq, Int.reduceNe, Int.reduceBEq, Int.reduceBNe, Int.reduceTMod, Int.reduceTDiv, ↓if_true, ↓if_false, F124, A124, he, q84, q83]
    have hmlt1 : mb < m1.next := by omega
    have hvlt1 : vb < m1.next := by omega
    refine half1 (s := s) (M := M) (V := (sigma.take r).foldl (roundW M) V) (mb := mb) (vb := vb) (tb := m1.next) (r := r) (hv := hv) (t83 := .agg sigmaCells.toArray) (hw1.push.set (by simp)) (by simp (maxSteps := 2000000) (disch := first | assumption | omega | (simp only [nx_push, nx_set, ne_eq] <;> omega) | (simp only [XSide]; done) | decide) only [XWalk, XSl, ↓XPre, reduceIte, Nat.reduceEqDiff, Nat.reduceLT, Nat.reduceAdd, Nat.reduceSub, Nat.reduceMul, Nat.reduceBEq, reduceCtorEq, Int.reduceAdd, Int.reduceSub, Int.reduceMul, Int.reduceLT, Int.reduceLE, Int.reduceGT, Int.reduceGE, Int.reduceEq, Int.reduceNe, Int.reduceBEq, Int.reduceBNe, Int.reduceTMod, Int.reduceTDiv, ↓if_true, ↓if_false, hf1 mb hmlt nmv, hm]) lM (by simp (maxSteps := 2000000) (disch := first | assumption | omega | (simp only [nx_push, nx_set, ne_eq] <;> omega) | (simp only [XSide]; done) | decide) only [XWalk, XSl, ↓XPre, reduceIte, Nat.reduceEqDiff, Nat.reduceLT, Nat.reduceAdd, Nat.reduceSub, Nat.reduceMul, Nat.reduceBEq, reduceCtorEq, Int.reduceAdd, Int.reduceSub, Int.reduceMul, Int.reduceLT, Int.reduceLE, Int.reduceGT, Int.reduceGE, Int.reduceEq, Int.reduceNe, Int.reduceBEq, Int.reduceBNe, Int.reduceTMod, Int.reduceTDiv, ↓if_true, ↓if_false, hv1]) (by rw [foldl_length (fun _ _ => roundW_length)]; exact lV) (by simp (maxSteps := 2000000) (disch := first | assumption | omega | (simp only [nx_push, nx_set, ne_eq] <;> omega) | (simp only [XSide]; done) | decide) only [XWalk, XSl, ↓XPre, reduceIte, Nat.reduceEqDiff, Nat.reduceLT, Nat.reduceAdd, Nat.reduceSub, Nat.reduceMul, Nat.reduceBEq, reduceCtorEq, Int.reduceAdd, Int.reduceSub, Int.reduceMul, Int.reduceLT, Int.reduceLE, Int.reduceGT, Int.reduceGE, Int.reduceEq, Int.reduceNe, Int.reduceBEq, Int.reduceBNe, Int.reduceTMod, Int.reduceTDiv, ↓if_true, ↓if_false]) ls.1 ls.2 nmv (by omega) hbv (by simp only [Rnd]; simp (maxSteps := 2000000) (disch := first | assumption | omega | (simp only [nx_push, nx_set, ne_eq] <;> omega) | (simp only [XSide]; done) | decide) only [XWalk, XSl, ↓XPre, reduceIte, Nat.reduceEqDiff, Nat.reduceLT, Nat.reduceAdd, Nat.reduceSub, Nat.reduceMul, Nat.reduceBEq, reduceCtorEq, Int.reduceAdd, Int.reduceSub, Int.reduceMul, Int.reduceLT, Int.reduceLE, Int.reduceGT, Int.reduceGE, Int.reduceEq, Int.reduceNe, Int.reduceBEq, Int.reduceBNe, Int.reduceTMod, Int.reduceTDiv, ↓if_true, ↓if_false, he, q0, q8, q11, q83, q84]) (by simp (maxSteps := 2000000) (disch := first | assumption | omega | (simp only [nx_push, nx_set, ne_eq] <;> omega) | (simp only [XSide]; done) | decide) only [XWalk, XSl, ↓XPre, reduceIte, Nat.reduceEqDiff, Nat.reduceLT, Nat.reduceAdd, Nat.reduceSub, Nat.reduceMul, Nat.reduceBEq, reduceCtorEq, Int.reduceAdd, Int.reduceSub, Int.reduceMul, Int.reduceLT, Int.reduceLE, Int.reduceGT, Int.reduceGE, Int.reduceEq, Int.reduceNe, Int.reduceBEq, Int.reduceBNe, Int.reduceTMod, Int.reduceTDiv, ↓if_true, ↓if_false]; rfl) ?_
    intro e2 m2 hw2 hn2 hf2 hv2 hr2
    obtain ⟨he2, p0, p8, p11, p14, p83, p84⟩ := hr2
    simp (maxSteps := 2000000) (disch := first | assumption | omega | (simp only [nx_push, nx_set, ne_eq] <;> omega) | (simp only [XSide]; done) | decide) only [XWalk, XSl, ↓XPre, reduceIte, Nat.reduceEqDiff, Nat.reduceLT, Nat.reduceAdd, Nat.reduceSub, Nat.reduceMul, Nat.reduceBEq, reduceCtorEq, Int.reduceAdd, Int.reduceSub, Int.reduceMul, Int.reduceLT, Int.reduceLE, Int.reduceGT, Int.reduceGE, Int.reduceEq, Int.reduceNe, Int.reduceBEq, Int.reduceBNe, Int.reduceTMod, Int.reduceTDiv, ↓if_true, ↓if_false, he2]
    simp only [Mem.next_set, Mem.next_push] at hn2
    refine half2 (s := s) (M := M) (V := (sigma.take r).foldl (roundW M) V) (mb := mb) (vb := vb) (tb := m1.next) (r := r) (hv := hv) (t83 := .agg sigmaCells.toArray) hw2 (by rw [hf2 mb nmv]; simp (maxSteps := 2000000) (disch := first | assumption | omega | (simp only [nx_push, nx_set, ne_eq] <;> omega) | (simp only [XSide]; done) | decide) only [XWalk, XSl, ↓XPre, reduceIte, Nat.reduceEqDiff, Nat.reduceLT, Nat.reduceAdd, Nat.reduceSub, Nat.reduceMul, Nat.reduceBEq, reduceCtorEq, Int.reduceAdd, Int.reduceSub, Int.reduceMul, Int.reduceLT, Int.reduceLE, Int.reduceGT, Int.reduceGE, Int.reduceEq, Int.reduceNe, Int.reduceBEq, Int.reduceBNe, Int.reduceTMod, Int.reduceTDiv, ↓if_true, ↓if_false, hf1 mb hmlt nmv, hm]) lM hv2 (by rw [foldl_length (fun _ _ => roundW_length)]; exact lV) (by rw [hf2 m1.next (by omega)]; simp (maxSteps := 2000000) (disch := first | assumption | omega | (simp only [nx_push, nx_set, ne_eq] <;> omega) | (simp only [XSide]; done) | decide) only [XWalk, XSl, ↓XPre, reduceIte, Nat.reduceEqDiff, Nat.reduceLT, Nat.reduceAdd, Nat.reduceSub, Nat.reduceMul, Nat.reduceBEq, reduceCtorEq, Int.reduceAdd, Int.reduceSub, Int.reduceMul, Int.reduceLT, Int.reduceLE, Int.reduceGT, Int.reduceGE, Int.reduceEq, Int.reduceNe, Int.reduceBEq, Int.reduceBNe, Int.reduceTMod, Int.reduceTDiv, ↓if_true, ↓if_false]) ls.1 ls.2 nmv (by omega) hbv (by simp only [Rnd]; simp (maxSteps := 2000000) (disch := first | assumption | omega | (simp only [nx_push, nx_set, ne_eq] <;> omega) | (simp only [XSide]; done) | decide) only [XWalk, XSl, ↓XPre, reduceIte, Nat.reduceEqDiff, Nat.reduceLT, Nat.reduceAdd, Nat.reduceSub, Nat.reduceMul, Nat.reduceBEq, reduceCtorEq, Int.reduceAdd, Int.reduceSub, Int.reduceMul, Int.reduceLT, Int.reduceLE, Int.reduceGT, Int.reduceGE, Int.reduceEq, Int.reduceNe, Int.reduceBEq, Int.reduceBNe, Int.reduceTMod, Int.reduceTDiv, ↓if_true, ↓if_false, he2, p0, p8, p11, p14, p83, p84]) (by simp (maxSteps := 2000000) (disch := first | assumption | omega | (simp only [nx_push, nx_set, ne_eq] <;> omega) | (simp only [XSide]; done) | decide) only [XWalk, XSl, ↓XPre, reduceIte, Nat.reduceEqDiff, Nat.reduceLT, Nat.reduceAdd, Nat.reduceSub, Nat.reduceMul, Nat.reduceBEq, reduceCtorEq, Int.reduceAdd, Int.reduceSub, Int.reduceMul, Int.reduceLT, Int.reduceLE, Int.reduceGT, Int.reduceGE, Int.reduceEq, Int.reduceNe, Int.reduceBEq, Int.reduceBNe, Int.reduceTMod, Int.reduceTDiv, ↓if_true, ↓if_false]; rfl) ?_
    intro e3 m3 hw3 hn3 hf3 hv3 hr3
    obtain ⟨he3, r0, r8, r11, r14, r83, r84⟩ := hr3
    simp (maxSteps := 2000000) (disch := first | assumption | omega | (simp only [nx_push, nx_set, ne_eq] <;> omega) | (simp only [XSide]; done) | decide) only [XWalk, XSl, ↓XPre, reduceIte, Nat.reduceEqDiff, Nat.reduceLT, Nat.reduceAdd, Nat.reduceSub, Nat.reduceMul, Nat.reduceBEq, reduceCtorEq, Int.reduceAdd, Int.reduceSub, Int.reduceMul, Int.reduceLT, Int.reduceLE, Int.reduceGT, Int.reduceGE, Int.reduceEq, Int.reduceNe, Int.reduceBEq, Int.reduceBNe, Int.reduceTMod, Int.reduceTDiv, ↓if_true, ↓if_false, he3, r84, e6', r0, r8, r11, r83]
    refine ⟨k - 1, by omega, r + 1, by omega, rfl, hw3, by omega, fun b hb hne => ?_, ?_⟩
    · rw [hf3 b hne, hf2 b hne, Mem.get_set, if_neg (by omega), Mem.get_push, if_neg (by omega)]
      exact hf1 b hb hne
    · have hlt : r < sigma.length := hk
      have h1 : s = sigma[r] := by rw [← hs, List.getD_eq_getElem?_getD, List.getElem?_eq_getElem hlt]; exact Option.getD_some
      have key : (sigma.take (r + 1)).foldl (roundW M) V = roundW M ((sigma.take r).foldl (roundW M) V) s := by
        rw [List.take_succ_eq_append_getElem hlt, List.foldl_append, h1, List.foldl_cons, List.foldl_nil]
      rw [key]
      exact hv3
  · have hk : r = 10 := by simp at ht; omega
    subst hk
    simp (maxSteps := 2000000) (disch := first | assumption | omega | (simp only [nx_push, nx_set, ne_eq] <;> omega) | (simp only [XSide]; done) | decide) only [XWalk, XSl, ↓XPre, reduceIte, Nat.reduceEqDiff, Nat.reduceLT, Nat.reduceAdd, Nat.reduceSub, Nat.reduceMul, Nat.reduceBEq, reduceCtorEq, Int.reduceAdd, Int.reduceSub, Int.reduceMul, Int.reduceLT, Int.reduceLE, Int.reduceGT, Int.reduceGE, Int.reduceEq, Int.reduceNe, Int.reduceBEq, Int.reduceBNe, Int.reduceTMod, Int.reduceTDiv, ↓if_true, ↓if_false]
    refine hQ _ _ hw1 hn1 hf1 hv1 ?_ ?_ ?_ <;> simp (maxSteps := 2000000) (disch := first | assumption | omega | (simp only [nx_push, nx_set, ne_eq] <;> omega) | (simp only [XSide]; done) | decide) only [XWalk, XSl, ↓XPre, reduceIte, Nat.reduceEqDiff, Nat.reduceLT, Nat.reduceAdd, Nat.reduceSub, Nat.reduceMul, Nat.reduceBEq, reduceCtorEq, Int.reduceAdd, Int.reduceSub, Int.reduceMul, Int.reduceLT, Int.reduceLE, Int.reduceGT, Int.reduceGE, Int.reduceEq, Int.reduceNe, Int.reduceBEq, Int.reduceBNe, Int.reduceTMod, Int.reduceTDiv, ↓if_true, ↓if_false, he, q0, q11]

end Go.Big
