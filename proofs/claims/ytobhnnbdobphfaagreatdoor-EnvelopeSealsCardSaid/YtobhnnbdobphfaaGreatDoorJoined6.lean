/- Small laws for going through code by hand. -/
import Derived.Test.YtobhnnbdobphfaaGreatDoorJoined5
set_option linter.unusedSimpArgs false
set_option linter.unusedVariables false
set_option maxRecDepth 100000
namespace Go.Big
open Go.Proofs

theorem wv_some {v : Value} {m : Mem} {w : List Nat} {r : Rd} {K : Value → Mem → List Nat → Rd → Prop} : @WV (some (v, m, w, r)) ⟨K⟩ = K v m w r := id rfl
theorem wput_some {e : Env} {d : Nat} {v : Value} {K : Env → Prop} : WPut e (some d) v K = (d < e.n ∧ K (e.set d v)) := id rfl
theorem wput_none {e : Env} {v : Value} {K : Env → Prop} : WPut e none v K = K e := id rfl
theorem getNil {n j : Nat} : (Env.mk n .nil).get j = undef := id rfl
theorem ofArgs_nil {n i : Nat} : Env.ofArgs n i [] = ⟨n, .nil⟩ := id rfl
theorem ofArgs_cons {n i : Nat} {v : Value} {r : List Value} : Env.ofArgs n i (v :: r) = (Env.ofArgs n (i + 1) r).set i v := id rfl
theorem okw_nil {base : Nat} {L : List Nat} : OkW base L [] = True := eq_true OkW.nil
theorem okw_fresh {base c : Nat} {L : List Nat} (h : base ≤ c) : OkW base L [c] = True := eq_true (OkW.fresh h)
def WCallV (P : Program) (S : Cfg) (base : Nat) (L : List Nat) (f : Value) (args : List Value) (m : Mem) [K : Cont (COut → Mem → List Nat → Prop)] : Prop :=
  match f with
  | .func (.func g) first captured => WCall P S base L g (first.toList ++ args ++ captured.toList) m
  | _ => False
@[congr] theorem wcallv_congr {P : Program} {S : Cfg} {base : Nat} {L : List Nat} {f f' : Value} {args args' : List Value} {m m' : Mem} {K : Cont (COut → Mem → List Nat → Prop)} (h0 : f = f') (h : args = args') (h2 : m = m') : @WCallV P S base L f args m K = @WCallV P S base L f' args' m' K := by rw [h0, h, h2]
theorem wcallv_func {P : Program} {S : Cfg} {base : Nat} {L : List Nat} {g : FuncId} {first captured : Array Value} {args : List Value} {m : Mem} {K : Cont (COut → Mem → List Nat → Prop)} :
    @WCallV P S base L (.func (.func g) first captured) args m K = @WCall P S base L g (first.toList ++ args ++ captured.toList) m K := id rfl
@[congr] theorem wput_congr {e : Env} {d : Option Nat} {v v' : Value} {K : Env → Prop} (h : v = v') : WPut e d v K = WPut e d v' K := by rw [h]

/-- What follows an operation of a region whose order is drawn. -/
def WDn (P : Program) (S : Cfg) (base : Nat) (L : List Nat) (ops : Array Oper) (Q : Ex → Env → Mem → Prop) (rest : List Oper) (i mask : Nat) (plan : List Nat) (fps : List (Nat × Fp)) (e : Env) (d : Option Nat) (m : Mem) (v : Value) (m' : Mem) (w : List Nat) (r : Rd) : Prop :=
  bif Fp.boring ⟨m.next, m'.next, w, r⟩ then WPut e d v fun e' => WD P S base L ops Q rest (i + 1) plan fps e' m'
  else FpsFree mask ⟨m.next, m'.next, w, r⟩ fps ∧ WPut e d v fun e' => WD P S base L ops Q rest (i + 1) plan ((i, ⟨m.next, m'.next, w, r⟩) :: fps) e' m'

section
variable {P : Program} {S : Cfg} {base : Nat} {L : List Nat} {ops : Array Oper} {Q : Ex → Env → Mem → Prop} {rest : List Oper} {e : Env} {m m' : Mem} {d : Option Nat} {ty : TypeId} {ps : String} {af : Array Edge} {i mask : Nat} {plan : List Nat} {fps : List (Nat × Fp)} {v : Value} {w : List Nat} {r : Rd}
@[congr] theorem wdn_congr {v' : Value} (h : v = v') : WDn P S base L ops Q rest i mask plan fps e d m v m' w r = WDn P S base L ops Q rest i mask plan fps e d m v' m' w r := by rw [h]
theorem wdn_pure : WDn P S base L ops Q rest i mask plan fps e d m v m [] .no = WPut e d v fun e' => WD P S base L ops Q rest (i + 1) plan fps e' m := by
  unfold WDn
  simp [Fp.boring]
theorem wdn_one {b : Nat} : WDn P S base L ops Q rest i mask plan fps e d m v m' w (.one b) = (FpsFree mask ⟨m.next, m'.next, w, .one b⟩ fps ∧ WPut e d v fun e' => WD P S base L ops Q rest (i + 1) plan ((i, ⟨m.next, m'.next, w, .one b⟩) :: fps) e' m') := by
  unfold WDn
  simp [Fp.boring]
theorem wdn_all : WDn P S base L ops Q rest i mask plan fps e d m v m' w .all = (FpsFree mask ⟨m.next, m'.next, w, .all⟩ fps ∧ WPut e d v fun e' => WD P S base L ops Q rest (i + 1) plan ((i, ⟨m.next, m'.next, w, .all⟩) :: fps) e' m') := by
  unfold WDn
  simp [Fp.boring]
theorem wdn_push {o : AObj} : WDn P S base L ops Q rest i mask plan fps e d m v (m.push o) [] .no = (FpsFree mask ⟨m.next, m.next + 1, [], .no⟩ fps ∧ WPut e d v fun e' => WD P S base L ops Q rest (i + 1) plan ((i, ⟨m.next, m.next + 1, [], .no⟩) :: fps) e' (m.push o)) := by
  unfold WDn
  simp [Fp.boring]
theorem wo_nil : WO P S base L ops Q [] e m = Q .normal e m := id rfl
theorem wd_nil : WD P S base L ops Q [] i plan fps e m = Q .normal e m := by
  unfold WD; rfl
theorem wo_panic {x : Operand} : WO P S base L ops Q (⟨d, .panic x, ty, ps, af, none⟩ :: rest) e m = (match e.eval x with | .iface t v => Q (.panic (.iface t v)) e m | _ => False) := id rfl
theorem wo_call {f : Operand} {a : Array Operand} {aT : Array TypeId} : WO P S base L ops Q (⟨d, .call { callee := .value f, args := a, argTypes := aT }, ty, ps, af, none⟩ :: rest) e m =
    @WCallV P S base L (e.eval f) (a.toList.map e.eval) m ⟨fun out m' _ => (match out with | .ret v => WPut e d v fun e' => WO P S base L ops Q rest e' m' | .panic v => Q (.panic v) e m')⟩ := id rfl
theorem wd_call {f : Operand} {a : Array Operand} {aT : Array TypeId} : WD P S base L ops Q (⟨d, .call { callee := .value f, args := a, argTypes := aT }, ty, ps, af, none⟩ :: rest) i (mask :: plan) fps e m =
    @WCallV P S base L (e.eval f) (a.toList.map e.eval) m ⟨fun out m' wr => (match out with
      | .ret v => FpsFree mask ⟨m.next, m'.next, wr, .all⟩ fps ∧ WPut e d v fun e' => WD P S base L ops Q rest (i + 1) plan ((i, ⟨m.next, m'.next, wr, .all⟩) :: fps) e' m'
      | .panic _ => False)⟩ := id rfl
/-- An operation with a guard. -/
def okGuard (ops : Array Oper) (e : Env) (q : Nat × Bool) : Bool := yieldedA ops e q.1 == some q.2
theorem wo_move (x : Operand) : WO P S base L ops Q (⟨d, .move x, ty, ps, af, none⟩ :: rest) e m = @WV (aop P e.eval ⟨d, .move x, ty, ps, af, none⟩ m) ⟨fun v m' w _ => OkW base L w ∧ WPut e d v fun e' => WO P S base L ops Q rest e' m'⟩ := id rfl
theorem wd_move (x : Operand) : WD P S base L ops Q (⟨d, .move x, ty, ps, af, none⟩ :: rest) i (mask :: plan) fps e m = @WV (aop P e.eval ⟨d, .move x, ty, ps, af, none⟩ m) ⟨fun v m' w r => OkW base L w ∧ WDn P S base L ops Q rest i mask plan fps e d m v m' w r⟩ := id rfl
theorem wo_assign (x : Operand) : WO P S base L ops Q (⟨d, .assign x, ty, ps, af, none⟩ :: rest) e m = @WV (aop P e.eval ⟨d, .assign x, ty, ps, af, none⟩ m) ⟨fun v m' w _ => OkW base L w ∧ WPut e d v fun e' => WO P S base L ops Q rest e' m'⟩ := id rfl
theorem wd_assign (x : Operand) : WD P S base L ops Q (⟨d, .assign x, ty, ps, af, none⟩ :: rest) i (mask :: plan) fps e m = @WV (aop P e.eval ⟨d, .assign x, ty, ps, af, none⟩ m) ⟨fun v m' w r => OkW base L w ∧ WDn P S base L ops Q rest i mask plan fps e d m v m' w r⟩ := id rfl
theorem wo_pick (x y z : Operand) : WO P S base L ops Q (⟨d, .pick x y z, ty, ps, af, none⟩ :: rest) e m = @WV (aop P e.eval ⟨d, .pick x y z, ty, ps, af, none⟩ m) ⟨fun v m' w _ => OkW base L w ∧ WPut e d v fun e' => WO P S base L ops Q rest e' m'⟩ := id rfl
theorem wd_pick (x y z : Operand) : WD P S base L ops Q (⟨d, .pick x y z, ty, ps, af, none⟩ :: rest) i (mask :: plan) fps e m = @WV (aop P e.eval ⟨d, .pick x y z, ty, ps, af, none⟩ m) ⟨fun v m' w r => OkW base L w ∧ WDn P S base L ops Q rest i mask plan fps e d m v m' w r⟩ := id rfl
theorem wo_alloc (t : TypeId) : WO P S base L ops Q (⟨d, .alloc t, ty, ps, af, none⟩ :: rest) e m = @WV (aop P e.eval ⟨d, .alloc t, ty, ps, af, none⟩ m) ⟨fun v m' w _ => OkW base L w ∧ WPut e d v fun e' => WO P S base L ops Q rest e' m'⟩ := id rfl
theorem wd_alloc (t : TypeId) : WD P S base L ops Q (⟨d, .alloc t, ty, ps, af, none⟩ :: rest) i (mask :: plan) fps e m = @WV (aop P e.eval ⟨d, .alloc t, ty, ps, af, none⟩ m) ⟨fun v m' w r => OkW base L w ∧ WDn P S base L ops Q rest i mask plan fps e d m v m' w r⟩ := id rfl
theorem wo_box (t : TypeId) (x : Operand) : WO P S base L ops Q (⟨d, .box t x, ty, ps, af, none⟩ :: rest) e m = @WV (aop P e.eval ⟨d, .box t x, ty, ps, af, none⟩ m) ⟨fun v m' w _ => OkW base L w ∧ WPut e d v fun e' => WO P S base L ops Q rest e' m'⟩ := id rfl
theorem wd_box (t : TypeId) (x : Operand) : WD P S base L ops Q (⟨d, .box t x, ty, ps, af, none⟩ :: rest) i (mask :: plan) fps e m = @WV (aop P e.eval ⟨d, .box t x, ty, ps, af, none⟩ m) ⟨fun v m' w r => OkW base L w ∧ WDn P S base L ops Q rest i mask plan fps e d m v m' w r⟩ := id rfl
theorem wo_build (t : TypeId) (p : Array (Nat × Operand)) : WO P S base L ops Q (⟨d, .build t p, ty, ps, af, none⟩ :: rest) e m = @WV (aop P e.eval ⟨d, .build t p, ty, ps, af, none⟩ m) ⟨fun v m' w _ => OkW base L w ∧ WPut e d v fun e' => WO P S base L ops Q rest e' m'⟩ := id rfl
theorem wd_build (t : TypeId) (p : Array (Nat × Operand)) : WD P S base L ops Q (⟨d, .build t p, ty, ps, af, none⟩ :: rest) i (mask :: plan) fps e m = @WV (aop P e.eval ⟨d, .build t p, ty, ps, af, none⟩ m) ⟨fun v m' w r => OkW base L w ∧ WDn P S base L ops Q rest i mask plan fps e d m v m' w r⟩ := id rfl
theorem wo_buildSlice (t : TypeId) (n : Nat) (p : Array (Nat × Operand)) : WO P S base L ops Q (⟨d, .buildSlice t n p, ty, ps, af, none⟩ :: rest) e m = @WV (aop P e.eval ⟨d, .buildSlice t n p, ty, ps, af, none⟩ m) ⟨fun v m' w _ => OkW base L w ∧ WPut e d v fun e' => WO P S base L ops Q rest e' m'⟩ := id rfl
theorem wd_buildSlice (t : TypeId) (n : Nat) (p : Array (Nat × Operand)) : WD P S base L ops Q (⟨d, .buildSlice t n p, ty, ps, af, none⟩ :: rest) i (mask :: plan) fps e m = @WV (aop P e.eval ⟨d, .buildSlice t n p, ty, ps, af, none⟩ m) ⟨fun v m' w r => OkW base L w ∧ WDn P S base L ops Q rest i mask plan fps e d m v m' w r⟩ := id rfl
theorem wo_load (t : TypeId) (x : Operand) : WO P S base L ops Q (⟨d, .load t x, ty, ps, af, none⟩ :: rest) e m = @WV (aop P e.eval ⟨d, .load t x, ty, ps, af, none⟩ m) ⟨fun v m' w _ => OkW base L w ∧ WPut e d v fun e' => WO P S base L ops Q rest e' m'⟩ := id rfl
theorem wd_load (t : TypeId) (x : Operand) : WD P S base L ops Q (⟨d, .load t x, ty, ps, af, none⟩ :: rest) i (mask :: plan) fps e m = @WV (aop P e.eval ⟨d, .load t x, ty, ps, af, none⟩ m) ⟨fun v m' w r => OkW base L w ∧ WDn P S base L ops Q rest i mask plan fps e d m v m' w r⟩ := id rfl
theorem wo_store (t : TypeId) (x y : Operand) : WO P S base L ops Q (⟨d, .store t x y, ty, ps, af, none⟩ :: rest) e m = @WV (aop P e.eval ⟨d, .store t x y, ty, ps, af, none⟩ m) ⟨fun v m' w _ => OkW base L w ∧ WPut e d v fun e' => WO P S base L ops Q rest e' m'⟩ := id rfl
theorem wd_store (t : TypeId) (x y : Operand) : WD P S base L ops Q (⟨d, .store t x y, ty, ps, af, none⟩ :: rest) i (mask :: plan) fps e m = @WV (aop P e.eval ⟨d, .store t x y, ty, ps, af, none⟩ m) ⟨fun v m' w r => OkW base L w ∧ WDn P S base L ops Q rest i mask plan fps e d m v m' w r⟩ := id rfl
theorem wo_nilCheck (x : Operand) : WO P S base L ops Q (⟨d, .nilCheck x, ty, ps, af, none⟩ :: rest) e m = @WV (aop P e.eval ⟨d, .nilCheck x, ty, ps, af, none⟩ m) ⟨fun v m' w _ => OkW base L w ∧ WPut e d v fun e' => WO P S base L ops Q rest e' m'⟩ := id rfl
theorem wd_nilCheck (x : Operand) : WD P S base L ops Q (⟨d, .nilCheck x, ty, ps, af, none⟩ :: rest) i (mask :: plan) fps e m = @WV (aop P e.eval ⟨d, .nilCheck x, ty, ps, af, none⟩ m) ⟨fun v m' w r => OkW base L w ∧ WDn P S base L ops Q rest i mask plan fps e d m v m' w r⟩ := id rfl
theorem wo_binOp (o : BinOp) (t u : TypeId) (x y : Operand) : WO P S base L ops Q (⟨d, .binOp o t x y u, ty, ps, af, none⟩ :: rest) e m = @WV (aop P e.eval ⟨d, .binOp o t x y u, ty, ps, af, none⟩ m) ⟨fun v m' w _ => OkW base L w ∧ WPut e d v fun e' => WO P S base L ops Q rest e' m'⟩ := id rfl
theorem wd_binOp (o : BinOp) (t u : TypeId) (x y : Operand) : WD P S base L ops Q (⟨d, .binOp o t x y u, ty, ps, af, none⟩ :: rest) i (mask :: plan) fps e m = @WV (aop P e.eval ⟨d, .binOp o t x y u, ty, ps, af, none⟩ m) ⟨fun v m' w r => OkW base L w ∧ WDn P S base L ops Q rest i mask plan fps e d m v m' w r⟩ := id rfl
theorem wo_unOp (o : UnOp) (t : TypeId) (x : Operand) : WO P S base L ops Q (⟨d, .unOp o t x, ty, ps, af, none⟩ :: rest) e m = @WV (aop P e.eval ⟨d, .unOp o t x, ty, ps, af, none⟩ m) ⟨fun v m' w _ => OkW base L w ∧ WPut e d v fun e' => WO P S base L ops Q rest e' m'⟩ := id rfl
theorem wd_unOp (o : UnOp) (t : TypeId) (x : Operand) : WD P S base L ops Q (⟨d, .unOp o t x, ty, ps, af, none⟩ :: rest) i (mask :: plan) fps e m = @WV (aop P e.eval ⟨d, .unOp o t x, ty, ps, af, none⟩ m) ⟨fun v m' w r => OkW base L w ∧ WDn P S base L ops Q rest i mask plan fps e d m v m' w r⟩ := id rfl
theorem wo_convert (s t : TypeId) (x : Operand) : WO P S base L ops Q (⟨d, .convert s t x, ty, ps, af, none⟩ :: rest) e m = @WV (aop P e.eval ⟨d, .convert s t x, ty, ps, af, none⟩ m) ⟨fun v m' w _ => OkW base L w ∧ WPut e d v fun e' => WO P S base L ops Q rest e' m'⟩ := id rfl
theorem wd_convert (s t : TypeId) (x : Operand) : WD P S base L ops Q (⟨d, .convert s t x, ty, ps, af, none⟩ :: rest) i (mask :: plan) fps e m = @WV (aop P e.eval ⟨d, .convert s t x, ty, ps, af, none⟩ m) ⟨fun v m' w r => OkW base L w ∧ WDn P S base L ops Q rest i mask plan fps e d m v m' w r⟩ := id rfl
theorem wo_makeInterface (t : TypeId) (x : Operand) : WO P S base L ops Q (⟨d, .makeInterface t x, ty, ps, af, none⟩ :: rest) e m = @WV (aop P e.eval ⟨d, .makeInterface t x, ty, ps, af, none⟩ m) ⟨fun v m' w _ => OkW base L w ∧ WPut e d v fun e' => WO P S base L ops Q rest e' m'⟩ := id rfl
theorem wd_makeInterface (t : TypeId) (x : Operand) : WD P S base L ops Q (⟨d, .makeInterface t x, ty, ps, af, none⟩ :: rest) i (mask :: plan) fps e m = @WV (aop P e.eval ⟨d, .makeInterface t x, ty, ps, af, none⟩ m) ⟨fun v m' w r => OkW base L w ∧ WDn P S base L ops Q rest i mask plan fps e d m v m' w r⟩ := id rfl
theorem wo_makeFunc (f : Fn) (x y : Array Operand) : WO P S base L ops Q (⟨d, .makeFunc f x y, ty, ps, af, none⟩ :: rest) e m = @WV (aop P e.eval ⟨d, .makeFunc f x y, ty, ps, af, none⟩ m) ⟨fun v m' w _ => OkW base L w ∧ WPut e d v fun e' => WO P S base L ops Q rest e' m'⟩ := id rfl
theorem wd_makeFunc (f : Fn) (x y : Array Operand) : WD P S base L ops Q (⟨d, .makeFunc f x y, ty, ps, af, none⟩ :: rest) i (mask :: plan) fps e m = @WV (aop P e.eval ⟨d, .makeFunc f x y, ty, ps, af, none⟩ m) ⟨fun v m' w r => OkW base L w ∧ WDn P S base L ops Q rest i mask plan fps e d m v m' w r⟩ := id rfl
theorem wo_makeMap (t : TypeId) (x : Option Operand) : WO P S base L ops Q (⟨d, .makeMap t x, ty, ps, af, none⟩ :: rest) e m = @WV (aop P e.eval ⟨d, .makeMap t x, ty, ps, af, none⟩ m) ⟨fun v m' w _ => OkW base L w ∧ WPut e d v fun e' => WO P S base L ops Q rest e' m'⟩ := id rfl
theorem wd_makeMap (t : TypeId) (x : Option Operand) : WD P S base L ops Q (⟨d, .makeMap t x, ty, ps, af, none⟩ :: rest) i (mask :: plan) fps e m = @WV (aop P e.eval ⟨d, .makeMap t x, ty, ps, af, none⟩ m) ⟨fun v m' w r => OkW base L w ∧ WDn P S base L ops Q rest i mask plan fps e d m v m' w r⟩ := id rfl
theorem wo_makeSlice (t : TypeId) (x y : Operand) : WO P S base L ops Q (⟨d, .makeSlice t x y, ty, ps, af, none⟩ :: rest) e m = @WV (aop P e.eval ⟨d, .makeSlice t x y, ty, ps, af, none⟩ m) ⟨fun v m' w _ => OkW base L w ∧ WPut e d v fun e' => WO P S base L ops Q rest e' m'⟩ := id rfl
theorem wd_makeSlice (t : TypeId) (x y : Operand) : WD P S base L ops Q (⟨d, .makeSlice t x y, ty, ps, af, none⟩ :: rest) i (mask :: plan) fps e m = @WV (aop P e.eval ⟨d, .makeSlice t x y, ty, ps, af, none⟩ m) ⟨fun v m' w r => OkW base L w ∧ WDn P S base L ops Q rest i mask plan fps e d m v m' w r⟩ := id rfl
theorem wo_slice (t : TypeId) (x : Operand) (l h mx : Option Operand) : WO P S base L ops Q (⟨d, .slice t x l h mx, ty, ps, af, none⟩ :: rest) e m = @WV (aop P e.eval ⟨d, .slice t x l h mx, ty, ps, af, none⟩ m) ⟨fun v m' w _ => OkW base L w ∧ WPut e d v fun e' => WO P S base L ops Q rest e' m'⟩ := id rfl
theorem wd_slice (t : TypeId) (x : Operand) (l h mx : Option Operand) : WD P S base L ops Q (⟨d, .slice t x l h mx, ty, ps, af, none⟩ :: rest) i (mask :: plan) fps e m = @WV (aop P e.eval ⟨d, .slice t x l h mx, ty, ps, af, none⟩ m) ⟨fun v m' w r => OkW base L w ∧ WDn P S base L ops Q rest i mask plan fps e d m v m' w r⟩ := id rfl
theorem wo_fieldAddr (t : TypeId) (x : Operand) (n : Nat) : WO P S base L ops Q (⟨d, .fieldAddr t x n, ty, ps, af, none⟩ :: rest) e m = @WV (aop P e.eval ⟨d, .fieldAddr t x n, ty, ps, af, none⟩ m) ⟨fun v m' w _ => OkW base L w ∧ WPut e d v fun e' => WO P S base L ops Q rest e' m'⟩ := id rfl
theorem wd_fieldAddr (t : TypeId) (x : Operand) (n : Nat) : WD P S base L ops Q (⟨d, .fieldAddr t x n, ty, ps, af, none⟩ :: rest) i (mask :: plan) fps e m = @WV (aop P e.eval ⟨d, .fieldAddr t x n, ty, ps, af, none⟩ m) ⟨fun v m' w r => OkW base L w ∧ WDn P S base L ops Q rest i mask plan fps e d m v m' w r⟩ := id rfl
theorem wo_field (t : TypeId) (x : Operand) (n : Nat) : WO P S base L ops Q (⟨d, .field t x n, ty, ps, af, none⟩ :: rest) e m = @WV (aop P e.eval ⟨d, .field t x n, ty, ps, af, none⟩ m) ⟨fun v m' w _ => OkW base L w ∧ WPut e d v fun e' => WO P S base L ops Q rest e' m'⟩ := id rfl
theorem wd_field (t : TypeId) (x : Operand) (n : Nat) : WD P S base L ops Q (⟨d, .field t x n, ty, ps, af, none⟩ :: rest) i (mask :: plan) fps e m = @WV (aop P e.eval ⟨d, .field t x n, ty, ps, af, none⟩ m) ⟨fun v m' w r => OkW base L w ∧ WDn P S base L ops Q rest i mask plan fps e d m v m' w r⟩ := id rfl
theorem wo_indexAddr (t : TypeId) (x y : Operand) : WO P S base L ops Q (⟨d, .indexAddr t x y, ty, ps, af, none⟩ :: rest) e m = @WV (aop P e.eval ⟨d, .indexAddr t x y, ty, ps, af, none⟩ m) ⟨fun v m' w _ => OkW base L w ∧ WPut e d v fun e' => WO P S base L ops Q rest e' m'⟩ := id rfl
theorem wd_indexAddr (t : TypeId) (x y : Operand) : WD P S base L ops Q (⟨d, .indexAddr t x y, ty, ps, af, none⟩ :: rest) i (mask :: plan) fps e m = @WV (aop P e.eval ⟨d, .indexAddr t x y, ty, ps, af, none⟩ m) ⟨fun v m' w r => OkW base L w ∧ WDn P S base L ops Q rest i mask plan fps e d m v m' w r⟩ := id rfl
theorem wo_index (t : TypeId) (x y : Operand) : WO P S base L ops Q (⟨d, .index t x y, ty, ps, af, none⟩ :: rest) e m = @WV (aop P e.eval ⟨d, .index t x y, ty, ps, af, none⟩ m) ⟨fun v m' w _ => OkW base L w ∧ WPut e d v fun e' => WO P S base L ops Q rest e' m'⟩ := id rfl
theorem wd_index (t : TypeId) (x y : Operand) : WD P S base L ops Q (⟨d, .index t x y, ty, ps, af, none⟩ :: rest) i (mask :: plan) fps e m = @WV (aop P e.eval ⟨d, .index t x y, ty, ps, af, none⟩ m) ⟨fun v m' w r => OkW base L w ∧ WDn P S base L ops Q rest i mask plan fps e d m v m' w r⟩ := id rfl
theorem wo_lookup (t : TypeId) (x y : Operand) (b : Bool) : WO P S base L ops Q (⟨d, .lookup t x y b, ty, ps, af, none⟩ :: rest) e m = @WV (aop P e.eval ⟨d, .lookup t x y b, ty, ps, af, none⟩ m) ⟨fun v m' w _ => OkW base L w ∧ WPut e d v fun e' => WO P S base L ops Q rest e' m'⟩ := id rfl
theorem wd_lookup (t : TypeId) (x y : Operand) (b : Bool) : WD P S base L ops Q (⟨d, .lookup t x y b, ty, ps, af, none⟩ :: rest) i (mask :: plan) fps e m = @WV (aop P e.eval ⟨d, .lookup t x y b, ty, ps, af, none⟩ m) ⟨fun v m' w r => OkW base L w ∧ WDn P S base L ops Q rest i mask plan fps e d m v m' w r⟩ := id rfl
theorem wo_extract (x : Operand) (n : Nat) : WO P S base L ops Q (⟨d, .extract x n, ty, ps, af, none⟩ :: rest) e m = @WV (aop P e.eval ⟨d, .extract x n, ty, ps, af, none⟩ m) ⟨fun v m' w _ => OkW base L w ∧ WPut e d v fun e' => WO P S base L ops Q rest e' m'⟩ := id rfl
theorem wd_extract (x : Operand) (n : Nat) : WD P S base L ops Q (⟨d, .extract x n, ty, ps, af, none⟩ :: rest) i (mask :: plan) fps e m = @WV (aop P e.eval ⟨d, .extract x n, ty, ps, af, none⟩ m) ⟨fun v m' w r => OkW base L w ∧ WDn P S base L ops Q rest i mask plan fps e d m v m' w r⟩ := id rfl
theorem wo_builtin (b : Builtin) (a : Array Operand) (aT : Array TypeId) : WO P S base L ops Q (⟨d, .call { callee := .builtin b, args := a, argTypes := aT }, ty, ps, af, none⟩ :: rest) e m = @WV (aop P e.eval ⟨d, .call { callee := .builtin b, args := a, argTypes := aT }, ty, ps, af, none⟩ m) ⟨fun v m' w _ => OkW base L w ∧ WPut e d v fun e' => WO P S base L ops Q rest e' m'⟩ := id rfl
theorem wd_builtin (b : Builtin) (a : Array Operand) (aT : Array TypeId) : WD P S base L ops Q (⟨d, .call { callee := .builtin b, args := a, argTypes := aT }, ty, ps, af, none⟩ :: rest) i (mask :: plan) fps e m = @WV (aop P e.eval ⟨d, .call { callee := .builtin b, args := a, argTypes := aT }, ty, ps, af, none⟩ m) ⟨fun v m' w r => OkW base L w ∧ WDn P S base L ops Q rest i mask plan fps e d m v m' w r⟩ := id rfl
end

theorem spec0 (f : Nat) (h : Nat.beq f 9 = false := by rfl) : S0.spec f = none := by
  have h1 : f ≠ 9 := Nat.ne_of_beq_eq_false h
  show (if f = 9 then some (closedG givenR) else none) = none
  rw [if_neg h1]
theorem specLoc : SpecLoc S0.spec := oneSpec_loc

/-! ### Words -/

theorem wrap_i64 {n : Int} (h1 : -9223372036854775808 ≤ n) (h2 : n < 9223372036854775808) : IntKind.wrap .i64 n = n := by
  have e1 : (2 : Int) ^ (IntKind.i64.bits) = 18446744073709551616 := rfl
  have e2 : (2 : Int) ^ (IntKind.i64.bits - 1) = 9223372036854775808 := rfl
  unfold IntKind.wrap
  rw [e1, e2]
  simp only [IntKind.signed, Bool.true_and, ge_iff_le, decide_eq_true_eq]
  split <;> omega
theorem wrap_u64 {n : Int} (h1 : 0 ≤ n) (h2 : n < 18446744073709551616) : IntKind.wrap .u64 n = n := by
  simp only [IntKind.wrap, IntKind.bits, IntKind.signed]
  simp
  omega
theorem wrap_u8 {n : Int} : IntKind.wrap .u8 n = n % 256 := by
  simp [IntKind.wrap, IntKind.bits, IntKind.signed]
theorem wrap_u32 {n : Int} : IntKind.wrap .u32 n = n % 4294967296 := by
  simp [IntKind.wrap, IntKind.bits, IntKind.signed]

def shlK (k : IntKind) (a b : Int) : Int := k.wrap (a * 2 ^ (min b.toNat k.bits))
def shrK (k : IntKind) (a b : Int) : Int := a.fdiv (2 ^ (min b.toNat k.bits))
def andI (k : IntKind) (a b : Int) : Int := k.wrap (BitVec.ofInt k.bits a &&& BitVec.ofInt k.bits b).toNat
def orI (k : IntKind) (a b : Int) : Int := k.wrap (BitVec.ofInt k.bits a ||| BitVec.ofInt k.bits b).toNat
def xorI (k : IntKind) (a b : Int) : Int := k.wrap (BitVec.ofInt k.bits a ^^^ BitVec.ofInt k.bits b).toNat

theorem ofInt_toNat8 (x : UInt8) : BitVec.ofInt 8 (x.toNat : Int) = x.toBitVec := by
  apply BitVec.eq_of_toNat_eq
  have := x.toNat_lt
  simp
theorem ofInt_toNat32 (x : UInt32) : BitVec.ofInt 32 (x.toNat : Int) = x.toBitVec := by
  apply BitVec.eq_of_toNat_eq
  have := x.toNat_lt
  simp
theorem orI_8 (x y : UInt8) : orI .u8 (x.toNat : Int) (y.toNat : Int) = ((x ||| y).toNat : Int) := by
  show IntKind.wrap .u8 (BitVec.ofInt 8 (x.toNat : Int) ||| BitVec.ofInt 8 (y.toNat : Int)).toNat = _
  rw [ofInt_toNat8, ofInt_toNat8, wrap_u8]
  show ((x ||| y).toNat : Int) % 256 = _
  have := (x ||| y).toNat_lt
  omega
theorem xorI_8 (x y : UInt8) : xorI .u8 (x.toNat : Int) (y.toNat : Int) = ((x ^^^ y).toNat : Int) := by
  show IntKind.wrap .u8 (BitVec.ofInt 8 (x.toNat : Int) ^^^ BitVec.ofInt 8 (y.toNat : Int)).toNat = _
  rw [ofInt_toNat8, ofInt_toNat8, wrap_u8]
  show ((x ^^^ y).toNat : Int) % 256 = _
  have := (x ^^^ y).toNat_lt
  omega
theorem orI_32 (x y : UInt32) : orI .u32 (x.toNat : Int) (y.toNat : Int) = ((x ||| y).toNat : Int) := by
  show IntKind.wrap .u32 (BitVec.ofInt 32 (x.toNat : Int) ||| BitVec.ofInt 32 (y.toNat : Int)).toNat = _
  rw [ofInt_toNat32, ofInt_toNat32, wrap_u32]
  show ((x ||| y).toNat : Int) % 4294967296 = _
  have := (x ||| y).toNat_lt
  omega
theorem xorI_32 (x y : UInt32) : xorI .u32 (x.toNat : Int) (y.toNat : Int) = ((x ^^^ y).toNat : Int) := by
  show IntKind.wrap .u32 (BitVec.ofInt 32 (x.toNat : Int) ^^^ BitVec.ofInt 32 (y.toNat : Int)).toNat = _
  rw [ofInt_toNat32, ofInt_toNat32, wrap_u32]
  show ((x ^^^ y).toNat : Int) % 4294967296 = _
  have := (x ^^^ y).toNat_lt
  omega
theorem addI_32 (x y : UInt32) : ((x.toNat : Int) + (y.toNat : Int)) % 4294967296 = ((x + y).toNat : Int) := by
  rw [UInt32.toNat_add]
  omega

section
variable {P : Program} {m : Mem} {t : TypeId} {x y : Operand} {k k' : IntKind} {a b : Int}
theorem abin_add : abin P .add t x y (.int k a) (.int k b) m = some (.int k (k.wrap (a + b)), m, [], .no) := abin_int (by simp) (by simp) (by simp)
theorem abin_sub : abin P .sub t x y (.int k a) (.int k b) m = some (.int k (k.wrap (a - b)), m, [], .no) := abin_int (by simp) (by simp) (by simp)
theorem abin_mul : abin P .mul t x y (.int k a) (.int k b) m = some (.int k (k.wrap (a * b)), m, [], .no) := abin_int (by simp) (by simp) (by simp)
theorem abin_and : abin P .and t x y (.int k a) (.int k b) m = some (.int k (andI k a b), m, [], .no) := abin_int (by simp) (by simp) (by simp)
theorem abin_or : abin P .or t x y (.int k a) (.int k b) m = some (.int k (orI k a b), m, [], .no) := abin_int (by simp) (by simp) (by simp)
theorem abin_xor : abin P .xor t x y (.int k a) (.int k b) m = some (.int k (xorI k a b), m, [], .no) := abin_int (by simp) (by simp) (by simp)
theorem abin_eql : abin P .eql t x y (.int k a) (.int k b) m = some (.bool (a == b), m, [], .no) := abin_int (by simp) (by simp) (by simp)
theorem abin_neq : abin P .neq t x y (.int k a) (.int k b) m = some (.bool (a != b), m, [], .no) := abin_int (by simp) (by simp) (by simp)
theorem abin_lss : abin P .lss t x y (.int k a) (.int k b) m = some (.bool (decide (a < b)), m, [], .no) := abin_int (by simp) (by simp) (by simp)
theorem abin_leq : abin P .leq t x y (.int k a) (.int k b) m = some (.bool (decide (a ≤ b)), m, [], .no) := abin_int (by simp) (by simp) (by simp)
theorem abin_gtr : abin P .gtr t x y (.int k a) (.int k b) m = some (.bool (decide (a > b)), m, [], .no) := abin_int (by simp) (by simp) (by simp)
theorem abin_geq : abin P .geq t x y (.int k a) (.int k b) m = some (.bool (decide (a ≥ b)), m, [], .no) := abin_int (by simp) (by simp) (by simp)
theorem abin_rem (h : b ≠ 0) : abin P .rem t x y (.int k a) (.int k b) m = some (.int k (a.tmod b), m, [], .no) := by
  rw [abin_int (by simp) (by simp) (by simp)]; simp [binI, h]
theorem abin_quo (h : b ≠ 0) : abin P .quo t x y (.int k a) (.int k b) m = some (.int k (k.wrap (a.tdiv b)), m, [], .no) := by
  rw [abin_int (by simp) (by simp) (by simp)]; simp [binI, h]
theorem abin_shl (h : 0 ≤ b) : abin P .shl t x y (.int k a) (.int k' b) m = some (.int k (shlK k a b), m, [], .no) := by
  rw [abin_shift (.inl rfl)]
  have : ¬ (b < 0) := by omega
  simp [shiftI, this, shlK]
theorem abin_shr (h : 0 ≤ b) : abin P .shr t x y (.int k a) (.int k' b) m = some (.int k (shrK k a b), m, [], .no) := by
  rw [abin_shift (.inr rfl)]
  have : ¬ (b < 0) := by omega
  simp [shiftI, this, shrK]
theorem abin_str_eq {a b : ByteArray} : abin P .eql t x y (.string a) (.string b) m = some (.bool (a.toList == b.toList), m, [], .no) := abin_str
theorem abin_str_ne {a b : ByteArray} : abin P .neq t x y (.string a) (.string b) m = some (.bool !(a.toList == b.toList), m, [], .no) := abin_str
end

/-! ### Slices that are built of their elements -/

def aconvN (k' : Option IntKind) (P : Program) (s t : TypeId) (k : IntKind) (a : Int) (m : Mem) : Res := match k' with | some k' => some (.int k' (k'.wrap a), m, [], .no) | none => aconv P s t (.int k a) m
theorem aconv_intN {P : Program} {s t : TypeId} {k : IntKind} {a : Int} {m : Mem} (h : (convII P s t).isSome = true) : aconv P s t (.int k a) m = aconvN (convII P s t) P s t k a m := by
  cases hc : convII P s t with
  | none => rw [hc] at h; cases h
  | some k' => exact aconv_int hc
theorem aconvN_some {P : Program} {s t : TypeId} {k k' : IntKind} {a : Int} {m : Mem} : aconvN (some k') P s t k a m = some (.int k' (k'.wrap a), m, [], .no) := id rfl

theorem zeroCellsN_one {z : Value} {n : Nat} : (zeroCellsN [z] n).length = n := by
  induction n with
  | zero => rfl
  | succ n ih => simp [zeroCellsN, ih]

theorem afill_row {vs : List Value} (hv : vs.all oneCell = true) : ∀ (pre rest : List Value), rest.length = vs.length →
    afill (fun i => some (i * 1, 1)) (pre ++ rest) ((vs.zipIdx pre.length).map fun p => (p.2, p.1)) = some (pre ++ vs) := by
  induction vs with
  | nil => intro pre rest hr; have : rest = [] := List.eq_nil_of_length_eq_zero (by simpa using hr); subst this; rfl
  | cons v vs ih =>
    intro pre rest hr
    rw [List.all_cons, Bool.and_eq_true] at hv
    cases rest with
    | nil => simp at hr
    | cons r rest =>
      have hc : v.cells = #[v] := by
        have := hv.1
        cases v <;> simp_all [oneCell, Value.cells]
      simp only [List.zipIdx_cons, List.map_cons, afill, hc, Nat.mul_one]
      have h1 : storeN (pre ++ r :: rest) pre.length [v] = some (pre ++ v :: rest) := by
        simp [storeN, ble_dec]
      simp only [show (#[v] : Array Value).size = 1 from rfl, show Nat.beq 1 1 = true from rfl, cond_true, h1]
      have := ih hv.2 (pre ++ [v]) rest (by simpa using hr)
      simpa using this

theorem bs_row {P : Program} {t : TypeId} {m : Mem} (h : bsK P t = true) {vs : List Value} (hv : vs.all oneCell = true) (hl : vs.length ≤ 65536) :
    abuildSliceR P t vs.length (vs.zipIdx.map fun p => (p.2, p.1)) m = some (.slice (some ⟨m.next, 0, none⟩) vs.length vs.length, m.push (.row vs .rw), [], .no) := by
  unfold bsK at h
  split at h
  case h_2 => cases h
  rename_i elem hu
  split at h
  case h_2 => cases h
  rename_i size z h1 h2
  simp only [Bool.and_eq_true, beq_dec, decide_eq_true_eq] at h
  obtain ⟨⟨h3, h4⟩, h5⟩ := h
  subst h3
  obtain ⟨z0, hz⟩ : ∃ z0, z.cells.toList = [z0] := by
    match hq : z.cells.toList with
    | [z0] => exact ⟨z0, rfl⟩
    | [] => have := congrArg List.length hq; simp [h4] at this
    | _ :: _ :: _ => have := congrArg List.length hq; simp [h4] at this
  have e1 : Nat.ble (vs.length * 1) 65536 = true := by rw [ble_dec]; simp; omega
  have e2 : Nat.beq z.cells.size 1 = true := by rw [beq_dec]; simp [h4]
  have h6 := afill_row hv [] (zeroCellsN [z0] vs.length) zeroCellsN_one
  simp only [List.nil_append, List.length_nil] at h6
  rw [hz] at h5
  simp only [abuildSliceR, abuildSlice, hu, h1, h2, e1, e2, hz, h5, Bool.and_self, cond_true, h6, hv, pm, Option.map_some]

section
variable {P : Program} {m : Mem} {t : TypeId} {a b c d e f g i : Value}
theorem bs1 (h : bsK P t = true) (ha : oneCell a = true) : abuildSliceR P t 1 [(0, a)] m = some (.slice (some ⟨m.next, 0, none⟩) 1 1, m.push (.row [a] .rw), [], .no) := bs_row h (vs := [a]) (by simp [ha]) (by simp)
theorem bs2 (h : bsK P t = true) (ha : oneCell a = true) (hb : oneCell b = true) : abuildSliceR P t 2 [(0, a), (1, b)] m = some (.slice (some ⟨m.next, 0, none⟩) 2 2, m.push (.row [a, b] .rw), [], .no) := bs_row h (vs := [a, b]) (by simp [ha, hb]) (by simp)
theorem bs3 (h : bsK P t = true) (ha : oneCell a = true) (hb : oneCell b = true) (hc : oneCell c = true) : abuildSliceR P t 3 [(0, a), (1, b), (2, c)] m = some (.slice (some ⟨m.next, 0, none⟩) 3 3, m.push (.row [a, b, c] .rw), [], .no) := bs_row h (vs := [a, b, c]) (by simp [ha, hb, hc]) (by simp)
theorem bs4 (h : bsK P t = true) (ha : oneCell a = true) (hb : oneCell b = true) (hc : oneCell c = true) (hd : oneCell d = true) : abuildSliceR P t 4 [(0, a), (1, b), (2, c), (3, d)] m = some (.slice (some ⟨m.next, 0, none⟩) 4 4, m.push (.row [a, b, c, d] .rw), [], .no) := bs_row h (vs := [a, b, c, d]) (by simp [ha, hb, hc, hd]) (by simp)
theorem bs5 (h : bsK P t = true) (ha : oneCell a = true) (hb : oneCell b = true) (hc : oneCell c = true) (hd : oneCell d = true) (he : oneCell e = true) : abuildSliceR P t 5 [(0, a), (1, b), (2, c), (3, d), (4, e)] m = some (.slice (some ⟨m.next, 0, none⟩) 5 5, m.push (.row [a, b, c, d, e] .rw), [], .no) := bs_row h (vs := [a, b, c, d, e]) (by simp [ha, hb, hc, hd, he]) (by simp)
theorem bs8 (h : bsK P t = true) (ha : oneCell a = true) (hb : oneCell b = true) (hc : oneCell c = true) (hd : oneCell d = true) (he : oneCell e = true) (hf : oneCell f = true) (hg : oneCell g = true) (hi : oneCell i = true) : abuildSliceR P t 8 [(0, a), (1, b), (2, c), (3, d), (4, e), (5, f), (6, g), (7, i)] m = some (.slice (some ⟨m.next, 0, none⟩) 8 8, m.push (.row [a, b, c, d, e, f, g, i] .rw), [], .no) := bs_row h (vs := [a, b, c, d, e, f, g, i]) (by simp [ha, hb, hc, hd, he, hf, hg, hi]) (by simp)
end
theorem one_int {k : IntKind} {n : Int} : oneCell (.int k n) = true := by simp [oneCell]
theorem one_bool {b : Bool} : oneCell (.bool b) = true := by simp [oneCell]
theorem one_str {s : ByteArray} : oneCell (.string s) = true := by simp [oneCell]
theorem one_slice {a : Option Addr} {n c : Nat} : oneCell (.slice a n c) = true := by simp [oneCell]
theorem one_ptr {a : Option Addr} : oneCell (.pointer a) = true := by simp [oneCell]
theorem one_map {a : Option Nat} : oneCell (.map a) = true := by simp [oneCell]
theorem size_int {k : IntKind} {n : Int} : (Value.int k n).cells = #[.int k n] := id rfl
theorem size_bool {b : Bool} : (Value.bool b).cells = #[.bool b] := id rfl
theorem size_str {s : ByteArray} : (Value.string s).cells = #[.string s] := id rfl
theorem size_slice {a : Option Addr} {n c : Nat} : (Value.slice a n c).cells = #[.slice a n c] := id rfl
theorem size_ptr {a : Option Addr} : (Value.pointer a).cells = #[.pointer a] := id rfl
theorem size_map {a : Option Nat} : (Value.map a).cells = #[.map a] := id rfl
theorem size_one {v : Value} : (#[v] : Array Value).size = 1 := id rfl
theorem size_agg {c : Array Value} : (Value.agg c).cells = c := id rfl
theorem beq_self (n : Nat) : Nat.beq n n = true := by rw [beq_dec]; simp
theorem writable_rw : writable .rw = true := id rfl
theorem writable_sl {n : Nat} : writable (.slack n) = true := id rfl

theorem or128 {n : Nat} : orI .u8 ((n : Int) % 256) 128 = ((UInt8.ofNat (n % 128 + 128)).toNat : Int) := by
  have e1 : ((n : Int) % 256) = ((UInt8.ofNat n).toNat : Int) := by simp [UInt8.toNat_ofNat']
  have e2 : (128 : Int) = ((128 : UInt8).toNat : Int) := rfl
  rw [e1, e2, orI_8]
  have key : ∀ x : Fin 256, (UInt8.ofNat x.val ||| 128) = UInt8.ofNat (x.val % 128 + 128) := by decide +kernel
  have h1 := key ⟨n % 256, by omega⟩
  simp only at h1
  have h2 : UInt8.ofNat (n % 256) = UInt8.ofNat n := by
    apply UInt8.toNat_inj.1; simp [UInt8.toNat_ofNat']
  rw [h2] at h1
  rw [h1, show n % 256 % 128 = n % 128 from by omega]

theorem u8_mod {n : Nat} : (Value.int .u8 ((n : Int) % 256)) = .int .u8 ((UInt8.ofNat n).toNat : Int) := by
  simp [UInt8.toNat_ofNat']

/-! ### Memory that grows -/

theorem push_keep {m : Mem} (hw : WF m) {o : AObj} : ∀ b, m.get b ≠ none → (m.push o).get b = m.get b := fun b hb => by
  rw [Mem.get_push, if_neg (by have := hw.lt hb; omega)]
theorem WF.push {m : Mem} (hw : WF m) {o : AObj} : WF (m.push o) := fun b hb => by
  simp only [Mem.next_push] at hb
  rw [Mem.get_push, if_neg (by omega)]
  exact hw b (by omega)
theorem WF.set {m : Mem} (hw : WF m) {b : Nat} {o : AObj} (h : b < m.next) : WF (m.set b o) := fun c hc => by
  simp only [Mem.next_set] at hc
  rw [Mem.get_set, if_neg (by omega)]
  exact hw c hc

/-- Appending elements that were built just now. -/
theorem append_built {P : Program} {m : Mem} {v : Value} {cs : List Value} {aT : Array TypeId} {bytes n0 : Nat} (h : appK P aT = some bytes) (hv : Own m n0 v cs) {vs : List Value} (hnew : vs.all oneCell = true)
    (hlen : cs.length + vs.length ≤ 1073741824) (hn0 : n0 ≤ m.next) (hw : WF m) {n : Nat} (hn : n = vs.length) :
    ∃ v' m' w, aappend P aT v (.slice (some ⟨m.next, 0, none⟩) n n) (m.push (.row vs .rw)) = some (v', m', w, .all) ∧ Own m' n0 v' (cs ++ vs) ∧ (∀ b ∈ w, slBlk v = some b) ∧ m.next ≤ m'.next ∧ WF m' ∧
      (∀ b, b < m.next → slBlk v ≠ some b → m'.get b = m.get b) ∧ (∀ b, slBlk v' = some b → slBlk v = some b ∨ m.next ≤ b) := by
  subst hn
  have hx : elemsOf 1 (.slice (some ⟨m.next, 0, none⟩) vs.length vs.length) (m.push (.row vs .rw)) = some (vs.length, vs) :=
    (Sl.row (k := .rw) (rs := vs) (cs := vs) (by rw [Mem.get_push]; simp) (by simp) rfl (Nat.le_refl _) (fun s hs => by cases hs)).elems
  obtain ⟨v', m', w, h1, h2, h3, h4, h5, h6, h7, h8, h9⟩ := append_own h (hv.frame (push_keep hw)) hx hnew hlen (by simp; omega) hw.push
  simp only [Mem.next_push] at h4 h6 h8
  refine ⟨v', m', w, h1, h2, h9, by omega, h5, fun b hb hne => ?_, fun b hb => ?_⟩
  · rw [h6 b (by omega) hne, Mem.get_push, if_neg (by omega)]
  · rcases h8 b hb with h | h
    · exact .inl h
    · exact .inr (by omega)

/-! ### The end of a body -/

section
variable {P : Program} {fn : Func} {e : Env} {m : Mem} {Q : COut → Mem → Prop}
theorem ret_none {x : Ex} (hx : x = .ret ∨ x = .normal) (h : fn.results = #[]) (hq : Q (.ret (.tuple #[])) m) : bodyQ P fn Q x e m := by
  have : aresults P fn e m = some (.tuple #[]) := by simp [aresults, h]
  rcases hx with rfl | rfl <;> simp only [bodyQ, this] <;> exact hq
theorem ret_one {x : Ex} (hx : x = .ret ∨ x = .normal) {t : Nat} (h : fn.results = #[.tmp t]) (hq : Q (.ret (e.get t)) m) : bodyQ P fn Q x e m := by
  have : aresults P fn e m = some (e.get t) := by simp [aresults, h, aresult]
  rcases hx with rfl | rfl <;> simp only [bodyQ, this] <;> exact hq
end

theorem ret_cell {P : Program} {fn : Func} {e : Env} {m : Mem} {Q : COut → Mem → Prop} {x : Ex} (hx : x = .ret ∨ x = .normal) {a : Nat} {t : TypeId} (h : fn.results = #[.cell a t]) {b o : Nat} (ha : e.get a = .pointer (some ⟨b, o, none⟩)) {v : Value} (hv : loadRow (ldk P t) (m.get b) o = some v) (hq : Q (.ret v) m) : bodyQ P fn Q x e m := by
  have : aresults P fn e m = some v := by
    have e1 : aresult P e m (.cell a t) = some v := by simp only [aresult, ha, aload_row, hv]
    simp [aresults, h, e1]
  rcases hx with rfl | rfl <;> simp only [bodyQ, this] <;> exact hq
theorem storeRow_all {m : Mem} {cs vs : List Value} {k : Kind} {b : Nat} (hk : writable k = true) (hv : vs.all oneCell = true) (hl : vs.length = cs.length) :
    storeRow (some (.row cs k)) b 0 vs m = some (undef, m.set b (.row vs k), [b], .one b) := by
  rw [storeRow_row hk hv (by omega)]
  simp [hl]
theorem pv_ok {m : Mem} {v : Value} : pv m (some v) = some (v, m, [], .no) := id rfl
theorem abuildR_eq {P : Program} {t : TypeId} {l : List (Nat × Value)} {m : Mem} : abuildR P t l m = pv m (abuild P t l) := id rfl

theorem shrK_nat {k : IntKind} {a n : Nat} (h : n ≤ k.bits) : shrK k (a : Int) (n : Int) = ((a / 2 ^ n : Nat) : Int) := by
  unfold shrK
  rw [show min ((n : Int)).toNat k.bits = n from by simp; omega]
  rw [Int.fdiv_eq_ediv_of_nonneg _ (Int.le_of_lt (Int.pow_pos (by decide)))]
  simp

/-- Only so much of the temporaries is kept. -/
theorem w_keep {P : Program} {S : Cfg} {base : Nat} {L : List Nat} {c : Code} {e : Env} {m : Mem} {Q : Ex → Env → Mem → Prop} (I : Env → Prop) (hI : I e) (h : ∀ e', I e' → W P S base L c e' m Q) : W P S base L c e m Q := h e hI

/-! ### Calls that touch nothing -/

theorem pu_of {P : Program} {S : Cfg} {g : FuncId} {args : List Value} {m : Mem} {v : Value} (h : Ct P S g args m [] fun out m' => out = .ret v ∧ m' = m) : acall P S g args m = some (.ret v, m, []) := by
  obtain ⟨out, m', wr, h1, h2, rfl, rfl⟩ := h
  have : wr = [] := List.eq_nil_iff_forall_not_mem.2 fun b hb => by simpa using h2 b hb
  rw [h1, this]
theorem wcall_pu {P : Program} {S : Cfg} {base : Nat} {L : List Nat} {g : FuncId} {args : List Value} {m : Mem} {v : Value} {K : COut → Mem → List Nat → Prop} (h : acall P S g args m = some (.ret v, m, [])) (hk : K (.ret v) m []) :
    @WCall P S base L g args m ⟨K⟩ := ⟨.ret v, m, [], h, OkW.nil, hk⟩

theorem okw_self {base b : Nat} {L : List Nat} : OkW base (b :: L) [b] = True := eq_true (OkW.mem (by simp))
theorem okw_self2 {base a b : Nat} {L : List Nat} : OkW base (a :: b :: L) [b] = True := eq_true (OkW.mem (by simp))

theorem free_ld_ld {a b i n n' : Nat} {mask : Nat} {fps : List (Nat × Fp)} : FpsFree mask ⟨n, n, [], .one a⟩ ((i, ⟨n', n', [], .one b⟩) :: fps) = FpsFree mask ⟨n, n, [], .one a⟩ fps := by
  have h1 : (decide (n' ≤ a) && decide (a < n')) = false := by simp
  have h2 : (decide (n ≤ b) && decide (b < n)) = false := by simp
  simp [FpsFree, Fp.free, ble_dec, blt_dec, h1, h2]
theorem free_nil {mask : Nat} {f : Fp} : FpsFree mask f [] = True := id rfl
theorem free_anc {mask i : Nat} {f g : Fp} {fps : List (Nat × Fp)} (h : Nat.testBit mask i = true) : FpsFree mask f ((i, g) :: fps) = FpsFree mask f fps := by
  simp [FpsFree, h]

/-! ### Words of 32 bits -/

abbrev w32 (x : UInt32) : Value := .int .u32 (x.toNat : Int)

theorem set_self {α : Type} {l : List α} {i : Nat} {a : α} : (l.set i a)[i]? = if i < l.length then some a else none := by
  by_cases h : i < l.length
  · rw [List.getElem?_set_self h, if_pos h]
  · rw [if_neg h, List.getElem?_eq_none (by simp; omega)]
theorem shlK_32 (x : UInt32) (s : Nat) (h : s < 32) : shlK .u32 (x.toNat : Int) (s : Int) = ((x <<< UInt32.ofNat s).toNat : Int) := by
  unfold shlK
  have e1 : min (s : Int).toNat IntKind.u32.bits = s := by simp [IntKind.bits]; omega
  rw [e1, wrap_u32]
  rw [UInt32.toNat_shiftLeft]
  have e2 : (UInt32.ofNat s).toNat % 32 = s := by rw [UInt32.toNat_ofNat']; omega
  rw [e2, Nat.shiftLeft_eq]
  have e3 : ((x.toNat : Int) * 2 ^ s) = ((x.toNat * 2 ^ s : Nat) : Int) := by simp
  rw [e3]
  omega
theorem shrK_32 (x : UInt32) (s : Nat) (h : s < 32) : shrK .u32 (x.toNat : Int) (s : Int) = ((x >>> UInt32.ofNat s).toNat : Int) := by
  rw [shrK_nat (by simp [IntKind.bits]; omega), UInt32.toNat_shiftRight]
  have e2 : (UInt32.ofNat s).toNat % 32 = s := by rw [UInt32.toNat_ofNat']; omega
  rw [e2, Nat.shiftRight_eq_div_pow]

/-! ### Slices of slices, of arrays -/

def aslM (P : Program) (t : TypeId) (x : Value) (lo hi mx : Option Value) (m : Mem) (other : Res) : Res :=
  match x with
  | .pointer (some a) => (aslice P t (.pointer (some a)) lo hi mx m).map fun v => (v, m, [], rdA a)
  | .slice (some a) n c => (aslice P t (.slice (some a) n c) lo hi mx m).map fun v => (v, m, [], rdA a)
  | _ => other

section
variable {P : Program} {m : Mem} {ρ : Operand → Value} {d : Option Nat} {ty : TypeId} {ps : String} {af : Array Edge} {g : Option (Nat × Bool)} {t : TypeId}
theorem aop_slice {x : Operand} {lo hi mx : Option Operand} : aop P ρ ⟨d, .slice t x lo hi mx, ty, ps, af, g⟩ m = aslM P t (ρ x) (lo.map ρ) (hi.map ρ) (mx.map ρ) m (pv m (pureOp P ρ ⟨d, .slice t x lo hi mx, ty, ps, af, g⟩)) := by
  simp only [aop]
  cases ρ x with
  | pointer a => cases a <;> rfl
  | slice a n c => cases a <;> rfl
  | _ => rfl
theorem aslM_ptr {a : Addr} {lo hi mx : Option Value} {o : Res} : aslM P t (.pointer (some a)) lo hi mx m o = (aslice P t (.pointer (some a)) lo hi mx m).map fun v => (v, m, [], rdA a) := id rfl
theorem aslM_sl {a : Addr} {n c : Nat} {lo hi mx : Option Value} {o : Res} : aslM P t (.slice (some a) n c) lo hi mx m o = (aslice P t (.slice (some a) n c) lo hi mx m).map fun v => (v, m, [], rdA a) := id rfl

theorem rdA_none {b off : Nat} : rdA ⟨b, off, none⟩ = .one b := id rfl
theorem aslice_max {b off n c l h mm : Nat} {rs : List Value} {k1 k2 k3 : IntKind} (hm : m.get b = some (.row rs .rw)) (ht : idxSl P t = some 1) (h1 : l ≤ h) (h2 : h ≤ mm) (h3 : mm ≤ c) (h4 : l < mm) :
    aslice P t (.slice (some ⟨b, off, none⟩) n c) (some (.int k1 (l : Int))) (some (.int k2 (h : Int))) (some (.int k3 (mm : Int))) m = some (.slice (some ⟨b, off + l, none⟩) (h - l) (mm - l)) := by
  unfold idxSl at ht
  split at ht
  case h_2 => cases ht
  rename_i elem hu
  have hb : bounds n c (some (.int k1 (l : Int))) (some (.int k2 (h : Int))) (some (.int k3 (mm : Int))) = some (l, h, mm) := by
    unfold bounds
    have e1 : optNat (some c) (some (.int k3 (mm : Int))) = some mm := rfl
    have e2 : optNat (some 0) (some (.int k1 (l : Int))) = some l := rfl
    have e3 : ∀ o, optNat o (some (.int k2 (h : Int))) = some h := fun o => rfl
    simp only [e1, e2, e3, Option.bind_some, ble_dec, decide_eq_true h1, decide_eq_true h2, decide_eq_true h3, Bool.and_self, cond_true]
  have e4 : Nat.beq mm l = false := by rw [beq_dec]; simp; omega
  simp [aslice, hu, hb, ht, hm, isOpen, closedS, e4, addr_add]

end

/-! ### Rows that are filled one by one -/

def fillV (n : Nat) (f g : Nat → Value) (i : Nat) : List Value := (List.range n).map fun j => if j < i then f j else g j
theorem fillV_length {n : Nat} {f g : Nat → Value} {i : Nat} : (fillV n f g i).length = n := by simp [fillV]
theorem fillV_get {n : Nat} {f g : Nat → Value} {i j : Nat} (h : j < n) : (fillV n f g i)[j]? = some (if j < i then f j else g j) := by simp [fillV, h]
theorem fillV_set {n : Nat} {f g : Nat → Value} {i : Nat} : (fillV n f g i).set i (f i) = fillV n f g (i + 1) := by
  apply List.ext_getElem?
  intro j
  by_cases hj : j < n
  · rw [fillV_get hj]
    by_cases h : i = j
    · subst h
      rw [set_self, fillV_length, if_pos hj]
      simp
    · rw [List.getElem?_set_ne h, fillV_get hj]
      by_cases h1 : j < i
      · have h2 : j < i + 1 := by omega
        simp [h1, h2]
      · have h2 : ¬ j < i + 1 := by omega
        simp [h1, h2]
  · rw [List.getElem?_eq_none (by rw [List.length_set, fillV_length]; omega), List.getElem?_eq_none (by rw [fillV_length]; omega)]

theorem u8_u32 (x : UInt8) : ((x.toNat : Int) % 4294967296) = (x.toUInt32.toNat : Int) := by
  have := x.toNat_lt
  simp
  omega
theorem shl8 (x : UInt32) : shlK .u32 (x.toNat : Int) 8 = ((x <<< 8).toNat : Int) := shlK_32 x 8 (by omega)
theorem shl16 (x : UInt32) : shlK .u32 (x.toNat : Int) 16 = ((x <<< 16).toNat : Int) := shlK_32 x 16 (by omega)
theorem shl24 (x : UInt32) : shlK .u32 (x.toNat : Int) 24 = ((x <<< 24).toNat : Int) := shlK_32 x 24 (by omega)

/-! ### Parts of a body -/

/-- The part of a piece of code at a path: 'false' the left one of two, 'true' the right one; a block and a loop take either. -/
def sub : Code → List Bool → Code
  | c, [] => c
  | .seq a _, false :: r => sub a r
  | .seq _ b, true :: r => sub b r
  | .cond _ a _, false :: r => sub a r
  | .cond _ _ b, true :: r => sub b r
  | .block _ b, _ :: r => sub b r
  | .loop b, _ :: r => sub b r
  | c, _ => c
def bodyOf (fn : Func) : Code := fn.body.getD .skip

theorem aidxA_slice_lit {P : Program} {m : Mem} {t : TypeId} {b off len cap : Nat} {k : IntKind} {i : Nat} : aidxA P t (.slice (some ⟨b, off, none⟩) len cap) (.int k (no_index (OfNat.ofNat i))) m =
    match idxSl P t with | some s => if i < len then some (.pointer (some ⟨b, off + i * s, none⟩), m, [], .no) else none | none => none := aidxA_slice (i := i)
theorem aidxA_arr_lit {P : Program} {m : Mem} {t : TypeId} {b off : Nat} {k : IntKind} {i : Nat} : aidxA P t (.pointer (some ⟨b, off, none⟩)) (.int k (no_index (OfNat.ofNat i))) m =
    match idxArr P t with | some (len, s) => if i < len then some (.pointer (some ⟨b, off + i * s, none⟩), m, [], .no) else none | none => none := aidxA_arr (i := i)

/-! ### Copies -/

theorem aop_copy {P : Program} {m : Mem} {ρ : Operand → Value} {d : Option Nat} {ty : TypeId} {ps : String} {af : Array Edge} {g : Option (Nat × Bool)} {x y : Operand} {aT : Array TypeId} :
    aop P ρ ⟨d, .call { callee := .builtin .copy, args := #[x, y], argTypes := aT }, ty, ps, af, g⟩ m = acopy P aT (ρ x) (ρ y) m := id rfl
theorem acopy_row {P : Program} {m : Mem} {t0 t1 : TypeId} (ht : idxSl P t0 = some 1) {x : Value} {n : Nat} {new : List Value} (hx : elemsOf 1 x m = some (n, new)) {b off dLen c : Nat} {rs : List Value} {k : Kind} (hm : m.get b = some (.row rs k)) (hk : writable k = true)
    (hone : new.all oneCell = true) (hn : new.length = n) (h0 : Nat.min n dLen ≠ 0) (hl : off + Nat.min n dLen ≤ rs.length) :
    acopy P #[t0, t1] (.slice (some ⟨b, off, none⟩) dLen c) x m = some (.int .i64 (Nat.min n dLen : Int), m.set b (.row (rs.take off ++ new.take (Nat.min n dLen) ++ rs.drop (off + Nat.min n dLen)) k), [b], .all) := by
  unfold idxSl at ht
  split at ht
  case h_2 => cases ht
  rename_i elem hu
  have hle : Nat.min n dLen ≤ n := Nat.min_le_left n dLen
  have h3 : (new.take (Nat.min n dLen)).all oneCell = true := by
    rw [List.all_eq_true] at hone ⊢
    exact fun y hy => hone y (List.mem_of_mem_take hy)
  have h4 : (new.take (Nat.min n dLen)).length = Nat.min n dLen := by rw [List.length_take]; omega
  have e1 : Nat.beq (Nat.min n dLen) 0 = false := by rw [beq_dec]; simpa using h0
  have e2 : Nat.ble (off + Nat.min n dLen) rs.length = true := by rw [ble_dec]; simpa using hl
  have hu' : ((#[t0, t1] : Array TypeId)[0]?).bind P.underlying = some (.slice elem) := hu
  unfold acopy
  rw [hu']
  simp only [ht, Option.getD_some, hx, e1, cond_false, putCells, hm, hk, Nat.mul_one, h3, Bool.and_self, cond_true, storeN, h4, e2, Option.map_some]
  rfl

set_option linter.defProp false
def StepL := And.intro @wo_nil <| And.intro @wd_nil <| And.intro @wo_panic <| And.intro @wo_call <| And.intro @wd_call <| And.intro @wcallv_func <| And.intro @wo_move <| And.intro @wd_move <| And.intro @wo_assign <| And.intro @wd_assign <| And.intro @wo_pick <| And.intro @wd_pick <| And.intro @wo_alloc <| And.intro @wd_alloc <| And.intro @wo_box <| And.intro @wd_box <| And.intro @wo_build <| And.intro @wd_build <| And.intro @wo_buildSlice <| And.intro @wd_buildSlice <| And.intro @wo_load <| And.intro @wd_load <| And.intro @wo_store <| And.intro @wd_store <| And.intro @wo_nilCheck <| And.intro @wd_nilCheck <| And.intro @wo_binOp <| And.intro @wd_binOp <| And.intro @wo_unOp <| And.intro @wd_unOp <| And.intro @wo_convert <| And.intro @wd_convert <| And.intro @wo_makeInterface <| And.intro @wd_makeInterface <| And.intro @wo_makeFunc <| And.intro @wd_makeFunc <| And.intro @wo_makeMap <| And.intro @wd_makeMap <| And.intro @wo_makeSlice <| And.intro @wd_makeSlice <| And.intro @wo_slice <| And.intro @wd_slice <| And.intro @wo_fieldAddr <| And.intro @wd_fieldAddr <| And.intro @wo_field <| And.intro @wd_field <| And.intro @wo_indexAddr <| And.intro @wd_indexAddr <| And.intro @wo_index <| And.intro @wd_index <| And.intro @wo_lookup <| And.intro @wd_lookup <| And.intro @wo_extract <| And.intro @wd_extract <| And.intro @wo_builtin <| And.intro @wd_builtin <| And.intro @wdn_pure <| And.intro @wdn_one <| And.intro @wdn_all <| And.intro @wdn_push <| And.intro @wv_some <| And.intro @set_self <| And.intro @List.getElem?_set_ne.{0} <| And.intro @List.length_set.{0} <| And.intro @free_nil <| And.intro @free_ld_ld <| And.intro @free_anc <| And.intro @okw_self <| And.intro @okw_self2 <| And.intro @okw_fresh <| And.intro @size_agg <| And.intro @storeRow_all <| And.intro @List.size_toArray.{0} <| And.intro @List.length_cons.{0} <| And.intro @List.length_nil.{0} <| And.intro @aop_move <| And.intro @aop_assign <| And.intro @aop_pick <| And.intro @apick_bool <| And.intro @bif_bool <| And.intro @aop_alloc <| And.intro @aalloc_some <| And.intro @aop_box <| And.intro @aop_buildSlice <| And.intro @aop_build <| And.intro @abuildR_eq <| And.intro @pv_ok <| And.intro @aop_load <| And.intro @aloadV_ptr <| And.intro @aop_store <| And.intro @astoreV_ptr <| And.intro @aop_nilCheck <| And.intro @aop_slice <| And.intro @aslM_ptr <| And.intro @aslM_sl <| And.intro @rdA_none <| And.intro @anil_ptr <| And.intro @aop_fieldAddr <| And.intro @afld_ptr <| And.intro @aop_indexAddr <| And.intro @aidxA_slice <| And.intro @aidxA_arr <| And.intro @aidxA_slice_lit <| And.intro @aidxA_arr_lit <| And.intro @aop_binOp <| And.intro @abin_add <| And.intro @abin_sub <| And.intro @abin_mul <| And.intro @abin_and <| And.intro @abin_or <| And.intro @abin_xor <| And.intro @abin_eql <| And.intro @abin_neq <| And.intro @abin_lss <| And.intro @abin_leq <| And.intro @abin_gtr <| And.intro @abin_geq <| And.intro @abin_shl <| And.intro @abin_shr <| And.intro @aconv_intN <| And.intro @aconvN_some <| And.intro @bs1 <| And.intro @bs2 <| And.intro @bs3 <| And.intro @bs4 <| And.intro @bs5 <| And.intro @bs8 <| And.intro @size_one <| And.intro @size_int <| And.intro @size_bool <| And.intro @size_str <| And.intro @size_slice <| And.intro @size_ptr <| And.intro @size_map <| And.intro @beq_self <| And.intro @storeRow_one <| And.intro @writable_rw <| And.intro @writable_sl <| And.intro @one_int <| And.intro @one_bool <| And.intro @one_str <| And.intro @one_slice <| And.intro @one_ptr <| And.intro @one_map <| And.intro @loadRow_one <| And.intro @List.head?_drop.{0} <| And.intro @wrap_u8 <| And.intro @wrap_u32 <| And.intro @wrap_i64 <| And.intro @wrap_u64 <| And.intro @afld_ptr <| And.intro @aop_unOp <| And.intro @aun_not <| And.intro @aop_convert <| And.intro @aop_extract <| And.intro @aext_two0 <| And.intro @aext_two1 <| And.intro @aop_append <| And.intro @aop_copy <| And.intro @Env.get_set <| And.intro @Env.n_set <| And.intro @getNil <| And.intro @Mem.get_set <| And.intro @Mem.get_push <| And.intro @Mem.next_set <| And.intro @Mem.next_push <| And.intro @okw_nil <| And.intro @List.toList_toArray.{0} <| And.intro @List.map_cons.{0, 0} <| And.intro @List.map_nil.{0, 0} <| And.intro @List.nil_append.{0} <| And.intro @List.append_nil.{0} <| And.intro @Option.map_some.{0, 0} <| And.intro @Option.map_none.{0, 0} <| And.intro @Option.bind_some.{0, 0} <| And.intro @and_true <| And.intro @true_and <| And.intro @false_and <| And.intro @and_false <| And.intro @if_true.{1} <| And.intro @if_false.{1} <| And.intro @cond_true.{1} <| And.intro @cond_false.{1} <| And.intro @Nat.add_zero <| And.intro @Nat.zero_add <| And.intro @Nat.mul_one <| And.intro @ne_eq.{1} <| And.intro @not_false_eq_true <| @not_true_eq_false

end Go.Big

/- The numbers of an encoding. -/
set_option linter.unusedSimpArgs false
set_option maxRecDepth 100000
set_option maxHeartbeats 8000000
namespace Go.Big
open Go.Proofs

def groupB (n : Nat) : List UInt8 := if n < 128 then [UInt8.ofNat n] else UInt8.ofNat (n % 128 + 128) :: groupB (n / 128)
termination_by n
decreasing_by omega

theorem group_ct {m : Mem} (hw : WF m) {v : Value} {l : List UInt8} {n0 : Nat} (hv : Own m n0 v (u8s l)) (hn0 : n0 ≤ m.next) {n : Nat} (hn : n < 18446744073709551616) (hl : l.length + (groupB n).length ≤ 2000000) :
    Ct Tryz.prog S0 94 [v, .int .u64 n] m (slBlk v).toList (fun out m' => ∃ v', out = .ret v' ∧ Own m' n0 v' (u8s (l ++ groupB n)) ∧ (∀ b, slBlk v' = some b → slBlk v = some b ∨ m.next ≤ b)) := by
  refine ct_body (spec0 _) (by rfl) Tryz.func94 rfl ?_
  rw [Tryz.ntmps94]
  simp only [ofArgs_cons, ofArgs_nil]
  have okL : ∀ (w : List Nat) (v1 : Value), (∀ b, slBlk v1 = some b → slBlk v = some b ∨ m.next ≤ b) → (∀ b ∈ w, slBlk v1 = some b) → OkW m.next (slBlk v).toList w := by
    intro w v1 h1 h2 b hb hlt
    rcases h1 b (h2 b hb) with h | h
    · simp [h]
    · omega
  refine w_seq (w_region ?_)
  simp (maxSteps := 2000000) (disch := (first | assumption | omega | (simp only [F94, Option.isSome_some, List.all_cons, List.all_nil, Bool.and_self, List.length_cons, List.length_nil, writable_rw, one_int, one_bool, one_str, one_slice, one_ptr, one_map]) | decide)) only [StepL, Env.eval, ↓wput_some, ↓wput_none, reduceIte, Nat.reduceEqDiff, Nat.reduceLT, Nat.reduceAdd, Nat.reduceSub, Nat.reduceMul, Nat.reduceBEq, reduceCtorEq, F94, andThen]
  refine w_seq (w_block (w_loop (fun k e m1 => e.n = 20 ∧ ∃ v1 l1 n1, e.get 0 = v1 ∧ e.get 1 = .int .u64 ((n1 : Nat) : Int) ∧ n1 < 18446744073709551616 ∧ k = n1 ∧ Own m1 n0 v1 (u8s l1) ∧ l1 ++ groupB n1 = l ++ groupB n ∧ l1.length + (groupB n1).length ≤ 2000000 ∧ WF m1 ∧ m.next ≤ m1.next ∧
    (∀ b, slBlk v1 = some b → slBlk v = some b ∨ m.next ≤ b)) n ?_ ?_))
  · refine ⟨rfl, v, l, n, by simp (maxSteps := 2000000) (disch := (first | assumption | omega | (simp only [Option.isSome_some, List.all_cons, List.all_nil, Bool.and_self, List.length_cons, List.length_nil, writable_rw, one_int, one_bool, one_str, one_slice, one_ptr, one_map]) | decide)) only [StepL, Env.eval, ↓wput_some, ↓wput_none, reduceIte, Nat.reduceEqDiff, Nat.reduceLT, Nat.reduceAdd, Nat.reduceSub, Nat.reduceMul, Nat.reduceBEq, reduceCtorEq], by simp (maxSteps := 2000000) (disch := (first | assumption | omega | (simp only [Option.isSome_some, List.all_cons, List.all_nil, Bool.and_self, List.length_cons, List.length_nil, writable_rw, one_int, one_bool, one_str, one_slice, one_ptr, one_map]) | decide)) only [StepL, Env.eval, ↓wput_some, ↓wput_none, reduceIte, Nat.reduceEqDiff, Nat.reduceLT, Nat.reduceAdd, Nat.reduceSub, Nat.reduceMul, Nat.reduceBEq, reduceCtorEq], hn, rfl, hv, rfl, hl, hw, Nat.le_refl _, fun b hb => .inl hb⟩
  · rintro k e m1 ⟨he, v1, l1, n1, h0, h1, hn1, rfl, ho, hg, hl1, hw1, hm1, hb1⟩
    refine w_seq (w_seq (w_region ?_))
    simp (maxSteps := 2000000) (disch := (first | assumption | omega | (simp only [F94, Option.isSome_some, List.all_cons, List.all_nil, Bool.and_self, List.length_cons, List.length_nil, writable_rw, one_int, one_bool, one_str, one_slice, one_ptr, one_map]) | decide)) only [StepL, Env.eval, ↓wput_some, ↓wput_none, reduceIte, Nat.reduceEqDiff, Nat.reduceLT, Nat.reduceAdd, Nat.reduceSub, Nat.reduceMul, Nat.reduceBEq, reduceCtorEq, F94, andThen, h0, h1, he]
    refine w_cond (t := decide ((k : Int) ≥ 128)) (by simp (maxSteps := 2000000) (disch := (first | assumption | omega | (simp only [Option.isSome_some, List.all_cons, List.all_nil, Bool.and_self, List.length_cons, List.length_nil, writable_rw, one_int, one_bool, one_str, one_slice, one_ptr, one_map]) | decide)) only [StepL, Env.eval, ↓wput_some, ↓wput_none, reduceIte, Nat.reduceEqDiff, Nat.reduceLT, Nat.reduceAdd, Nat.reduceSub, Nat.reduceMul, Nat.reduceBEq, reduceCtorEq]) (fun ht => ?_) (fun ht => ?_)
    · have hk : 128 ≤ k := by simp at ht; omega
      have hgk : groupB k = UInt8.ofNat (k % 128 + 128) :: groupB (k / 128) := by rw [groupB, if_neg (by omega)]
      refine w_skip (w_seq (w_block (w_region ?_)))
      simp (maxSteps := 2000000) (disch := (first | assumption | omega | (simp only [F94, Option.isSome_some, List.all_cons, List.all_nil, Bool.and_self, List.length_cons, List.length_nil, writable_rw, one_int, one_bool, one_str, one_slice, one_ptr, one_map]) | decide)) only [StepL, Env.eval, ↓wput_some, ↓wput_none, reduceIte, Nat.reduceEqDiff, Nat.reduceLT, Nat.reduceAdd, Nat.reduceSub, Nat.reduceMul, Nat.reduceBEq, reduceCtorEq, F94, andThen, h0, h1, he, or128]
      obtain ⟨v2, m2, w, a1, a2, a3, a4, a5, a6, a7⟩ := append_built (P := Tryz.prog) (aT := #[22, 22]) (bytes := 1) (n := 1) (vs := u8s [UInt8.ofNat (k % 128 + 128)]) (by simp only [F94]) ho u8s_one (by simp only [u8s_length, List.length_singleton]; omega) (by omega) hw1 rfl
      rw [show [Value.int .u8 ((UInt8.ofNat (k % 128 + 128)).toNat : Int)] = u8s [UInt8.ofNat (k % 128 + 128)] from rfl, a1]
      simp (maxSteps := 2000000) (disch := (first | assumption | omega | (simp only [F94, Option.isSome_some, List.all_cons, List.all_nil, Bool.and_self, List.length_cons, List.length_nil, writable_rw, one_int, one_bool, one_str, one_slice, one_ptr, one_map]) | decide)) only [StepL, Env.eval, ↓wput_some, ↓wput_none, reduceIte, Nat.reduceEqDiff, Nat.reduceLT, Nat.reduceAdd, Nat.reduceSub, Nat.reduceMul, Nat.reduceBEq, reduceCtorEq, F94, andThen, h0, h1, he, inBlock]
      refine ⟨okL w v1 hb1 a3, ?_⟩
      refine w_region ?_
      simp (maxSteps := 2000000) (disch := (first | assumption | omega | (simp only [F94, Option.isSome_some, List.all_cons, List.all_nil, Bool.and_self, List.length_cons, List.length_nil, writable_rw, one_int, one_bool, one_str, one_slice, one_ptr, one_map]) | decide)) only [StepL, Env.eval, ↓wput_some, ↓wput_none, reduceIte, Nat.reduceEqDiff, Nat.reduceLT, Nat.reduceAdd, Nat.reduceSub, Nat.reduceMul, Nat.reduceBEq, reduceCtorEq, F94, h0, h1, he]
      refine ⟨k / 128, by omega, ?_⟩
      refine ⟨by simp (maxSteps := 2000000) (disch := (first | assumption | omega | (simp only [Option.isSome_some, List.all_cons, List.all_nil, Bool.and_self, List.length_cons, List.length_nil, writable_rw, one_int, one_bool, one_str, one_slice, one_ptr, one_map]) | decide)) only [StepL, Env.eval, ↓wput_some, ↓wput_none, reduceIte, Nat.reduceEqDiff, Nat.reduceLT, Nat.reduceAdd, Nat.reduceSub, Nat.reduceMul, Nat.reduceBEq, reduceCtorEq, he], v2, l1 ++ [UInt8.ofNat (k % 128 + 128)], k / 128, by simp (maxSteps := 2000000) (disch := (first | assumption | omega | (simp only [Option.isSome_some, List.all_cons, List.all_nil, Bool.and_self, List.length_cons, List.length_nil, writable_rw, one_int, one_bool, one_str, one_slice, one_ptr, one_map]) | decide)) only [StepL, Env.eval, ↓wput_some, ↓wput_none, reduceIte, Nat.reduceEqDiff, Nat.reduceLT, Nat.reduceAdd, Nat.reduceSub, Nat.reduceMul, Nat.reduceBEq, reduceCtorEq], ?_, by omega, rfl, by rw [u8s_append]; exact a2, ?_, ?_, a5, by omega, fun b hb => ?_⟩
      · simp (maxSteps := 2000000) (disch := (first | assumption | omega | (simp only [Option.isSome_some, List.all_cons, List.all_nil, Bool.and_self, List.length_cons, List.length_nil, writable_rw, one_int, one_bool, one_str, one_slice, one_ptr, one_map]) | decide)) only [StepL, Env.eval, ↓wput_some, ↓wput_none, reduceIte, Nat.reduceEqDiff, Nat.reduceLT, Nat.reduceAdd, Nat.reduceSub, Nat.reduceMul, Nat.reduceBEq, reduceCtorEq]
        exact congrArg (Value.int .u64) (shrK_nat (n := 7) (by decide))
      · rw [← hg, hgk]; simp
      · rw [hgk] at hl1; simp at hl1 ⊢; omega
      · rcases a7 b hb with h | h
        · exact hb1 b h
        · exact .inr (by omega)
    · have hk : k < 128 := by simp at ht; omega
      refine w_exit ?_
      simp only [andThen, round, inBlock, if_true]
      have hgk : groupB k = [UInt8.ofNat k] := by rw [groupB, if_pos hk]
      refine w_seq (w_region ?_)
      simp (maxSteps := 2000000) (disch := (first | assumption | omega | (simp only [F94, Option.isSome_some, List.all_cons, List.all_nil, Bool.and_self, List.length_cons, List.length_nil, writable_rw, one_int, one_bool, one_str, one_slice, one_ptr, one_map]) | decide)) only [StepL, Env.eval, ↓wput_some, ↓wput_none, reduceIte, Nat.reduceEqDiff, Nat.reduceLT, Nat.reduceAdd, Nat.reduceSub, Nat.reduceMul, Nat.reduceBEq, reduceCtorEq, F94, andThen, h0, h1, he, u8_mod]
      obtain ⟨v2, m2, w, a1, a2, a3, a4, a5, a6, a7⟩ := append_built (P := Tryz.prog) (aT := #[22, 22]) (bytes := 1) (n := 1) (vs := u8s [UInt8.ofNat k]) (by simp only [F94]) ho u8s_one (by simp only [u8s_length, List.length_singleton]; omega) (by omega) hw1 rfl
      rw [show [Value.int .u8 ((UInt8.ofNat k).toNat : Int)] = u8s [UInt8.ofNat k] from rfl, a1]
      simp (maxSteps := 2000000) (disch := (first | assumption | omega | (simp only [F94, Option.isSome_some, List.all_cons, List.all_nil, Bool.and_self, List.length_cons, List.length_nil, writable_rw, one_int, one_bool, one_str, one_slice, one_ptr, one_map]) | decide)) only [StepL, Env.eval, ↓wput_some, ↓wput_none, reduceIte, Nat.reduceEqDiff, Nat.reduceLT, Nat.reduceAdd, Nat.reduceSub, Nat.reduceMul, Nat.reduceBEq, reduceCtorEq, F94, andThen, h0, h1, he]
      refine ⟨okL w v1 hb1 a3, ?_⟩
      refine w_ret (ret_one (.inl rfl) Tryz.results94 ?_)
      simp (maxSteps := 2000000) (disch := (first | assumption | omega | (simp only [Option.isSome_some, List.all_cons, List.all_nil, Bool.and_self, List.length_cons, List.length_nil, writable_rw, one_int, one_bool, one_str, one_slice, one_ptr, one_map]) | decide)) only [StepL, Env.eval, ↓wput_some, ↓wput_none, reduceIte, Nat.reduceEqDiff, Nat.reduceLT, Nat.reduceAdd, Nat.reduceSub, Nat.reduceMul, Nat.reduceBEq, reduceCtorEq]
      refine ⟨v2, rfl, ?_, fun b hb => ?_⟩
      · rw [← hg, hgk, u8s_append]; exact a2
      · rcases a7 b hb with h | h
        · exact hb1 b h
        · exact .inr (by omega)

end Go.Big

/- The mixing function of the hash. -/
set_option linter.unusedSimpArgs false
set_option maxRecDepth 100000
set_option maxHeartbeats 8000000
namespace Go.Big
open Go.Proofs

/-- A word rotated to the right. -/
def rotr (x : UInt32) (n : UInt32) : UInt32 := (x <<< (32 - n)) ||| (x >>> n)

theorem rot_ct {m : Mem} {x : UInt32} {k : Int} {s : Nat} (hk : andI .u64 (IntKind.wrap .u64 k) 31 = (s : Int)) (h0 : 0 < s) (hs : s < 32) : acall Tryz.prog S0 141 [w32 x, .int .i64 k] m = some (.ret (w32 ((x <<< UInt32.ofNat s) ||| (x >>> UInt32.ofNat (32 - s)))), m, []) := by
  refine pu_of (ct_body (spec0 _) (by rfl) Tryz.func141 rfl ?_)
  rw [Tryz.ntmps141]
  simp only [ofArgs_cons, ofArgs_nil]
  have e1 : IntKind.wrap .u64 (32 - (s : Int)) = ((32 - s : Nat) : Int) := by rw [wrap_u64 (by omega) (by omega)]; omega
  refine w_seq (w_region ?_)
  simp (maxSteps := 2000000) (disch := (first | assumption | omega | (simp only [F141, Option.isSome_some, List.all_cons, List.all_nil, Bool.and_self, List.length_cons, List.length_nil, writable_rw, one_int, one_bool, one_str, one_slice, one_ptr, one_map]) | decide)) only [StepL, Env.eval, ↓wput_some, ↓wput_none, reduceIte, Nat.reduceEqDiff, Nat.reduceLT, Nat.reduceAdd, Nat.reduceSub, Nat.reduceMul, Nat.reduceBEq, reduceCtorEq, F141, andThen]
  refine w_seq (w_region ?_)
  simp (maxSteps := 2000000) (disch := (first | assumption | omega | (simp only [F141, Option.isSome_some, List.all_cons, List.all_nil, Bool.and_self, List.length_cons, List.length_nil, writable_rw, one_int, one_bool, one_str, one_slice, one_ptr, one_map]) | decide)) only [StepL, Env.eval, ↓wput_some, ↓wput_none, reduceIte, Nat.reduceEqDiff, Nat.reduceLT, Nat.reduceAdd, Nat.reduceSub, Nat.reduceMul, Nat.reduceBEq, reduceCtorEq, F141, andThen, hk]
  refine w_seq (w_region ?_)
  simp (maxSteps := 2000000) (disch := (first | assumption | omega | (simp only [F141, Option.isSome_some, List.all_cons, List.all_nil, Bool.and_self, List.length_cons, List.length_nil, writable_rw, one_int, one_bool, one_str, one_slice, one_ptr, one_map]) | decide)) only [StepL, Env.eval, ↓wput_some, ↓wput_none, reduceIte, Nat.reduceEqDiff, Nat.reduceLT, Nat.reduceAdd, Nat.reduceSub, Nat.reduceMul, Nat.reduceBEq, reduceCtorEq, F141, andThen, e1, shlK_32 x s hs, shrK_32 x (32 - s) (by omega), orI_32]
  refine w_ret (ret_one (.inl rfl) Tryz.results141 ?_)
  simp (maxSteps := 2000000) (disch := (first | assumption | omega | (simp only [Option.isSome_some, List.all_cons, List.all_nil, Bool.and_self, List.length_cons, List.length_nil, writable_rw, one_int, one_bool, one_str, one_slice, one_ptr, one_map]) | decide)) only [StepL, Env.eval, ↓wput_some, ↓wput_none, reduceIte, Nat.reduceEqDiff, Nat.reduceLT, Nat.reduceAdd, Nat.reduceSub, Nat.reduceMul, Nat.reduceBEq, reduceCtorEq]

/-- Cells of a row at four places after the mixing. -/
structure Mix where
  a : UInt32
  b : UInt32
  c : UInt32
  d : UInt32

def mixW (a b c d x y : UInt32) : Mix :=
  let a1 := a + (b + x)
  let d1 := rotr (d ^^^ a1) 16
  let c1 := c + d1
  let b1 := rotr (b ^^^ c1) 12
  let a2 := a1 + (b1 + y)
  let d2 := rotr (d1 ^^^ a2) 8
  let c2 := c1 + d2
  let b2 := rotr (b1 ^^^ c2) 7
  ⟨a2, b2, c2, d2⟩

theorem rot16 {m : Mem} {x : UInt32} : acall Tryz.prog S0 141 [w32 x, .int .i64 (-16)] m = some (.ret (w32 (rotr x 16)), m, []) := rot_ct (s := 16) (by kernel_rfl) (by omega) (by omega)
theorem rot12 {m : Mem} {x : UInt32} : acall Tryz.prog S0 141 [w32 x, .int .i64 (-12)] m = some (.ret (w32 (rotr x 12)), m, []) := rot_ct (s := 20) (by kernel_rfl) (by omega) (by omega)
theorem rot8 {m : Mem} {x : UInt32} : acall Tryz.prog S0 141 [w32 x, .int .i64 (-8)] m = some (.ret (w32 (rotr x 8)), m, []) := rot_ct (s := 24) (by kernel_rfl) (by omega) (by omega)
theorem rot7 {m : Mem} {x : UInt32} : acall Tryz.prog S0 141 [w32 x, .int .i64 (-7)] m = some (.ret (w32 (rotr x 7)), m, []) := rot_ct (s := 25) (by kernel_rfl) (by omega) (by omega)

/-- Four words in a row. -/
structure R4 (m : Mem) (b : Nat) (cs : List Value) (ia ib ic id : Nat) (a0 b0 c0 d0 : UInt32) : Prop where
  hm : m.get b = some (.row cs .rw)
  ha : cs[ia]? = some (w32 a0)
  hb : cs[ib]? = some (w32 b0)
  hc : cs[ic]? = some (w32 c0)
  hd : cs[id]? = some (w32 d0)
  la : ia < cs.length
  lb : ib < cs.length
  lc : ic < cs.length
  ld : id < cs.length

section
variable {m : Mem} {b ia ib ic id : Nat} {cs : List Value} {a0 b0 c0 d0 v : UInt32}
theorem R4.seta (h : R4 m b cs ia ib ic id a0 b0 c0 d0) (nab : ia ≠ ib) (nac : ia ≠ ic) (nad : ia ≠ id) : ∃ m1 cs1, m.set b (.row (cs.set ia (w32 v)) .rw) = m1 ∧ R4 m1 b cs1 ia ib ic id v b0 c0 d0 ∧ m1.next = m.next ∧ cs1.length = cs.length ∧ ∀ j, j ≠ ia → cs1[j]? = cs[j]? := by
  obtain ⟨h1, h2, h3, h4, h5, h6, h7, h8, h9⟩ := h
  refine ⟨_, cs.set ia (w32 v), rfl, ⟨by rw [Mem.get_set, if_pos rfl], ?_, ?_, ?_, ?_, ?_, ?_, ?_, ?_⟩, rfl, List.length_set, fun j hj => List.getElem?_set_ne hj.symm⟩
  · rw [set_self, if_pos h6]
  · rw [List.getElem?_set_ne nab]; exact h3
  · rw [List.getElem?_set_ne nac]; exact h4
  · rw [List.getElem?_set_ne nad]; exact h5
  all_goals rw [List.length_set]; assumption
theorem R4.rot (h : R4 m b cs ia ib ic id a0 b0 c0 d0) : R4 m b cs ib ic id ia b0 c0 d0 a0 := by
  obtain ⟨h1, h2, h3, h4, h5, h6, h7, h8, h9⟩ := h
  exact ⟨h1, h3, h4, h5, h2, h7, h8, h9, h6⟩
theorem R4.setb (h : R4 m b cs ia ib ic id a0 b0 c0 d0) (nab : ia ≠ ib) (nbc : ib ≠ ic) (nbd : ib ≠ id) : ∃ m1 cs1, m.set b (.row (cs.set ib (w32 v)) .rw) = m1 ∧ R4 m1 b cs1 ia ib ic id a0 v c0 d0 ∧ m1.next = m.next ∧ cs1.length = cs.length ∧ ∀ j, j ≠ ib → cs1[j]? = cs[j]? := by
  obtain ⟨m1, cs1, e1, h1, e2, e3, e4⟩ := h.rot.seta (v := v) nbc nbd nab.symm
  exact ⟨m1, cs1, e1, h1.rot.rot.rot, e2, e3, e4⟩
theorem R4.setc (h : R4 m b cs ia ib ic id a0 b0 c0 d0) (nac : ia ≠ ic) (nbc : ib ≠ ic) (ncd : ic ≠ id) : ∃ m1 cs1, m.set b (.row (cs.set ic (w32 v)) .rw) = m1 ∧ R4 m1 b cs1 ia ib ic id a0 b0 v d0 ∧ m1.next = m.next ∧ cs1.length = cs.length ∧ ∀ j, j ≠ ic → cs1[j]? = cs[j]? := by
  obtain ⟨m1, cs1, e1, h1, e2, e3, e4⟩ := h.rot.rot.seta (v := v) ncd nac.symm nbc.symm
  exact ⟨m1, cs1, e1, h1.rot.rot, e2, e3, e4⟩
theorem R4.setd (h : R4 m b cs ia ib ic id a0 b0 c0 d0) (nad : ia ≠ id) (nbd : ib ≠ id) (ncd : ic ≠ id) : ∃ m1 cs1, m.set b (.row (cs.set id (w32 v)) .rw) = m1 ∧ R4 m1 b cs1 ia ib ic id a0 b0 c0 v ∧ m1.next = m.next ∧ cs1.length = cs.length ∧ ∀ j, j ≠ id → cs1[j]? = cs[j]? := by
  obtain ⟨m1, cs1, e1, h1, e2, e3, e4⟩ := h.rot.rot.rot.seta (v := v) nad.symm nbd.symm ncd.symm
  exact ⟨m1, cs1, e1, h1.rot, e2, e3, e4⟩
end

theorem mix_ct {m : Mem} {b ia ib ic id : Nat} {cs : List Value} {a0 b0 c0 d0 x y : UInt32} (h0 : R4 m b cs ia ib ic id a0 b0 c0 d0) (nab : ia ≠ ib) (nac : ia ≠ ic) (nad : ia ≠ id) (nbc : ib ≠ ic) (nbd : ib ≠ id) (ncd : ic ≠ id) :
    Ct Tryz.prog S0 136 [.pointer (some ⟨b, ia, none⟩), .pointer (some ⟨b, ib, none⟩), .pointer (some ⟨b, ic, none⟩), .pointer (some ⟨b, id, none⟩), w32 x, w32 y] m [b]
      (fun out m' => out = .ret (.tuple #[]) ∧ m'.next = m.next ∧ ∃ cs', R4 m' b cs' ia ib ic id (mixW a0 b0 c0 d0 x y).a (mixW a0 b0 c0 d0 x y).b (mixW a0 b0 c0 d0 x y).c (mixW a0 b0 c0 d0 x y).d ∧ cs'.length = cs.length ∧
        ∀ j, j ≠ ia → j ≠ ib → j ≠ ic → j ≠ id → cs'[j]? = cs[j]?) := by
  refine ct_body (spec0 _) (by rfl) Tryz.func136 rfl ?_
  rw [Tryz.ntmps136]
  simp only [ofArgs_cons, ofArgs_nil]
  refine w_keep (fun e => e.n = 88 ∧ e.get 0 = .pointer (some ⟨b, ia, none⟩) ∧ e.get 1 = .pointer (some ⟨b, ib, none⟩) ∧ e.get 2 = .pointer (some ⟨b, ic, none⟩) ∧ e.get 3 = .pointer (some ⟨b, id, none⟩) ∧ e.get 4 = w32 x ∧ e.get 5 = w32 y) ⟨by simp (maxSteps := 2000000) (disch := (first | assumption | omega | (simp only [Option.isSome_some, List.all_cons, List.all_nil, Bool.and_self, List.length_cons, List.length_nil, writable_rw, one_int, one_bool, one_str, one_slice, one_ptr, one_map]) | decide)) only [StepL, Env.eval, ↓wput_some, ↓wput_none, reduceIte, Nat.reduceEqDiff, Nat.reduceLT, Nat.reduceAdd, Nat.reduceSub, Nat.reduceMul, Nat.reduceBEq, reduceCtorEq], by simp (maxSteps := 2000000) (disch := (first | assumption | omega | (simp only [Option.isSome_some, List.all_cons, List.all_nil, Bool.and_self, List.length_cons, List.length_nil, writable_rw, one_int, one_bool, one_str, one_slice, one_ptr, one_map]) | decide)) only [StepL, Env.eval, ↓wput_some, ↓wput_none, reduceIte, Nat.reduceEqDiff, Nat.reduceLT, Nat.reduceAdd, Nat.reduceSub, Nat.reduceMul, Nat.reduceBEq, reduceCtorEq], by simp (maxSteps := 2000000) (disch := (first | assumption | omega | (simp only [Option.isSome_some, List.all_cons, List.all_nil, Bool.and_self, List.length_cons, List.length_nil, writable_rw, one_int, one_bool, one_str, one_slice, one_ptr, one_map]) | decide)) only [StepL, Env.eval, ↓wput_some, ↓wput_none, reduceIte, Nat.reduceEqDiff, Nat.reduceLT, Nat.reduceAdd, Nat.reduceSub, Nat.reduceMul, Nat.reduceBEq, reduceCtorEq], by simp (maxSteps := 2000000) (disch := (first | assumption | omega | (simp only [Option.isSome_some, List.all_cons, List.all_nil, Bool.and_self, List.length_cons, List.length_nil, writable_rw, one_int, one_bool, one_str, one_slice, one_ptr, one_map]) | decide)) only [StepL, Env.eval, ↓wput_some, ↓wput_none, reduceIte, Nat.reduceEqDiff, Nat.reduceLT, Nat.reduceAdd, Nat.reduceSub, Nat.reduceMul, Nat.reduceBEq, reduceCtorEq], by simp (maxSteps := 2000000) (disch := (first | assumption | omega | (simp only [Option.isSome_some, List.all_cons, List.all_nil, Bool.and_self, List.length_cons, List.length_nil, writable_rw, one_int, one_bool, one_str, one_slice, one_ptr, one_map]) | decide)) only [StepL, Env.eval, ↓wput_some, ↓wput_none, reduceIte, Nat.reduceEqDiff, Nat.reduceLT, Nat.reduceAdd, Nat.reduceSub, Nat.reduceMul, Nat.reduceBEq, reduceCtorEq], by simp (maxSteps := 2000000) (disch := (first | assumption | omega | (simp only [Option.isSome_some, List.all_cons, List.all_nil, Bool.and_self, List.length_cons, List.length_nil, writable_rw, one_int, one_bool, one_str, one_slice, one_ptr, one_map]) | decide)) only [StepL, Env.eval, ↓wput_some, ↓wput_none, reduceIte, Nat.reduceEqDiff, Nat.reduceLT, Nat.reduceAdd, Nat.reduceSub, Nat.reduceMul, Nat.reduceBEq, reduceCtorEq], by simp (maxSteps := 2000000) (disch := (first | assumption | omega | (simp only [Option.isSome_some, List.all_cons, List.all_nil, Bool.and_self, List.length_cons, List.length_nil, writable_rw, one_int, one_bool, one_str, one_slice, one_ptr, one_map]) | decide)) only [StepL, Env.eval, ↓wput_some, ↓wput_none, reduceIte, Nat.reduceEqDiff, Nat.reduceLT, Nat.reduceAdd, Nat.reduceSub, Nat.reduceMul, Nat.reduceBEq, reduceCtorEq]⟩ ?_
  rintro e ⟨he, q0, q1, q2, q3, q4, q5⟩
  refine w_seq (w_draw [0, 1, 3, 0, 8, 24, 0, 120, 255, 511, 1023] (by kernel_rfl) ?_)
  simp (maxSteps := 2000000) (disch := (first | assumption | omega | (simp only [F136, Option.isSome_some, List.all_cons, List.all_nil, Bool.and_self, List.length_cons, List.length_nil, writable_rw, one_int, one_bool, one_str, one_slice, one_ptr, one_map]) | decide)) only [StepL, Env.eval, ↓wput_some, ↓wput_none, reduceIte, Nat.reduceEqDiff, Nat.reduceLT, Nat.reduceAdd, Nat.reduceSub, Nat.reduceMul, Nat.reduceBEq, reduceCtorEq, F136, andThen, he, q0, q1, q2, q3, q4, q5, h0.hm, h0.ha, h0.hb, h0.hc, h0.hd, h0.la, h0.lb, h0.lc, h0.ld, addI_32, xorI_32]
  obtain ⟨m1, cs1, e1, h1, n1, l1, o1⟩ := h0.seta (v := a0 + (b0 + x)) nab nac nad
  rw [e1]
  clear e1
  generalize g1 : a0 + (b0 + x) = a1 at h1 ⊢
  refine w_keep (fun e => e.n = 88 ∧ e.get 0 = .pointer (some ⟨b, ia, none⟩) ∧ e.get 1 = .pointer (some ⟨b, ib, none⟩) ∧ e.get 2 = .pointer (some ⟨b, ic, none⟩) ∧ e.get 3 = .pointer (some ⟨b, id, none⟩) ∧ e.get 4 = w32 x ∧ e.get 5 = w32 y) ⟨by simp (maxSteps := 2000000) (disch := (first | assumption | omega | (simp only [Option.isSome_some, List.all_cons, List.all_nil, Bool.and_self, List.length_cons, List.length_nil, writable_rw, one_int, one_bool, one_str, one_slice, one_ptr, one_map]) | decide)) only [StepL, Env.eval, ↓wput_some, ↓wput_none, reduceIte, Nat.reduceEqDiff, Nat.reduceLT, Nat.reduceAdd, Nat.reduceSub, Nat.reduceMul, Nat.reduceBEq, reduceCtorEq, he, q0, q1, q2, q3, q4, q5], by simp (maxSteps := 2000000) (disch := (first | assumption | omega | (simp only [Option.isSome_some, List.all_cons, List.all_nil, Bool.and_self, List.length_cons, List.length_nil, writable_rw, one_int, one_bool, one_str, one_slice, one_ptr, one_map]) | decide)) only [StepL, Env.eval, ↓wput_some, ↓wput_none, reduceIte, Nat.reduceEqDiff, Nat.reduceLT, Nat.reduceAdd, Nat.reduceSub, Nat.reduceMul, Nat.reduceBEq, reduceCtorEq, he, q0, q1, q2, q3, q4, q5], by simp (maxSteps := 2000000) (disch := (first | assumption | omega | (simp only [Option.isSome_some, List.all_cons, List.all_nil, Bool.and_self, List.length_cons, List.length_nil, writable_rw, one_int, one_bool, one_str, one_slice, one_ptr, one_map]) | decide)) only [StepL, Env.eval, ↓wput_some, ↓wput_none, reduceIte, Nat.reduceEqDiff, Nat.reduceLT, Nat.reduceAdd, Nat.reduceSub, Nat.reduceMul, Nat.reduceBEq, reduceCtorEq, he, q0, q1, q2, q3, q4, q5], by simp (maxSteps := 2000000) (disch := (first | assumption | omega | (simp only [Option.isSome_some, List.all_cons, List.all_nil, Bool.and_self, List.length_cons, List.length_nil, writable_rw, one_int, one_bool, one_str, one_slice, one_ptr, one_map]) | decide)) only [StepL, Env.eval, ↓wput_some, ↓wput_none, reduceIte, Nat.reduceEqDiff, Nat.reduceLT, Nat.reduceAdd, Nat.reduceSub, Nat.reduceMul, Nat.reduceBEq, reduceCtorEq, he, q0, q1, q2, q3, q4, q5], by simp (maxSteps := 2000000) (disch := (first | assumption | omega | (simp only [Option.isSome_some, List.all_cons, List.all_nil, Bool.and_self, List.length_cons, List.length_nil, writable_rw, one_int, one_bool, one_str, one_slice, one_ptr, one_map]) | decide)) only [StepL, Env.eval, ↓wput_some, ↓wput_none, reduceIte, Nat.reduceEqDiff, Nat.reduceLT, Nat.reduceAdd, Nat.reduceSub, Nat.reduceMul, Nat.reduceBEq, reduceCtorEq, he, q0, q1, q2, q3, q4, q5], by simp (maxSteps := 2000000) (disch := (first | assumption | omega | (simp only [Option.isSome_some, List.all_cons, List.all_nil, Bool.and_self, List.length_cons, List.length_nil, writable_rw, one_int, one_bool, one_str, one_slice, one_ptr, one_map]) | decide)) only [StepL, Env.eval, ↓wput_some, ↓wput_none, reduceIte, Nat.reduceEqDiff, Nat.reduceLT, Nat.reduceAdd, Nat.reduceSub, Nat.reduceMul, Nat.reduceBEq, reduceCtorEq, he, q0, q1, q2, q3, q4, q5], by simp (maxSteps := 2000000) (disch := (first | assumption | omega | (simp only [Option.isSome_some, List.all_cons, List.all_nil, Bool.and_self, List.length_cons, List.length_nil, writable_rw, one_int, one_bool, one_str, one_slice, one_ptr, one_map]) | decide)) only [StepL, Env.eval, ↓wput_some, ↓wput_none, reduceIte, Nat.reduceEqDiff, Nat.reduceLT, Nat.reduceAdd, Nat.reduceSub, Nat.reduceMul, Nat.reduceBEq, reduceCtorEq, he, q0, q1, q2, q3, q4, q5]⟩ ?_
  clear he q0 q1 q2 q3 q4 q5 e
  rintro e ⟨he, q0, q1, q2, q3, q4, q5⟩
  refine w_seq (w_draw [0, 0, 2, 6, 0, 16, 48, 126, 254, 511, 1023] (by kernel_rfl) ?_)
  simp (maxSteps := 2000000) (disch := (first | assumption | omega | (simp only [F136, Option.isSome_some, List.all_cons, List.all_nil, Bool.and_self, List.length_cons, List.length_nil, writable_rw, one_int, one_bool, one_str, one_slice, one_ptr, one_map]) | decide)) only [StepL, Env.eval, ↓wput_some, ↓wput_none, reduceIte, Nat.reduceEqDiff, Nat.reduceLT, Nat.reduceAdd, Nat.reduceSub, Nat.reduceMul, Nat.reduceBEq, reduceCtorEq, F136, andThen, he, q0, q1, q2, q3, q4, q5, h1.hm, h1.ha, h1.hb, h1.hc, h1.hd, h1.la, h1.lb, h1.lc, h1.ld, addI_32, xorI_32]
  refine wcall_pu rot16 ?_
  simp (maxSteps := 2000000) (disch := (first | assumption | omega | (simp only [F136, Option.isSome_some, List.all_cons, List.all_nil, Bool.and_self, List.length_cons, List.length_nil, writable_rw, one_int, one_bool, one_str, one_slice, one_ptr, one_map]) | decide)) only [StepL, Env.eval, ↓wput_some, ↓wput_none, reduceIte, Nat.reduceEqDiff, Nat.reduceLT, Nat.reduceAdd, Nat.reduceSub, Nat.reduceMul, Nat.reduceBEq, reduceCtorEq, F136, andThen, he, q0, q1, q2, q3, q4, q5, h1.hm, h1.ha, h1.hb, h1.hc, h1.hd, h1.la, h1.lb, h1.lc, h1.ld, addI_32, xorI_32]
  obtain ⟨m2, cs2, e2, h2, n2, l2, o2⟩ := h1.setd (v := rotr (d0 ^^^ a1) 16) nad nbd ncd
  rw [e2]
  clear e2
  generalize g2 : rotr (d0 ^^^ a1) 16 = d1 at h2 ⊢
  refine w_keep (fun e => e.n = 88 ∧ e.get 0 = .pointer (some ⟨b, ia, none⟩) ∧ e.get 1 = .pointer (some ⟨b, ib, none⟩) ∧ e.get 2 = .pointer (some ⟨b, ic, none⟩) ∧ e.get 3 = .pointer (some ⟨b, id, none⟩) ∧ e.get 4 = w32 x ∧ e.get 5 = w32 y) ⟨by simp (maxSteps := 2000000) (disch := (first | assumption | omega | (simp only [Option.isSome_some, List.all_cons, List.all_nil, Bool.and_self, List.length_cons, List.length_nil, writable_rw, one_int, one_bool, one_str, one_slice, one_ptr, one_map]) | decide)) only [StepL, Env.eval, ↓wput_some, ↓wput_none, reduceIte, Nat.reduceEqDiff, Nat.reduceLT, Nat.reduceAdd, Nat.reduceSub, Nat.reduceMul, Nat.reduceBEq, reduceCtorEq, he, q0, q1, q2, q3, q4, q5], by simp (maxSteps := 2000000) (disch := (first | assumption | omega | (simp only [Option.isSome_some, List.all_cons, List.all_nil, Bool.and_self, List.length_cons, List.length_nil, writable_rw, one_int, one_bool, one_str, one_slice, one_ptr, one_map]) | decide)) only [StepL, Env.eval, ↓wput_some, ↓wput_none, reduceIte, Nat.reduceEqDiff, Nat.reduceLT, Nat.reduceAdd, Nat.reduceSub, Nat.reduceMul, Nat.reduceBEq, reduceCtorEq, he, q0, q1, q2, q3, q4, q5], by simp (maxSteps := 2000000) (disch := (first | assumption | omega | (simp only [Option.isSome_some, List.all_cons, List.all_nil, Bool.and_self, List.length_cons, List.length_nil, writable_rw, one_int, one_bool, one_str, one_slice, one_ptr, one_map]) | decide)) only [StepL, Env.eval, ↓wput_some, ↓wput_none, reduceIte, Nat.reduceEqDiff, Nat.reduceLT, Nat.reduceAdd, Nat.reduceSub, Nat.reduceMul, Nat.reduceBEq, reduceCtorEq, he, q0, q1, q2, q3, q4, q5], by simp (maxSteps := 2000000) (disch := (first | assumption | omega | (simp only [Option.isSome_some, List.all_cons, List.all_nil, Bool.and_self, List.length_cons, List.length_nil, writable_rw, one_int, one_bool, one_str, one_slice, one_ptr, one_map]) | decide)) only [StepL, Env.eval, ↓wput_some, ↓wput_none, reduceIte, Nat.reduceEqDiff, Nat.reduceLT, Nat.reduceAdd, Nat.reduceSub, Nat.reduceMul, Nat.reduceBEq, reduceCtorEq, he, q0, q1, q2, q3, q4, q5], by simp (maxSteps := 2000000) (disch := (first | assumption | omega | (simp only [Option.isSome_some, List.all_cons, List.all_nil, Bool.and_self, List.length_cons, List.length_nil, writable_rw, one_int, one_bool, one_str, one_slice, one_ptr, one_map]) | decide)) only [StepL, Env.eval, ↓wput_some, ↓wput_none, reduceIte, Nat.reduceEqDiff, Nat.reduceLT, Nat.reduceAdd, Nat.reduceSub, Nat.reduceMul, Nat.reduceBEq, reduceCtorEq, he, q0, q1, q2, q3, q4, q5], by simp (maxSteps := 2000000) (disch := (first | assumption | omega | (simp only [Option.isSome_some, List.all_cons, List.all_nil, Bool.and_self, List.length_cons, List.length_nil, writable_rw, one_int, one_bool, one_str, one_slice, one_ptr, one_map]) | decide)) only [StepL, Env.eval, ↓wput_some, ↓wput_none, reduceIte, Nat.reduceEqDiff, Nat.reduceLT, Nat.reduceAdd, Nat.reduceSub, Nat.reduceMul, Nat.reduceBEq, reduceCtorEq, he, q0, q1, q2, q3, q4, q5], by simp (maxSteps := 2000000) (disch := (first | assumption | omega | (simp only [Option.isSome_some, List.all_cons, List.all_nil, Bool.and_self, List.length_cons, List.length_nil, writable_rw, one_int, one_bool, one_str, one_slice, one_ptr, one_map]) | decide)) only [StepL, Env.eval, ↓wput_some, ↓wput_none, reduceIte, Nat.reduceEqDiff, Nat.reduceLT, Nat.reduceAdd, Nat.reduceSub, Nat.reduceMul, Nat.reduceBEq, reduceCtorEq, he, q0, q1, q2, q3, q4, q5]⟩ ?_
  clear he q0 q1 q2 q3 q4 q5 e
  rintro e ⟨he, q0, q1, q2, q3, q4, q5⟩
  refine w_seq (w_draw [0, 1, 3, 0, 8, 24, 63, 127, 255] (by kernel_rfl) ?_)
  simp (maxSteps := 2000000) (disch := (first | assumption | omega | (simp only [F136, Option.isSome_some, List.all_cons, List.all_nil, Bool.and_self, List.length_cons, List.length_nil, writable_rw, one_int, one_bool, one_str, one_slice, one_ptr, one_map]) | decide)) only [StepL, Env.eval, ↓wput_some, ↓wput_none, reduceIte, Nat.reduceEqDiff, Nat.reduceLT, Nat.reduceAdd, Nat.reduceSub, Nat.reduceMul, Nat.reduceBEq, reduceCtorEq, F136, andThen, he, q0, q1, q2, q3, q4, q5, h2.hm, h2.ha, h2.hb, h2.hc, h2.hd, h2.la, h2.lb, h2.lc, h2.ld, addI_32, xorI_32]
  obtain ⟨m3, cs3, e3, h3, n3, l3, o3⟩ := h2.setc (v := c0 + d1) nac nbc ncd
  rw [e3]
  clear e3
  generalize g3 : c0 + d1 = c1 at h3 ⊢
  refine w_keep (fun e => e.n = 88 ∧ e.get 0 = .pointer (some ⟨b, ia, none⟩) ∧ e.get 1 = .pointer (some ⟨b, ib, none⟩) ∧ e.get 2 = .pointer (some ⟨b, ic, none⟩) ∧ e.get 3 = .pointer (some ⟨b, id, none⟩) ∧ e.get 4 = w32 x ∧ e.get 5 = w32 y) ⟨by simp (maxSteps := 2000000) (disch := (first | assumption | omega | (simp only [Option.isSome_some, List.all_cons, List.all_nil, Bool.and_self, List.length_cons, List.length_nil, writable_rw, one_int, one_bool, one_str, one_slice, one_ptr, one_map]) | decide)) only [StepL, Env.eval, ↓wput_some, ↓wput_none, reduceIte, Nat.reduceEqDiff, Nat.reduceLT, Nat.reduceAdd, Nat.reduceSub, Nat.reduceMul, Nat.reduceBEq, reduceCtorEq, he, q0, q1, q2, q3, q4, q5], by simp (maxSteps := 2000000) (disch := (first | assumption | omega | (simp only [Option.isSome_some, List.all_cons, List.all_nil, Bool.and_self, List.length_cons, List.length_nil, writable_rw, one_int, one_bool, one_str, one_slice, one_ptr, one_map]) | decide)) only [StepL, Env.eval, ↓wput_some, ↓wput_none, reduceIte, Nat.reduceEqDiff, Nat.reduceLT, Nat.reduceAdd, Nat.reduceSub, Nat.reduceMul, Nat.reduceBEq, reduceCtorEq, he, q0, q1, q2, q3, q4, q5], by simp (maxSteps := 2000000) (disch := (first | assumption | omega | (simp only [Option.isSome_some, List.all_cons, List.all_nil, Bool.and_self, List.length_cons, List.length_nil, writable_rw, one_int, one_bool, one_str, one_slice, one_ptr, one_map]) | decide)) only [StepL, Env.eval, ↓wput_some, ↓wput_none, reduceIte, Nat.reduceEqDiff, Nat.reduceLT, Nat.reduceAdd, Nat.reduceSub, Nat.reduceMul, Nat.reduceBEq, reduceCtorEq, he, q0, q1, q2, q3, q4, q5], by simp (maxSteps := 2000000) (disch := (first | assumption | omega | (simp only [Option.isSome_some, List.all_cons, List.all_nil, Bool.and_self, List.length_cons, List.length_nil, writable_rw, one_int, one_bool, one_str, one_slice, one_ptr, one_map]) | decide)) only [StepL, Env.eval, ↓wput_some, ↓wput_none, reduceIte, Nat.reduceEqDiff, Nat.reduceLT, Nat.reduceAdd, Nat.reduceSub, Nat.reduceMul, Nat.reduceBEq, reduceCtorEq, he, q0, q1, q2, q3, q4, q5], by simp (maxSteps := 2000000) (disch := (first | assumption | omega | (simp only [Option.isSome_some, List.all_cons, List.all_nil, Bool.and_self, List.length_cons, List.length_nil, writable_rw, one_int, one_bool, one_str, one_slice, one_ptr, one_map]) | decide)) only [StepL, Env.eval, ↓wput_some, ↓wput_none, reduceIte, Nat.reduceEqDiff, Nat.reduceLT, Nat.reduceAdd, Nat.reduceSub, Nat.reduceMul, Nat.reduceBEq, reduceCtorEq, he, q0, q1, q2, q3, q4, q5], by simp (maxSteps := 2000000) (disch := (first | assumption | omega | (simp only [Option.isSome_some, List.all_cons, List.all_nil, Bool.and_self, List.length_cons, List.length_nil, writable_rw, one_int, one_bool, one_str, one_slice, one_ptr, one_map]) | decide)) only [StepL, Env.eval, ↓wput_some, ↓wput_none, reduceIte, Nat.reduceEqDiff, Nat.reduceLT, Nat.reduceAdd, Nat.reduceSub, Nat.reduceMul, Nat.reduceBEq, reduceCtorEq, he, q0, q1, q2, q3, q4, q5], by simp (maxSteps := 2000000) (disch := (first | assumption | omega | (simp only [Option.isSome_some, List.all_cons, List.all_nil, Bool.and_self, List.length_cons, List.length_nil, writable_rw, one_int, one_bool, one_str, one_slice, one_ptr, one_map]) | decide)) only [StepL, Env.eval, ↓wput_some, ↓wput_none, reduceIte, Nat.reduceEqDiff, Nat.reduceLT, Nat.reduceAdd, Nat.reduceSub, Nat.reduceMul, Nat.reduceBEq, reduceCtorEq, he, q0, q1, q2, q3, q4, q5]⟩ ?_
  clear he q0 q1 q2 q3 q4 q5 e
  rintro e ⟨he, q0, q1, q2, q3, q4, q5⟩
  refine w_seq (w_draw [0, 0, 2, 6, 0, 16, 48, 126, 254, 511, 1023] (by kernel_rfl) ?_)
  simp (maxSteps := 2000000) (disch := (first | assumption | omega | (simp only [F136, Option.isSome_some, List.all_cons, List.all_nil, Bool.and_self, List.length_cons, List.length_nil, writable_rw, one_int, one_bool, one_str, one_slice, one_ptr, one_map]) | decide)) only [StepL, Env.eval, ↓wput_some, ↓wput_none, reduceIte, Nat.reduceEqDiff, Nat.reduceLT, Nat.reduceAdd, Nat.reduceSub, Nat.reduceMul, Nat.reduceBEq, reduceCtorEq, F136, andThen, he, q0, q1, q2, q3, q4, q5, h3.hm, h3.ha, h3.hb, h3.hc, h3.hd, h3.la, h3.lb, h3.lc, h3.ld, addI_32, xorI_32]
  refine wcall_pu rot12 ?_
  simp (maxSteps := 2000000) (disch := (first | assumption | omega | (simp only [F136, Option.isSome_some, List.all_cons, List.all_nil, Bool.and_self, List.length_cons, List.length_nil, writable_rw, one_int, one_bool, one_str, one_slice, one_ptr, one_map]) | decide)) only [StepL, Env.eval, ↓wput_some, ↓wput_none, reduceIte, Nat.reduceEqDiff, Nat.reduceLT, Nat.reduceAdd, Nat.reduceSub, Nat.reduceMul, Nat.reduceBEq, reduceCtorEq, F136, andThen, he, q0, q1, q2, q3, q4, q5, h3.hm, h3.ha, h3.hb, h3.hc, h3.hd, h3.la, h3.lb, h3.lc, h3.ld, addI_32, xorI_32]
  obtain ⟨m4, cs4, e4, h4, n4, l4, o4⟩ := h3.setb (v := rotr (b0 ^^^ c1) 12) nab nbc nbd
  rw [e4]
  clear e4
  generalize g4 : rotr (b0 ^^^ c1) 12 = b1 at h4 ⊢
  refine w_keep (fun e => e.n = 88 ∧ e.get 0 = .pointer (some ⟨b, ia, none⟩) ∧ e.get 1 = .pointer (some ⟨b, ib, none⟩) ∧ e.get 2 = .pointer (some ⟨b, ic, none⟩) ∧ e.get 3 = .pointer (some ⟨b, id, none⟩) ∧ e.get 4 = w32 x ∧ e.get 5 = w32 y) ⟨by simp (maxSteps := 2000000) (disch := (first | assumption | omega | (simp only [Option.isSome_some, List.all_cons, List.all_nil, Bool.and_self, List.length_cons, List.length_nil, writable_rw, one_int, one_bool, one_str, one_slice, one_ptr, one_map]) | decide)) only [StepL, Env.eval, ↓wput_some, ↓wput_none, reduceIte, Nat.reduceEqDiff, Nat.reduceLT, Nat.reduceAdd, Nat.reduceSub, Nat.reduceMul, Nat.reduceBEq, reduceCtorEq, he, q0, q1, q2, q3, q4, q5], by simp (maxSteps := 2000000) (disch := (first | assumption | omega | (simp only [Option.isSome_some, List.all_cons, List.all_nil, Bool.and_self, List.length_cons, List.length_nil, writable_rw, one_int, one_bool, one_str, one_slice, one_ptr, one_map]) | decide)) only [StepL, Env.eval, ↓wput_some, ↓wput_none, reduceIte, Nat.reduceEqDiff, Nat.reduceLT, Nat.reduceAdd, Nat.reduceSub, Nat.reduceMul, Nat.reduceBEq, reduceCtorEq, he, q0, q1, q2, q3, q4, q5], by simp (maxSteps := 2000000) (disch := (first | assumption | omega | (simp only [Option.isSome_some, List.all_cons, List.all_nil, Bool.and_self, List.length_cons, List.length_nil, writable_rw, one_int, one_bool, one_str, one_slice, one_ptr, one_map]) | decide)) only [StepL, Env.eval, ↓wput_some, ↓wput_none, reduceIte, Nat.reduceEqDiff, Nat.reduceLT, Nat.reduceAdd, Nat.reduceSub, Nat.reduceMul, Nat.reduceBEq, reduceCtorEq, he, q0, q1, q2, q3, q4, q5], by simp (maxSteps := 2000000) (disch := (first | assumption | omega | (simp only [Option.isSome_some, List.all_cons, List.all_nil, Bool.and_self, List.length_cons, List.length_nil, writable_rw, one_int, one_bool, one_str, one_slice, one_ptr, one_map]) | decide)) only [StepL, Env.eval, ↓wput_some, ↓wput_none, reduceIte, Nat.reduceEqDiff, Nat.reduceLT, Nat.reduceAdd, Nat.reduceSub, Nat.reduceMul, Nat.reduceBEq, reduceCtorEq, he, q0, q1, q2, q3, q4, q5], by simp (maxSteps := 2000000) (disch := (first | assumption | omega | (simp only [Option.isSome_some, List.all_cons, List.all_nil, Bool.and_self, List.length_cons, List.length_nil, writable_rw, one_int, one_bool, one_str, one_slice, one_ptr, one_map]) | decide)) only [StepL, Env.eval, ↓wput_some, ↓wput_none, reduceIte, Nat.reduceEqDiff, Nat.reduceLT, Nat.reduceAdd, Nat.reduceSub, Nat.reduceMul, Nat.reduceBEq, reduceCtorEq, he, q0, q1, q2, q3, q4, q5], by simp (maxSteps := 2000000) (disch := (first | assumption | omega | (simp only [Option.isSome_some, List.all_cons, List.all_nil, Bool.and_self, List.length_cons, List.length_nil, writable_rw, one_int, one_bool, one_str, one_slice, one_ptr, one_map]) | decide)) only [StepL, Env.eval, ↓wput_some, ↓wput_none, reduceIte, Nat.reduceEqDiff, Nat.reduceLT, Nat.reduceAdd, Nat.reduceSub, Nat.reduceMul, Nat.reduceBEq, reduceCtorEq, he, q0, q1, q2, q3, q4, q5], by simp (maxSteps := 2000000) (disch := (first | assumption | omega | (simp only [Option.isSome_some, List.all_cons, List.all_nil, Bool.and_self, List.length_cons, List.length_nil, writable_rw, one_int, one_bool, one_str, one_slice, one_ptr, one_map]) | decide)) only [StepL, Env.eval, ↓wput_some, ↓wput_none, reduceIte, Nat.reduceEqDiff, Nat.reduceLT, Nat.reduceAdd, Nat.reduceSub, Nat.reduceMul, Nat.reduceBEq, reduceCtorEq, he, q0, q1, q2, q3, q4, q5]⟩ ?_
  clear he q0 q1 q2 q3 q4 q5 e
  rintro e ⟨he, q0, q1, q2, q3, q4, q5⟩
  refine w_seq (w_draw [0, 1, 3, 0, 8, 24, 0, 120, 255, 511, 1023] (by kernel_rfl) ?_)
  simp (maxSteps := 2000000) (disch := (first | assumption | omega | (simp only [F136, Option.isSome_some, List.all_cons, List.all_nil, Bool.and_self, List.length_cons, List.length_nil, writable_rw, one_int, one_bool, one_str, one_slice, one_ptr, one_map]) | decide)) only [StepL, Env.eval, ↓wput_some, ↓wput_none, reduceIte, Nat.reduceEqDiff, Nat.reduceLT, Nat.reduceAdd, Nat.reduceSub, Nat.reduceMul, Nat.reduceBEq, reduceCtorEq, F136, andThen, he, q0, q1, q2, q3, q4, q5, h4.hm, h4.ha, h4.hb, h4.hc, h4.hd, h4.la, h4.lb, h4.lc, h4.ld, addI_32, xorI_32]
  obtain ⟨m5, cs5, e5, h5, n5, l5, o5⟩ := h4.seta (v := a1 + (b1 + y)) nab nac nad
  rw [e5]
  clear e5
  generalize g5 : a1 + (b1 + y) = a2 at h5 ⊢
  refine w_keep (fun e => e.n = 88 ∧ e.get 0 = .pointer (some ⟨b, ia, none⟩) ∧ e.get 1 = .pointer (some ⟨b, ib, none⟩) ∧ e.get 2 = .pointer (some ⟨b, ic, none⟩) ∧ e.get 3 = .pointer (some ⟨b, id, none⟩) ∧ e.get 4 = w32 x ∧ e.get 5 = w32 y) ⟨by simp (maxSteps := 2000000) (disch := (first | assumption | omega | (simp only [Option.isSome_some, List.all_cons, List.all_nil, Bool.and_self, List.length_cons, List.length_nil, writable_rw, one_int, one_bool, one_str, one_slice, one_ptr, one_map]) | decide)) only [StepL, Env.eval, ↓wput_some, ↓wput_none, reduceIte, Nat.reduceEqDiff, Nat.reduceLT, Nat.reduceAdd, Nat.reduceSub, Nat.reduceMul, Nat.reduceBEq, reduceCtorEq, he, q0, q1, q2, q3, q4, q5], by simp (maxSteps := 2000000) (disch := (first | assumption | omega | (simp only [Option.isSome_some, List.all_cons, List.all_nil, Bool.and_self, List.length_cons, List.length_nil, writable_rw, one_int, one_bool, one_str, one_slice, one_ptr, one_map]) | decide)) only [StepL, Env.eval, ↓wput_some, ↓wput_none, reduceIte, Nat.reduceEqDiff, Nat.reduceLT, Nat.reduceAdd, Nat.reduceSub, Nat.reduceMul, Nat.reduceBEq, reduceCtorEq, he, q0, q1, q2, q3, q4, q5], by simp (maxSteps := 2000000) (disch := (first | assumption | omega | (simp only [Option.isSome_some, List.all_cons, List.all_nil, Bool.and_self, List.length_cons, List.length_nil, writable_rw, one_int, one_bool, one_str, one_slice, one_ptr, one_map]) | decide)) only [StepL, Env.eval, ↓wput_some, ↓wput_none, reduceIte, Nat.reduceEqDiff, Nat.reduceLT, Nat.reduceAdd, Nat.reduceSub, Nat.reduceMul, Nat.reduceBEq, reduceCtorEq, he, q0, q1, q2, q3, q4, q5], by simp (maxSteps := 2000000) (disch := (first | assumption | omega | (simp only [Option.isSome_some, List.all_cons, List.all_nil, Bool.and_self, List.length_cons, List.length_nil, writable_rw, one_int, one_bool, one_str, one_slice, one_ptr, one_map]) | decide)) only [StepL, Env.eval, ↓wput_some, ↓wput_none, reduceIte, Nat.reduceEqDiff, Nat.reduceLT, Nat.reduceAdd, Nat.reduceSub, Nat.reduceMul, Nat.reduceBEq, reduceCtorEq, he, q0, q1, q2, q3, q4, q5], by simp (maxSteps := 2000000) (disch := (first | assumption | omega | (simp only [Option.isSome_some, List.all_cons, List.all_nil, Bool.and_self, List.length_cons, List.length_nil, writable_rw, one_int, one_bool, one_str, one_slice, one_ptr, one_map]) | decide)) only [StepL, Env.eval, ↓wput_some, ↓wput_none, reduceIte, Nat.reduceEqDiff, Nat.reduceLT, Nat.reduceAdd, Nat.reduceSub, Nat.reduceMul, Nat.reduceBEq, reduceCtorEq, he, q0, q1, q2, q3, q4, q5], by simp (maxSteps := 2000000) (disch := (first | assumption | omega | (simp only [Option.isSome_some, List.all_cons, List.all_nil, Bool.and_self, List.length_cons, List.length_nil, writable_rw, one_int, one_bool, one_str, one_slice, one_ptr, one_map]) | decide)) only [StepL, Env.eval, ↓wput_some, ↓wput_none, reduceIte, Nat.reduceEqDiff, Nat.reduceLT, Nat.reduceAdd, Nat.reduceSub, Nat.reduceMul, Nat.reduceBEq, reduceCtorEq, he, q0, q1, q2, q3, q4, q5], by simp (maxSteps := 2000000) (disch := (first | assumption | omega | (simp only [Option.isSome_some, List.all_cons, List.all_nil, Bool.and_self, List.length_cons, List.length_nil, writable_rw, one_int, one_bool, one_str, one_slice, one_ptr, one_map]) | decide)) only [StepL, Env.eval, ↓wput_some, ↓wput_none, reduceIte, Nat.reduceEqDiff, Nat.reduceLT, Nat.reduceAdd, Nat.reduceSub, Nat.reduceMul, Nat.reduceBEq, reduceCtorEq, he, q0, q1, q2, q3, q4, q5]⟩ ?_
  clear he q0 q1 q2 q3 q4 q5 e
  rintro e ⟨he, q0, q1, q2, q3, q4, q5⟩
  refine w_seq (w_draw [0, 0, 2, 6, 0, 16, 48, 126, 254, 511, 1023] (by kernel_rfl) ?_)
  simp (maxSteps := 2000000) (disch := (first | assumption | omega | (simp only [F136, Option.isSome_some, List.all_cons, List.all_nil, Bool.and_self, List.length_cons, List.length_nil, writable_rw, one_int, one_bool, one_str, one_slice, one_ptr, one_map]) | decide)) only [StepL, Env.eval, ↓wput_some, ↓wput_none, reduceIte, Nat.reduceEqDiff, Nat.reduceLT, Nat.reduceAdd, Nat.reduceSub, Nat.reduceMul, Nat.reduceBEq, reduceCtorEq, F136, andThen, he, q0, q1, q2, q3, q4, q5, h5.hm, h5.ha, h5.hb, h5.hc, h5.hd, h5.la, h5.lb, h5.lc, h5.ld, addI_32, xorI_32]
  refine wcall_pu rot8 ?_
  simp (maxSteps := 2000000) (disch := (first | assumption | omega | (simp only [F136, Option.isSome_some, List.all_cons, List.all_nil, Bool.and_self, List.length_cons, List.length_nil, writable_rw, one_int, one_bool, one_str, one_slice, one_ptr, one_map]) | decide)) only [StepL, Env.eval, ↓wput_some, ↓wput_none, reduceIte, Nat.reduceEqDiff, Nat.reduceLT, Nat.reduceAdd, Nat.reduceSub, Nat.reduceMul, Nat.reduceBEq, reduceCtorEq, F136, andThen, he, q0, q1, q2, q3, q4, q5, h5.hm, h5.ha, h5.hb, h5.hc, h5.hd, h5.la, h5.lb, h5.lc, h5.ld, addI_32, xorI_32]
  obtain ⟨m6, cs6, e6, h6, n6, l6, o6⟩ := h5.setd (v := rotr (d1 ^^^ a2) 8) nad nbd ncd
  rw [e6]
  clear e6
  generalize g6 : rotr (d1 ^^^ a2) 8 = d2 at h6 ⊢
  refine w_keep (fun e => e.n = 88 ∧ e.get 0 = .pointer (some ⟨b, ia, none⟩) ∧ e.get 1 = .pointer (some ⟨b, ib, none⟩) ∧ e.get 2 = .pointer (some ⟨b, ic, none⟩) ∧ e.get 3 = .pointer (some ⟨b, id, none⟩) ∧ e.get 4 = w32 x ∧ e.get 5 = w32 y) ⟨by simp (maxSteps := 2000000) (disch := (first | assumption | omega | (simp only [Option.isSome_some, List.all_cons, List.all_nil, Bool.and_self, List.length_cons, List.length_nil, writable_rw, one_int, one_bool, one_str, one_slice, one_ptr, one_map]) | decide)) only [StepL, Env.eval, ↓wput_some, ↓wput_none, reduceIte, Nat.reduceEqDiff, Nat.reduceLT, Nat.reduceAdd, Nat.reduceSub, Nat.reduceMul, Nat.reduceBEq, reduceCtorEq, he, q0, q1, q2, q3, q4, q5], by simp (maxSteps := 2000000) (disch := (first | assumption | omega | (simp only [Option.isSome_some, List.all_cons, List.all_nil, Bool.and_self, List.length_cons, List.length_nil, writable_rw, one_int, one_bool, one_str, one_slice, one_ptr, one_map]) | decide)) only [StepL, Env.eval, ↓wput_some, ↓wput_none, reduceIte, Nat.reduceEqDiff, Nat.reduceLT, Nat.reduceAdd, Nat.reduceSub, Nat.reduceMul, Nat.reduceBEq, reduceCtorEq, he, q0, q1, q2, q3, q4, q5], by simp (maxSteps := 2000000) (disch := (first | assumption | omega | (simp only [Option.isSome_some, List.all_cons, List.all_nil, Bool.and_self, List.length_cons, List.length_nil, writable_rw, one_int, one_bool, one_str, one_slice, one_ptr, one_map]) | decide)) only [StepL, Env.eval, ↓wput_some, ↓wput_none, reduceIte, Nat.reduceEqDiff, Nat.reduceLT, Nat.reduceAdd, Nat.reduceSub, Nat.reduceMul, Nat.reduceBEq, reduceCtorEq, he, q0, q1, q2, q3, q4, q5], by simp (maxSteps := 2000000) (disch := (first | assumption | omega | (simp only [Option.isSome_some, List.all_cons, List.all_nil, Bool.and_self, List.length_cons, List.length_nil, writable_rw, one_int, one_bool, one_str, one_slice, one_ptr, one_map]) | decide)) only [StepL, Env.eval, ↓wput_some, ↓wput_none, reduceIte, Nat.reduceEqDiff, Nat.reduceLT, Nat.reduceAdd, Nat.reduceSub, Nat.reduceMul, Nat.reduceBEq, reduceCtorEq, he, q0, q1, q2, q3, q4, q5], by simp (maxSteps := 2000000) (disch := (first | assumption | omega | (simp only [Option.isSome_some, List.all_cons, List.all_nil, Bool.and_self, List.length_cons, List.length_nil, writable_rw, one_int, one_bool, one_str, one_slice, one_ptr, one_map]) | decide)) only [StepL, Env.eval, ↓wput_some, ↓wput_none, reduceIte, Nat.reduceEqDiff, Nat.reduceLT, Nat.reduceAdd, Nat.reduceSub, Nat.reduceMul, Nat.reduceBEq, reduceCtorEq, he, q0, q1, q2, q3, q4, q5], by simp (maxSteps := 2000000) (disch := (first | assumption | omega | (simp only [Option.isSome_some, List.all_cons, List.all_nil, Bool.and_self, List.length_cons, List.length_nil, writable_rw, one_int, one_bool, one_str, one_slice, one_ptr, one_map]) | decide)) only [StepL, Env.eval, ↓wput_some, ↓wput_none, reduceIte, Nat.reduceEqDiff, Nat.reduceLT, Nat.reduceAdd, Nat.reduceSub, Nat.reduceMul, Nat.reduceBEq, reduceCtorEq, he, q0, q1, q2, q3, q4, q5], by simp (maxSteps := 2000000) (disch := (first | assumption | omega | (simp only [Option.isSome_some, List.all_cons, List.all_nil, Bool.and_self, List.length_cons, List.length_nil, writable_rw, one_int, one_bool, one_str, one_slice, one_ptr, one_map]) | decide)) only [StepL, Env.eval, ↓wput_some, ↓wput_none, reduceIte, Nat.reduceEqDiff, Nat.reduceLT, Nat.reduceAdd, Nat.reduceSub, Nat.reduceMul, Nat.reduceBEq, reduceCtorEq, he, q0, q1, q2, q3, q4, q5]⟩ ?_
  clear he q0 q1 q2 q3 q4 q5 e
  rintro e ⟨he, q0, q1, q2, q3, q4, q5⟩
  refine w_seq (w_draw [0, 1, 3, 0, 8, 24, 63, 127, 255] (by kernel_rfl) ?_)
  simp (maxSteps := 2000000) (disch := (first | assumption | omega | (simp only [F136, Option.isSome_some, List.all_cons, List.all_nil, Bool.and_self, List.length_cons, List.length_nil, writable_rw, one_int, one_bool, one_str, one_slice, one_ptr, one_map]) | decide)) only [StepL, Env.eval, ↓wput_some, ↓wput_none, reduceIte, Nat.reduceEqDiff, Nat.reduceLT, Nat.reduceAdd, Nat.reduceSub, Nat.reduceMul, Nat.reduceBEq, reduceCtorEq, F136, andThen, he, q0, q1, q2, q3, q4, q5, h6.hm, h6.ha, h6.hb, h6.hc, h6.hd, h6.la, h6.lb, h6.lc, h6.ld, addI_32, xorI_32]
  obtain ⟨m7, cs7, e7, h7, n7, l7, o7⟩ := h6.setc (v := c1 + d2) nac nbc ncd
  rw [e7]
  clear e7
  generalize g7 : c1 + d2 = c2 at h7 ⊢
  refine w_keep (fun e => e.n = 88 ∧ e.get 0 = .pointer (some ⟨b, ia, none⟩) ∧ e.get 1 = .pointer (some ⟨b, ib, none⟩) ∧ e.get 2 = .pointer (some ⟨b, ic, none⟩) ∧ e.get 3 = .pointer (some ⟨b, id, none⟩) ∧ e.get 4 = w32 x ∧ e.get 5 = w32 y) ⟨by simp (maxSteps := 2000000) (disch := (first | assumption | omega | (simp only [Option.isSome_some, List.all_cons, List.all_nil, Bool.and_self, List.length_cons, List.length_nil, writable_rw, one_int, one_bool, one_str, one_slice, one_ptr, one_map]) | decide)) only [StepL, Env.eval, ↓wput_some, ↓wput_none, reduceIte, Nat.reduceEqDiff, Nat.reduceLT, Nat.reduceAdd, Nat.reduceSub, Nat.reduceMul, Nat.reduceBEq, reduceCtorEq, he, q0, q1, q2, q3, q4, q5], by simp (maxSteps := 2000000) (disch := (first | assumption | omega | (simp only [Option.isSome_some, List.all_cons, List.all_nil, Bool.and_self, List.length_cons, List.length_nil, writable_rw, one_int, one_bool, one_str, one_slice, one_ptr, one_map]) | decide)) only [StepL, Env.eval, ↓wput_some, ↓wput_none, reduceIte, Nat.reduceEqDiff, Nat.reduceLT, Nat.reduceAdd, Nat.reduceSub, Nat.reduceMul, Nat.reduceBEq, reduceCtorEq, he, q0, q1, q2, q3, q4, q5], by simp (maxSteps := 2000000) (disch := (first | assumption | omega | (simp only [Option.isSome_some, List.all_cons, List.all_nil, Bool.and_self, List.length_cons, List.length_nil, writable_rw, one_int, one_bool, one_str, one_slice, one_ptr, one_map]) | decide)) only [StepL, Env.eval, ↓wput_some, ↓wput_none, reduceIte, Nat.reduceEqDiff, Nat.reduceLT, Nat.reduceAdd, Nat.reduceSub, Nat.reduceMul, Nat.reduceBEq, reduceCtorEq, he, q0, q1, q2, q3, q4, q5], by simp (maxSteps := 2000000) (disch := (first | assumption | omega | (simp only [Option.isSome_some, List.all_cons, List.all_nil, Bool.and_self, List.length_cons, List.length_nil, writable_rw, one_int, one_bool, one_str, one_slice, one_ptr, one_map]) | decide)) only [StepL, Env.eval, ↓wput_some, ↓wput_none, reduceIte, Nat.reduceEqDiff, Nat.reduceLT, Nat.reduceAdd, Nat.reduceSub, Nat.reduceMul, Nat.reduceBEq, reduceCtorEq, he, q0, q1, q2, q3, q4, q5], by simp (maxSteps := 2000000) (disch := (first | assumption | omega | (simp only [Option.isSome_some, List.all_cons, List.all_nil, Bool.and_self, List.length_cons, List.length_nil, writable_rw, one_int, one_bool, one_str, one_slice, one_ptr, one_map]) | decide)) only [StepL, Env.eval, ↓wput_some, ↓wput_none, reduceIte, Nat.reduceEqDiff, Nat.reduceLT, Nat.reduceAdd, Nat.reduceSub, Nat.reduceMul, Nat.reduceBEq, reduceCtorEq, he, q0, q1, q2, q3, q4, q5], by simp (maxSteps := 2000000) (disch := (first | assumption | omega | (simp only [Option.isSome_some, List.all_cons, List.all_nil, Bool.and_self, List.length_cons, List.length_nil, writable_rw, one_int, one_bool, one_str, one_slice, one_ptr, one_map]) | decide)) only [StepL, Env.eval, ↓wput_some, ↓wput_none, reduceIte, Nat.reduceEqDiff, Nat.reduceLT, Nat.reduceAdd, Nat.reduceSub, Nat.reduceMul, Nat.reduceBEq, reduceCtorEq, he, q0, q1, q2, q3, q4, q5], by simp (maxSteps := 2000000) (disch := (first | assumption | omega | (simp only [Option.isSome_some, List.all_cons, List.all_nil, Bool.and_self, List.length_cons, List.length_nil, writable_rw, one_int, one_bool, one_str, one_slice, one_ptr, one_map]) | decide)) only [StepL, Env.eval, ↓wput_some, ↓wput_none, reduceIte, Nat.reduceEqDiff, Nat.reduceLT, Nat.reduceAdd, Nat.reduceSub, Nat.reduceMul, Nat.reduceBEq, reduceCtorEq, he, q0, q1, q2, q3, q4, q5]⟩ ?_
  clear he q0 q1 q2 q3 q4 q5 e
  rintro e ⟨he, q0, q1, q2, q3, q4, q5⟩
  refine (w_draw [0, 0, 2, 6, 0, 16, 48, 126, 254, 511, 1023] (by kernel_rfl) ?_)
  simp (maxSteps := 2000000) (disch := (first | assumption | omega | (simp only [F136, Option.isSome_some, List.all_cons, List.all_nil, Bool.and_self, List.length_cons, List.length_nil, writable_rw, one_int, one_bool, one_str, one_slice, one_ptr, one_map]) | decide)) only [StepL, Env.eval, ↓wput_some, ↓wput_none, reduceIte, Nat.reduceEqDiff, Nat.reduceLT, Nat.reduceAdd, Nat.reduceSub, Nat.reduceMul, Nat.reduceBEq, reduceCtorEq, F136, andThen, he, q0, q1, q2, q3, q4, q5, h7.hm, h7.ha, h7.hb, h7.hc, h7.hd, h7.la, h7.lb, h7.lc, h7.ld, addI_32, xorI_32]
  refine wcall_pu rot7 ?_
  simp (maxSteps := 2000000) (disch := (first | assumption | omega | (simp only [F136, Option.isSome_some, List.all_cons, List.all_nil, Bool.and_self, List.length_cons, List.length_nil, writable_rw, one_int, one_bool, one_str, one_slice, one_ptr, one_map]) | decide)) only [StepL, Env.eval, ↓wput_some, ↓wput_none, reduceIte, Nat.reduceEqDiff, Nat.reduceLT, Nat.reduceAdd, Nat.reduceSub, Nat.reduceMul, Nat.reduceBEq, reduceCtorEq, F136, andThen, he, q0, q1, q2, q3, q4, q5, h7.hm, h7.ha, h7.hb, h7.hc, h7.hd, h7.la, h7.lb, h7.lc, h7.ld, addI_32, xorI_32]
  obtain ⟨m8, cs8, e8, h8, n8, l8, o8⟩ := h7.setb (v := rotr (b1 ^^^ c2) 7) nab nbc nbd
  rw [e8]
  clear e8
  generalize g8 : rotr (b1 ^^^ c2) 7 = b2 at h8 ⊢
  refine ret_none (.inr rfl) Tryz.results136 ⟨rfl, by omega, cs8, ?_, by omega, fun j ja jb jc jd => ?_⟩
  · simp only [mixW, g1, g2, g3, g4, g5, g6, g7, g8]; exact h8
  · rw [o8 j jb, o7 j jc, o6 j jd, o5 j ja, o4 j jb, o3 j jc, o2 j jd, o1 j ja]

end Go.Big

/- The tables of the hash. -/
set_option linter.unusedSimpArgs false
set_option maxRecDepth 100000
set_option maxHeartbeats 8000000
namespace Go.Big
open Go.Proofs

def ivW : List UInt32 := [0x6a09e667, 0xbb67ae85, 0x3c6ef372, 0xa54ff53a, 0x510e527f, 0x9b05688c, 0x1f83d9ab, 0x5be0cd19]
def w32s (l : List UInt32) : List Value := l.map w32

theorem ct_mono {P : Program} {S : Cfg} {g : FuncId} {args : List Value} {m : Mem} {L : List Nat} {Q Q' : COut → Mem → Prop} (h : Ct P S g args m L Q) (hq : ∀ o m', Q o m' → Q' o m') : Ct P S g args m L Q' := by
  obtain ⟨o, m', w, h1, h2, h3⟩ := h
  exact ⟨o, m', w, h1, h2, hq _ _ h3⟩

theorem start_ct {m : Mem} : Ct Tryz.prog S0 123 [] m [] (fun out _ => out = .ret (.agg (w32s ivW).toArray)) := by
  refine ct_body (spec0 _) (by rfl) Tryz.func123 rfl ?_
  rw [Tryz.ntmps123]
  simp only [ofArgs_nil]
  refine w_seq (w_region ?_)
  simp (maxSteps := 2000000) (disch := (first | assumption | omega | (simp only [F123, Option.isSome_some, List.all_cons, List.all_nil, Bool.and_self, List.length_cons, List.length_nil, writable_rw, one_int, one_bool, one_str, one_slice, one_ptr, one_map]) | decide)) only [StepL, Env.eval, ↓wput_some, ↓wput_none, reduceIte, Nat.reduceEqDiff, Nat.reduceLT, Nat.reduceAdd, Nat.reduceSub, Nat.reduceMul, Nat.reduceBEq, reduceCtorEq, F123, andThen]
  refine w_seq (w_region ?_)
  simp (maxSteps := 2000000) (disch := (first | assumption | omega | (simp only [F123, Option.isSome_some, List.all_cons, List.all_nil, Bool.and_self, List.length_cons, List.length_nil, writable_rw, one_int, one_bool, one_str, one_slice, one_ptr, one_map]) | decide)) only [StepL, Env.eval, ↓wput_some, ↓wput_none, reduceIte, Nat.reduceEqDiff, Nat.reduceLT, Nat.reduceAdd, Nat.reduceSub, Nat.reduceMul, Nat.reduceBEq, reduceCtorEq, F123, andThen, size_agg]
  refine w_ret (ret_cell (.inl rfl) Tryz.results123 (b := m.next) (o := 0) (v := .agg (w32s ivW).toArray) ?_ ?_ rfl)
  · simp (maxSteps := 2000000) (disch := (first | assumption | omega | (simp only [Option.isSome_some, List.all_cons, List.all_nil, Bool.and_self, List.length_cons, List.length_nil, writable_rw, one_int, one_bool, one_str, one_slice, one_ptr, one_map]) | decide)) only [StepL, Env.eval, ↓wput_some, ↓wput_none, reduceIte, Nat.reduceEqDiff, Nat.reduceLT, Nat.reduceAdd, Nat.reduceSub, Nat.reduceMul, Nat.reduceBEq, reduceCtorEq]
  · simp (maxSteps := 2000000) (disch := (first | assumption | omega | (simp only [F123, Option.isSome_some, List.all_cons, List.all_nil, Bool.and_self, List.length_cons, List.length_nil, writable_rw, one_int, one_bool, one_str, one_slice, one_ptr, one_map]) | decide)) only [StepL, Env.eval, ↓wput_some, ↓wput_none, reduceIte, Nat.reduceEqDiff, Nat.reduceLT, Nat.reduceAdd, Nat.reduceSub, Nat.reduceMul, Nat.reduceBEq, reduceCtorEq, F123, loadRow_agg]
    rfl

def sigma : List (List Nat) := [
  [0, 1, 2, 3, 4, 5, 6, 7, 8, 9, 10, 11, 12, 13, 14, 15],
  [14, 10, 4, 8, 9, 15, 13, 6, 1, 12, 0, 2, 11, 7, 5, 3],
  [11, 8, 12, 0, 5, 2, 15, 13, 10, 14, 3, 6, 7, 1, 9, 4],
  [7, 9, 3, 1, 13, 12, 11, 14, 2, 6, 5, 10, 4, 0, 15, 8],
  [9, 0, 5, 7, 2, 4, 10, 15, 14, 1, 11, 12, 6, 8, 3, 13],
  [2, 12, 6, 10, 0, 11, 8, 3, 4, 13, 7, 5, 15, 14, 1, 9],
  [12, 5, 1, 15, 14, 13, 4, 10, 0, 7, 6, 3, 9, 2, 8, 11],
  [13, 11, 7, 14, 12, 1, 3, 9, 5, 0, 15, 4, 8, 6, 2, 10],
  [6, 15, 14, 9, 11, 3, 0, 8, 12, 2, 13, 7, 1, 4, 10, 5],
  [10, 2, 8, 4, 7, 6, 1, 5, 15, 11, 9, 14, 3, 12, 13, 0]]
def sigmaCells : List Value := sigma.flatten.map fun (n : Nat) => .int .u8 (n : Int)

theorem rows_ct {m : Mem} : Ct Tryz.prog S0 135 [] m [] (fun out _ => out = .ret (.agg sigmaCells.toArray)) := by
  refine ct_body (spec0 _) (by rfl) Tryz.func135 rfl ?_
  rw [Tryz.ntmps135]
  simp only [ofArgs_nil]
  refine w_seq (w_region ?_)
  simp (maxSteps := 2000000) (disch := (first | assumption | omega | (simp only [F135, Option.isSome_some, List.all_cons, List.all_nil, Bool.and_self, List.length_cons, List.length_nil, writable_rw, one_int, one_bool, one_str, one_slice, one_ptr, one_map]) | decide)) only [StepL, Env.eval, ↓wput_some, ↓wput_none, reduceIte, Nat.reduceEqDiff, Nat.reduceLT, Nat.reduceAdd, Nat.reduceSub, Nat.reduceMul, Nat.reduceBEq, reduceCtorEq, F135, andThen]
  refine w_seq (w_region ?_)
  simp (maxSteps := 2000000) (disch := (first | assumption | omega | (simp only [F135, Option.isSome_some, List.all_cons, List.all_nil, Bool.and_self, List.length_cons, List.length_nil, writable_rw, one_int, one_bool, one_str, one_slice, one_ptr, one_map]) | decide)) only [StepL, Env.eval, ↓wput_some, ↓wput_none, reduceIte, Nat.reduceEqDiff, Nat.reduceLT, Nat.reduceAdd, Nat.reduceSub, Nat.reduceMul, Nat.reduceBEq, reduceCtorEq, F135, andThen]
  refine w_ret (ret_cell (.inl rfl) Tryz.results135 (b := m.next) (o := 0) (v := .agg sigmaCells.toArray) ?_ ?_ rfl)
  · simp (maxSteps := 2000000) (disch := (first | assumption | omega | (simp only [Option.isSome_some, List.all_cons, List.all_nil, Bool.and_self, List.length_cons, List.length_nil, writable_rw, one_int, one_bool, one_str, one_slice, one_ptr, one_map]) | decide)) only [StepL, Env.eval, ↓wput_some, ↓wput_none, reduceIte, Nat.reduceEqDiff, Nat.reduceLT, Nat.reduceAdd, Nat.reduceSub, Nat.reduceMul, Nat.reduceBEq, reduceCtorEq]
  · simp (maxSteps := 2000000) (disch := (first | assumption | omega | (simp only [F135, Option.isSome_some, List.all_cons, List.all_nil, Bool.and_self, List.length_cons, List.length_nil, writable_rw, one_int, one_bool, one_str, one_slice, one_ptr, one_map]) | decide)) only [StepL, Env.eval, ↓wput_some, ↓wput_none, reduceIte, Nat.reduceEqDiff, Nat.reduceLT, Nat.reduceAdd, Nat.reduceSub, Nat.reduceMul, Nat.reduceBEq, reduceCtorEq, F135, loadRow_agg]
    rfl

end Go.Big
