/- A deterministic reading of the model's code: what it has to do with the model's worlds (definitions), the code, its weakest-precondition reading, its making out of the model's own. -/
import Derived.Test.YtpkefdoleieloaaCsz1
namespace Go.Dx
set_option linter.unusedVariables false
set_option linter.unusedSimpArgs false
/-! ### How abstract blocks lie in a world -/
structure Ent where
  block : Nat
  base : Nat
  cnt : Nat
  lim : Nat
  esz : Nat
  ro : Bool
  mp : Bool
abbrev Emb := Nat → Option Ent
mutual
inductive VR (E : Emb) : Value → Value → Prop
  | bool (b : Bool) : VR E (.bool b) (.bool b)
  | int (k : IntKind) (n : Int) : VR E (.int k n) (.int k n)
  | str (s : ByteArray) : VR E (.string s) (.string s)
  | pnil : VR E (.pointer none) (.pointer none)
  | ptr (id off : Nat) (en : Ent) : E id = some en → en.mp = false → VR E (.pointer (some ⟨id,off,none⟩)) (.pointer (some ⟨en.block,en.base + off,none⟩))
  | snil : VR E (.slice none 0 0) (.slice none 0 0)
  | sl (id off len cap : Nat) (en : Ent) (a' : Addr) (cap' : Nat) : E id = some en → en.mp = false → len ≤ cap' → (cap = 0 → cap' = 0) →
      (en.ro = false → en.esz ≠ 0 → off + cap' * en.esz ≤ en.lim ∧ (cap ≠ 0 → en.cnt ≤ off + cap' * en.esz) ∧ (2 ≤ cap → off + cap' * en.esz + 2 = cap)) → (cap' ≠ 0 → a' = ⟨en.block,en.base + off,none⟩) →
      VR E (.slice (some ⟨id,off,none⟩) len cap) (.slice (some a') len cap')
  | mnil : VR E (.map none) (.map none)
  | mp (id : Nat) (en : Ent) : E id = some en → en.mp = true → VR E (.map (some id)) (.map (some en.block))
  | nilF : VR E .nilFunc .nilFunc
  | nilI : VR E .nilIface .nilIface
  | fn (f : Fn) (a a' b b' : List Value) : VRL E a a' → VRL E b b' → VR E (.func f ⟨a⟩ ⟨b⟩) (.func f ⟨a'⟩ ⟨b'⟩)
  | agg (a a' : List Value) : VRL E a a' → VR E (.agg ⟨a⟩) (.agg ⟨a'⟩)
  | tup (a a' : List Value) : VRL E a a' → VR E (.tuple ⟨a⟩) (.tuple ⟨a'⟩)
inductive VRL (E : Emb) : List Value → List Value → Prop
  | nil : VRL E [] []
  | cons (v v' : Value) (l l' : List Value) : VR E v v' → VRL E l l' → VRL E (v :: l) (v' :: l')
end
def EsR (E : Emb) : List (Value × Value) → List MapEntry → Prop
  | [],[] => True
  | (k,v) :: r,e :: r' => e.key = k ∧ Yx 1 k = true ∧ VR E v e.val ∧ EsR E r r'
  | _,_ => False
def Jc (E : Emb) (w : World) (en : Ent) : AObj → Prop
  | .cells vs esz ro => en.mp = false ∧ en.esz = esz ∧ en.ro = ro ∧ (vs.length = en.cnt ∧ en.cnt ≤ en.lim) ∧ ∃ c el fr,w.heap[en.block]? = some (.cells c el fr) ∧ en.base + en.lim ≤ c.size ∧
      (∀ i v,vs[i]? = some v → ∃ v',c[en.base + i]? = some v' ∧ VR E v v') ∧ (ro = false → fr.1 = fr.2 ∨ en.base + en.lim ≤ fr.1)
  | .map es => en.mp = true ∧ en.ro = false ∧ ∃ es' clock,w.heap[en.block]? = some (.map es' clock) ∧ EsR E es es'.toList
structure WR (E : Emb) (h : Heap) (w : World) : Prop where
  obj : ∀ id en o,E id = some en → h.get id = some o → Jc E w en o
  inj : ∀ id id' en en' o o',id ≠ id' → E id = some en → E id' = some en' → h.get id = some o → h.get id' = some o' → o.rw = true → en.block ≠ en'.block
  dom : ∀ id en,E id = some en → id < h.next
def Own (E : Emb) (h : Heap) (b : Nat) : Prop := ∃ id en o,E id = some en ∧ h.get id = some o ∧ o.rw = true ∧ en.block = b
structure Stp (E : Emb) (h : Heap) (w : World) (E' : Emb) (h' : Heap) (w' : World) : Prop where
  ext : ∀ id en,E id = some en → E' id = some en
  out : ∀ id,id < h.next → E id = none → E' id = none ∧ h'.get id = h.get id
  next : h.next ≤ h'.next
  dead : ∀ id,id < h.next → h.get id = none → h'.get id = none
  rw : ∀ id o o',h.get id = some o → h'.get id = some o' → o'.rw = o.rw
  own : ∀ b,Own E' h' b → Own E h b ∨ w.heap.size ≤ b
  size : w.heap.size ≤ w'.heap.size
  fr : ∀ b,b < w.heap.size → ¬ Own E h b → w'.heap[b]? = w.heap[b]?
  os : w'.os = w.os
  tape : w'.tape = w.tape
  output : w'.output = w.output
def Fn (P : Program) (f : Nat) (args : List Value) (h : Heap) (Q : Value → Heap → Prop) : Prop :=
  (∃ fn,P.funcs[f]? = some fn ∧ fn.body.isNone = false ∧ (fn.name == "runtime.NumGoroutine") = false) ∧
  ∀ (E : Emb) (w : World) (args' : List Value),WR E h w → VRL E args args' →
    Calls P f ⟨args'⟩ w fun en w' => ∃ v h' E' v',Q v h' ∧ en = .returned v' ∧ VR E' v v' ∧ WR E' h' w' ∧ Stp E h w E' h' w'
/-! ### The code -/
inductive SCode where
  | skip
  | region (ops : List SOp) (keep : List Nat)
  | seq (a b : SCode)
  | cond (c : Arg) (a b : SCode)
  | block (id : Nat) (c : SCode)
  | loop (c : SCode)
  | exit (id : Nat)
  | ret
inductive Out where
  | normal
  | exit (id : Nat)
  | ret
def Xd (P : Program) : List SOp → Env → Heap → (Env → Heap → Prop) → Prop
  | [],e,h,Q => Q e h
  | o :: r,e,h,Q => match o.wanted e with
    | none => False
    | some false => Xd P r (e.put o.dst Xl) h Q
    | some true => match o.op.asCall with
      | some (f,args) => match f.ev e,evs e args with
        | some (.func (.func f) ⟨a⟩ ⟨b⟩),some vs => Fn P f (a ++ vs ++ b) h fun v h' => Xd P r (e.put o.dst v) h' Q
        | _,_ => False
      | none => match o.op.run e h with
        | some (v,h') => Xd P r (e.put o.dst v) h' Q
        | none => False
def Ux (R : Env → Heap → (Out → Env → Heap → Prop) → Prop) : Nat → Env → Heap → (Out → Env → Heap → Prop) → Prop
  | 0,_,_,_ => False
  | n + 1,e,h,Q => R e h fun o e' h' => match o with
    | .normal => Ux R n e' h' Q
    | o => Q o e' h'
def W (P : Program) : SCode → Env → Heap → (Out → Env → Heap → Prop) → Prop
  | .skip,e,h,Q => Q .normal e h
  | .region ops keep,e,h,Q => Xd P ops e h fun e' h' => Q .normal (e'.keep keep) h'
  | .seq a b,e,h,Q => W P a e h fun o e' h' => match o with
    | .normal => W P b e' h' Q
    | o => Q o e' h'
  | .cond c a b,e,h,Q => match c.ev e with
    | some (.bool t) => (t = true → W P a e h Q) ∧ (t = false → W P b e h Q)
    | _ => False
  | .block id c,e,h,Q => W P c e h fun o e' h' => match o with
    | .exit i => if i = id then Q .normal e' h' else Q (.exit i) e' h'
    | o => Q o e' h'
  | .loop c,e,h,Q => ∃ n,Ux (W P c) n e h Q
  | .exit id,e,h,Q => Q (.exit id) e h
  | .ret,e,h,Q => Q .ret e h
inductive Res where
  | t (n : Nat)
  | c (n : Nat) (size : Nat) (agg : Bool)
def Res.ev (e : Env) (h : Heap) : Res → Option Value
  | .t n => e.get n
  | .c n size agg => match e.get n with
    | some p => ldV h size agg p
    | none => none
def Un (e : Env) (h : Heap) : List Res → Option (List Value)
  | [] => some []
  | r :: rs => match r.ev e h,Un e h rs with
    | some v,some vs => some (v :: vs)
    | _,_ => none
def Vv : List Value → Value
  | [v] => v
  | l => .tuple ⟨l⟩
structure SFn where
  code : SCode
  res : List Res
  nt : Nat
  np : Nat
def Up : Nat → List Value → Env
  | _,[] => []
  | i,v :: r => (i,v) :: Up (i + 1) r
def Body (P : Program) (F : SFn) (args : List Value) (h : Heap) (Q : Value → Heap → Prop) : Prop :=
  W P F.code (Up 0 args) h fun o e h' => match o with
    | .exit _ => False
    | _ => match Un e h' F.res with
      | some vs => Q (Vv vs) h'
      | none => False
/-! ### Out of the model's code -/
def Wv : Operand → Option Arg
  | .tmp t => some (.t t)
  | .const v => bif Yx 3 v then some (.c v) else none
  | .func f => some (.c (.func (.func f) ⟨[]⟩ ⟨[]⟩))
  | .global _ => none
def Yd : List Operand → Option (List Arg)
  | [] => some []
  | x :: r => match Wv x,Yd r with
    | some a,some l => some (a :: l)
    | _,_ => none
def Vo : Option Operand → Option (Option Arg)
  | none => some none
  | some x => (Wv x).map some
def Zs (P : Program) (t : TypeId) : Option Nat := (P.info? t).map (·.size)
def byOf (P : Program) (t : TypeId) : Option Nat := (P.info? t).map (·.bytes)
def Zh (P : Program) (t : TypeId) : Option Value := match P.info? t with
  | some i => match i.zero with
    | some v => bif v.cells.toList.all (Yx 0) && v.cells.toList.all isCell && Yx 1 v then some v else none
    | none => none
  | none => none
def aggT (P : Program) (t : TypeId) : Option Bool := match P.underlying t with
  | some (.struct _) => some true
  | some (.array _ _) => some true
  | some _ => some false
  | none => none
def Zp (place : Nat → Option (Nat × Nat)) : List (Nat × Operand) → Option (List (Nat × Nat × Arg))
  | [] => some []
  | (i,x) :: r => match place i,Wv x,Zp place r with
    | some (o,s),some a,some l => some ((o,s,a) :: l)
    | _,_,_ => none
def Jh (P : Program) : List Field → Option (List (Nat × Nat))
  | [] => some []
  | f :: r => match Zs P f.type,Jh P r with
    | some s,some l => some ((f.offset,s) :: l)
    | _,_ => none
def Vz (P : Program) (k : IntKind) (t : TypeId) : Bool := match P.underlying t with
  | some (.int k') => decide (k = k')
  | _ => false
def keyT (P : Program) (t : TypeId) : Option Bool := match P.underlying t with
  | some (.int _) => some false
  | some .string => some true
  | _ => none
def Uz (P : Program) : Nat → List Field → Option (List EqF)
  | _,[] => some []
  | i,f :: r => match Uz P (i + 1) r with
    | none => none
    | some ks => bif f.name != "_" && f.offset.beq i && decide (Zs P f.type = some 1) then
      (match P.underlying f.type with
        | some (.int _) => some (.int :: ks)
        | some .bool => some (.bool :: ks)
        | some .string => some (.str :: ks)
        | _ => none) else none
def Ga (P : Program) (neg : Bool) (t : TypeId) (x y : Arg) : Option SO := match P.underlying t with
  | some (.struct fs) => bif !P.stoodInHeld t && !P.eqGuardType P.depth t then (Uz P 0 fs.toList).map fun ks => .eqs neg ks x y else none
  | _ => none
def Ul (P : Program) (op : BinOp) (t : TypeId) (x y : Arg) : Option SO :=
  match op with
  | .eql => match P.underlying t with
    | some (.int _) => some (.bin .eql x y)
    | some .string => some (.bin .eql x y)
    | some .bool => some (.eqk false .bool x y)
    | some (.pointer _) => some (.eqk false .ptr x y)
    | some (.slice _) => some (.eqk false .slice x y)
    | some (.map _ _) => some (.eqk false .map x y)
    | some (.func _ _ _) => some (.eqk false .func x y)
    | some _ => Ga P false t x y
    | none => none
  | .neq => match P.underlying t with
    | some (.int _) => some (.bin .neq x y)
    | some .string => some (.bin .neq x y)
    | some .bool => some (.eqk true .bool x y)
    | some (.pointer _) => some (.eqk true .ptr x y)
    | some (.slice _) => some (.eqk true .slice x y)
    | some (.map _ _) => some (.eqk true .map x y)
    | some (.func _ _ _) => some (.eqk true .func x y)
    | some _ => Ga P true t x y
    | none => none
  | op => some (.bin op x y)
def Zn (P : Program) (b : Builtin) (argTypes : List TypeId) (args : List Arg) : Option SO :=
  match b,argTypes,args with
  | .len,[t],[x] => match P.underlying t with
    | some .string => some (.lenS x)
    | some (.slice _) => some (.lenV x)
    | some (.map _ _) => some (.lenM x)
    | _ => none
  | .cap,[t],[x] => match P.underlying t with
    | some (.slice _) => some (.capV x)
    | _ => none
  | .append,[t,u],[s,x] => match P.underlying t,P.underlying u with
    | some (.slice e),some (.int _) => match Zs P e,byOf P e,Zh P e with
      | some n,some b,some z => bif z.cells.toList.length.beq n then some (.appZ n b z.cells.toList s x) else none
      | _,_,_ => none
    | some (.slice e),some _ => match Zs P e,byOf P e,Zh P e with
      | some n,some b,some z => bif z.cells.toList.length.beq n then some (.app n b s x) else none
      | _,_,_ => none
    | _,_ => none
  | .copy,[t,_],[d,s] => match P.underlying t with
    | some (.slice e) => match Zs P e with
      | some n => some (.copy n d s)
      | none => none
    | _ => none
  | .clear,[t],[x] => match P.underlying t with
    | some (.slice e) => match Zs P e,Zh P e with
      | some n,some z => some (.clr n z.cells.toList x)
      | _,_ => none
    | _ => none
  | .delete,[t,_],[m,k] => match P.underlying t with
    | some (.map kt _) => (keyT P kt).map fun s => .del s m k
    | _ => none
  | .max,_,[x,y] => some (.mx x y)
  | .min,_,[x,y] => some (.mn x y)
  | _,_,_ => none
def compMark (P : Program) (s d : TypeId) (x : Arg) : Option SO := bif s.beq d then (match P.underlying d with
  | some (.slice e) => bif Vz P .u8 e then some (.mark x) else none
  | _ => none) else none
def Wz (P : Program) : Op → Option SO
  | .move x => (Wv x).map .mov
  | .assign x => (Wv x).map .mov
  | .pick c a b => match Wv c,Wv a,Wv b with
    | some c,some a,some b => some (.pick c a b)
    | _,_,_ => none
  | .alloc t => (Zh P t).map fun z => .new z.cells.toList
  | .box _ x => (Wv x).map .box
  | .build t parts => match Zh P t,P.underlying t with
    | some z,some (.struct fs) => match Jh P fs.toList with
      | some ps => (Zp (ps[·]?) parts.toList).map fun l => .build z.cells.toList l
      | none => none
    | some z,some (.array _ e) => match Zs P e with
      | some s => (Zp (fun i => some (i * s,s)) parts.toList).map fun l => .build z.cells.toList l
      | none => none
    | _,_ => none
  | .buildSlice t len parts => match P.underlying t with
    | some (.slice e) => match Zs P e,Zh P e with
      | some s,some z => bif (len * s).ble 16777216 && !(s.beq 0) && z.cells.toList.length.beq s then (Zp (fun i => some (i * s,s)) parts.toList).map fun l => .bslice len s z.cells.toList l else none
      | _,_ => none
    | _ => none
  | .load t a => match Wv a,Zs P t,aggT P t with
    | some a,some n,some g => some (.ld n g a)
    | _,_,_ => none
  | .store t a x => match Wv a,Wv x,Zs P t with
    | some a,some x,some n => some (.st n a x)
    | _,_,_ => none
  | .nilCheck x => (Wv x).map .nilc
  | .binOp op t x y _ => match Wv x,Wv y with
    | some x,some y => Ul P op t x y
    | _,_ => none
  | .unOp op _ x => (Wv x).map (.un op)
  | .convert s d x => match Wv x,P.underlying s,P.underlying d with
    | some x,some (.int _),some (.int k) => some (.conv k x)
    | some x,some .string,some (.slice e) => bif Vz P .u8 e then some (.toBytes x) else none
    | some x,some (.slice e),some .string => bif Vz P .u8 e then some (.toStr x) else none
    | some x,_,_ => compMark P s d x
    | _,_,_ => none
  | .makeFunc fn a b => match Yd a.toList,Yd b.toList with
    | some a,some b => some (.mkF fn a b)
    | _,_ => none
  | .makeMap _ none => some .mkMap
  | .makeSlice t l c => match Wv l,Wv c,P.underlying t with
    | some l,some c,some (.slice e) => match Zs P e,byOf P e,Zh P e with
      | some s,some b,some z => bif !(s.beq 0) && z.cells.toList.length.beq s then some (.mkSl s b z.cells.toList l c) else none
      | _,_,_ => none
    | _,_,_ => none
  | .slice t x lo hi top => match Wv x,Vo lo,Vo hi,Vo top with
    | some x,some lo,some hi,some top => match P.underlying t with
      | some .string => match top with
        | none => some (.slS x lo hi)
        | some _ => none
      | some (.slice e) => match Zs P e with
        | some s => bif !(s.beq 0) then (match hi,top with
          | none,some _ => none
          | _,_ => some (.slV s x lo hi top)) else none
        | none => none
      | _ => none
    | _,_,_,_ => none
  | .fieldAddr t x f => match Wv x,P.underlying t with
    | some x,some (.struct fs) => match fs.toList[f]? with
      | some f => match Zs P f.type with
        | some s => bif s.beq 0 then none else some (.fa f.offset x)
        | none => none
      | none => none
    | _,_ => none
  | .field t x f => match Wv x,P.underlying t with
    | some x,some (.struct fs) => match fs.toList[f]? with
      | some f => match Zs P f.type,aggT P f.type with
        | some s,some g => some (.fld f.offset s g x)
        | _,_ => none
      | none => none
    | _,_ => none
  | .indexAddr t x i => match Wv x,Wv i,P.underlying t with
    | some x,some i,some (.array n e) => (Zs P e).map fun s => .iaA n s x i
    | some x,some i,some (.slice e) => (Zs P e).map fun s => .iaV s x i
    | _,_,_ => none
  | .index t x i => match Wv x,Wv i,P.underlying t with
    | some x,some i,some .string => some (.ixS x i)
    | some x,some i,some (.array n e) => match Zs P e,aggT P e with
      | some s,some g => some (.ixA n s g x i)
      | _,_ => none
    | _,_,_ => none
  | .lookup t m k ok => match Wv m,Wv k,P.underlying t with
    | some m,some k,some (.map kt e) => match Zh P e with
      | some z => (keyT P kt).map fun s => .look s z ok m k
      | none => none
    | _,_,_ => none
  | .mapUpdate t m k v => match Wv m,Wv k,Wv v,P.underlying t with
    | some m,some k,some v,some (.map kt _) => (keyT P kt).map fun s => .mput s m k v
    | _,_,_,_ => none
  | .insert t m k v => match Wv m,Wv k,Wv v,P.underlying t with
    | some m,some k,some v,some (.map kt _) => (keyT P kt).map fun s => .mput s m k v
    | _,_,_,_ => none
  | .extract x i => (Wv x).map fun x => .ext x i
  | .call c => match Yd c.args.toList with
    | some args => match c.callee with
      | .builtin b => Zn P b c.argTypes.toList args
      | .value (.func f) => some (.call f args)
      | .value f => (Wv f).map fun f => .callv f args
      | _ => none
    | none => none
  | .makeInterface _ _ => some .bad
  | .panic _ => some .bad
  | _ => none
def Zm (P : Program) (nt : Nat) (ops : Array Oper) (o : Oper) : Option SOp :=
  match Wz P o.op with
  | none => none
  | some so => match o.dst with
    | some d => bif d.blt nt then (match o.guard with
      | none => some ⟨some d,none,so⟩
      | some (j,b) => match (ops[j]?).bind (·.dst) with
        | some t => some ⟨some d,some (t,b),so⟩
        | none => none) else none
    | none => match o.guard with
      | none => some ⟨none,none,so⟩
      | some (j,b) => match (ops[j]?).bind (·.dst) with
        | some t => some ⟨none,some (t,b),so⟩
        | none => none
def Qo (P : Program) (nt : Nat) (ops : Array Oper) : List Oper → Option (List SOp)
  | [] => some []
  | o :: r => match Zm P nt ops o,Qo P nt ops r with
    | some s,some l => some (s :: l)
    | _,_ => none
end Go.Dx
