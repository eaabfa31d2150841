/- A deterministic reading of the model's code (definitions): an abstract heap, operations with their types worked out, a weakest-precondition reading of code. -/
import Derived.Calls
import Derived.Orders
import Derived.LoopN
namespace Go.Dx
set_option linter.unusedVariables false
set_option linter.unusedSimpArgs false
/-! ### The abstract heap -/
inductive AObj where
  | cells (vs : List Value) (esz : Nat) (ro : Bool)
  | map (es : List (Value × Value))
def AObj.rw : AObj → Bool
  | .cells _ _ ro => !ro
  | .map _ => true
inductive Tr where
  | nil
  | node (v : Option AObj) (l r : Tr)
def Tr.get : Tr → Nat → Option AObj
  | .nil,_ => none
  | .node v l r,k => bif k.beq 0 then v else bif (k % 2).beq 1 then l.get (k / 2) else r.get (k / 2 - 1)
def Tr.set : Nat → Tr → Nat → Option AObj → Tr
  | 0,t,_,_ => t
  | f + 1,.nil,k,o => bif k.beq 0 then .node o .nil .nil else bif (k % 2).beq 1 then .node none (Tr.set f .nil (k / 2) o) .nil else .node none .nil (Tr.set f .nil (k / 2 - 1) o)
  | f + 1,.node v l r,k,o => bif k.beq 0 then .node o l r else bif (k % 2).beq 1 then .node v (Tr.set f l (k / 2) o) r else .node v l (Tr.set f r (k / 2 - 1) o)
theorem Tr.get_set : ∀ (f : Nat) (t : Tr) (k j : Nat) (o : Option AObj),k < f → (Tr.set f t k o).get j = if j = k then o else t.get j := by
  intro f
  induction f with
  | zero => intro t k j o h; omega
  | succ f ih =>
    intro t k j o h
    have e0 : ∀ n m : Nat,n.beq m = decide (n = m) := fun n m => by
      cases hb : n.beq m with
      | true => simp [Nat.eq_of_beq_eq_true hb]
      | false => simp [Nat.ne_of_beq_eq_false hb]
    cases t with
    | nil =>
      simp only [Tr.set,e0]
      by_cases hk : k = 0
      · subst hk; simp only [decide_true,cond_true,Tr.get,e0]
        by_cases hj : j = 0 <;> simp [hj]
      · simp only [hk,decide_false,cond_false]
        by_cases ho : k % 2 = 1
        · simp only [ho,decide_true,cond_true,Tr.get,e0]
          by_cases hj : j = 0
          · subst hj; rw [if_neg (by omega)]; simp
          · by_cases hjo : j % 2 = 1
            · simp only [hj,hjo,decide_true,decide_false,cond_true,cond_false]
              rw [ih _ _ _ _ (by omega)]
              by_cases he : j = k
              · simp [he]
              · rw [if_neg (by omega),if_neg he]; rfl
            · simp only [hj,hjo,decide_false,cond_false]
              rw [if_neg (by intro e; subst e; exact hjo ho)]
        · simp only [ho,decide_false,cond_false,Tr.get,e0]
          by_cases hj : j = 0
          · subst hj; rw [if_neg (by omega)]; simp
          · by_cases hjo : j % 2 = 1
            · simp only [hj,hjo,decide_true,decide_false,cond_true,cond_false]
              rw [if_neg (by intro e; subst e; exact ho hjo)]
            · simp only [hj,hjo,decide_false,cond_false]
              rw [ih _ _ _ _ (by omega)]
              by_cases he : j = k
              · simp [he]
              · rw [if_neg (by omega),if_neg he]; rfl
    | node v l r =>
      simp only [Tr.set,e0]
      by_cases hk : k = 0
      · subst hk; simp only [decide_true,cond_true,Tr.get,e0]
        by_cases hj : j = 0 <;> simp [hj]
      · simp only [hk,decide_false,cond_false]
        by_cases ho : k % 2 = 1
        · simp only [ho,decide_true,cond_true,Tr.get,e0]
          by_cases hj : j = 0
          · subst hj; rw [if_neg (by omega)]; simp
          · by_cases hjo : j % 2 = 1
            · simp only [hj,hjo,decide_true,decide_false,cond_true,cond_false]
              rw [ih _ _ _ _ (by omega)]
              by_cases he : j = k
              · simp [he]
              · rw [if_neg (by omega),if_neg he]
            · simp only [hj,hjo,decide_false,cond_false]
              rw [if_neg (by intro e; subst e; exact hjo ho)]
        · simp only [ho,decide_false,cond_false,Tr.get,e0]
          by_cases hj : j = 0
          · subst hj; rw [if_neg (by omega)]; simp
          · by_cases hjo : j % 2 = 1
            · simp only [hj,hjo,decide_true,decide_false,cond_true,cond_false]
              rw [if_neg (by intro e; subst e; exact ho hjo)]
            · simp only [hj,hjo,decide_false,cond_false]
              rw [ih _ _ _ _ (by omega)]
              by_cases he : j = k
              · simp [he]
              · rw [if_neg (by omega),if_neg he]
structure Heap where
  base : Nat → Option (List Value)
  n0 : Nat
  tr : Tr
  own : Nat
def Heap.next (h : Heap) : Nat := h.n0 + h.own
def Heap.get (h : Heap) (i : Nat) : Option AObj :=
  bif i.blt h.n0 then (h.base i).map (fun l => .cells l 0 true) else bif (i - h.n0).blt h.own then h.tr.get (i - h.n0) else none
def Heap.put (h : Heap) (i : Nat) (o : Option AObj) : Heap :=
  bif i.blt h.n0 then h else bif (i - h.n0).blt h.own then { h with tr := Tr.set (i - h.n0 + 1) h.tr (i - h.n0) o } else h
def Heap.add (h : Heap) (o : AObj) : Heap := { h with tr := Tr.set (h.own + 1) h.tr h.own (some o),own := h.own + 1 }
theorem Zq (a b : Nat) : a.blt b = decide (a < b) := by
  have e : (a.blt b = true) = (a < b) := Nat.blt_eq
  by_cases h : a < b
  · rw [← e] at h; rw [h]; simp only [e] at h; simp [h]
  · have h2 : ¬ a.blt b = true := by rw [e]; exact h
    simp only [Bool.not_eq_true] at h2; rw [h2]; simp [h]
theorem Heap.next_put (h : Heap) (i : Nat) (o : Option AObj) : (h.put i o).next = h.next := by
  unfold Heap.put Heap.next
  cases i.blt h.n0 <;> simp
  cases (i - h.n0).blt h.own <;> simp
theorem Heap.next_add (h : Heap) (o : AObj) : (h.add o).next = h.next + 1 := rfl
theorem Heap.get_none {h : Heap} {i : Nat} (hi : h.next ≤ i) : h.get i = none := by
  unfold Heap.get Heap.next at *
  rw [Zq,Zq]
  have h1 : ¬ i < h.n0 := by omega
  have h2 : ¬ i - h.n0 < h.own := by omega
  simp [h1,h2]
theorem Heap.get_lt {h : Heap} {i : Nat} {o : AObj} (hi : h.get i = some o) : i < h.next := by
  rcases Nat.lt_or_ge i h.next with h1 | h1
  · exact h1
  · rw [Heap.get_none h1] at hi; cases hi
theorem Heap.own_of_rw {h : Heap} {i : Nat} {o : AObj} (hi : h.get i = some o) (hr : o.rw = true) : h.n0 ≤ i ∧ i < h.next := by
  refine ⟨?_,Heap.get_lt hi⟩
  rcases Nat.lt_or_ge i h.n0 with h1 | h1
  · unfold Heap.get at hi
    rw [Zq] at hi
    simp [h1] at hi
    obtain ⟨l,_,rfl⟩ := hi; simp [AObj.rw] at hr
  · exact h1
theorem Heap.get_put {h : Heap} {i : Nat} {o : AObj} (hi : h.get i = some o) (hr : o.rw = true) (x : Option AObj) (j : Nat) :
    (h.put i x).get j = if j = i then x else h.get j := by
  obtain ⟨h1,h2⟩ := Heap.own_of_rw hi hr
  unfold Heap.next at h2
  unfold Heap.put Heap.get
  have e1 : i.blt h.n0 = false := by rw [Zq]; simp; omega
  have e2 : (i - h.n0).blt h.own = true := by rw [Zq]; simp; omega
  rw [e1,e2]
  simp only [cond_true,cond_false]
  rw [Tr.get_set _ _ _ _ _ (by omega)]
  rw [Zq,Zq]
  by_cases hj : j < h.n0
  · rw [if_neg (show ¬ j = i by omega)]; simp [hj]
  · by_cases he : j = i
    · rw [if_pos he,if_pos (by omega)]
      have : j - h.n0 < h.own := by omega
      simp [hj,this]
    · rw [if_neg he,if_neg (show ¬ j - h.n0 = i - h.n0 by omega)]
theorem Heap.get_add (h : Heap) (o : AObj) (j : Nat) : (h.add o).get j = if j = h.next then some o else h.get j := by
  unfold Heap.add Heap.get Heap.next
  simp only
  rw [Tr.get_set _ _ _ _ _ (by omega),Zq,Zq,Zq]
  by_cases hj : j < h.n0
  · rw [if_neg (show ¬ j = h.n0 + h.own by omega)]; simp [hj]
  · by_cases he : j = h.n0 + h.own
    · rw [if_pos (show j - h.n0 = h.own by omega),if_pos he]
      have : j - h.n0 < h.own + 1 := by omega
      simp [hj,this]
    · rw [if_neg he]
      by_cases h3 : j - h.n0 < h.own
      · have : j - h.n0 < h.own + 1 := by omega
        have h4 : ¬ j - h.n0 = h.own := by omega
        simp [hj,h3,this,h4]
      · have : ¬ j - h.n0 < h.own + 1 := by omega
        simp [hj,h3,this]
/-! ### The environment: the slots that matter -/
abbrev Env := List (Nat × Value)
def Env.get : Env → Nat → Option Value
  | [],_ => none
  | (k,v) :: r,t => bif k.beq t then some v else Env.get r t
def Env.keep (e : Env) : List Nat → Env
  | [] => []
  | t :: r => match e.get t with
    | some v => (t,v) :: Env.keep e r
    | none => Env.keep e r
def Env.put (e : Env) : Option Nat → Value → Env
  | some t,v => (t,v) :: e
  | none,_ => e
inductive Arg where
  | t (n : Nat)
  | c (v : Value)
def Arg.ev (e : Env) : Arg → Option Value
  | .t n => e.get n
  | .c v => some v
def evs (e : Env) : List Arg → Option (List Value)
  | [] => some []
  | a :: r => match a.ev e,evs e r with
    | some v,some vs => some (v :: vs)
    | _,_ => none
/-! ### Operations, with their types worked out -/
inductive EqK where
  | bool | ptr | slice | map | func
inductive EqF where
  | int | bool | str
inductive SO where
  | mov (x : Arg)
  | pick (c a b : Arg)
  | new (cells : List Value)
  | box (x : Arg)
  | build (zero : List Value) (parts : List (Nat × Nat × Arg))
  | bslice (len size : Nat) (zero : List Value) (parts : List (Nat × Nat × Arg))
  | ld (n : Nat) (agg : Bool) (a : Arg)
  | st (n : Nat) (a x : Arg)
  | nilc (x : Arg)
  | bin (op : BinOp) (x y : Arg)
  | eqk (neg : Bool) (kd : EqK) (x y : Arg)
  | eqs (neg : Bool) (ks : List EqF) (x y : Arg)
  | un (op : UnOp) (x : Arg)
  | conv (k : IntKind) (x : Arg)
  | toStr (x : Arg)
  | toBytes (x : Arg)
  | mark (x : Arg)
  | mkF (fn : Fn) (first captured : List Arg)
  | mkMap
  | mkSl (size bytes : Nat) (zero : List Value) (l c : Arg)
  | slS (x : Arg) (lo hi : Option Arg)
  | slV (size : Nat) (x : Arg) (lo hi mx : Option Arg)
  | fa (off : Nat) (x : Arg)
  | fld (off size : Nat) (agg : Bool) (x : Arg)
  | iaA (n size : Nat) (x i : Arg)
  | iaV (size : Nat) (x i : Arg)
  | ixS (x i : Arg)
  | ixA (n size : Nat) (agg : Bool) (x i : Arg)
  | look (str : Bool) (zero : Value) (ok : Bool) (m k : Arg)
  | mput (str : Bool) (m k v : Arg)
  | ext (x : Arg) (i : Nat)
  | lenV (x : Arg)
  | lenS (x : Arg)
  | lenM (x : Arg)
  | capV (x : Arg)
  | app (size bytes : Nat) (s x : Arg)
  | appZ (size bytes : Nat) (zero : List Value) (s n : Arg)
  | copy (size : Nat) (d s : Arg)
  | clr (size : Nat) (zero : List Value) (x : Arg)
  | del (str : Bool) (m k : Arg)
  | mx (x y : Arg)
  | mn (x y : Arg)
  | call (f : Nat) (args : List Arg)
  | callv (f : Arg) (args : List Arg)
  | chk (n : Nat) (agg : Bool) (a : Arg) (t : Nat)
  | chkV (size : Nat) (x : Arg) (lo hi mx : Option Arg) (t : Nat)
  | chkS (x : Arg) (t : Nat)
  | bad
structure SOp where
  dst : Option Nat
  guard : Option (Nat × Bool)
  op : SO
def Yx : Nat → Value → Bool
  | _,.bool _ => true
  | _,.int _ _ => true
  | _,.string _ => true
  | _,.pointer none => true
  | _,.slice none 0 0 => true
  | _,.map none => true
  | _,.nilFunc => true
  | _,.nilIface => true
  | _,.func _ ⟨[]⟩ ⟨[]⟩ => true
  | n + 1,.agg ⟨cs⟩ => cs.all (Yx n)
  | n + 1,.tuple ⟨cs⟩ => cs.all (Yx n)
  | _,_ => false
def isCell : Value → Bool
  | .agg _ => false
  | .tuple _ => false
  | _ => true
def putL : List Value → Nat → List Value → List Value
  | l,_,[] => l
  | l,i,v :: vs => putL (l.set i v) (i + 1) vs
def Jk (cells : List Value) : List (Nat × Nat × Value) → Option (List Value)
  | [] => some cells
  | (off,size,v) :: r => bif v.cells.size.beq size && (off + size).ble cells.length then Jk (putL cells off v.cells.toList) r else none
def Yk (e : Env) : List (Nat × Nat × Arg) → Option (List (Nat × Nat × Value))
  | [] => some []
  | (o,s,a) :: r => match a.ev e,Yk e r with
    | some v,some vs => some ((o,s,v) :: vs)
    | _,_ => none
def Xt (zero : List Value) : Nat → List Value
  | 0 => []
  | n + 1 => zero ++ Xt zero n
def rd (h : Heap) (id off n : Nat) : Option (List Value) := match h.get id with
  | some (.cells vs _ _) => bif (off + n).ble vs.length then some ((vs.drop off).take n) else none
  | _ => none
def ldV (h : Heap) (n : Nat) (agg : Bool) : Value → Option Value
  | .pointer (some ⟨id,off,none⟩) => match agg with
    | true => (rd h id off n).map fun l => .agg ⟨l⟩
    | false => match h.get id with
      | some (.cells vs _ _) => vs[off]?
      | _ => none
  | _ => none
def wr (h : Heap) (id off : Nat) (l : List Value) : Option Heap := match h.get id with
  | some (.cells vs e false) => bif (off + l.length).ble vs.length && l.all isCell then some (h.put id (some (.cells (putL vs off l) e false))) else none
  | _ => none
def intV (k : IntKind) (a b : Int) : BinOp → Option Value
  | .add => some (.int k (k.wrap (a + b)))
  | .sub => some (.int k (k.wrap (a - b)))
  | .mul => some (.int k (k.wrap (a * b)))
  | .quo => if b = 0 then none else some (.int k (k.wrap (a.tdiv b)))
  | .rem => if b = 0 then none else some (.int k (a.tmod b))
  | .and => some (.int k (k.wrap ((BitVec.ofInt k.bits a &&& BitVec.ofInt k.bits b).toNat)))
  | .or => some (.int k (k.wrap ((BitVec.ofInt k.bits a ||| BitVec.ofInt k.bits b).toNat)))
  | .xor => some (.int k (k.wrap ((BitVec.ofInt k.bits a ^^^ BitVec.ofInt k.bits b).toNat)))
  | .andNot => some (.int k (k.wrap ((BitVec.ofInt k.bits a &&& ~~~ BitVec.ofInt k.bits b).toNat)))
  | .eql => some (.bool (a == b))
  | .neq => some (.bool (a != b))
  | .lss => some (.bool (a < b))
  | .leq => some (.bool (a ≤ b))
  | .gtr => some (.bool (a > b))
  | .geq => some (.bool (a ≥ b))
  | _ => none
def strV (x y : ByteArray) : BinOp → Option Value
  | .add => if ((x.size + y.size : Nat) : Int) > IntKind.i64.max then none else some (.string (x ++ y))
  | .eql => some (.bool (x.toList == y.toList))
  | .neq => some (.bool !(x.toList == y.toList))
  | .lss => some (.bool (Op.bytesLess x.toList y.toList))
  | .leq => some (.bool (Op.bytesLess x.toList y.toList || x.toList == y.toList))
  | .gtr => some (.bool !(Op.bytesLess x.toList y.toList || x.toList == y.toList))
  | .geq => some (.bool !(Op.bytesLess x.toList y.toList))
  | _ => none
def eqV : EqK → Value → Value → Option Bool
  | .bool,.bool a,.bool b => some (a == b)
  | .ptr,.pointer none,.pointer b => some b.isNone
  | .ptr,.pointer (some _),.pointer none => some false
  | .slice,.slice none _ _,.slice b _ _ => some b.isNone
  | .slice,.slice (some _) _ _,.slice none _ _ => some false
  | .map,.map none,.map b => some b.isNone
  | .map,.map (some _),.map none => some false
  | .func,.nilFunc,.nilFunc => some true
  | .func,.nilFunc,.func _ _ _ => some false
  | .func,.func _ _ _,.nilFunc => some false
  | _,_,_ => none
def binV (op : BinOp) (x y : Value) : Option Value := match op,x,y with
  | .shl,.int k a,.int _ b => if b < 0 then none else some (.int k (k.wrap (a * 2 ^ (min b.toNat k.bits))))
  | .shr,.int k a,.int _ b => if b < 0 then none else some (.int k (a.fdiv (2 ^ (min b.toNat k.bits))))
  | op,.int k a,.int k' b => if k = k' then intV k a b op else none
  | op,.string a,.string b => strV a b op
  | _,_,_ => none
def Yc : List EqF → List Value → List Value → Option Bool
  | [],[],[] => some true
  | .int :: ks,.int k a :: x,.int k' b :: y => if k = k' then (Yc ks x y).map (fun r => a == b && r) else none
  | .bool :: ks,.bool a :: x,.bool b :: y => (Yc ks x y).map (fun r => a == b && r)
  | .str :: ks,.string a :: x,.string b :: y => (Yc ks x y).map (fun r => a == b && r)
  | _,_,_ => none
def unV : UnOp → Value → Option Value
  | .neg,.int k n => some (.int k (k.wrap (0 - n)))
  | .xor,.int k n => some (.int k (k.wrap ((BitVec.ofInt k.bits (if k.signed then -1 else k.max) ^^^ BitVec.ofInt k.bits n).toNat)))
  | .not,.bool b => some (.bool !b)
  | _,_ => none
def Ur (m : Nat) : Value → Option Nat
  | .int _ i => if 0 ≤ i ∧ i ≤ m then some i.toNat else none
  | _ => none
def Zr (e : Env) : Option Arg → Option (Option Value)
  | none => some none
  | some a => (a.ev e).map some
def hiOf (len room : Nat) : Option Value → Option Nat
  | some v => Ur room v
  | none => some len
def Gj (h : Nat) : Option Value → Option Nat
  | some v => Ur h v
  | none => some 0
def Yz (len room : Nat) (lo hi : Option Value) : Option (Nat × Nat) :=
  match hiOf len room hi with
  | none => none
  | some h => match Gj h lo with
    | none => none
    | some l => some (l,h)
def Jy (h : Heap) (size : Nat) : Value → Bool
  | .slice none _ _ => true
  | .slice (some ⟨id,_,none⟩) _ cap => cap.beq 0 || match h.get id with
    | some (.cells _ e ro) => ro || e.beq 0 || e.beq size
    | _ => false
  | _ => false
def Uv (h : Heap) (size : Nat) (a : Option Addr) (len cap : Nat) : Nat := match a with
  | some ⟨id,off,none⟩ => bif cap.beq 0 || size.beq 0 then len else match h.get id with
    | some (.cells vs e false) => bif e.beq size then (bif len.ble ((vs.length - off) / size) then (vs.length - off) / size else len) else len
    | _ => len
  | _ => len
def tipOf (h : Heap) (size m : Nat) (a : Option Addr) (cap : Nat) : Bool := match a with
  | some ⟨id,off,none⟩ => bif cap.beq 0 || size.beq 0 then false else match h.get id with
    | some (.cells vs e false) => bif e.beq size then vs.length.ble (off + m * size) else false
    | _ => false
  | _ => false
def capM (cap : Nat) : Nat := bif cap.ble 1 then cap else 1
def slB (h : Heap) (size : Nat) (a : Option Addr) (len cap : Nat) (lo hi : Option Value) : Option (Nat × Nat) := match Yz len len lo hi with
  | some b => some b
  | none => Yz len (Uv h size a len cap) lo hi
def slVV (h : Heap) (size : Nat) (s : Value) (lo hi mx : Option Value) : Option Value := match s with
  | .slice a len cap => bif !Jy h size s then none else
    match mx with
    | none => (slB h size a len cap lo hi).map fun b => .slice (a.map fun p => { p with off := p.off + b.1 * size }) (b.2 - b.1) cap
    | some m => match Ur len m with
      | none => none
      | some m => match Yz len m lo hi with
        | none => none
        | some b => bif (m - b.1).beq 0 then some (.slice (a.map fun p => { p with off := p.off + b.1 * size }) (b.2 - b.1) 0) else
          bif tipOf h size m a cap then some (.slice (a.map fun p => { p with off := p.off + b.1 * size }) (b.2 - b.1) (capM cap)) else none
  | _ => none
def Xu : List UInt8 → List Value
  | [] => []
  | b :: r => .int .u8 b.toNat :: Xu r
def Zk (h : Heap) (size n : Nat) : Value → Option (List Value)
  | .slice none _ _ => some []
  | .slice (some ⟨id,off,none⟩) _ _ => bif n.beq 0 then some [] else rd h id off (n * size)
  | .string s => some (Xu (s.data.toList.take n))
  | _ => none
def Qv : Value → Option Nat
  | .slice _ n _ => some n
  | .string s => some s.size
  | _ => none
def appL (h : Heap) (size bytes : Nat) (s : Value) (n : Nat) (new : List Value) : Option (Value × Heap) := match s with
  | .slice a len cap =>
    bif n.beq 0 then some (s,h) else
    bif !((len + n) * bytes).ble 1099511627776 || !(len + n).ble 1099511627776 || !(new.length.beq (n * size)) then none else
    match a with
    | none => some (.slice (some ⟨h.next,0,none⟩) n 1,h.add (.cells new size false))
    | some ⟨id,off,none⟩ =>
      match Zk h size len s with
      | none => none
      | some old =>
        bif cap.beq 0 then some (.slice (some ⟨h.next,0,none⟩) (len + n) 1,h.add (.cells (old ++ new) size false)) else
        match h.get id with
        | some (.cells vs e false) =>
          bif !(e.beq size) || size.beq 0 then none else
          bif (off + (len + n) * size).ble vs.length then
            (wr h id (off + len * size) new).map fun h' => (.slice a (len + n) cap,h')
          else bif new.all isCell then
            let h' := h.put id none
            some (.slice (some ⟨h'.next,0,none⟩) (len + n) 1,h'.add (.cells (old ++ new) size false))
          else none
        | _ => none
    | _ => none
  | _ => none
def Vr (str : Bool) (x y : Value) : Option Bool := match str,x,y with
  | false,.int k a,.int k' b => if k = k' then some (a == b) else none
  | true,.string a,.string b => some (a == b)
  | _,_,_ => none
def Js (str : Bool) : Value → Bool
  | .int _ _ => !str
  | .string _ => str
  | _ => false
def Ks (str : Bool) (k : Value) : List (Value × Value) → Option (Option Value)
  | [] => some none
  | (k',v) :: r => match Vr str k k' with
    | some true => some (some v)
    | some false => Ks str k r
    | none => none
def putE (str : Bool) (k v : Value) : List (Value × Value) → Option (List (Value × Value))
  | [] => some [(k,v)]
  | (k',v') :: r => match Vr str k k' with
    | some true => some ((k,v) :: r)
    | some false => (putE str k v r).map ((k',v') :: ·)
    | none => none
def delE (str : Bool) (k : Value) : List (Value × Value) → Option (List (Value × Value))
  | [] => some []
  | (k',v') :: r => match Vr str k k' with
    | some true => some r
    | some false => (delE str k r).map ((k',v') :: ·)
    | none => none
def Ys : Value → Value → Bool
  | .bool a,.bool b => a == b
  | .int k a,.int k' b => decide (k = k') && decide (a = b)
  | .pointer none,.pointer none => true
  | .pointer (some ⟨a,i,none⟩),.pointer (some ⟨b,j,none⟩) => a.beq b && i.beq j
  | .slice none 0 0,.slice none 0 0 => true
  | .slice (some ⟨a,i,none⟩) n c,.slice (some ⟨b,j,none⟩) m d => a.beq b && i.beq j && n.beq m && c.beq d
  | .map none,.map none => true
  | .map (some a),.map (some b) => a.beq b
  | .nilFunc,.nilFunc => true
  | .string a,.string b => decide (a = b)
  | _,_ => false
def Qb : List Value → List Value → Bool
  | [],[] => true
  | a :: x,b :: y => Ys a b && Qb x y
  | _,_ => false
def Yq : Value → Value → Bool
  | .agg ⟨a⟩,.agg ⟨b⟩ => Qb a b
  | a,b => Ys a b
def Yh : List Value → Option (List UInt8)
  | [] => some []
  | .int .u8 n :: r => (Yh r).map (UInt8.ofNat n.toNat :: ·)
  | _ => none
def Xl : Value := .tuple #[]
def Km (cs : List Value) (off n : Nat) : Bool → Option Value
  | true => bif (off + n).ble cs.length then some (.agg ⟨(cs.drop off).take n⟩) else none
  | false => cs[off]?
def okV (v : Value) (b : Bool) : Bool → Value
  | true => .tuple ⟨[v,.bool b]⟩
  | false => v
def SO.run (o : SO) (e : Env) (h : Heap) : Option (Value × Heap) :=
  match o with
  | .mov x => (x.ev e).map fun v => (v,h)
  | .pick c a b => match c.ev e with
    | some (.bool true) => (a.ev e).map fun v => (v,h)
    | some (.bool false) => (b.ev e).map fun v => (v,h)
    | _ => none
  | .new cells => some (.pointer (some ⟨h.next,0,none⟩),h.add (.cells cells 0 false))
  | .box x => (x.ev e).map fun v => (.pointer (some ⟨h.next,0,none⟩),h.add (.cells v.cells.toList 0 false))
  | .build zero parts => match Yk e parts with
    | some ps => (Jk zero ps).map fun l => (.agg ⟨l⟩,h)
    | none => none
  | .bslice len size zero parts => match Yk e parts with
    | some ps => (Jk (Xt zero len) ps).map fun l => (.slice (some ⟨h.next,0,none⟩) len (bif len.beq 0 then 0 else 1),h.add (.cells l size false))
    | none => none
  | .ld n agg a => match a.ev e with
    | some p => (ldV h n agg p).map fun v => (v,h)
    | none => none
  | .st n a x => match a.ev e,x.ev e with
    | some (.pointer (some ⟨id,off,none⟩)),some v => bif v.cells.size.beq n then (wr h id off v.cells.toList).map fun h' => (Xl,h') else none
    | _,_ => none
  | .nilc x => match x.ev e with
    | some (.pointer (some a)) => some (.pointer (some a),h)
    | some (.func (.func f) a b) => some (.func (.func f) a b,h)
    | _ => none
  | .bin op x y => match x.ev e,y.ev e with
    | some a,some b => (binV op a b).map fun v => (v,h)
    | _,_ => none
  | .eqk neg kd x y => match x.ev e,y.ev e with
    | some a,some b => (eqV kd a b).map fun r => (.bool (r != neg),h)
    | _,_ => none
  | .eqs neg ks x y => match x.ev e,y.ev e with
    | some (.agg ⟨a⟩),some (.agg ⟨b⟩) => (Yc ks a b).map fun r => (.bool (r != neg),h)
    | _,_ => none
  | .un op x => match x.ev e with
    | some a => (unV op a).map fun v => (v,h)
    | none => none
  | .conv k x => match x.ev e with
    | some (.int _ n) => some (.int k (k.wrap n),h)
    | _ => none
  | .toStr x => match x.ev e with
    | some (.slice none _ _) => some (.string .empty,h)
    | some (.slice (some ⟨id,off,none⟩) len _) => bif len.beq 0 then some (.string .empty,h) else match rd h id off len with
      | some l => (Yh l).map fun bs => (.string ⟨⟨bs⟩⟩,h)
      | none => none
    | _ => none
  | .toBytes x => match x.ev e with
    | some (.string s) => some (.slice (some ⟨h.next,0,none⟩) s.size 1,h.add (.cells (Xu s.data.toList) 1 false))
    | _ => none
  | .mark x => match x.ev e with
    | some (.slice (some ⟨id,off,none⟩) len cap) => bif len.beq 0 then none else match h.get id with
      | some (.cells _ _ false) => some (.slice (some ⟨id,off,none⟩) len cap,h)
      | _ => none
    | _ => none
  | .mkF fn first captured => match evs e first,evs e captured with
    | some a,some b => some (.func fn ⟨a⟩ ⟨b⟩,h)
    | _,_ => none
  | .mkMap => some (.map (some h.next),h.add (.map []))
  | .mkSl size bytes zero l c => match l.ev e,c.ev e with
    | some (.int _ l),some (.int _ c) => if 0 ≤ l ∧ l ≤ c ∧ c ≤ 1099511627776 ∧ c * bytes ≤ 1099511627776 then some (.slice (some ⟨h.next,0,none⟩) l.toNat (bif c.toNat.beq 0 then 0 else c.toNat * size + 2),h.add (.cells (Xt zero c.toNat) size false)) else none
    | _,_ => none
  | .slS x lo hi => match x.ev e,Zr e lo,Zr e hi with
    | some (.string s),some lo,some hi => (Yz s.size s.size lo hi).map fun b => (.string (s.extract b.1 b.2),h)
    | _,_,_ => none
  | .slV size x lo hi top => match x.ev e,Zr e lo,Zr e hi,Zr e top with
    | some s,some lo,some hi,some m => (slVV h size s lo hi m).map fun v => (v,h)
    | _,_,_,_ => none
  | .fa off x => match x.ev e with
    | some (.pointer (some ⟨id,o,none⟩)) => some (.pointer (some ⟨id,o + off,none⟩),h)
    | _ => none
  | .fld off size agg x => match x.ev e with
    | some (.agg ⟨cs⟩) => (Km cs off size agg).map fun v => (v,h)
    | _ => none
  | .iaA n size x i => match x.ev e,i.ev e with
    | some (.pointer (some ⟨id,off,none⟩)),some (.int _ i) => if 0 ≤ i ∧ i < n then some (.pointer (some ⟨id,off + i.toNat * size,none⟩),h) else none
    | _,_ => none
  | .iaV size x i => match x.ev e,i.ev e with
    | some (.slice (some ⟨id,off,none⟩) len _),some (.int _ i) => if 0 ≤ i ∧ i < len then some (.pointer (some ⟨id,off + i.toNat * size,none⟩),h) else none
    | _,_ => none
  | .ixS x i => match x.ev e,i.ev e with
    | some (.string s),some (.int _ i) => if 0 ≤ i then (s.data.toList[i.toNat]?).map fun b => (.int .u8 b.toNat,h) else none
    | _,_ => none
  | .ixA n size agg x i => match x.ev e,i.ev e with
    | some (.agg ⟨cs⟩),some (.int _ i) => if 0 ≤ i ∧ i < n then (Km cs (i.toNat * size) size agg).map fun v => (v,h) else none
    | _,_ => none
  | .look str zero ok m k => match m.ev e,k.ev e with
    | some (.map none),some _ => some (okV zero false ok,h)
    | some (.map (some id)),some k => match h.get id with
      | some (.map es) => match Ks str k es with
        | some (some v) => some (okV v true ok,h)
        | some none => some (okV zero false ok,h)
        | none => none
      | _ => none
    | _,_ => none
  | .mput str m k v => match m.ev e,k.ev e,v.ev e with
    | some (.map (some id)),some k,some v => match h.get id with
      | some (.map es) => bif Js str k then (putE str k v es).map fun es' => (Xl,h.put id (some (.map es'))) else none
      | _ => none
    | _,_,_ => none
  | .ext x i => match x.ev e with
    | some (.tuple ⟨vs⟩) => (vs[i]?).map fun v => (v,h)
    | _ => none
  | .lenV x => match x.ev e with
    | some (.slice _ n _) => some (.int .i64 n,h)
    | _ => none
  | .lenS x => match x.ev e with
    | some (.string s) => some (.int .i64 s.size,h)
    | _ => none
  | .lenM x => match x.ev e with
    | some (.map none) => some (.int .i64 0,h)
    | some (.map (some id)) => match h.get id with
      | some (.map es) => some (.int .i64 es.length,h)
      | _ => none
    | _ => none
  | .capV x => match x.ev e with
    | some (.slice _ _ 0) => some (.int .i64 0,h)
    | some (.slice (some ⟨id,off,none⟩) _ c) => bif c.ble 1 then none else match h.get id with
      | some (.cells _ ez false) => bif ez.beq 0 then none else some (.int .i64 ((c - 2 - off) / ez : Nat),h)
      | _ => none
    | _ => none
  | .app size bytes s x => match s.ev e,x.ev e with
    | some s,some x => match Qv x with
      | some n => match Zk h size n x with
        | some xs => appL h size bytes s n xs
        | none => none
      | none => none
    | _,_ => none
  | .appZ size bytes zero s n => match s.ev e,n.ev e with
    | some s,some (.int .i64 n) => if 0 ≤ n ∧ n ≤ 1099511627776 ∧ n * bytes ≤ 1099511627776 then appL h size bytes s n.toNat (Xt zero n.toNat) else none
    | _,_ => none
  | .copy size d s => match d.ev e,s.ev e with
    | some (.slice da dn _),some s => match Qv s with
      | some sn => bif (min sn dn).beq 0 then some (.int .i64 0,h) else match da,Zk h size (min sn dn) s with
        | some ⟨id,off,none⟩,some l => (wr h id off l).map fun h' => (.int .i64 (min sn dn : Nat),h')
        | _,_ => none
      | none => none
    | _,_ => none
  | .clr size zero x => match x.ev e with
    | some (.slice none _ _) => some (Xl,h)
    | some (.slice (some ⟨id,off,none⟩) n _) => bif n.beq 0 then some (Xl,h) else bif zero.length.beq size then (wr h id off (Xt zero n)).map fun h' => (Xl,h') else none
    | _ => none
  | .del str m k => match m.ev e,k.ev e with
    | some (.map none),some _ => some (Xl,h)
    | some (.map (some id)),some k => match h.get id with
      | some (.map es) => (delE str k es).map fun es' => (Xl,h.put id (some (.map es')))
      | _ => none
    | _,_ => none
  | .mx x y => match x.ev e,y.ev e with
    | some (.int k a),some (.int _ b) => some (.int k (if b > a then b else a),h)
    | _,_ => none
  | .mn x y => match x.ev e,y.ev e with
    | some (.int k a),some (.int _ b) => some (.int k (if b < a then b else a),h)
    | _,_ => none
  | .chk n agg a t => match a.ev e,e.get t with
    | some p,some v => match ldV h n agg p with
      | some u => bif Yq u v then some (Xl,h) else none
      | none => none
    | _,_ => none
  | .chkV size x lo hi top t => match x.ev e,Zr e lo,Zr e hi,Zr e top,e.get t with
    | some s,some lo,some hi,some m,some v => match slVV h size s lo hi m with
      | some u => bif Yq u v then some (Xl,h) else none
      | none => none
    | _,_,_,_,_ => none
  | .chkS x t => match x.ev e,e.get t with
    | some (.slice none _ _),some v => bif Yq (.string .empty) v then some (Xl,h) else none
    | some (.slice (some ⟨id,off,none⟩) len _),some v => bif len.beq 0 then (bif Yq (.string .empty) v then some (Xl,h) else none) else match rd h id off len with
      | some l => match Yh l with
        | some bs => bif Yq (.string ⟨⟨bs⟩⟩) v then some (Xl,h) else none
        | none => none
      | none => none
    | _,_ => none
  | .bad => none
  | .call _ _ => none
  | .callv _ _ => none
def SO.asCall : SO → Option (Arg × List Arg)
  | .call f args => some (.c (.func (.func f) ⟨[]⟩ ⟨[]⟩),args)
  | .callv f args => some (f,args)
  | _ => none
def SOp.wanted (o : SOp) (e : Env) : Option Bool := match o.guard with
  | none => some true
  | some (t,b) => match e.get t with
    | some (.bool c) => some (c == b)
    | some (.tuple ⟨[]⟩) => some false
    | _ => none
end Go.Dx
