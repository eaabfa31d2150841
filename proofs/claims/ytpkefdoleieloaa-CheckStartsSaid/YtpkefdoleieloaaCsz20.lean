/- A deterministic reading of the model's code: the same run, told so that the kernel is quick with it. -/
import Derived.Test.YtpkefdoleieloaaCsz19
namespace Go.Dx
set_option linter.unusedVariables false
set_option linter.unusedSimpArgs false
noncomputable section
def getR (e : Env) : Nat → Option Value := List.rec (motive := fun _ => Nat → Option Value) (fun _ => none) (fun kv _ ih t => bif kv.1.beq t then some kv.2 else ih t) e
theorem Xa : getR = Env.get := by
  funext e
  induction e with
  | nil => funext t; rfl
  | cons kv r ih => funext t; obtain ⟨k,v⟩ := kv; show (bif k.beq t then some v else getR r t) = _; rw [ih]; rfl
def keepR (e : Env) (l : List Nat) : Env := List.rec (motive := fun _ => Env) [] (fun t _ ih => match getR e t with
  | some v => (t,v) :: ih
  | none => ih) l
theorem keepR_eq : keepR = Env.keep := by
  funext e l
  induction l with
  | nil => rfl
  | cons t r ih => show (match getR e t with | some v => (t,v) :: keepR e r | none => keepR e r) = _; rw [ih,Xa]; rfl
def evR (e : Env) : Arg → Option Value := fun a => Arg.casesOn (motive := fun _ => Option Value) a (getR e) some
theorem Xg : evR = fun e a => Arg.ev e a := by
  funext e a
  cases a with
  | t n => show getR e n = _; rw [Xa]; rfl
  | c v => rfl
def evsR (e : Env) (l : List Arg) : Option (List Value) := List.rec (motive := fun _ => Option (List Value)) (some []) (fun a _ ih => match evR e a with
  | some v => match ih with
    | some vs => some (v :: vs)
    | none => none
  | none => none) l
theorem Xb : evsR = evs := by
  funext e l
  induction l with
  | nil => rfl
  | cons a r ih =>
    show (match evR e a with | some v => (match evsR e r with | some vs => some (v :: vs) | none => none) | none => none) = _
    rw [ih,Xg]
    simp only [evs]
    cases a.ev e <;> cases evs e r <;> rfl
def Kx (e : Env) (l : List (Nat × Nat × Arg)) : Option (List (Nat × Nat × Value)) := List.rec (motive := fun _ => Option (List (Nat × Nat × Value))) (some []) (fun p _ ih => match evR e p.2.2 with
  | some v => match ih with
    | some vs => some ((p.1,p.2.1,v) :: vs)
    | none => none
  | none => none) l
theorem Wp : Kx = Yk := by
  funext e l
  induction l with
  | nil => rfl
  | cons p r ih =>
    obtain ⟨o,s,a⟩ := p
    show (match evR e a with | some v => (match Kx e r with | some vs => some ((o,s,v) :: vs) | none => none) | none => none) = _
    rw [ih,Xg]
    simp only [Yk]
    cases a.ev e <;> cases Yk e r <;> rfl
def Vn (e : Env) : Option Arg → Option (Option Value)
  | none => some none
  | some a => (evR e a).map some
theorem Wu : Vn = Zr := by
  funext e a
  cases a with
  | none => rfl
  | some a => show (evR e a).map some = _; rw [Xg]; rfl
def tgetR (t : Tr) : Nat → Option AObj := Tr.rec (motive := fun _ => Nat → Option AObj) (fun _ => none) (fun v _ _ l r k => bif k.beq 0 then v else bif (k % 2).beq 1 then l (k / 2) else r (k / 2 - 1)) t
theorem tgetR_eq : tgetR = Tr.get := by
  funext t
  induction t with
  | nil => funext k; rfl
  | node v l r ihl ihr =>
    funext k
    show (bif k.beq 0 then v else bif (k % 2).beq 1 then tgetR l (k / 2) else tgetR r (k / 2 - 1)) = _
    rw [ihl,ihr]; rfl
def hgetR (h : Heap) (i : Nat) : Option AObj := bif i.blt h.n0 then (h.base i).map (fun l => .cells l 0 true) else bif (i - h.n0).blt h.own then tgetR h.tr (i - h.n0) else none
theorem Wy : hgetR = Heap.get := by funext h i; unfold hgetR Heap.get; rw [tgetR_eq]
def r_mov (x : Arg) (e : Env) (h : Heap) : Option (Value × Heap) := (evR e x).map fun v => (v,h)
def r_pick (c : Arg) (a : Arg) (b : Arg) (e : Env) (h : Heap) : Option (Value × Heap) := match evR e c with
    | some (.bool true) => (evR e a).map fun v => (v,h)
    | some (.bool false) => (evR e b).map fun v => (v,h)
    | _ => none
def r_new (cells : List Value) (e : Env) (h : Heap) : Option (Value × Heap) := some (.pointer (some ⟨h.next,0,none⟩),h.add (.cells cells 0 false))
def r_box (x : Arg) (e : Env) (h : Heap) : Option (Value × Heap) := (evR e x).map fun v => (.pointer (some ⟨h.next,0,none⟩),h.add (.cells v.cells.toList 0 false))
def r_build (zero : List Value) (parts : List (Nat × Nat × Arg)) (e : Env) (h : Heap) : Option (Value × Heap) := match Kx e parts with
    | some ps => (Jk zero ps).map fun l => (.agg ⟨l⟩,h)
    | none => none
def r_bslice (len : Nat) (size : Nat) (zero : List Value) (parts : List (Nat × Nat × Arg)) (e : Env) (h : Heap) : Option (Value × Heap) := match Kx e parts with
    | some ps => (Jk (Xt zero len) ps).map fun l => (.slice (some ⟨h.next,0,none⟩) len (bif len.beq 0 then 0 else 1),h.add (.cells l size false))
    | none => none
def r_ld (n : Nat) (agg : Bool) (a : Arg) (e : Env) (h : Heap) : Option (Value × Heap) := match evR e a with
    | some p => (ldV h n agg p).map fun v => (v,h)
    | none => none
def r_st (n : Nat) (a : Arg) (x : Arg) (e : Env) (h : Heap) : Option (Value × Heap) := match evR e a,evR e x with
    | some (.pointer (some ⟨id,off,none⟩)),some v => bif v.cells.size.beq n then (wr h id off v.cells.toList).map fun h' => (Xl,h') else none
    | _,_ => none
def r_nilc (x : Arg) (e : Env) (h : Heap) : Option (Value × Heap) := match evR e x with
    | some (.pointer (some a)) => some (.pointer (some a),h)
    | some (.func (.func f) a b) => some (.func (.func f) a b,h)
    | _ => none
def r_bin (op : BinOp) (x : Arg) (y : Arg) (e : Env) (h : Heap) : Option (Value × Heap) := match evR e x,evR e y with
    | some a,some b => (binV op a b).map fun v => (v,h)
    | _,_ => none
def r_eqk (neg : Bool) (kd : EqK) (x : Arg) (y : Arg) (e : Env) (h : Heap) : Option (Value × Heap) := match evR e x,evR e y with
    | some a,some b => (eqV kd a b).map fun r => (.bool (r != neg),h)
    | _,_ => none
def r_eqs (neg : Bool) (ks : List EqF) (x : Arg) (y : Arg) (e : Env) (h : Heap) : Option (Value × Heap) := match evR e x,evR e y with
    | some (.agg ⟨a⟩),some (.agg ⟨b⟩) => (Yc ks a b).map fun r => (.bool (r != neg),h)
    | _,_ => none
def r_un (op : UnOp) (x : Arg) (e : Env) (h : Heap) : Option (Value × Heap) := match evR e x with
    | some a => (unV op a).map fun v => (v,h)
    | none => none
def r_conv (k : IntKind) (x : Arg) (e : Env) (h : Heap) : Option (Value × Heap) := match evR e x with
    | some (.int _ n) => some (.int k (k.wrap n),h)
    | _ => none
def r_toStr (x : Arg) (e : Env) (h : Heap) : Option (Value × Heap) := match evR e x with
    | some (.slice none _ _) => some (.string .empty,h)
    | some (.slice (some ⟨id,off,none⟩) len _) => bif len.beq 0 then some (.string .empty,h) else match rd h id off len with
      | some l => (Yh l).map fun bs => (.string ⟨⟨bs⟩⟩,h)
      | none => none
    | _ => none
def Gh (x : Arg) (e : Env) (h : Heap) : Option (Value × Heap) := match evR e x with
    | some (.string s) => some (.slice (some ⟨h.next,0,none⟩) s.size 1,h.add (.cells (Xu s.data.toList) 1 false))
    | _ => none
def r_mark (x : Arg) (e : Env) (h : Heap) : Option (Value × Heap) := match evR e x with
    | some (.slice (some ⟨id,off,none⟩) len cap) => bif len.beq 0 then none else match hgetR h id with
      | some (.cells _ _ false) => some (.slice (some ⟨id,off,none⟩) len cap,h)
      | _ => none
    | _ => none
def r_mkF (fn : Go.Fn) (first : List Arg) (captured : List Arg) (e : Env) (h : Heap) : Option (Value × Heap) := match evsR e first,evsR e captured with
    | some a,some b => some (.func fn ⟨a⟩ ⟨b⟩,h)
    | _,_ => none
def r_mkMap  (e : Env) (h : Heap) : Option (Value × Heap) := some (.map (some h.next),h.add (.map []))
def r_mkSl (size : Nat) (bytes : Nat) (zero : List Value) (l : Arg) (c : Arg) (e : Env) (h : Heap) : Option (Value × Heap) := match evR e l,evR e c with
    | some (.int _ l),some (.int _ c) => if 0 ≤ l ∧ l ≤ c ∧ c ≤ 1099511627776 ∧ c * bytes ≤ 1099511627776 then some (.slice (some ⟨h.next,0,none⟩) l.toNat (bif c.toNat.beq 0 then 0 else c.toNat * size + 2),h.add (.cells (Xt zero c.toNat) size false)) else none
    | _,_ => none
def r_slS (x : Arg) (lo : Option Arg) (hi : Option Arg) (e : Env) (h : Heap) : Option (Value × Heap) := match evR e x,Vn e lo,Vn e hi with
    | some (.string s),some lo,some hi => (Yz s.size s.size lo hi).map fun b => (.string (s.extract b.1 b.2),h)
    | _,_,_ => none
def r_slV (size : Nat) (x : Arg) (lo : Option Arg) (hi : Option Arg) (top : Option Arg) (e : Env) (h : Heap) : Option (Value × Heap) := match evR e x,Vn e lo,Vn e hi,Vn e top with
    | some s,some lo,some hi,some m => (slVV h size s lo hi m).map fun v => (v,h)
    | _,_,_,_ => none
def r_fa (off : Nat) (x : Arg) (e : Env) (h : Heap) : Option (Value × Heap) := match evR e x with
    | some (.pointer (some ⟨id,o,none⟩)) => some (.pointer (some ⟨id,o + off,none⟩),h)
    | _ => none
def r_fld (off : Nat) (size : Nat) (agg : Bool) (x : Arg) (e : Env) (h : Heap) : Option (Value × Heap) := match evR e x with
    | some (.agg ⟨cs⟩) => (Km cs off size agg).map fun v => (v,h)
    | _ => none
def r_iaA (n : Nat) (size : Nat) (x : Arg) (i : Arg) (e : Env) (h : Heap) : Option (Value × Heap) := match evR e x,evR e i with
    | some (.pointer (some ⟨id,off,none⟩)),some (.int _ i) => if 0 ≤ i ∧ i < n then some (.pointer (some ⟨id,off + i.toNat * size,none⟩),h) else none
    | _,_ => none
def r_iaV (size : Nat) (x : Arg) (i : Arg) (e : Env) (h : Heap) : Option (Value × Heap) := match evR e x,evR e i with
    | some (.slice (some ⟨id,off,none⟩) len _),some (.int _ i) => if 0 ≤ i ∧ i < len then some (.pointer (some ⟨id,off + i.toNat * size,none⟩),h) else none
    | _,_ => none
def r_ixS (x : Arg) (i : Arg) (e : Env) (h : Heap) : Option (Value × Heap) := match evR e x,evR e i with
    | some (.string s),some (.int _ i) => if 0 ≤ i then (s.data.toList[i.toNat]?).map fun b => (.int .u8 b.toNat,h) else none
    | _,_ => none
def r_ixA (n : Nat) (size : Nat) (agg : Bool) (x : Arg) (i : Arg) (e : Env) (h : Heap) : Option (Value × Heap) := match evR e x,evR e i with
    | some (.agg ⟨cs⟩),some (.int _ i) => if 0 ≤ i ∧ i < n then (Km cs (i.toNat * size) size agg).map fun v => (v,h) else none
    | _,_ => none
def r_look (str : Bool) (zero : Value) (ok : Bool) (m : Arg) (k : Arg) (e : Env) (h : Heap) : Option (Value × Heap) := match evR e m,evR e k with
    | some (.map none),some _ => some (okV zero false ok,h)
    | some (.map (some id)),some k => match hgetR h id with
      | some (.map es) => match Ks str k es with
        | some (some v) => some (okV v true ok,h)
        | some none => some (okV zero false ok,h)
        | none => none
      | _ => none
    | _,_ => none
def r_mput (str : Bool) (m : Arg) (k : Arg) (v : Arg) (e : Env) (h : Heap) : Option (Value × Heap) := match evR e m,evR e k,evR e v with
    | some (.map (some id)),some k,some v => match hgetR h id with
      | some (.map es) => bif Js str k then (putE str k v es).map fun es' => (Xl,h.put id (some (.map es'))) else none
      | _ => none
    | _,_,_ => none
def r_ext (x : Arg) (i : Nat) (e : Env) (h : Heap) : Option (Value × Heap) := match evR e x with
    | some (.tuple ⟨vs⟩) => (vs[i]?).map fun v => (v,h)
    | _ => none
def r_lenV (x : Arg) (e : Env) (h : Heap) : Option (Value × Heap) := match evR e x with
    | some (.slice _ n _) => some (.int .i64 n,h)
    | _ => none
def r_lenS (x : Arg) (e : Env) (h : Heap) : Option (Value × Heap) := match evR e x with
    | some (.string s) => some (.int .i64 s.size,h)
    | _ => none
def r_lenM (x : Arg) (e : Env) (h : Heap) : Option (Value × Heap) := match evR e x with
    | some (.map none) => some (.int .i64 0,h)
    | some (.map (some id)) => match hgetR h id with
      | some (.map es) => some (.int .i64 es.length,h)
      | _ => none
    | _ => none
def r_capV (x : Arg) (e : Env) (h : Heap) : Option (Value × Heap) := match evR e x with
    | some (.slice _ _ 0) => some (.int .i64 0,h)
    | some (.slice (some ⟨id,off,none⟩) _ c) => bif c.ble 1 then none else match hgetR h id with
      | some (.cells _ ez false) => bif ez.beq 0 then none else some (.int .i64 ((c - 2 - off) / ez : Nat),h)
      | _ => none
    | _ => none
def r_app (size : Nat) (bytes : Nat) (s : Arg) (x : Arg) (e : Env) (h : Heap) : Option (Value × Heap) := match evR e s,evR e x with
    | some s,some x => match Qv x with
      | some n => match Zk h size n x with
        | some xs => appL h size bytes s n xs
        | none => none
      | none => none
    | _,_ => none
def r_appZ (size : Nat) (bytes : Nat) (zero : List Value) (s : Arg) (n : Arg) (e : Env) (h : Heap) : Option (Value × Heap) := match evR e s,evR e n with
    | some s,some (.int .i64 n) => if 0 ≤ n ∧ n ≤ 1099511627776 ∧ n * bytes ≤ 1099511627776 then appL h size bytes s n.toNat (Xt zero n.toNat) else none
    | _,_ => none
def r_copy (size : Nat) (d : Arg) (s : Arg) (e : Env) (h : Heap) : Option (Value × Heap) := match evR e d,evR e s with
    | some (.slice da dn _),some s => match Qv s with
      | some sn => bif (min sn dn).beq 0 then some (.int .i64 0,h) else match da,Zk h size (min sn dn) s with
        | some ⟨id,off,none⟩,some l => (wr h id off l).map fun h' => (.int .i64 (min sn dn : Nat),h')
        | _,_ => none
      | none => none
    | _,_ => none
def r_clr (size : Nat) (zero : List Value) (x : Arg) (e : Env) (h : Heap) : Option (Value × Heap) := match evR e x with
    | some (.slice none _ _) => some (Xl,h)
    | some (.slice (some ⟨id,off,none⟩) n _) => bif n.beq 0 then some (Xl,h) else bif zero.length.beq size then (wr h id off (Xt zero n)).map fun h' => (Xl,h') else none
    | _ => none
def r_del (str : Bool) (m : Arg) (k : Arg) (e : Env) (h : Heap) : Option (Value × Heap) := match evR e m,evR e k with
    | some (.map none),some _ => some (Xl,h)
    | some (.map (some id)),some k => match hgetR h id with
      | some (.map es) => (delE str k es).map fun es' => (Xl,h.put id (some (.map es')))
      | _ => none
    | _,_ => none
def r_mx (x : Arg) (y : Arg) (e : Env) (h : Heap) : Option (Value × Heap) := match evR e x,evR e y with
    | some (.int k a),some (.int _ b) => some (.int k (if b > a then b else a),h)
    | _,_ => none
def r_mn (x : Arg) (y : Arg) (e : Env) (h : Heap) : Option (Value × Heap) := match evR e x,evR e y with
    | some (.int k a),some (.int _ b) => some (.int k (if b < a then b else a),h)
    | _,_ => none
def r_call (_x0 : Nat) (_x1 : List Arg) (e : Env) (h : Heap) : Option (Value × Heap) := none
def r_callv (_x0 : Arg) (_x1 : List Arg) (e : Env) (h : Heap) : Option (Value × Heap) := none
def r_chk (n : Nat) (agg : Bool) (a : Arg) (t : Nat) (e : Env) (h : Heap) : Option (Value × Heap) := match evR e a,getR e t with
    | some p,some v => match ldV h n agg p with
      | some u => bif Yq u v then some (Xl,h) else none
      | none => none
    | _,_ => none
def r_chkV (size : Nat) (x : Arg) (lo : Option Arg) (hi : Option Arg) (top : Option Arg) (t : Nat) (e : Env) (h : Heap) : Option (Value × Heap) := match evR e x,Vn e lo,Vn e hi,Vn e top,getR e t with
    | some s,some lo,some hi,some m,some v => match slVV h size s lo hi m with
      | some u => bif Yq u v then some (Xl,h) else none
      | none => none
    | _,_,_,_,_ => none
def r_chkS (x : Arg) (t : Nat) (e : Env) (h : Heap) : Option (Value × Heap) := match evR e x,getR e t with
    | some (.slice none _ _),some v => bif Yq (.string .empty) v then some (Xl,h) else none
    | some (.slice (some ⟨id,off,none⟩) len _),some v => bif len.beq 0 then (bif Yq (.string .empty) v then some (Xl,h) else none) else match rd h id off len with
      | some l => match Yh l with
        | some bs => bif Yq (.string ⟨⟨bs⟩⟩) v then some (Xl,h) else none
        | none => none
      | none => none
    | _,_ => none
def r_bad  (e : Env) (h : Heap) : Option (Value × Heap) := none
def runR (o : SO) : Env → Heap → Option (Value × Heap) := SO.rec (motive := fun _ => Env → Heap → Option (Value × Heap)) r_mov r_pick r_new r_box r_build r_bslice r_ld r_st r_nilc r_bin r_eqk r_eqs r_un r_conv r_toStr Gh r_mark r_mkF r_mkMap r_mkSl r_slS r_slV r_fa r_fld r_iaA r_iaV r_ixS r_ixA r_look r_mput r_ext r_lenV r_lenS r_lenM r_capV r_app r_appZ r_copy r_clr r_del r_mx r_mn r_call r_callv r_chk r_chkV r_chkS r_bad o
theorem runR_eq : runR = SO.run := by
  funext o e h
  cases o with
  | mov x => show r_mov x e h = _; unfold r_mov; first | rfl | (simp only [Xg,Xb,Wp,Wu,Wy,Xa]; rfl)
  | pick c a b => show r_pick c a b e h = _; unfold r_pick; first | rfl | (simp only [Xg,Xb,Wp,Wu,Wy,Xa]; rfl)
  | new cells => show r_new cells e h = _; unfold r_new; first | rfl | (simp only [Xg,Xb,Wp,Wu,Wy,Xa]; rfl)
  | box x => show r_box x e h = _; unfold r_box; first | rfl | (simp only [Xg,Xb,Wp,Wu,Wy,Xa]; rfl)
  | build zero parts => show r_build zero parts e h = _; unfold r_build; first | rfl | (simp only [Xg,Xb,Wp,Wu,Wy,Xa]; rfl)
  | bslice len size zero parts => show r_bslice len size zero parts e h = _; unfold r_bslice; first | rfl | (simp only [Xg,Xb,Wp,Wu,Wy,Xa]; rfl)
  | ld n agg a => show r_ld n agg a e h = _; unfold r_ld; first | rfl | (simp only [Xg,Xb,Wp,Wu,Wy,Xa]; rfl)
  | st n a x => show r_st n a x e h = _; unfold r_st; first | rfl | (simp only [Xg,Xb,Wp,Wu,Wy,Xa]; rfl)
  | nilc x => show r_nilc x e h = _; unfold r_nilc; first | rfl | (simp only [Xg,Xb,Wp,Wu,Wy,Xa]; rfl)
  | bin op x y => show r_bin op x y e h = _; unfold r_bin; first | rfl | (simp only [Xg,Xb,Wp,Wu,Wy,Xa]; rfl)
  | eqk neg kd x y => show r_eqk neg kd x y e h = _; unfold r_eqk; first | rfl | (simp only [Xg,Xb,Wp,Wu,Wy,Xa]; rfl)
  | eqs neg ks x y => show r_eqs neg ks x y e h = _; unfold r_eqs; first | rfl | (simp only [Xg,Xb,Wp,Wu,Wy,Xa]; rfl)
  | un op x => show r_un op x e h = _; unfold r_un; first | rfl | (simp only [Xg,Xb,Wp,Wu,Wy,Xa]; rfl)
  | conv k x => show r_conv k x e h = _; unfold r_conv; first | rfl | (simp only [Xg,Xb,Wp,Wu,Wy,Xa]; rfl)
  | toStr x => show r_toStr x e h = _; unfold r_toStr; first | rfl | (simp only [Xg,Xb,Wp,Wu,Wy,Xa]; rfl)
  | toBytes x => show Gh x e h = _; unfold Gh; first | rfl | (simp only [Xg,Xb,Wp,Wu,Wy,Xa]; rfl)
  | mark x => show r_mark x e h = _; unfold r_mark; first | rfl | (simp only [Xg,Xb,Wp,Wu,Wy,Xa]; rfl)
  | mkF fn first captured => show r_mkF fn first captured e h = _; unfold r_mkF; first | rfl | (simp only [Xg,Xb,Wp,Wu,Wy,Xa]; rfl)
  | mkMap  => show r_mkMap  e h = _; unfold r_mkMap; first | rfl | (simp only [Xg,Xb,Wp,Wu,Wy,Xa]; rfl)
  | mkSl size bytes zero l c => show r_mkSl size bytes zero l c e h = _; unfold r_mkSl; first | rfl | (simp only [Xg,Xb,Wp,Wu,Wy,Xa]; rfl)
  | slS x lo hi => show r_slS x lo hi e h = _; unfold r_slS; first | rfl | (simp only [Xg,Xb,Wp,Wu,Wy,Xa]; rfl)
  | slV size x lo hi top => show r_slV size x lo hi top e h = _; unfold r_slV; first | rfl | (simp only [Xg,Xb,Wp,Wu,Wy,Xa]; rfl)
  | fa off x => show r_fa off x e h = _; unfold r_fa; first | rfl | (simp only [Xg,Xb,Wp,Wu,Wy,Xa]; rfl)
  | fld off size agg x => show r_fld off size agg x e h = _; unfold r_fld; first | rfl | (simp only [Xg,Xb,Wp,Wu,Wy,Xa]; rfl)
  | iaA n size x i => show r_iaA n size x i e h = _; unfold r_iaA; first | rfl | (simp only [Xg,Xb,Wp,Wu,Wy,Xa]; rfl)
  | iaV size x i => show r_iaV size x i e h = _; unfold r_iaV; first | rfl | (simp only [Xg,Xb,Wp,Wu,Wy,Xa]; rfl)
  | ixS x i => show r_ixS x i e h = _; unfold r_ixS; first | rfl | (simp only [Xg,Xb,Wp,Wu,Wy,Xa]; rfl)
  | ixA n size agg x i => show r_ixA n size agg x i e h = _; unfold r_ixA; first | rfl | (simp only [Xg,Xb,Wp,Wu,Wy,Xa]; rfl)
  | look str zero ok m k => show r_look str zero ok m k e h = _; unfold r_look; first | rfl | (simp only [Xg,Xb,Wp,Wu,Wy,Xa]; rfl)
  | mput str m k v => show r_mput str m k v e h = _; unfold r_mput; first | rfl | (simp only [Xg,Xb,Wp,Wu,Wy,Xa]; rfl)
  | ext x i => show r_ext x i e h = _; unfold r_ext; first | rfl | (simp only [Xg,Xb,Wp,Wu,Wy,Xa]; rfl)
  | lenV x => show r_lenV x e h = _; unfold r_lenV; first | rfl | (simp only [Xg,Xb,Wp,Wu,Wy,Xa]; rfl)
  | lenS x => show r_lenS x e h = _; unfold r_lenS; first | rfl | (simp only [Xg,Xb,Wp,Wu,Wy,Xa]; rfl)
  | lenM x => show r_lenM x e h = _; unfold r_lenM; first | rfl | (simp only [Xg,Xb,Wp,Wu,Wy,Xa]; rfl)
  | capV x => show r_capV x e h = _; unfold r_capV; first | rfl | (simp only [Xg,Xb,Wp,Wu,Wy,Xa]; rfl)
  | app size bytes s x => show r_app size bytes s x e h = _; unfold r_app; first | rfl | (simp only [Xg,Xb,Wp,Wu,Wy,Xa]; rfl)
  | appZ size bytes zero s n => show r_appZ size bytes zero s n e h = _; unfold r_appZ; first | rfl | (simp only [Xg,Xb,Wp,Wu,Wy,Xa]; rfl)
  | copy size d s => show r_copy size d s e h = _; unfold r_copy; first | rfl | (simp only [Xg,Xb,Wp,Wu,Wy,Xa]; rfl)
  | clr size zero x => show r_clr size zero x e h = _; unfold r_clr; first | rfl | (simp only [Xg,Xb,Wp,Wu,Wy,Xa]; rfl)
  | del str m k => show r_del str m k e h = _; unfold r_del; first | rfl | (simp only [Xg,Xb,Wp,Wu,Wy,Xa]; rfl)
  | mx x y => show r_mx x y e h = _; unfold r_mx; first | rfl | (simp only [Xg,Xb,Wp,Wu,Wy,Xa]; rfl)
  | mn x y => show r_mn x y e h = _; unfold r_mn; first | rfl | (simp only [Xg,Xb,Wp,Wu,Wy,Xa]; rfl)
  | call _x0 _x1 => show r_call _x0 _x1 e h = _; unfold r_call; first | rfl | (simp only [Xg,Xb,Wp,Wu,Wy,Xa]; rfl)
  | callv _x0 _x1 => show r_callv _x0 _x1 e h = _; unfold r_callv; first | rfl | (simp only [Xg,Xb,Wp,Wu,Wy,Xa]; rfl)
  | chk n agg a t => show r_chk n agg a t e h = _; unfold r_chk; first | rfl | (simp only [Xg,Xb,Wp,Wu,Wy,Xa]; rfl)
  | chkV size x lo hi top t => show r_chkV size x lo hi top t e h = _; unfold r_chkV; first | rfl | (simp only [Xg,Xb,Wp,Wu,Wy,Xa]; rfl)
  | chkS x t => show r_chkS x t e h = _; unfold r_chkS; first | rfl | (simp only [Xg,Xb,Wp,Wu,Wy,Xa]; rfl)
  | bad  => show r_bad  e h = _; unfold r_bad; first | rfl | (simp only [Xg,Xb,Wp,Wu,Wy,Xa]; rfl)
def wantedR (o : SOp) (e : Env) : Option Bool := match o.guard with
  | none => some true
  | some (t,b) => match getR e t with
    | some (.bool c) => some (c == b)
    | some (.tuple ⟨[]⟩) => some false
    | _ => none
theorem wantedR_eq : wantedR = SOp.wanted := by funext o e; unfold wantedR SOp.wanted; rw [Xa]; rfl
def execR (D : Ql) (o : SOp) (e : Env) (h : Heap) (K : Env → Heap → Option (Env × Heap)) : Option (Env × Heap) := match o.op.asCall with
  | some (f,args) => match evR e f,evsR e args with
    | some (.func (.func f) ⟨a⟩ ⟨b⟩),some vs => match D f (a ++ vs ++ b) h with
      | some (v,h') => K (e.put o.dst v) h'
      | none => none
    | _,_ => none
  | none => match runR o.op e h with
    | some (v,h') => K (e.put o.dst v) h'
    | none => none
def opsR (D : Ql) (l : List SOp) : Env → Heap → Option (Env × Heap) := List.rec (motive := fun _ => Env → Heap → Option (Env × Heap)) (fun e h => some (e,h)) (fun o _ ih e h => match wantedR o e with
  | none => none
  | some false => ih (e.put o.dst Xl) h
  | some true => execR D o e h ih) l
theorem opsR_eq (D : Ql) : opsR D = Dops D := by
  funext l
  induction l with
  | nil => rfl
  | cons o r ih =>
    funext e h
    show (match wantedR o e with | none => none | some false => opsR D r (e.put o.dst Xl) h | some true => execR D o e h (opsR D r)) = _
    rw [wantedR_eq,ih]
    unfold execR
    simp only [Dops,Xg,Xb,runR_eq]
    cases o.wanted e with
    | none => rfl
    | some b => cases b <;> rfl
def iterR (R : Env → Heap → Option (Out × Env × Heap)) (n : Nat) : Env → Heap → Option (Out × Env × Heap) := Nat.rec (motive := fun _ => Env → Heap → Option (Out × Env × Heap)) (fun _ _ => none) (fun _ ih e h => match R e h with
  | some (.normal,e',h') => ih e' h'
  | r => r) n
theorem iterR_eq (R : Env → Heap → Option (Out × Env × Heap)) : iterR R = Diter R := by
  funext n
  induction n with
  | zero => rfl
  | succ n ih =>
    funext e h
    show (match R e h with | some (.normal,e',h') => iterR R n e' h' | r => r) = _
    rw [ih]; rfl
abbrev CR := Env → Heap → Option (Out × Env × Heap)
def c_region (D : Ql) (ops : List SOp) (keep : List Nat) : CR := fun e h => match opsR D ops e h with
  | some (e',h') => some (.normal,keepR e' keep,h')
  | none => none
def c_seq (a b : CR) : CR := fun e h => match a e h with
  | some (.normal,e',h') => b e' h'
  | r => r
def c_cond (c : Arg) (a b : CR) : CR := fun e h => match evR e c with
  | some (.bool true) => a e h
  | some (.bool false) => b e h
  | _ => none
def c_block (id : Nat) (a : CR) : CR := fun e h => match a e h with
  | some (.exit i,e',h') => bif i.beq id then some (.normal,e',h') else some (.exit i,e',h')
  | r => r
def Gb (D : Ql) (n : Nat) (c : SCode) : CR := SCode.rec (motive := fun _ => CR) (fun e h => some (.normal,e,h)) (fun ops keep => c_region D ops keep) (fun _ _ => c_seq) (fun c _ _ => c_cond c) (fun id _ => c_block id) (fun _ r => iterR r n) (fun id e h => some (.exit id,e,h)) (fun e h => some (.ret,e,h)) c
theorem codeR_eq (D : Ql) (n : Nat) : Gb D n = Qm D n := by
  funext c
  induction c with
  | skip => rfl
  | region ops keep => funext e h; show c_region D ops keep e h = _; unfold c_region; rw [opsR_eq,keepR_eq]; rfl
  | seq a b iha ihb => funext e h; show c_seq (Gb D n a) (Gb D n b) e h = _; rw [iha,ihb]; rfl
  | cond c a b iha ihb => funext e h; show c_cond c (Gb D n a) (Gb D n b) e h = _; rw [iha,ihb]; unfold c_cond; rw [Xg]; rfl
  | block id a ih => funext e h; show c_block id (Gb D n a) e h = _; rw [ih]; rfl
  | loop a ih => funext e h; show iterR (Gb D n a) n e h = _; rw [ih,iterR_eq]; rfl
  | exit id => rfl
  | ret => rfl
def lookR (T : List (Nat × SFn)) (f : Nat) : Option SFn := List.rec (motive := fun _ => Option SFn) none (fun x _ ih => bif x.1.beq f then some x.2 else ih) T
theorem lookR_eq : lookR = Ve := by
  funext T f
  induction T with
  | nil => rfl
  | cons x T ih => obtain ⟨k,F⟩ := x; show (bif k.beq f then some F else lookR T f) = _; rw [ih]; rfl
def fnR (T : List (Nat × SFn)) (n : Nat) : Ql := Nat.rec (motive := fun _ => Ql) (fun _ _ _ => none) (fun n D f args h => match lookR T f with
  | none => none
  | some F => bif args.length.ble F.nt then (match Gb D n F.code (Up 0 args) h with
    | some (.exit _,_,_) => none
    | some (_,e',h') => match Un e' h' F.res with
      | some vs => some (Vv vs,h')
      | none => none
    | none => none) else none) n
theorem fnR_eq (T : List (Nat × SFn)) : fnR T = Dfn T := by
  funext n
  induction n with
  | zero => rfl
  | succ n ih =>
    funext f args h
    show (match lookR T f with | none => none | some F => bif args.length.ble F.nt then (match Gb (fnR T n) n F.code (Up 0 args) h with | some (.exit _,_,_) => none | some (_,e',h') => (match Un e' h' F.res with | some vs => some (Vv vs,h') | none => none) | none => none) else none) = _
    rw [ih,lookR_eq]
    simp only [codeR_eq]
    rfl
end
section
variable {P : Program} {T : List (Nat × SFn)}
end
end Go.Dx
