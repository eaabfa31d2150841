/- A deterministic reading of the model's code: code with three ways on: behind it, out of a block, back. -/
import Derived.Test.YtpkefdoleieloaaCsz26
namespace Go.Dx
set_option linter.unusedVariables false
set_option linter.unusedSimpArgs false
abbrev Kn := Env → Heap → Prop
def K3 (kn : Kn) (kx : Nat → Kn) (kr : Kn) : Out → Env → Heap → Prop
  | .normal => kn
  | .exit i => kx i
  | .ret => kr
def bx (id : Nat) (kn : Kn) (kx : Nat → Kn) : Nat → Kn := fun i e h => if i = id then kn e h else kx i e h
section
variable {P : Program} {kn kr : Kn} {kx : Nat → Kn} {e : Env} {h : Heap}
theorem Xp {id : Nat} (hk : kn e h) : bx id kn kx id e h := by unfold bx; rw [if_pos rfl]; exact hk
theorem W_of3 {c : SCode} {Q : Out → Env → Heap → Prop} (hw : W P c e h (K3 kn kx kr)) (hn : ∀ e h,kn e h → Q .normal e h) (hx : ∀ i e h,kx i e h → Q (.exit i) e h) (hr : ∀ e h,kr e h → Q .ret e h) : W P c e h Q :=
  W.mono hw fun o e h q => match o with
    | .normal => hn e h q
    | .exit i => hx i e h q
    | .ret => hr e h q
def Ws (res : List Res) (Q : Value → Heap → Prop) : Kn := fun e h => ∃ vs,Un e h res = some vs ∧ Q (Vv vs) h
theorem Ws.mk {res : List Res} {Q : Value → Heap → Prop} (vs : List Value) (hv : Un e h res = some vs) (hq : Q (Vv vs) h) : Ws res Q e h := ⟨vs,hv,hq⟩
theorem fnK {f : Nat} {F : SFn} (hF : FOk P f F) {args : List Value} {Q : Value → Heap → Prop} (hlen : Nat.ble args.length F.nt = true) (hb : W P F.code (Up 0 args) h (K3 (Ws F.res Q) (fun _ _ _ => False) (Ws F.res Q))) : Fn P f args h Q := by
  refine fn_of_body hF (Nat.le_of_ble_eq_true hlen) ?_
  refine W_of3 hb (fun e h q => ?_) (fun i e h q => q) (fun e h q => ?_)
  · obtain ⟨vs,h1,h2⟩ := q; simp only [h1]; exact h2
  · obtain ⟨vs,h1,h2⟩ := q; simp only [h1]; exact h2
theorem K_seq {a b : SCode} (hw : W P a e h (K3 (fun e h => W P b e h (K3 kn kx kr)) kx kr)) : W P (.seq a b) e h (K3 kn kx kr) := by
  unfold W
  refine W.mono hw ?_
  intro o e h q
  cases o <;> exact q
theorem Xc {a b c : SCode} (hw : W P (.seq a (.seq b c)) e h (K3 kn kx kr)) : W P (.seq (.seq a b) c) e h (K3 kn kx kr) := by
  unfold W at hw ⊢
  unfold W
  refine W.mono hw ?_
  intro o e h q
  cases o with
  | normal => unfold W at q; refine W.mono q ?_; intro o e h q; cases o <;> exact q
  | exit i => exact q
  | ret => exact q
def KW (P : Program) (b : SCode) (Q : Out → Env → Heap → Prop) (keep : List Nat) : Kn := fun e h => W P b (e.keep keep) h Q
def KL (kn : Kn) (keep : List Nat) : Kn := fun e h => kn (e.keep keep) h
theorem Wd {ops : List SOp} {keep : List Nat} {b : SCode} (hw : Xd P ops e h (KW P b (K3 kn kx kr) keep)) : W P (.seq (.region ops keep) b) e h (K3 kn kx kr) := K_seq hw
theorem Wl {ops : List SOp} {keep : List Nat} (hw : Xd P ops e h (KL kn keep)) : W P (.region ops keep) e h (K3 kn kx kr) := hw
theorem Wc {keep : List Nat} {b : SCode} {Q : Out → Env → Heap → Prop} (e2 : Env) (hk : e.keep keep = e2) (hq : W P b e2 h Q) : Xd P [] e h (KW P b Q keep) := by
  show W P b (e.keep keep) h Q
  rw [hk]; exact hq
theorem Wk {keep : List Nat} (e2 : Env) (hk : e.keep keep = e2) (hq : kn e2 h) : Xd P [] e h (KL kn keep) := by
  show kn (e.keep keep) h
  rw [hk]; exact hq
theorem Ya (hq : kn e h) : W P .skip e h (K3 kn kx kr) := hq
theorem Xo (hq : kr e h) : W P .ret e h (K3 kn kx kr) := hq
theorem Wr {b : SCode} (hw : W P b e h (K3 kn kx kr)) : W P (.seq .skip b) e h (K3 kn kx kr) := K_seq hw
theorem Yo {b : SCode} (hq : kr e h) : W P (.seq .ret b) e h (K3 kn kx kr) := K_seq hq
theorem Xn {i : Nat} {b : SCode} (hq : kx i e h) : W P (.seq (.exit i) b) e h (K3 kn kx kr) := K_seq hq
theorem Wn {c : Arg} {a b : SCode} {t : Bool} (hc : c.ev e = some (.bool t)) (ha : t = true → W P a e h (K3 kn kx kr)) (hb : t = false → W P b e h (K3 kn kx kr)) : W P (.cond c a b) e h (K3 kn kx kr) := W_cond hc ha hb
theorem Wo {c : Arg} {a b d : SCode} {t : Bool} (hc : c.ev e = some (.bool t)) (ha : t = true → W P (.seq a d) e h (K3 kn kx kr)) (hb : t = false → W P (.seq b d) e h (K3 kn kx kr)) : W P (.seq (.cond c a b) d) e h (K3 kn kx kr) := by
  refine K_seq (W_cond hc (fun q => ?_) (fun q => ?_))
  · have := ha q; unfold W at this; exact W.mono this fun o e h q => by cases o <;> exact q
  · have := hb q; unfold W at this; exact W.mono this fun o e h q => by cases o <;> exact q
theorem Zo {a d : SCode} (M : Kn) (ha : W P a e h (K3 M kx kr)) (hm : ∀ e h,M e h → W P d e h (K3 kn kx kr)) : W P (.seq a d) e h (K3 kn kx kr) :=
  K_seq (W_of3 ha (fun e h q => hm e h q) (fun i e h q => q) (fun e h q => q))
theorem Ze {id : Nat} {c : SCode} (hw : W P c e h (K3 kn (bx id kn kx) kr)) : W P (.block id c) e h (K3 kn kx kr) := by
  unfold W
  refine W.mono hw ?_
  intro o e h q
  cases o with
  | normal => exact q
  | exit i => exact q
  | ret => exact q
theorem Wt {id : Nat} {c d : SCode} (hw : W P c e h (K3 (fun e h => W P d e h (K3 kn kx kr)) (bx id (fun e h => W P d e h (K3 kn kx kr)) kx) kr)) : W P (.seq (.block id c) d) e h (K3 kn kx kr) := K_seq (Ze hw)
theorem Xy {c : SCode} (S : Nat → Kn) (step : ∀ k e h,S k e h → W P c e h (K3 (fun e' h' => ∃ j,j < k ∧ S j e' h') kx kr)) {k : Nat} (h0 : S k e h) : W P (.loop c) e h (K3 kn kx kr) :=
  W_loop S (fun k e h q => W.mono (step k e h q) fun o e h r => by cases o <;> exact r) h0
end
end Go.Dx
