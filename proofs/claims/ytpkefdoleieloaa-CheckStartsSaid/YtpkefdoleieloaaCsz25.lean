/- A deterministic reading of the model's code: what slices hold, to be read and to be appended to. -/
import Derived.Test.YtpkefdoleieloaaCsz24
namespace Go.Dx
set_option linter.unusedVariables false
set_option linter.unusedSimpArgs false
def At (h : Heap) (i : Nat) (o : AObj) : Prop := h.get i = some o
theorem At.ext {S : Nat → Prop} {h h' : Heap} {i : Nat} {o : AObj} (a : At h i o) (x : Ext S h h') (hn : ¬ S i := by exact fun q => q) : At h' i o := x.some a hn
theorem At.lt {h : Heap} {i : Nat} {o : AObj} (a : At h i o) : i < h.next := Heap.get_lt a
def Blk (a : Option Addr) (i : Nat) : Prop := ∃ p,a = some p ∧ p.block = i
theorem Blk.none {i : Nat} : ¬ Blk Option.none i := fun ⟨_,q,_⟩ => by cases q
theorem Blk.some {p : Addr} {i : Nat} : Blk (Option.some p) i ↔ p.block = i := ⟨fun ⟨_,q,r⟩ => by cases q; exact r,fun r => ⟨p,rfl,r⟩⟩
structure SlA (h : Heap) (sz : Nat) (a : Option Addr) (n c : Nat) (l : List Value) : Prop where
  len : l.length = n * sz
  nil : a = none → n = 0 ∧ c = 0
  spot : ∀ p,a = some p → p.spot = none
  ok : Jy h sz (.slice a n c) = true
  get : ∀ p,a = some p → n = 0 ∨ rd h p.block p.off (n * sz) = some l
theorem slOk_ext {S : Nat → Prop} {h h' : Heap} (x : Ext S h h') {sz n c : Nat} {a : Option Addr} (hn : ∀ i,Blk a i → ¬ S i) (ho : Jy h sz (.slice a n c) = true) : Jy h' sz (.slice a n c) = true := by
  unfold Jy at ho ⊢
  split at ho
  · rfl
  · rename_i id off l cap heq
    cases heq
    cases hcb : c.beq 0 with
    | true => rfl
    | false =>
      rw [hcb,Bool.false_or] at ho
      rw [Bool.false_or]
      cases hg : h.get id with
      | none => rw [hg] at ho; cases ho
      | some o => rw [x.some hg (hn id ⟨_,rfl,rfl⟩)]; rw [hg] at ho; exact ho
  · cases ho
theorem SlA.ext {S : Nat → Prop} {h h' : Heap} {sz n c : Nat} {a : Option Addr} {l : List Value} (s : SlA h sz a n c l) (x : Ext S h h') (hn : ∀ i,Blk a i → ¬ S i := by exact fun _ _ q => q) : SlA h' sz a n c l :=
  ⟨s.len,s.nil,s.spot,slOk_ext x hn s.ok,fun p hp => (s.get p hp).imp id fun q => rd_ext x q (hn _ ⟨p,hp,rfl⟩)⟩
theorem SlA.none {h : Heap} {sz : Nat} : SlA h sz none 0 0 [] := ⟨by simp,fun _ => ⟨rfl,rfl⟩,fun _ q => (by cases q),rfl,fun _ q => (by cases q)⟩
theorem SlA.mk' {h : Heap} {sz id off n c e : Nat} {vs : List Value} {ro : Bool} (g : At h id (.cells vs e ro)) (hl : off + n * sz ≤ vs.length) (ho : ro = true ∨ e = 0 ∨ e = sz) : SlA h sz (some ⟨id,off,.none⟩) n c ((vs.drop off).take (n * sz)) := by
  refine ⟨by simp; omega,fun q => (by cases q),fun p q => (by cases q; rfl),?_,fun p q => (by cases q; exact .inr (rd_mk g hl))⟩
  unfold Jy
  have g' : h.get id = some (.cells vs e ro) := g
  simp only [g']
  rcases ho with rfl | rfl | rfl
  · simp
  · simp
  · simp
theorem SlA.at {h : Heap} {sz n c : Nat} {a : Option Addr} {l : List Value} (s : SlA h sz a n c l) (hn : 0 < n) : ∃ id off vs e ro,a = some ⟨id,off,.none⟩ ∧ At h id (.cells vs e ro) ∧ off + n * sz ≤ vs.length ∧ l = (vs.drop off).take (n * sz) ∧ ∀ i,i < n * sz → vs[off + i]? = l[i]? := by
  cases a with
  | none => have := s.nil rfl; omega
  | some p =>
    obtain ⟨id,off,sp⟩ := p
    obtain rfl : sp = .none := s.spot _ rfl
    rcases s.get _ rfl with q | q
    · omega
    · obtain ⟨vs,e,ro,h1,h2,h3⟩ := rd_some q
      refine ⟨id,off,vs,e,ro,rfl,h1,h2,h3,fun i hi => ?_⟩
      rw [h3,List.getElem?_take_of_lt hi,List.getElem?_drop]
theorem SlA.first {h : Heap} {sz n c : Nat} {a : Option Addr} {l : List Value} (s : SlA h sz a n c l) : Zk h sz n (.slice a n c) = some l := by
  cases a with
  | none =>
    have := s.nil rfl
    have hl := s.len
    rw [this.1] at hl
    have : l = [] := List.eq_nil_of_length_eq_zero (by simpa using hl)
    subst this; rfl
  | some p =>
    obtain ⟨id,off,sp⟩ := p
    obtain rfl : sp = .none := s.spot _ rfl
    unfold Zk
    by_cases h0 : n = 0
    · subst h0
      have : l = [] := List.eq_nil_of_length_eq_zero (by simpa using s.len)
      subst this; rfl
    · have hb : n.beq 0 = false := by rw [Ww]; simp [h0]
      simp only [hb,cond_false]
      rcases s.get _ rfl with q | q
      · omega
      · exact q
structure OwS (h : Heap) (sz : Nat) (a : Option Addr) (n c : Nat) (l : List Value) : Prop where
  len : l.length = n * sz
  ex : (a = none ∧ n = 0 ∧ c = 0) ∨ ∃ id off vs,a = some ⟨id,off,.none⟩ ∧ At h id (.cells vs sz false) ∧ off + n * sz ≤ vs.length ∧ (vs.drop off).take (n * sz) = l
theorem OwS.none {h : Heap} {sz : Nat} : OwS h sz none 0 0 [] := ⟨by simp,.inl ⟨rfl,rfl,rfl⟩⟩
theorem OwS.ext {S : Nat → Prop} {h h' : Heap} {sz n c : Nat} {a : Option Addr} {l : List Value} (s : OwS h sz a n c l) (x : Ext S h h') (hn : ∀ i,Blk a i → ¬ S i := by exact fun _ _ q => q) : OwS h' sz a n c l :=
  ⟨s.len,s.ex.imp id fun ⟨id,off,vs,h1,h2,h3,h4⟩ => ⟨id,off,vs,h1,h2.ext x (hn id ⟨_,h1,rfl⟩),h3,h4⟩⟩
theorem OwS.sl {h : Heap} {sz n c : Nat} {a : Option Addr} {l : List Value} (s : OwS h sz a n c l) : SlA h sz a n c l := by
  rcases s.ex with ⟨rfl,rfl,rfl⟩ | ⟨id,off,vs,rfl,h2,h3,h4⟩
  · have : l = [] := List.eq_nil_of_length_eq_zero (by simpa using s.len)
    subst this; exact SlA.none
  · rw [← h4]; exact SlA.mk' h2 h3 (.inr (.inr rfl))
theorem OwS.lt {h : Heap} {sz n c : Nat} {a : Option Addr} {l : List Value} (s : OwS h sz a n c l) {i : Nat} (hi : Blk a i) : i < h.next := by
  rcases s.ex with ⟨rfl,rfl,rfl⟩ | ⟨id,off,vs,rfl,h2,h3,h4⟩
  · exact absurd hi Blk.none
  · rw [Blk.some] at hi; subst hi; exact h2.lt
theorem OwS.new {h : Heap} {sz n c i : Nat} {l : List Value} (g : At h i (.cells l sz false)) (hl : l.length = n * sz) : OwS h sz (some ⟨i,0,.none⟩) n c l :=
  ⟨hl,.inr ⟨i,0,l,rfl,g,by omega,by simp [← hl]⟩⟩
theorem putL_take : ∀ (new vs : List Value) (k : Nat),k + new.length ≤ vs.length → (putL vs k new).take (k + new.length) = vs.take k ++ new
  | [],vs,k,_ => by simp [putL]
  | v :: new,vs,k,hk => by
    simp only [List.length_cons] at hk
    have ih := putL_take new (vs.set k v) (k + 1) (by simp; omega)
    simp only [putL,List.length_cons]
    rw [show k + (new.length + 1) = k + 1 + new.length by omega,ih]
    rw [List.take_add_one,List.getElem?_set_self (by omega),List.take_set_of_le (Nat.le_refl k)]
    simp
section
variable {P : Program} {d : Option Nat} {r : List SOp} {e : Env} {h : Heap} {Q : Env → Heap → Prop}
theorem appL_own {sz bytes n c m : Nat} {a : Option Addr} {l new : List Value} (o : OwS h sz a n c l) (hb : (n + m) * bytes ≤ 1099511627776) (hb2 : n + m ≤ 1099511627776) (hn : new.length = m * sz) (hc : new.all isCell = true) (hz : 0 < sz) :
    ∃ h' a' c',appL h sz bytes (.slice a n c) m new = some (.slice a' (n + m) c',h') ∧ Ext (Blk a) h h' ∧ OwS h' sz a' (n + m) c' (l ++ new) ∧ (∀ i,Blk a' i → Blk a i ∨ h.next ≤ i) := by
  by_cases hm : m = 0
  · subst hm
    have : new = [] := List.eq_nil_of_length_eq_zero (by simpa using hn)
    subst this
    exact ⟨h,a,c,rfl,Ext.refl _ _,by simpa using o,fun i q => .inl q⟩
  have hmb : m.beq 0 = false := by rw [Ww]; simp [hm]
  have h1 : ((n + m) * bytes).ble 1099511627776 = true := Nat.ble_eq_true_of_le hb
  have h2 : (n + m).ble 1099511627776 = true := Nat.ble_eq_true_of_le hb2
  have h3 : new.length.beq (m * sz) = true := by rw [Ww]; simp [hn]
  have hlen : (l ++ new).length = (n + m) * sz := by rw [List.length_append,o.len,hn,Nat.add_mul]
  rcases o.ex with ⟨rfl,rfl,rfl⟩ | ⟨id,off,vs,rfl,g,hv,hl⟩
  · have : l = [] := List.eq_nil_of_length_eq_zero (by simpa using o.len)
    subst this
    refine ⟨h.add (.cells new sz false),some ⟨h.next,0,.none⟩,1,?_,(Ext.add _ _).of0,?_,?_⟩
    · unfold appL
      simp only [hmb,h1,h2,h3,cond_false,Bool.not_true,Bool.or_self]
      simp
    · simpa using OwS.new (c := 1) (show At (h.add (.cells new sz false)) h.next _ from Jw _ _) (by simpa using hlen)
    · intro i q; rw [Blk.some] at q; exact .inr (by simpa using Nat.le_of_eq q)
  · have hf : Zk h sz n (.slice (some ⟨id,off,.none⟩) n c) = some l := o.sl.first
    cases hc0 : c.beq 0 with
    | true =>
      refine ⟨h.add (.cells (l ++ new) sz false),some ⟨h.next,0,.none⟩,1,?_,(Ext.add _ _).of0,OwS.new (show At _ h.next _ from Jw _ _) hlen,?_⟩
      · unfold appL
        simp only [hmb,h1,h2,h3,cond_false,cond_true,Bool.not_true,Bool.or_self,hf,hc0]
      · intro i q; rw [Blk.some] at q; exact .inr (by simpa using Nat.le_of_eq q)
    | false =>
      have hzb : sz.beq 0 = false := by rw [Ww]; simp; omega
      have hszb : sz.beq sz = true := Nat.beq_refl _
      have e1 : n * sz + m * sz = (n + m) * sz := by rw [Nat.add_mul]
      have hat : h.get id = some (.cells vs sz false) := g
      cases hfit : (off + (n + m) * sz).ble vs.length with
      | true =>
        have hfit' := Nat.le_of_ble_eq_true hfit
        have hw : wr h id (off + n * sz) new = some (h.put id (some (.cells (putL vs (off + n * sz) new) sz false))) := by
          unfold wr
          rw [hat]
          have : (off + n * sz + new.length).ble vs.length = true := Nat.ble_eq_true_of_le (by rw [hn]; omega)
          simp only [this,hc,Bool.and_self,cond_true]
        refine ⟨h.put id (some (.cells (putL vs (off + n * sz) new) sz false)),some ⟨id,off,.none⟩,c,?_,(Ext.put hat rfl _).mono (fun i _ q => by rw [q]; exact ⟨_,rfl,rfl⟩),⟨hlen,.inr ⟨id,off,_,rfl,put_get hat rfl _,?_,?_⟩⟩,fun i q => .inl q⟩
        · unfold appL
          simp only [hmb,h1,h2,h3,cond_false,cond_true,Bool.not_true,Bool.or_self,hf,hc0,hat,hszb,hzb,hfit,hw,Option.map_some]
        · rw [Za]; exact hfit'
        · have ht := putL_take new vs (off + n * sz) (by rw [hn]; omega)
          rw [hn] at ht
          rw [List.take_drop,show off + (n + m) * sz = off + n * sz + m * sz by omega,ht]
          rw [← hl,List.take_drop,List.drop_append_of_le_length (by simp; omega)]
      | false =>
        refine ⟨(h.put id Option.none).add (.cells (l ++ new) sz false),some ⟨h.next,0,.none⟩,1,?_,?_,?_,?_⟩
        · unfold appL
          simp only [hmb,h1,h2,h3,cond_false,cond_true,Bool.not_true,Bool.or_self,hf,hc0,hat,hszb,hzb,hfit,hc,Heap.next_put]
        · exact ((Ext.put hat rfl Option.none).mono (fun i _ q => by rw [q]; exact ⟨_,rfl,rfl⟩)).then0 (Ext.add _ _)
        · have := OwS.new (c := 1) (show At ((h.put id Option.none).add (.cells (l ++ new) sz false)) (h.put id Option.none).next _ from Jw _ _) hlen
          rwa [Heap.next_put] at this
        · intro i q; rw [Blk.some] at q; exact .inr (by simpa using Nat.le_of_eq q)
theorem Xk {sz bytes n c m : Nat} {s x : Arg} {a : Option Addr} {l new : List Value} {xv : Value} (hs : s.ev e = some (.slice a n c)) (hx : x.ev e = some xv) (o : OwS h sz a n c l) (hm : Qv xv = some m) (hf : Zk h sz m xv = some new)
    (hb : (n + m) * bytes ≤ 1099511627776 ∧ n + m ≤ 1099511627776) (hn : new.length = m * sz) (hc : new.all isCell = true) (hz : 0 < sz)
    (hq : ∀ h' a' c',Ext (Blk a) h h' → OwS h' sz a' (n + m) c' (l ++ new) → (∀ i,Blk a' i → Blk a i ∨ h.next ≤ i) → Xd P r (e.put d (.slice a' (n + m) c')) h' Q) : Xd P (⟨d,.none,.app sz bytes s x⟩ :: r) e h Q := by
  obtain ⟨h',a',c',q1,q2,q3,q4⟩ := appL_own (bytes := bytes) o hb.1 hb.2 hn hc hz
  refine Wa (v := .slice a' (n + m) c') (h' := h') rfl ?_ (hq h' a' c' q2 q3 q4)
  simp only [SO.run,hs,hx,hm,hf,q1]
theorem Gf {sz n c : Nat} {x i : Arg} {a : Option Addr} {l : List Value} {k : IntKind} {j : Int} (hx : x.ev e = some (.slice a n c)) (hi : i.ev e = some (.int k j)) (s : SlA h sz a n c l) (hj : 0 ≤ j ∧ j < n)
    (hq : ∀ id off vs ez ro,a = some ⟨id,off,.none⟩ → At h id (.cells vs ez ro) → off + n * sz ≤ vs.length → (∀ i,i < n * sz → vs[off + i]? = l[i]?) → Xd P r (e.put d (.pointer (some ⟨id,off + j.toNat * sz,.none⟩))) h Q) :
    Xd P (⟨d,.none,.iaV sz x i⟩ :: r) e h Q := by
  obtain ⟨id,off,vs,ez,ro,rfl,h1,h2,_,h3⟩ := s.at (by omega)
  exact Xi hx hi hj (hq id off vs ez ro rfl h1 h2 h3)
theorem Xx {n c t1 : Nat} {d2 : Option Nat} {x i : Arg} {a : Option Addr} {l : List Value} {k : IntKind} {j : Int} {u : Value} (hx : x.ev e = some (.slice a n c)) (hi : i.ev e = some (.int k j)) (s : SlA h 1 a n c l) (hj : 0 ≤ j ∧ j < n) (hu : l[j.toNat]? = some u)
    (hq : ∀ p,Xd P r (Env.put (Env.put e (some t1) p) d2 u) h Q) : Xd P (⟨some t1,.none,.iaV 1 x i⟩ :: ⟨d2,.none,.ld 1 false (.t t1)⟩ :: r) e h Q := by
  refine Gf hx hi s hj fun id off vs ez ro _ h1 h2 h3 => ?_
  refine We (v := u) (off := off + j.toNat * 1) (id := id) (by simp [Arg.ev,Env.put,Env.get]) h1 ?_ (hq _)
  rw [Nat.mul_one,h3 _ (by omega)]; exact hu
end
end Go.Dx
