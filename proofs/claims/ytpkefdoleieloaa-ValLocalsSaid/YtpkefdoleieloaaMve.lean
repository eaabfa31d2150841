/- Texts merged: Vl1.lean, Vl2.lean, Vl3.lean. -/
import Derived.Test.YtpkefdoleieloaaMvd
import Derived.Test.YtpkefdoleieloaaDx34
namespace Go.Dx.SYtpkefdoleieloaa
open Go.Proofs
section
/- ValLocals: what its three bodies come to. -/
set_option linter.unusedVariables false
set_option linter.unusedSimpArgs false
/-- A module of nothing. -/
def Mo0 : Mo := ⟨[], [], [], 0, [], [], false, 0, 0, []⟩
def ins (op : Int) (a : Nat) : Ins := ⟨op, a, 0, 0, [], 0⟩
def ty (b : Bool) : Nat := if b = true then 126 else 127
def konst (w : Bool) : Ins := ins (if w = true then 66 else 65) 0
def eqz (w : Bool) : Ins := ins (if w = true then 80 else 69) 0
def body0 (w : Bool) (a : Nat) : List Ins := [konst w, ins 33 a, ins 11 0]
def body1 (w : Bool) (a : Nat) : List Ins := [konst w, ins 34 a, ins 26 0, ins 11 0]
def body2 (w : Bool) (a : Nat) : List Ins := [ins 32 a, eqz w, ins 26 0, ins 11 0]
namespace VS
variable {M : Mo} {L : List Nat} {s : VS} {a : Nat}
theorem one_konst (w : Bool) : s.one M L (konst w) = s.push [ty w] := by cases w <;> rfl
theorem one_33 : s.one M L (ins 33 a) = ((s.loc L a).2.want (s.loc L a).1).2 := rfl
theorem one_34 : s.one M L (ins 34 a) = ((s.loc L a).2.want (s.loc L a).1).2.push [(s.loc L a).1] := rfl
theorem one_32 : s.one M L (ins 32 a) = (s.loc L a).2.push [(s.loc L a).1] := rfl
theorem one_26 : s.one M L (ins 26 a) = s.pop.2 := rfl
theorem one_11 : s.one M L (ins 11 a) = s.ends := rfl
theorem one_eqz (w : Bool) : s.one M L (eqz w) = fits [ty w] [127] (s.fails false) := by cases w <;> rfl
theorem loc_in {t : Nat} (h : L[a]? = some t) : s.loc L a = (t, s) := by
  obtain ⟨h1, h2⟩ := List.getElem?_eq_some_iff.1 h
  unfold loc
  rw [if_pos h1]
  simp [List.getD, h]
theorem loc_out (h : L[a]? = none) : s.loc L a = (0, s.fails true) := by
  unfold loc
  rw [if_neg (by have := List.getElem?_eq_none_iff.1 h; omega)]
def told (w : Bool) (t : Option Nat) : Bool := decide (t = some (ty w))
theorem body0_eq (w : Bool) (h : ∀ t, L[a]? = some t → t = 126 ∨ t = 127) : body M L [] (body0 w a) = told w L[a]? := by
  cases e : L[a]? with
  | none =>
    unfold body body0
    simp only [run, one_konst, one_33, loc_out e]
    cases w <;> rfl
  | some t =>
    unfold body body0
    simp only [run, one_konst, one_33, one_11, loc_in e]
    rcases h t e with rfl | rfl <;> cases w <;> rfl
theorem body1_eq (w : Bool) (h : ∀ t, L[a]? = some t → t = 126 ∨ t = 127) : body M L [] (body1 w a) = told w L[a]? := by
  cases e : L[a]? with
  | none =>
    unfold body body1
    simp only [run, one_konst, one_34, loc_out e]
    cases w <;> rfl
  | some t =>
    unfold body body1
    simp only [run, one_konst, one_34, one_26, one_11, loc_in e]
    rcases h t e with rfl | rfl <;> cases w <;> rfl
theorem body2_eq (w : Bool) (h : ∀ t, L[a]? = some t → t = 126 ∨ t = 127) : body M L [] (body2 w a) = told w L[a]? := by
  cases e : L[a]? with
  | none =>
    unfold body body2
    simp only [run, one_32, one_eqz, loc_out e]
    cases w <;> rfl
  | some t =>
    unfold body body2
    simp only [run, one_32, one_eqz, one_26, one_11, loc_in e]
    rcases h t e with rfl | rfl <;> cases w <;> rfl
end VS
/-- The cells of a module of nothing. -/
def mc0 : List Value := [nilS, nilS, nilS, nilS, nilS, nilS, .bool false, .int .u32 0, nilS, .bool false, .int .u32 0, nilS, nilS]
noncomputable def chk120 : Bool := match fnR T 300 120 [.agg ⟨mc0⟩] Heap.empty with
  | some (.slice (some ⟨n, 0, none⟩) 0 0, h0) => n.blt h0.next && okH h0 h0.next && (match h0.get n with | some (.cells [] 1 false) => true | _ => false)
  | _ => false
set_option maxRecDepth 100000 in
theorem run120 : chk120 = true := by kernel_rfl
noncomputable def chk15 : Bool := match fnR T 600 15 [] Heap.empty with
  | some (.bool b, _) => b
  | _ => false
set_option maxRecDepth 100000 in
theorem run15 : chk15 = true := by kernel_rfl
/-- begun -/
theorem C15 {h : Heap} : Fn Try.prog 15 [] h fun v h' => v = .bool true ∧ h = h' := by
  have hc := run15
  unfold chk15 at hc
  split at hc
  · rename_i b h0 hr
    subst hc
    exact Fn.anywhere (R := fun v => v = .bool true) rfl (fn_of_run hr) fun v h' q => ⟨by rw [q.1]; rfl, q.1⟩
  · cases hc
/-- Declared, of a module of nothing -/
theorem C120z {h : Heap} : Fn Try.prog 120 [.agg ⟨mc0⟩] h fun v h' => ∃ a c, v = .slice a 0 c ∧ SlA h' 1 a 0 c [] ∧ Ext0 h h' := by
  have hc := run120
  unfold chk120 at hc
  split at hc
  · rename_i n h0 hr
    simp only [Bool.and_eq_true] at hc
    obtain ⟨⟨e1, e2⟩, e3⟩ := hc
    have e1 : n < h0.next := by simpa using e1
    have hsh : shOk h0.next (.slice (some ⟨n, 0, none⟩) 0 0) = true := by simp [shOk, e1]
    refine (Fn.moved (n := h0.next) (fn_of_run hr) rfl hsh e2 h).mono ?_
    rintro v h' ⟨rfl, rfl⟩
    split at e3
    · rename_i hg
      have q := moved_at (h := h) (m := h0.next) (i := n) e1 hg
      exact ⟨some ⟨h.next + n, 0, none⟩, 0, (by simp [shV, Nat.add_comm]), by simpa using SlA.mk' (n := 0) (c := 0) (sz := 1) (off := 0) q (Nat.zero_le _) (.inr (.inr rfl)), moved_ext _ _ _⟩
    · cases e3
  · cases hc
theorem MoY0 (h : Heap) : MoY h Mo0 mc0 := by
  intro h1 O pm hn hg hO g hp
  refine ⟨g, hp, ⟨none, 0, [], rfl, SlA.none, fun i q => absurd q Blk.none, fun i hi => absurd hi (Nat.not_lt_zero _)⟩, ⟨none, 0, rfl, SlA.none, fun i q => absurd q Blk.none⟩, ⟨none, 0, [], rfl, SlA.none, fun i q => absurd q Blk.none, fun i hi => absurd hi (Nat.not_lt_zero _)⟩, ⟨none, 0, rfl⟩,
    ⟨none, 0, [], rfl, SlA.none, fun i q => absurd q Blk.none, fun i hi => absurd hi (Nat.not_lt_zero _)⟩, ⟨none, 0, [], rfl, SlA.none, fun i q => absurd q Blk.none, fun i hi => absurd hi (Nat.not_lt_zero _)⟩, ⟨rfl, rfl⟩, ⟨none, 0, rfl⟩, rfl, rfl, ?_, rfl, by decide, ?_, fun t q => (by cases q)⟩
  · intro h' _ _
    exact C120z
  · exact ⟨Nat.zero_le _, fun t q => by cases q⟩

end
section
/- ValLocals: the walk. -/
set_option linter.unusedVariables false
set_option linter.unusedSimpArgs false
abbrev boos (xs : List Bool) : List Value := xs.map Value.bool
def imOf (x : Ins) : IM := ⟨x, none, 0⟩
theorem IM.lies_of {h : Heap} {op : Int} {a : Nat} (ha : a < 256) (hk : op ∈ opsC ∨ op ∈ opsM ∨ op ∈ opsN) : (imOf (ins op a)).Lies h :=
  ⟨SlA.none, fun i q => absurd q Blk.none, ⟨by show a < _; omega, by show 0 < _; omega, fun n hn => (by cases hn), by show 0 ≤ _; omega, by show _ ∧ _; exact ⟨by show (-9223372036854775808 : Int) ≤ 0; omega, by show (0 : Int) ≤ _; omega⟩⟩, hk⟩
theorem ty_or (xs : List Bool) {a t : Nat} (h : (xs.map ty)[a]? = some t) : t = 126 ∨ t = 127 := by
  rw [List.getElem?_map] at h
  cases hx : xs[a]? with
  | none => rw [hx] at h; cases h
  | some b =>
    rw [hx] at h
    have : ty b = t := by simpa using h
    subst this
    cases b
    · exact .inr rfl
    · exact .inl rfl
abbrev z6 : List Value := [.int .i64 0, .int .u32 0, .int .u32 0, .int .u64 0, .slice none 0 0, .int .i64 0]
theorem putL_mid : ∀ (new pre mid suf : List Value), mid.length = new.length → putL (pre ++ (mid ++ suf)) pre.length new = pre ++ (new ++ suf)
  | [], pre, mid, suf, h => by
    cases mid with
    | nil => rfl
    | cons _ _ => cases h
  | v :: vs, pre, [], suf, h => by cases h
  | v :: vs, pre, m :: ms, suf, h => by
    have e : (pre ++ (m :: ms ++ suf)).set pre.length v = (pre ++ [v]) ++ (ms ++ suf) := by simp
    show putL ((pre ++ (m :: ms ++ suf)).set pre.length v) (pre.length + 1) vs = _
    rw [e, show pre.length + 1 = (pre ++ [v]).length by simp, putL_mid vs (pre ++ [v]) ms suf (by simpa using h)]
    simp
theorem fill_step {pre mid suf new : List Value} {off size : Nat} {r : List (Nat × Nat × Value)} (hm : mid.length = size) (hn : new.length = size) (hp : pre.length = off) :
    fillL (pre ++ (mid ++ suf)) ((off, size, .agg ⟨new⟩) :: r) = fillL (pre ++ (new ++ suf)) r := by
  subst hp
  have h1 : (Value.agg ⟨new⟩).cells.size.beq size = true := by
    show new.length.beq size = true
    rw [hn]; exact Nat.beq_refl _
  have h2 : (pre.length + size).ble (pre ++ (mid ++ suf)).length = true := by
    apply Nat.ble_eq_true_of_le
    rw [List.length_append, List.length_append]; omega
  have h3 : putL (pre ++ (mid ++ suf)) pre.length (Value.agg ⟨new⟩).cells.toList = pre ++ (new ++ suf) := putL_mid new pre mid suf (by omega)
  show (bif (Value.agg ⟨new⟩).cells.size.beq size && (pre.length + size).ble (pre ++ (mid ++ suf)).length then fillL (putL (pre ++ (mid ++ suf)) pre.length (Value.agg ⟨new⟩).cells.toList) r else none) = _
  rw [h1, h2, h3]; rfl
def parts6 : Nat → List IM → List (Nat × Nat × Value)
  | _, [] => []
  | k, x :: r => (k, 6, .agg ⟨x.enc⟩) :: parts6 (k + 6) r
theorem fill_en : ∀ (todo done : List IM), fillL (en IM.enc done ++ zeros z6 todo.length) (parts6 (done.length * 6) todo) = some (en IM.enc (done ++ todo))
  | [], done => by simp [parts6, zeros, fillL]
  | x :: r, done => by
    show fillL (en IM.enc done ++ (z6 ++ zeros z6 r.length)) ((done.length * 6, 6, .agg ⟨x.enc⟩) :: parts6 (done.length * 6 + 6) r) = _
    rw [fill_step (mid := z6) (size := 6) rfl rfl (en_length IM.enc_len done)]
    have e : en IM.enc done ++ (x.enc ++ zeros z6 r.length) = en IM.enc (done ++ [x]) ++ zeros z6 r.length := by
      rw [en_app]; simp [en]
    rw [e, show done.length * 6 + 6 = (done ++ [x]).length * 6 by simp; omega, fill_en r (done ++ [x])]
    simp
theorem fill0 (l : List IM) : fillL (zeros z6 l.length) (parts6 0 l) = some (en IM.enc l) := fill_en l []
theorem SlA.enc {h : Heap} {id : Nat} {c : Nat} {l : List IM} (g : At h id (.cells (en IM.enc l) 6 false)) : SlA h 6 (some ⟨id, 0, none⟩) l.length c (en IM.enc l) := by
  have hl : (en IM.enc l).length = l.length * 6 := en_length IM.enc_len l
  have := SlA.mk' (n := l.length) (c := c) (sz := 6) (off := 0) g (by omega) (.inr (.inr rfl))
  rw [List.drop_zero, List.take_of_length_le (by omega)] at this
  exact this
theorem eb0 (w : Bool) (a : Nat) : [imOf (konst w), imOf (ins 33 a), imOf (ins 11 0)].map IM.i = body0 w a := rfl
theorem eb1 (w : Bool) (a : Nat) : [imOf (konst w), imOf (ins 34 a), imOf (ins 26 0), imOf (ins 11 0)].map IM.i = body1 w a := rfl
theorem eb2 (w : Bool) (a : Nat) : [imOf (ins 32 a), imOf (eqz w), imOf (ins 26 0), imOf (ins 11 0)].map IM.i = body2 w a := rfl
set_option maxHeartbeats 12000000 in
/-- ValLocals -/
theorem C6 {h : Heap} {pa la : Option Addr} {pc lc : Nat} {p l : List Bool} {k o : Nat} {w : Bool} (sp : InS h pa p.length pc (boos p)) (sl : InS h la l.length lc (boos l)) (hk : k < 256) (ho : o < 256) :
    Fn Try.prog 6 [.slice pa p.length pc, .slice la l.length lc, .int .u8 (k : Int), .bool w, .int .u8 (o : Int)] h fun v _ => v = .bool true := by
  refine fnK F6.fok rfl ?_
  refine K_reg (Wops_run rfl rfl (K_fin [(0, _), (1, _), (2, _), (3, _), (4, _)] rfl ?_))
  refine K_ss (K_reg (Wops_call rfl C15 ?_))
  rintro _ _ ⟨rfl, rfl⟩
  refine Wops_run rfl rfl (K_fin [(0, _), (1, _), (2, _), (3, _), (4, _), (21, _)] rfl ?_)
  refine K_scond rfl (fun hc => by cases hc) (fun _ => K_sskip ?_)
  by_cases c1 : p.length > 6 ∨ l.length > 6
  · refine K_ss (K_join (fun e' h' => e' = [(0, .slice pa p.length pc), (1, .slice la l.length lc), (2, .int .u8 (k : Int)), (3, .bool w), (4, .int .u8 (o : Int)), (29, .bool true)]) ?_ ?_)
    · refine K_last (Wops_run rfl rfl (Wops_run rfl rfl (Wops_as (w := .bool (decide (p.length > 6))) rfl rfl (by congr 1; rw [Bool.eq_iff_iff]; simp; omega) (Wops_run rfl rfl ?_))))
      by_cases c2 : p.length > 6
      · rw [decide_eq_true c2]
        exact Wops_skip rfl (Wops_skip rfl (Wops_skip rfl (Wops_run rfl rfl (K_finL [(0, _), (1, _), (2, _), (3, _), (4, _), (29, _)] rfl rfl))))
      · rw [decide_eq_false c2]
        refine Wops_go rfl (Wops_run rfl rfl (Wops_go rfl (Wops_run rfl rfl (Wops_go rfl (Wops_as (w := .bool true) rfl rfl (by congr 1; rw [Bool.eq_iff_iff]; simp <;> omega) (Wops_run rfl rfl (K_finL [(0, _), (1, _), (2, _), (3, _), (4, _), (29, _)] rfl rfl)))))))
    rintro _ _ rfl
    refine K_scond rfl (fun _ => ?_) (fun hc => by cases hc)
    refine K_ss (K_reg (Wops_run rfl rfl (K_fin [(10, _)] rfl ?_)))
    exact K_sret (Told.mk _ rfl rfl)
  have hpl : p.length ≤ 6 := by omega
  have hll : l.length ≤ 6 := by omega
  refine K_ss (K_reg (Wops_run rfl rfl (Wops_run rfl rfl (Wops_as (w := .bool false) rfl rfl (by congr 1; rw [Bool.eq_iff_iff]; simp <;> omega) (Wops_run rfl rfl (Wops_go rfl (Wops_run rfl rfl (Wops_go rfl (Wops_run rfl rfl (Wops_go rfl (Wops_as (w := .bool false) rfl rfl (by congr 1; rw [Bool.eq_iff_iff]; simp <;> omega) (Wops_run rfl rfl (K_fin [(0, _), (1, _), (2, _), (3, _), (4, _), (29, _)] rfl ?_)))))))))))))
  refine K_scond rfl (fun hc => by cases hc) (fun _ => K_sskip ?_)
  refine K_reg (Wops_run rfl rfl (Wops_new fun h1 n1 x1 g1 => Wops_st (l := [nilS, nilS]) rfl rfl rfl rfl g1 (by simp) rfl fun h2 n2 x2 g2 => K_fin [(0, _), (1, _), (2, _), (3, _), (4, _), (11, _)] rfl ?_))
  refine K_reg (Wops_new fun h3 n3 x3 g3 => K_fin [(0, _), (1, _), (2, _), (3, _), (4, _), (11, _), (12, _)] rfl ?_)
  have x02 : Ext0 h h2 := x1.then x2 fun i q => .inr (by omega)
  have x03 := x02.then0 x3
  replace g2 : At h2 h.next (.cells [nilS, nilS] 0 false) := g2
  have g23 := g2.ext x3 fun q => q
  have b11 : h.next < h2.next := g2.lt
  generalize hB1 : h.next = B1 at g2 g23 b11 ⊢
  have hp1 : h.next ≤ B1 := by omega
  have hx03 := x02.next
  generalize hB2 : h2.next = B2 at g3 n3 b11 hx03 ⊢
  refine K_reg (Wops_bslice (l := []) rfl rfl fun h4 n4 x4 g4 => Wops_run rfl rfl (Wops_app rfl rfl (OwS.new (n := 0) g4 rfl) rfl ((sp.ext0 x03).ext0 x4).sl.first ⟨by omega, by omega⟩ (by simp) (by simp [isCell]) (by decide) fun h5 a5 c5 x5 o5 b5 => Wops_run rfl rfl ?_))
  have x35 : Ext0 h3 h5 := x4.then x5 fun i q => .inr (by rw [Blk.at] at q; omega)
  refine Wops_app rfl rfl o5 rfl ((sl.ext0 x03).ext0 x35).sl.first ⟨by omega, by omega⟩ (by simp) (by simp [isCell]) (by decide) fun h6 a6 c6 x6 o6 b6 => Wops_run rfl rfl (K_fin [(0, _), (2, _), (3, _), (4, _), (11, _), (12, _), (13, _)] rfl ?_)
  have x36 : Ext0 h3 h6 := x35.then x6 fun i q => (b5 i q).elim (fun r => .inr (by rw [Blk.at] at r; omega)) fun r => .inr (by omega)
  have e6 : [] ++ boos p ++ boos l = boos (p ++ l) := by simp
  have e7 : 0 + p.length + l.length = (p ++ l).length := by simp
  rw [e6, e7] at o6
  rw [e7]
  have b6' : ∀ i, Blk a6 i → B2 < i := fun i q => (b6 i q).elim (fun r => (b5 i r).elim (fun r => by rw [Blk.at] at r; omega) fun r => by have := x4.next; omega) fun r => by have := x35.next; omega
  have g16 : At h6 B1 (.cells [nilS, nilS] 0 false) := g23.ext x36 fun q => q
  have g26 : At h6 B2 (.cells [nilS, nilS] 0 false) := At.ext g3 x36 fun q => q
  have hB26 : B2 < h6.next := g26.lt
  have hxl : (p ++ l).length ≤ 12 := by rw [List.length_append]; omega
  generalize hx : p ++ l = x at o6 hxl ⊢
  clear x4 g4 n4 x5 o5 b5 x6 b6 x35 x36 g3 g23 g2 e6 e7
  refine K_ss (K_reg (Wops_run rfl rfl (K_fin [(0, _), (2, _), (3, _), (4, _), (11, _), (12, _), (13, _), (14, _)] rfl ?_)))
  refine K_sblock ?_
  refine K_loop (fun k1 e h' => ∃ (i : Nat) (ra qa : Option Addr) (rc qc : Nat), e = [(0, .slice pa p.length pc), (2, .int .u8 (k : Int)), (3, .bool w), (4, .int .u8 (o : Int)), (11, ptr B1), (12, ptr B2), (13, .slice a6 x.length c6), (14, .int .i64 (i : Int))] ∧ i ≤ x.length ∧ k1 = x.length - i ∧
    Ext (fun j => j = B1 ∨ j = B2) h6 h' ∧ At h' B1 (.cells [.slice ra (((x.take i).take p.length).map ty).length rc, nilS] 0 false) ∧ At h' B2 (.cells [.slice qa (((x.take i).drop p.length).map ty).length qc, nilS] 0 false) ∧
    OwS h' 1 ra (((x.take i).take p.length).map ty).length rc (bys (((x.take i).take p.length).map ty)) ∧ OwS h' 1 qa (((x.take i).drop p.length).map ty).length qc (bys (((x.take i).drop p.length).map ty)) ∧
    (∀ j, Blk ra j → h6.next ≤ j) ∧ (∀ j, Blk qa j → h6.next ≤ j) ∧ ∀ j, Blk ra j → ¬ Blk qa j) ?_ (k := x.length) ⟨0, none, none, 0, 0, rfl, Nat.zero_le _, rfl, Ext.refl _ _, by simpa using g16, by simpa using g26, by simpa using OwS.none, by simpa using OwS.none, fun j q => absurd q Blk.none, fun j q => absurd q Blk.none, fun j q => absurd q Blk.none⟩
  rintro k1 e' h7 ⟨i, ra, qa, rc, qc, rfl, hi, rfl, x7, gP, gQ, oP, oQ, bP, bQ, bPQ⟩
  have sA : SlA h7 1 a6 x.length c6 (boos x) := o6.sl.ext x7 fun j q => by have := b6' j q; omega
  refine K_ss (K_reg (Wops_run rfl rfl (Wops_run rfl rfl (Wops_run rfl rfl (Wops_run rfl rfl (K_fin [(0, _), (2, _), (3, _), (4, _), (11, _), (12, _), (13, _), (14, _), (39, _)] rfl ?_))))))
  refine K_scond rfl (fun hc => ?_) (fun hc => ?_)
  · have hil : i < x.length := by have := of_decide_eq_true hc; omega
    refine K_sskip (K_sblock ?_)
    refine K_reg (Wops_run rfl rfl (K_fin [(0, _), (2, _), (3, _), (4, _), (11, _), (12, _), (13, _), (14, _), (15, _)] rfl ?_))
    have eu : (boos x)[(i : Int).toNat]? = some (.bool x[i]) := by rw [Int.toNat_natCast, List.getElem?_map, List.getElem?_eq_getElem hil]; rfl
    refine K_join (fun e' h' => (∃ r, e' = (0, .slice pa p.length pc) :: (2, .int .u8 (k : Int)) :: (3, .bool w) :: (4, .int .u8 (o : Int)) :: (11, ptr B1) :: (12, ptr B2) :: (13, .slice a6 x.length c6) :: (14, .int .i64 (i : Int)) :: (15, .int .u8 ((ty x[i] : Nat) : Int)) :: r) ∧ h7 = h') ?_ ?_
    · refine K_reg (Wops_run rfl rfl (Wops_run rfl rfl (Wops_idx rfl rfl sA ⟨by omega, by omega⟩ eu fun q => K_fin [(0, _), (2, _), (3, _), (4, _), (11, _), (12, _), (13, _), (14, _), (15, _), (45, _)] rfl ?_)))
      refine K_cond rfl (fun hc => ?_) (fun hc => ?_)
      · refine K_last (Wops_run rfl rfl (K_finL [(0, _), (2, _), (3, _), (4, _), (11, _), (12, _), (13, _), (14, _), (15, _)] rfl ?_))
        rw [hc]
        exact ⟨⟨[], rfl⟩, rfl⟩
      · refine K_skip ?_
        rw [hc]
        exact ⟨⟨_, rfl⟩, rfl⟩
    rintro _ _ ⟨⟨r, rfl⟩, rfl⟩
    have etk : x.take (i + 1) = x.take i ++ [x[i]] := List.take_succ_eq_append_getElem hil
    have hti : (x.take i).length = i := by rw [List.length_take]; omega
    refine K_reg (Wops_run rfl rfl (Wops_run rfl rfl (Wops_run rfl rfl (Wops_as (w := .bool (decide (i < p.length))) rfl rfl (by congr 1; rw [Bool.eq_iff_iff]; simp) (K_fin [(0, _), (2, _), (3, _), (4, _), (11, _), (12, _), (13, _), (14, _), (15, _), (49, _)] rfl ?_)))))
    refine K_cond rfl (fun hc => ?_) (fun hc => ?_)
    · have hip := of_decide_eq_true hc
      have eP : ((x.take (i + 1)).take p.length).map ty = ((x.take i).take p.length).map ty ++ [ty x[i]] := by
        rw [List.take_of_length_le (l := x.take (i + 1)) (by rw [List.length_take]; omega), List.take_of_length_le (l := x.take i) (by omega), etk, List.map_append]; rfl
      have eQ : (x.take (i + 1)).drop p.length = (x.take i).drop p.length := by
        rw [List.drop_eq_nil_iff.2 (by rw [List.length_take]; omega), List.drop_eq_nil_iff.2 (by omega)]
      have hPl : (((x.take i).take p.length).map ty).length ≤ 12 := by rw [List.length_map, List.length_take, hti]; omega
      refine K_last (Wops_run rfl rfl (Wops_ld (v := .slice ra (((x.take i).take p.length).map ty).length rc) rfl gP rfl (Wops_run rfl rfl (Wops_bslice rfl rfl fun h8 n8 x8 g8 => ?_))))
      have s8 : SlA h8 1 (some ⟨h7.next, 0, none⟩) 1 1 (bys [ty x[i]]) := SlA.mk' (n := 1) (c := 1) (sz := 1) (off := 0) g8 (Nat.le_refl 1) (.inr (.inr rfl))
      refine Wops_app rfl rfl (oP.ext x8) rfl s8.first ⟨by omega, by omega⟩ rfl (bys_cell _) (by decide) fun h9 a9 c9 x9 o9 b9 => Wops_run rfl rfl ?_
      have hn7 := x7.next
      have z1 : ¬ Blk ra B1 := fun q => by have := bP _ q; omega
      have z2 : ¬ Blk ra B2 := fun q => by have := bP _ q; omega
      have gP9 : At h9 B1 _ := (gP.ext x8 fun q => q).ext x9 z1
      have gQ9 : At h9 B2 _ := (gQ.ext x8 fun q => q).ext x9 z2
      refine Wops_st (l := [.slice a9 ((((x.take i).take p.length).map ty).length + 1) c9]) rfl rfl rfl rfl gP9 (by simp) rfl fun h10 n10 x10 g10 => K_finL [(0, _), (2, _), (3, _), (4, _), (11, _), (12, _), (13, _), (14, _)] rfl ?_
      have b9' : ∀ j, Blk a9 j → h6.next ≤ j := fun j q => (b9 j q).elim (bP j) fun r => by have := x8.next; omega
      refine K_last (Wops_run rfl rfl (Wops_run rfl rfl (Wops_run rfl rfl (K_finL [(0, _), (2, _), (3, _), (4, _), (11, _), (12, _), (13, _), (14, _)] rfl ?_))))
      refine ⟨x.length - (i + 1), by omega, i + 1, a9, qa, c9, qc, by rw [w64s (by omega)], by omega, rfl, ?_, ?_, ?_, ?_, ?_, b9', bQ, ?_⟩
      · have y1 := x7.then0 x8
        have y2 := y1.then x9 fun j q => .inr (bP j q)
        exact y2.then x10 fun j q => .inl (.inl q)
      · rw [eP, List.length_append]; exact g10
      · rw [eQ]; exact gQ9.ext x10 (by omega)
      · rw [eP, List.length_append, bys_app]
        exact o9.ext x10 fun j q e => by have := b9' j q; omega
      · rw [eQ]
        exact ((oQ.ext x8).ext x9 fun j q r => bPQ j r q).ext x10 fun j q e => by have := bQ j q; omega
      · intro j q r
        rcases b9 j q with q | q
        · exact bPQ j q r
        · have := oQ.lt r; have := x8.next; omega
    · have hip : ¬ i < p.length := of_decide_eq_false hc
      have eQ : ((x.take (i + 1)).drop p.length).map ty = ((x.take i).drop p.length).map ty ++ [ty x[i]] := by
        rw [etk, List.drop_append_of_le_length (by omega), List.map_append]; rfl
      have eP : (x.take (i + 1)).take p.length = (x.take i).take p.length := by
        rw [List.take_take, List.take_take, Nat.min_eq_left (by omega), Nat.min_eq_left (by omega)]
      have hPl : (((x.take i).drop p.length).map ty).length ≤ 12 := by rw [List.length_map, List.length_drop, hti]; omega
      refine K_last (Wops_run rfl rfl (Wops_ld (v := .slice qa (((x.take i).drop p.length).map ty).length qc) rfl gQ rfl (Wops_run rfl rfl (Wops_bslice rfl rfl fun h8 n8 x8 g8 => ?_))))
      have s8 : SlA h8 1 (some ⟨h7.next, 0, none⟩) 1 1 (bys [ty x[i]]) := SlA.mk' (n := 1) (c := 1) (sz := 1) (off := 0) g8 (Nat.le_refl 1) (.inr (.inr rfl))
      refine Wops_app rfl rfl (oQ.ext x8) rfl s8.first ⟨by omega, by omega⟩ rfl (bys_cell _) (by decide) fun h9 a9 c9 x9 o9 b9 => Wops_run rfl rfl ?_
      have hn7 := x7.next
      have z1 : ¬ Blk qa B1 := fun q => by have := bQ _ q; omega
      have z2 : ¬ Blk qa B2 := fun q => by have := bQ _ q; omega
      have gP9 : At h9 B1 _ := (gP.ext x8 fun q => q).ext x9 z1
      have gQ9 : At h9 B2 _ := (gQ.ext x8 fun q => q).ext x9 z2
      refine Wops_st (l := [.slice a9 ((((x.take i).drop p.length).map ty).length + 1) c9]) rfl rfl rfl rfl gQ9 (by simp) rfl fun h10 n10 x10 g10 => K_finL [(0, _), (2, _), (3, _), (4, _), (11, _), (12, _), (13, _), (14, _)] rfl ?_
      have b9' : ∀ j, Blk a9 j → h6.next ≤ j := fun j q => (b9 j q).elim (bQ j) fun r => by have := x8.next; omega
      refine K_last (Wops_run rfl rfl (Wops_run rfl rfl (Wops_run rfl rfl (K_finL [(0, _), (2, _), (3, _), (4, _), (11, _), (12, _), (13, _), (14, _)] rfl ?_))))
      refine ⟨x.length - (i + 1), by omega, i + 1, ra, a9, rc, c9, by rw [w64s (by omega)], by omega, rfl, ?_, ?_, ?_, ?_, ?_, bP, b9', ?_⟩
      · have y1 := x7.then0 x8
        have y2 := y1.then x9 fun j q => .inr (bQ j q)
        exact y2.then x10 fun j q => .inl (.inr q)
      · rw [eP]; exact gP9.ext x10 (by omega)
      · rw [eQ, List.length_append]; exact g10
      · rw [eP]
        exact ((oP.ext x8).ext x9 fun j q r => bPQ j q r).ext x10 fun j q e => by have := bP j q; omega
      · rw [eQ, List.length_append, bys_app]
        exact o9.ext x10 fun j q e => by have := b9' j q; omega
      · intro j q r
        rcases b9 j r with r | r
        · exact bPQ j q r
        · have := oP.lt q; have := x8.next; omega
  · have hil : i = x.length := by have := of_decide_eq_false hc; omega
    subst hil
    have eP : (x.take x.length).take p.length = p := by rw [List.take_length, ← hx, List.take_append_of_le_length (Nat.le_refl _), List.take_length]
    have eQ : (x.take x.length).drop p.length = l := by rw [List.take_length, ← hx, List.drop_append_of_le_length (Nat.le_refl _), List.drop_length]; rfl
    rw [eP] at gP oP
    rw [eQ] at gQ oQ
    refine K_sexit (bx_same ?_)
    refine K_reg (Wops_run rfl rfl (Wops_as (w := .int .u8 ((k % 14 : Nat) : Int)) rfl rfl (by show Value.int .u8 (Int.tmod (k : Int) 14) = _; congr 1) (Wops_as (w := .int .i64 ((k % 14 : Nat) : Int)) rfl rfl (by rw [w64 (by omega)]) (Wops_run rfl rfl (K_fin [(3, _), (4, _), (11, _), (12, _), (13, _), (16, _)] rfl ?_)))))
    have hk14 : k % 14 < 14 := Nat.mod_lt _ (by decide)
    generalize k % 14 = a at hk14 ⊢
    refine K_reg (Wops_run rfl rfl (Wops_new fun h8 n8 x8 g8 => Wops_st (l := (imOf (ins 65 0)).enc) rfl rfl rfl rfl g8 (by simp) rfl fun h9 n9 x9 g9 => K_fin [(3, _), (4, _), (11, _), (12, _), (13, _), (16, _), (17, _)] rfl ?_))
    have x79 : Ext0 h7 h9 := x8.then x9 fun j q => .inr (by omega)
    replace g9 : At h9 h7.next (.cells (imOf (ins 65 0)).enc 0 false) := g9
    have hn7 := x7.next
    refine K_join (fun e' h' => (∃ r, e' = (3, .bool w) :: (4, .int .u8 (o : Int)) :: (11, ptr B1) :: (12, ptr B2) :: (13, .slice a6 x.length c6) :: (16, .int .i64 (a : Int)) :: (17, ptr h7.next) :: r) ∧ Ext0 h7 h' ∧ At h' h7.next (.cells (imOf (konst w)).enc 0 false)) ?_ ?_
    · refine K_reg (Wops_run rfl rfl (K_fin [(3, _), (4, _), (11, _), (12, _), (13, _), (16, _), (17, _), (66, _)] rfl ?_))
      refine K_cond rfl (fun hc => ?_) (fun hc => ?_)
      · refine K_last (Wops_run rfl rfl (Wops_st (l := [.int .i64 66]) rfl rfl rfl rfl g9 (by simp [imOf, IM.enc]) rfl fun h10 n10 x10 g10 => K_finL [(3, _), (4, _), (11, _), (12, _), (13, _), (16, _), (17, _)] rfl ?_))
        rw [hc]
        exact ⟨⟨[], rfl⟩, x79.then x10 fun j q => .inr (by omega), g10⟩
      · refine K_skip ?_
        rw [hc]
        exact ⟨⟨_, rfl⟩, x79, g9⟩
    rintro _ h10 ⟨⟨r, rfl⟩, x710, g10⟩
    have gQ10 := gQ.ext x710 fun q => q
    have gP10 := gP.ext x710 fun q => q
    refine K_join (fun e' h' => e' = [(3, .bool w), (11, ptr B1), (12, ptr B2), (13, .slice a6 x.length c6), (16, .int .i64 (a : Int))] ∧ Ext (fun j => j = B2) h10 h' ∧ ∃ (ba : Option Addr) (bc : Nat) (bl : List IM), At h' B2 (.cells [.slice qa (l.map ty).length qc, .slice ba bl.length bc] 0 false) ∧ SlA h' 6 ba bl.length bc (en IM.enc bl) ∧ (∀ j, Blk ba j → j < h'.next) ∧ (∀ y ∈ bl, y.Lies h') ∧ bl.length ≤ 4 ∧ ∀ (M : Mo) (L : List Nat), (∀ t, L[a]? = some t → t = 126 ∨ t = 127) → VS.body M L [] (bl.map IM.i) = VS.told w L[a]?) ?_ ?_
    · refine K_reg (Wops_run rfl rfl (Wops_as (w := .int .u8 ((o % 3 : Nat) : Int)) rfl rfl (by show Value.int .u8 (Int.tmod (o : Int) 3) = _; congr 1) (K_fin [(3, _), (11, _), (12, _), (13, _), (16, _), (17, _), (69, _)] rfl ?_)))
      refine K_block ?_
      have lk : ∀ (h' : Heap), (imOf (konst w)).Lies h' := fun h' => IM.lies_of (by decide) (by cases w <;> exact .inl (by decide))
      have le : ∀ (h' : Heap), (imOf (eqz w)).Lies h' := fun h' => IM.lies_of (by decide) (by cases w <;> exact .inr (.inr (by decide)))
      have lc : ∀ (h' : Heap) (op : Int), op ∈ opsC → (imOf (ins op a)).Lies h' := fun h' op q => IM.lies_of (by omega) (.inl q)
      have lz : ∀ (h' : Heap) (op : Int), op ∈ opsC → (imOf (ins op 0)).Lies h' := fun h' op q => IM.lies_of (by omega) (.inl q)
      refine K_reg (Wops_as (w := .bool (decide (o % 3 = 0))) rfl rfl (by congr 1; rw [Bool.eq_iff_iff]; simp <;> omega) (Wops_run rfl rfl (K_fin [(3, _), (11, _), (12, _), (13, _), (16, _), (17, _), (69, _), (81, _)] rfl ?_)))
      refine K_cond rfl (fun hc => ?_) (fun hc => ?_)
      · refine K_last (Wops_ldA (l := (imOf (konst w)).enc) rfl g10 (Nat.le_refl 6) rfl (Wops_run rfl rfl (Wops_as (w := .int .u32 (a : Int)) rfl rfl (by congr 1; simp [IntKind.wrap, IntKind.signed, IntKind.bits]; omega) (Wops_run rfl rfl (Wops_run rfl rfl (Wops_bslice rfl (fill0 [imOf (konst w), imOf (ins 33 a), imOf (ins 11 0)]) fun h11 n11 x11 g11 => Wops_run rfl rfl ?_))))))
        refine Wops_st (l := [.slice (some ⟨h10.next, 0, none⟩) 3 1]) rfl rfl rfl rfl (gQ10.ext x11 fun q => q) (by simp) rfl fun h12 n12 x12 g12 => K_finL [(3, _), (11, _), (12, _), (13, _), (16, _)] rfl ?_
        refine ⟨rfl, x11.of0.trans x12, some ⟨h10.next, 0, none⟩, 1, [imOf (konst w), imOf (ins 33 a), imOf (ins 11 0)], g12, ?_, fun j q => ?_, ?_, (by show 3 ≤ 4; omega), fun M L hL => (congrArg (fun b => VS.body M L [] b) (eb0 w a)).trans (VS.body0_eq w hL)⟩
        · exact (SlA.enc g11).ext x12 fun j q => by rw [Blk.at] at q; have := x710.next; omega
        · rw [Blk.at] at q; omega
        · intro y hy
          simp only [List.mem_cons, List.mem_nil_iff, or_false] at hy
          rcases hy with rfl | rfl | rfl
          · exact lk _
          · exact lc _ 33 (by decide)
          · exact lz _ 11 (by decide)
      refine K_reg (Wops_as (w := .bool (decide (o % 3 = 1))) rfl rfl (by congr 1; rw [Bool.eq_iff_iff]; simp <;> omega) (Wops_run rfl rfl (K_fin [(3, _), (11, _), (12, _), (13, _), (16, _), (17, _), (90, _)] rfl ?_)))
      refine K_cond rfl (fun hc => ?_) (fun hc => ?_)
      · refine K_last (Wops_ldA (l := (imOf (konst w)).enc) rfl g10 (Nat.le_refl 6) rfl (Wops_run rfl rfl (Wops_as (w := .int .u32 (a : Int)) rfl rfl (by congr 1; simp [IntKind.wrap, IntKind.signed, IntKind.bits]; omega) (Wops_run rfl rfl (Wops_run rfl rfl (Wops_run rfl rfl (Wops_bslice rfl (fill0 [imOf (konst w), imOf (ins 34 a), imOf (ins 26 0), imOf (ins 11 0)]) fun h11 n11 x11 g11 => Wops_run rfl rfl ?_)))))))
        refine Wops_st (l := [.slice (some ⟨h10.next, 0, none⟩) 4 1]) rfl rfl rfl rfl (gQ10.ext x11 fun q => q) (by simp) rfl fun h12 n12 x12 g12 => K_finL [(3, _), (11, _), (12, _), (13, _), (16, _)] rfl ?_
        refine ⟨rfl, x11.of0.trans x12, some ⟨h10.next, 0, none⟩, 1, [imOf (konst w), imOf (ins 34 a), imOf (ins 26 0), imOf (ins 11 0)], g12, ?_, fun j q => ?_, ?_, (by show 4 ≤ 4; omega), fun M L hL => (congrArg (fun b => VS.body M L [] b) (eb1 w a)).trans (VS.body1_eq w hL)⟩
        · exact (SlA.enc g11).ext x12 fun j q => by rw [Blk.at] at q; have := x710.next; omega
        · rw [Blk.at] at q; omega
        · intro y hy
          simp only [List.mem_cons, List.mem_nil_iff, or_false] at hy
          rcases hy with rfl | rfl | rfl | rfl
          · exact lk _
          · exact lc _ 34 (by decide)
          · exact lz _ 26 (by decide)
          · exact lz _ 11 (by decide)
      refine K_reg (Wops_run rfl rfl (Wops_new fun h11 n11 x11 g11 => Wops_st (l := (imOf (ins 69 0)).enc) rfl rfl rfl rfl g11 (by simp) rfl fun h12 n12 x12 g12 => K_fin [(3, _), (11, _), (12, _), (13, _), (16, _), (18, _)] rfl ?_))
      have x1012 : Ext0 h10 h12 := x11.then x12 fun j q => .inr (by omega)
      replace g12 : At h12 h10.next (.cells (imOf (ins 69 0)).enc 0 false) := g12
      refine K_join (fun e' h' => (∃ r, e' = (3, .bool w) :: (11, ptr B1) :: (12, ptr B2) :: (13, .slice a6 x.length c6) :: (16, .int .i64 (a : Int)) :: (18, ptr h10.next) :: r) ∧ Ext0 h10 h' ∧ At h' h10.next (.cells (imOf (eqz w)).enc 0 false)) ?_ ?_
      · refine K_reg (Wops_run rfl rfl (K_fin [(3, _), (11, _), (12, _), (13, _), (16, _), (18, _), (71, _)] rfl ?_))
        refine K_cond rfl (fun hc => ?_) (fun hc => ?_)
        · refine K_last (Wops_run rfl rfl (Wops_st (l := [.int .i64 80]) rfl rfl rfl rfl g12 (by simp [imOf, IM.enc]) rfl fun h13 n13 x13 g13 => K_finL [(3, _), (11, _), (12, _), (13, _), (16, _), (18, _)] rfl ?_))
          rw [hc]
          exact ⟨⟨[], rfl⟩, x1012.then x13 fun j q => .inr (by omega), g13⟩
        · refine K_skip ?_
          rw [hc]
          exact ⟨⟨_, rfl⟩, x1012, g12⟩
      rintro _ h13 ⟨⟨r, rfl⟩, x1013, g13⟩
      refine K_last (Wops_run rfl rfl (Wops_as (w := .int .u32 (a : Int)) rfl rfl (by congr 1; simp [IntKind.wrap, IntKind.signed, IntKind.bits]; omega) (Wops_run rfl rfl (Wops_ldA (l := (imOf (eqz w)).enc) rfl g13 (Nat.le_refl 6) rfl (Wops_run rfl rfl (Wops_run rfl rfl (Wops_bslice rfl (fill0 [imOf (ins 32 a), imOf (eqz w), imOf (ins 26 0), imOf (ins 11 0)]) fun h14 n14 x14 g14 => Wops_run rfl rfl ?_)))))))
      refine Wops_st (l := [.slice (some ⟨h13.next, 0, none⟩) 4 1]) rfl rfl rfl rfl ((gQ10.ext x1013 fun q => q).ext x14 fun q => q) (by simp) rfl fun h15 n15 x15 g15 => K_finL [(3, _), (11, _), (12, _), (13, _), (16, _)] rfl ?_
      refine ⟨rfl, (x1013.then0 x14).of0.trans x15, some ⟨h13.next, 0, none⟩, 1, [imOf (ins 32 a), imOf (eqz w), imOf (ins 26 0), imOf (ins 11 0)], g15, ?_, fun j q => ?_, ?_, (by show 4 ≤ 4; omega), fun M L hL => (congrArg (fun b => VS.body M L [] b) (eb2 w a)).trans (VS.body2_eq w hL)⟩
      · exact (SlA.enc g14).ext x15 fun j q => by rw [Blk.at] at q; have := x710.next; have := x1013.next; omega
      · rw [Blk.at] at q; omega
      · intro y hy
        simp only [List.mem_cons, List.mem_nil_iff, or_false] at hy
        rcases hy with rfl | rfl | rfl | rfl
        · exact lc _ 32 (by decide)
        · exact le _
        · exact lz _ 26 (by decide)
        · exact lz _ 11 (by decide)
    rintro _ h16 ⟨rfl, x16, ba, bc, bl, gB, sB, bB, yB, lB, law⟩
    have x716 : Ext (fun j => j = B2) h7 h16 := x710.of0.trans x16
    have gP16 : At h16 B1 _ := gP.ext x716 (by omega)
    have sA16 : SlA h16 1 a6 x.length c6 (boos x) := sA.ext x716 fun j q => by have := b6' j q; omega
    have oP16 : OwS h16 1 ra (p.map ty).length rc (bys (p.map ty)) := oP.ext x716 fun j q e => by have := bP j q; omega
    have oQ16 : OwS h16 1 qa (l.map ty).length qc (bys (l.map ty)) := oQ.ext x716 fun j q e => by have := bQ j q; omega
    refine K_join (fun e' h' => e' = [(11, ptr B1), (12, ptr B2), (19, .bool (VS.told w (x.map ty)[a]?))] ∧ h16 = h') ?_ ?_
    · refine K_last (Wops_run rfl rfl (Wops_run rfl rfl (Wops_run rfl rfl (Wops_as (w := .bool (decide (a < x.length))) rfl rfl (by congr 1; rw [Bool.eq_iff_iff]; simp) (Wops_run rfl rfl ?_)))))
      by_cases c5 : a < x.length
      · rw [decide_eq_true c5]
        have eu : (boos x)[(a : Int).toNat]? = some (.bool x[a]) := by rw [Int.toNat_natCast, List.getElem?_map, List.getElem?_eq_getElem c5]; rfl
        refine Wops_go rfl (Wops_run rfl rfl (Wops_go rfl (Wops_run rfl rfl (Wops_go rfl (Wops_idxG rfl rfl sA16 ⟨by omega, by omega⟩ eu (fun p => rfl) fun p => ?_)))))
        refine Wops_go rfl (Wops_run rfl rfl (Wops_go rfl (Wops_run rfl rfl (Wops_as (w := .bool (VS.told w (x.map ty)[a]?)) rfl rfl ?_ (Wops_run rfl rfl (K_finL [(11, _), (12, _), (19, _)] rfl ⟨rfl, rfl⟩))))))
        rw [List.getElem?_map, List.getElem?_eq_getElem c5]
        cases x[a] <;> cases w <;> rfl
      · rw [decide_eq_false c5]
        refine Wops_skip rfl (Wops_skip rfl (Wops_skip rfl (Wops_skip rfl (Wops_skip rfl (Wops_skip rfl ?_)))))
        refine Wops_as (w := .bool (VS.told w (x.map ty)[a]?)) rfl rfl ?_ (Wops_run rfl rfl (K_finL [(11, _), (12, _), (19, _)] rfl ⟨rfl, rfl⟩))
        rw [List.getElem?_eq_none_iff.2 (by rw [List.length_map]; omega)]
        cases w <;> rfl
    rintro _ _ ⟨rfl, rfl⟩
    refine K_reg (Wops_run rfl rfl (Wops_ldA (l := [.slice ra (p.map ty).length rc, nilS]) rfl gP16 (Nat.le_refl 2) rfl (Wops_ldA (l := [.slice qa (l.map ty).length qc, .slice ba bl.length bc]) rfl gB (Nat.le_refl 2) rfl (Wops_call rfl (C16 (rs := []) (ra := none) (rc := 0) (MoY0 h16) ⟨Nat.zero_le _, fun t q => by cases q⟩ oP16.sl (fun j q => oP16.lt q) SlA.none (fun j q => absurd q Blk.none) oQ16.sl (fun j q => oQ16.lt q) sB bB yB (by rw [List.length_map]; omega) (by rw [List.length_map]; omega) (by decide) (by omega)) ?_))))
    rintro _ h17 ⟨rfl, x17⟩
    have elaw := law Mo0 (p.map ty ++ l.map ty) (fun t q => ty_or x (by rw [← hx, List.map_append]; exact q))
    rw [elaw, show p.map ty ++ l.map ty = x.map ty by rw [← hx, List.map_append]]
    generalize VS.told w (x.map ty)[a]? = b
    refine Wops_as (w := .bool b) rfl rfl (by cases b <;> rfl) (Wops_run rfl rfl (Wops_as (w := .bool true) rfl rfl (by cases b <;> rfl) (Wops_run rfl rfl (K_fin [(10, _)] rfl ?_))))
    exact K_ret (Told.mk _ rfl rfl)

end
section
/- ValLocals: its arguments. -/
set_option maxRecDepth 10000 in
theorem valLocals_fn {L : List (List Value)} {vs : List Value} (hG : FlatG Try.prog 0 [58, 58, 5, 4, 5] vs L) : Fn Try.prog 6 vs (flatH L) fun v _ => v = .bool true := by
  obtain ⟨a, m, c, l, r, k2, L2, L3, rfl, s, hl, hL, hk2, hF⟩ := flat_slice (P := Try.prog) (k := 0) (t := 58) (ts := [58, 5, 4, 5]) (L0 := []) (L := L) (L' := L) Try.underlying58 rfl rfl hG
  obtain ⟨a2, m2, c2, l2, r2, k3, L4, L5, rfl, s2, hl2, _, _, hF2⟩ := flat_slice (P := Try.prog) (k := k2) (t := 58) (ts := [5, 4, 5]) (L0 := L2) (L := L) (L' := L3) Try.underlying58 hL hk2 hF
  obtain ⟨v, r, rfl, hv, hF3⟩ := flat_scal (P := Try.prog) (k := k3) (t := 5) (ts := [4, 5]) (L' := L5) (fun e q => by rw [Try.underlying5] at q; cases q) hF2
  obtain ⟨k, rfl, hk⟩ := scal_int Try.underlying5 hv
  obtain ⟨v, r, rfl, hv, hF4⟩ := flat_scal (P := Try.prog) (k := k3) (t := 4) (ts := [5]) (L' := L5) (fun e q => by rw [Try.underlying4] at q; cases q) hF3
  obtain ⟨w, rfl⟩ := scal_bool Try.underlying4 hv
  obtain ⟨v, r, rfl, hv, hF5⟩ := flat_scal (P := Try.prog) (k := k3) (t := 5) (ts := []) (L' := L5) (fun e q => by rw [Try.underlying5] at q; cases q) hF4
  obtain ⟨o, rfl, ho⟩ := scal_int Try.underlying5 hv
  obtain rfl := flat_nil hF5
  obtain ⟨p, rfl⟩ := scal_bools Try.underlying4 hl
  obtain ⟨q, rfl⟩ := scal_bools Try.underlying4 hl2
  have w1 := wf_u8 hk
  have w2 := wf_u8 ho
  obtain ⟨k', rfl⟩ : ∃ n : Nat, k = n := ⟨k.toNat, by omega⟩
  obtain ⟨o', rfl⟩ : ∃ n : Nat, o = n := ⟨o.toNat, by omega⟩
  obtain rfl : p.length = m := by have := s.sl.len; simpa using this
  obtain rfl : q.length = m2 := by have := s2.sl.len; simpa using this
  exact C6 s s2 (by omega) (by omega)

end
end Go.Dx.SYtpkefdoleieloaa
