/- ReqOne: its walk. -/
import Derived.Test.YtkppbmhpcjjceaaRq9
import Derived.Test.YtkppbmhpcjjceaaRq6
namespace Go.Dx.SYtkppbmhpcjjceaa
open Go.Proofs
set_option linter.unusedVariables false
set_option linter.unusedSimpArgs false

section
variable {d : Option Nat} {r : List SOp} {e : Env} {h : Heap} {Q : Env → Heap → Prop}
theorem Wops_chkA {off id ez t n : Nat} {a : Arg} {vs l : List Value} {ro : Bool} (ha : a.ev e = some (.pointer (some ⟨id, off, none⟩))) (ht : e.get t = some (.agg ⟨l⟩)) (hg : h.get id = some (.cells vs ez ro)) (hl : off + n ≤ vs.length) (hv : (vs.drop off).take n = l) (hs : sameCells l l = true) (hq : Wops Try.prog r (e.put d undefV) h Q) :
    Wops Try.prog (⟨d, none, .chk n true a t⟩ :: r) e h Q := by
  refine Wops_run (v := undefV) (h' := h) rfl ?_ hq
  simp only [SO.run, ha, ht, ldV_agg hg hl hv, sameV, hs, cond_true]
theorem Wops_chkS {n c t : Nat} {x : Arg} {a : Option Addr} {xs : List Int} (hx : x.ev e = some (.slice a n c)) (s : SlA h 1 a n c (ints .u8 xs)) (hn : 0 < n) (ht : e.get t = some (.string ⟨⟨bytesOf xs⟩⟩)) (hq : Wops Try.prog r (e.put d undefV) h Q) :
    Wops Try.prog (⟨d, none, .chkS x t⟩ :: r) e h Q := by
  refine Wops_run (v := undefV) (h' := h) rfl ?_ hq
  cases a with
  | none => have := s.nil rfl; omega
  | some p =>
    obtain ⟨id, off, sp⟩ := p
    obtain rfl : sp = none := s.spot _ rfl
    have hb : n.beq 0 = false := by rw [beq_iff]; simp; omega
    rcases s.get _ rfl with q | q
    · omega
    · rw [Nat.mul_one] at q
      simp only [SO.run, hx, ht, hb, cond_false, q, bytesOfCells_ints, sameV, sameCell, decide_true, cond_true]
end

def RqI (kd : Int) (r : Rq) (ba : Option Addr) (bn bc : Nat) (aa : Option Addr) (an ac : Nat) : List Value := [.int .i64 kd, .int .u64 (r.tok : Int), .int .u64 (r.han : Int), .string (strOf r.name), .slice ba bn bc, .slice aa an ac, .int .u64 (r.tic : Int), .int .u64 (r.oth : Int)]
/-- A request as it is handed in. -/
structure Inn (h : Heap) (kd : Int) (r : Rq) (ba : Option Addr) (bn bc : Nat) (aa : Option Addr) (an ac : Nat) : Prop where
  k : r.kind = kd.toNat
  t : r.tok < M64
  hh : r.han < M64
  nb : ∀ x ∈ r.name, x < 256
  bb : ∀ x ∈ r.body, x < 256
  ab : ∀ x ∈ r.args, x < M64
  c : r.tic < M64
  o : r.oth < M64
  s1 : SlA h 1 ba bn bc (bys r.body)
  s2 : SlA h 1 aa an ac (u64s r.args)
theorem Inn.ext {h h' : Heap} {kd : Int} {r : Rq} {ba aa : Option Addr} {bn bc an ac : Nat} (i : Inn h kd r ba bn bc aa an ac) (x : Ext0 h h') : Inn h' kd r ba bn bc aa an ac :=
  ⟨i.k, i.t, i.hh, i.nb, i.bb, i.ab, i.c, i.o, i.s1.ext x, i.s2.ext x⟩
abbrev may (kd : Int) (r : Rq) (bn an : Nat) : Prop := 1 ≤ kd ∧ kd ≤ 6 ∧ (strOf r.name).size ≤ 60 ∧ bn ≤ 300 ∧ an ≤ 12
theorem Inn.ok {h : Heap} {kd : Int} {r : Rq} {ba aa : Option Addr} {bn bc an ac : Nat} (i : Inn h kd r ba bn bc aa an ac) (m : may kd r bn an) (hn : (strOf r.name).size ≤ 32) (ha : an ≤ 8) : r.Ok ∧ RqI kd r ba bn bc aa an ac = RqV r ba bn bc aa an ac := by
  obtain ⟨m1, m2, m3, m4, m5⟩ := m
  have hbn : r.body.length = bn := by simpa using i.s1.len
  have han : r.args.length = an := by simpa using i.s2.len
  have hk := i.k
  rw [strOf_size] at hn
  refine ⟨⟨by omega, by omega, i.t, i.hh, hn, i.nb, by omega, i.bb, by omega, i.ab, i.c, i.o⟩, ?_⟩
  have : kd = (r.kind : Int) := by omega
  rw [this]; rfl
theorem norm_name (r : Rq) (h : ∀ x ∈ r.name, x < 256) : ∀ x ∈ (normQ r).name, x < 256 := by
  unfold normQ
  split <;> first | exact h | (intro x hx; cases hx)
theorem norm_body (r : Rq) (h : ∀ x ∈ r.body, x < 256) : ∀ x ∈ (normQ r).body, x < 256 := by
  unfold normQ
  split <;> first | exact h | (intro x hx; cases hx)
theorem norm_args (r : Rq) (h : r.args.length ≤ 8) : (normQ r).args.length ≤ 8 := by
  unfold normQ
  split <;> first | exact h | exact Nat.zero_le _
theorem encQ_len {r : Rq} (k : r.Ok) : (encQ r).length ≤ 500 ∧ 0 < (encQ r).length := by
  have h1 := encU_len 10 r.han (Nat.lt_of_lt_of_le k.h (by decide)) (by decide)
  have h2 := encUs_len k.ab
  have h3 := encU_len 10 r.args.length (Nat.lt_of_le_of_lt k.a (by decide)) (by decide)
  have h4 := encU_len 10 r.name.length (Nat.lt_of_le_of_lt k.n (by decide)) (by decide)
  have h5 := encU_len 10 r.tic (Nat.lt_of_lt_of_le k.c (by decide)) (by decide)
  have h6 := k.a
  have h7 := k.n
  have h8 := k.b
  have hB : (encB r).length ≤ 400 := by
    unfold encB
    split <;> first | omega | (simp only [encN, encL, List.length_append, enc8_len, List.length_nil]; omega) | exact Nat.zero_le _
  unfold encQ
  simp only [List.length_append, enc8_len, List.length_singleton]
  omega
theorem encQ_byte {r : Rq} (k : r.Ok) : ∀ x ∈ encQ r, x < 256 := by
  have hN : ∀ x ∈ encN r.name, x < 256 := by
    intro x hx
    rcases List.mem_append.1 hx with hx | hx
    · exact encU_byte _ x hx
    · exact k.nb x hx
  have hL : ∀ x ∈ encL r.args, x < 256 := by
    intro x hx
    rcases List.mem_append.1 hx with hx | hx
    · exact encU_byte _ x hx
    · exact encUs_byte x hx
  have hB : ∀ x ∈ encB r, x < 256 := by
    unfold encB
    split
    · exact k.bb
    · intro x hx
      rcases List.mem_append.1 hx with hx | hx
      · exact encU_byte _ x hx
      · exact hN x hx
    · exact hN
    · intro x hx
      simp only [List.mem_append] at hx
      rcases hx with hx | hx | hx | hx
      · exact encU_byte _ x hx
      · exact hN x hx
      · exact hL x hx
      · exact encU_byte _ x hx
    · exact encU_byte _
    · exact enc8_byte _
    · intro x hx; cases hx
  intro x hx
  unfold encQ at hx
  simp only [List.mem_append, List.mem_singleton] at hx
  rcases hx with rfl | hx | hx
  · have := k.k6; omega
  · exact enc8_byte _ x hx
  · exact hB x hx
theorem sameCells_RqV {r : Rq} {ba aa : Option Addr} {bn bc an ac : Nat} {h : Heap} {l1 l2 : List Value} (s1 : SlA h 1 ba bn bc l1) (s2 : SlA h 1 aa an ac l2) : sameCells (RqV r ba bn bc aa an ac) (RqV r ba bn bc aa an ac) = true := by
  have e1 : sameCell (.slice ba bn bc) (.slice ba bn bc) = true := s1.same
  have e2 : sameCell (.slice aa an ac) (.slice aa an ac) = true := s2.same
  unfold RqV
  simp only [sameCells, e1, e2]
  simp [sameCell]

/-- Put, then taken. -/
theorem put_take {h : Heap} {r : Rq} {ba aa : Option Addr} {bn bc an ac : Nat} (k : r.Ok) (s1 : SlA h 1 ba bn bc (bys r.body)) (s2 : SlA h 1 aa an ac (u64s r.args)) :
    True := trivial

set_option maxHeartbeats 4000000 in
/-- ReqOne -/
theorem C7 {h : Heap} {kd kd' : Int} {r q : Rq} {ba aa bb ab : Option Addr} {bn bc an ac bm bd am ad : Nat} (I : Inn h kd r ba bn bc aa an ac) (J : Inn h kd' q bb bm bd ab am ad) :
    Fn Try.prog 7 [.agg ⟨RqI kd r ba bn bc aa an ac⟩, .agg ⟨RqI kd' q bb bm bd ab am ad⟩] h fun v _ => v = .bool true := by
  refine fnK F7.fok rfl ?_
  refine K_reg (Wops_box (cs := RqI kd r ba bn bc aa an ac) rfl rfl fun h1 n1 x1 g1' => Wops_box (cs := RqI kd' q bb bm bd ab am ad) rfl rfl fun h2 n2 x2 g2 => Wops_run rfl rfl (K_fin [(2, _), (3, _)] rfl (?_)))
  have g1 : At h2 h.next (.cells (RqI kd r ba bn bc aa an ac) 0 false) := At.ext g1' x2
  have I2 := (I.ext x1).ext x2
  have J2 := (J.ext x1).ext x2
  refine K_ss (K_reg (Wops_call rfl C12 ?_))
  rintro _ _ ⟨rfl, rfl⟩
  refine Wops_run rfl rfl (K_fin [(2, _), (3, _), (10, _)] rfl (?_))
  refine K_scond rfl (fun hc => by cases hc) (fun _ => ?_)
  refine K_sskip (K_ss (K_join (fun e h' => ∃ b, e = [(2, ptr h.next), (3, ptr h1.next), (42, .bool b)] ∧ Ext0 h2 h' ∧ (b = false → may kd r bn an ∧ may kd' q bm am ∧ (strOf r.name).size ≤ 32 ∧ (strOf q.name).size ≤ 32 ∧ an ≤ 8 ∧ am ≤ 8)) ?_ ?_))
  · refine K_last (Wops_ldA (l := RqI kd r ba bn bc aa an ac) rfl g1 (by simp [RqI]) rfl (Wops_call rfl C18 ?_))
    rintro _ h3 ⟨rfl, x3⟩
    have g13 := g1.ext x3
    have g23 := At.ext g2 x3
    by_cases m1 : may kd r bn an
    case neg =>
      rw [decide_eq_false m1]
      (repeat (first | refine Wops_skip rfl ?_ | refine Wops_run rfl rfl ?_))
      exact K_finL [(2, _), (3, _), (42, _)] rfl ⟨_, rfl, x3, fun e => by cases e⟩
    rw [decide_eq_true m1]
    refine Wops_run rfl rfl (Wops_run rfl rfl (Wops_go rfl (Wops_ldA (l := RqI kd' q bb bm bd ab am ad) rfl g23 (by simp [RqI]) rfl (Wops_go rfl (Wops_call rfl C18 ?_)))))
    rintro _ h4 ⟨rfl, x4⟩
    have g14 := g13.ext x4
    have g24 := g23.ext x4
    by_cases m2 : may kd' q bm am
    case neg =>
      rw [decide_eq_false m2]
      refine Wops_go rfl (Wops_run rfl rfl (Wops_run rfl rfl (Wops_run rfl rfl ?_)))
      (repeat (first | refine Wops_skip rfl ?_ | refine Wops_run rfl rfl ?_))
      exact K_finL [(2, _), (3, _), (42, _)] rfl ⟨_, rfl, x3.trans x4, fun e => by cases e⟩
    rw [decide_eq_true m2]
    refine Wops_go rfl (Wops_run rfl rfl (Wops_run rfl rfl (Wops_run rfl rfl (Wops_go rfl (Wops_run rfl rfl (Wops_go rfl (Wops_ld (v := .string (strOf r.name)) rfl g14 rfl (Wops_go rfl (Wops_run rfl rfl (Wops_go rfl ?_))))))))))
    by_cases c1 : (strOf r.name).size ≤ 32
    case neg =>
      refine Wops_as (w := .bool true) rfl rfl (by rw [decide_eq_true (by omega)]) (Wops_run rfl rfl (Wops_run rfl rfl ?_))
      (repeat (first | refine Wops_skip rfl ?_ | refine Wops_run rfl rfl ?_))
      exact K_finL [(2, _), (3, _), (42, _)] rfl ⟨_, rfl, x3.trans x4, fun e => by cases e⟩
    refine Wops_as (w := .bool false) rfl rfl (by rw [decide_eq_false (by omega)]) (Wops_run rfl rfl (Wops_run rfl rfl (Wops_go rfl (Wops_run rfl rfl (Wops_go rfl (Wops_ld (v := .string (strOf q.name)) rfl g24 rfl (Wops_go rfl (Wops_run rfl rfl (Wops_go rfl ?_)))))))))
    by_cases c2 : (strOf q.name).size ≤ 32
    case neg =>
      refine Wops_as (w := .bool true) rfl rfl (by rw [decide_eq_true (by omega)]) (Wops_run rfl rfl (Wops_run rfl rfl ?_))
      (repeat (first | refine Wops_skip rfl ?_ | refine Wops_run rfl rfl ?_))
      exact K_finL [(2, _), (3, _), (42, _)] rfl ⟨_, rfl, x3.trans x4, fun e => by cases e⟩
    refine Wops_as (w := .bool false) rfl rfl (by rw [decide_eq_false (by omega)]) (Wops_run rfl rfl (Wops_run rfl rfl (Wops_go rfl (Wops_run rfl rfl (Wops_go rfl (Wops_ld (v := .slice aa an ac) rfl g14 rfl (Wops_go rfl (Wops_run rfl rfl (Wops_go rfl ?_)))))))))
    by_cases c3 : an ≤ 8
    case neg =>
      refine Wops_as (w := .bool true) rfl rfl (by rw [decide_eq_true (by omega)]) (Wops_run rfl rfl (Wops_run rfl rfl ?_))
      (repeat (first | refine Wops_skip rfl ?_ | refine Wops_run rfl rfl ?_))
      exact K_finL [(2, _), (3, _), (42, _)] rfl ⟨_, rfl, x3.trans x4, fun e => by cases e⟩
    refine Wops_as (w := .bool false) rfl rfl (by rw [decide_eq_false (by omega)]) (Wops_run rfl rfl (Wops_run rfl rfl (Wops_go rfl (Wops_run rfl rfl (Wops_go rfl (Wops_ld (v := .slice ab am ad) rfl g24 rfl (Wops_go rfl (Wops_run rfl rfl (Wops_go rfl (Wops_run rfl rfl (Wops_run rfl rfl (K_finL [(2, _), (3, _), (42, _)] rfl (?_)))))))))))))
    exact ⟨_, rfl, x3.trans x4, fun e => ⟨m1, m2, c1, c2, c3, by have := of_decide_eq_false e; omega⟩⟩
  rintro _ h3 ⟨b, rfl, x3, hbf⟩
  refine K_scond rfl (fun hc => ?_) (fun hc => ?_)
  · refine K_ss (K_reg (Wops_run rfl rfl (K_fin [(4, _)] rfl (?_))))
    exact K_sret (Told.mk _ rfl rfl)
  obtain ⟨m1, m2, c1, c2, c3, c4⟩ := hbf hc
  obtain ⟨kr, er⟩ := I2.ok m1 c1 c3
  obtain ⟨kq, eq⟩ := J2.ok m2 c2 c4
  have g1 : At h3 h.next (.cells (RqV r ba bn bc aa an ac) 0 false) := by rw [← er]; exact g1.ext x3
  have g2 : At h3 h1.next (.cells (RqV q bb bm bd ab am ad) 0 false) := by rw [← eq]; exact At.ext g2 x3
  have I3 := I2.ext x3
  have J3 := J2.ext x3
  have Lr := encQ_len kr
  have Lq := encQ_len kq
  clear hbf g1'
  refine K_sskip (K_reg (Wops_ldA (l := RqV r ba bn bc aa an ac) rfl g1 (by simp [RqV]) rfl (Wops_call rfl (C19 kr.fit I3.s1 I3.s2) ?_)))
  rintro _ h4 ⟨a4, c4', rfl, o4, x4, b4⟩
  have T1 := C14 o4.sl (by omega) (encQ_byte kr) (fun i q => o4.lt q)
  rw [takeQ_enc kr] at T1
  refine Wops_call rfl T1 ?_
  rintro _ h5 ⟨x5, ba5, bc5, aa5, ac5, rfl, ob5, oa5, bb5, ab5⟩
  refine Wops_run rfl rfl (Wops_run rfl rfl (Wops_run rfl rfl (Wops_new fun h6 n6 x6 g6 => Wops_st (l := RqV (normQ r) ba5 (normQ r).body.length bc5 aa5 (normQ r).args.length ac5) rfl rfl rfl rfl g6 (by simp) (by simp [RqV, isCell]) fun h7 n7 x7 g7 => Wops_run rfl rfl (K_fin [(2, _), (3, _), (5, _), (6, _)] rfl (?_)))))
  have z4 := x4.next
  have z5 := x5.next
  have z6 := x6.next
  have x37 : Ext0 h3 h7 := ((x4.trans x5).trans x6).then x7 fun i r => .inr (by omega)
  have ob7 := (ob5.ext x6).ext x7 fun i r => by have := ob5.lt r; omega
  have oa7 := (oa5.ext x6).ext x7 fun i r => by have := oa5.lt r; omega
  have J7 := J3.ext x37
  have I7 := I3.ext x37
  refine K_reg (Wops_ldA (l := RqV q bb bm bd ab am ad) rfl (g2.ext x37) (by simp [RqV]) rfl (Wops_call rfl (C19 kq.fit J7.s1 J7.s2) ?_))
  rintro _ h8 ⟨a8, c8, rfl, o8, x8, b8⟩
  have T2 := C14 o8.sl (by omega) (encQ_byte kq) (fun i q => o8.lt q)
  rw [takeQ_enc kq] at T2
  refine Wops_call rfl T2 ?_
  rintro _ h9 ⟨x9, ba9, bc9, aa9, ac9, rfl, ob9, oa9, bb9, ab9⟩
  refine Wops_run rfl rfl (Wops_run rfl rfl (Wops_run rfl rfl (Wops_new fun h10 n10 x10 g10 => Wops_st (l := RqV (normQ q) ba9 (normQ q).body.length bc9 aa9 (normQ q).args.length ac9) rfl rfl rfl rfl g10 (by simp) (by simp [RqV, isCell]) fun h11 n11 x11 g11 => Wops_run rfl rfl (K_fin [(2, _), (3, _), (5, _), (6, _), (7, _), (8, _)] rfl (?_)))))
  have z8 := x8.next
  have z9 := x9.next
  have z10 := x10.next
  have z7 := x7.next
  have x711 : Ext0 h7 h11 := ((x8.trans x9).trans x10).then x11 fun i r => .inr (by omega)
  have ob11 := (ob9.ext x10).ext x11 fun i r => by have := ob9.lt r; omega
  have oa11 := (oa9.ext x10).ext x11 fun i r => by have := oa9.lt r; omega
  have gA : At h11 h5.next (.cells (RqV (normQ r) ba5 (normQ r).body.length bc5 aa5 (normQ r).args.length ac5) 0 false) := At.ext g7 x711
  have gr := (g1.ext x37).ext x711
  have gq := (g2.ext x37).ext x711
  have Ir := I7.ext x711
  have Jq := J7.ext x711
  refine K_reg (Wops_run rfl rfl (Wops_as (w := .bool true) rfl rfl (by simp) (Wops_run rfl rfl (Wops_go rfl (Wops_run rfl rfl (Wops_go rfl (Wops_as (w := .bool true) rfl rfl (by simp) (Wops_run rfl rfl (Wops_run rfl rfl ?_)))))))))
  refine Wops_go rfl (Wops_ldA (l := RqV (normQ r) ba5 (normQ r).body.length bc5 aa5 (normQ r).args.length ac5) rfl gA (by simp [RqV]) rfl (Wops_go rfl (Wops_ldA (l := RqV (normQ q) ba9 (normQ q).body.length bc9 aa9 (normQ q).args.length ac9) rfl g11 (by simp [RqV, putL]) rfl ?_)))
  refine Wops_go rfl (Wops_ldA (l := RqV r ba bn bc aa an ac) rfl gr (by simp [RqV]) rfl (Wops_go rfl (Wops_ldA (l := RqV q bb bm bd ab am ad) rfl gq (by simp [RqV]) rfl ?_)))
  have hA8 := norm_args r kr.a
  refine Wops_go rfl (Wops_call rfl (C21 (ob7.ext x711).sl (oa7.ext x711).sl ob11.sl oa11.sl (norm_name r kr.nb) (norm_name q kq.nb) (norm_body r kr.bb) (norm_body q kq.bb) (by omega)) ?_)
  rintro _ h12 ⟨rfl, x12⟩
  have gr12 := gr.ext x12
  have gq12 := gq.ext x12
  have I12 := Ir.ext x12
  have J12 := Jq.ext x12
  refine Wops_go rfl (Wops_chkA rfl rfl gr12 (by simp [RqV]) rfl (sameCells_RqV I12.s1 I12.s2) (Wops_go rfl (Wops_chkA rfl rfl gq12 (by simp [RqV]) rfl (sameCells_RqV J12.s1 J12.s2) (Wops_go rfl (Wops_call rfl (C19 kr.fit I12.s1 I12.s2) ?_)))))
  rintro _ h13 ⟨a13, c13, rfl, o13, x13, b13⟩
  have gq13 := gq12.ext x13
  have J13 := J12.ext x13
  have sr := o13.sl
  rw [bys_ints] at sr
  refine Wops_go rfl (Wops_chkA rfl rfl gq13 (by simp [RqV]) rfl (sameCells_RqV J13.s1 J13.s2) (Wops_go rfl (Wops_toStr rfl sr (Wops_go rfl (Wops_call rfl (C19 kq.fit J13.s1 J13.s2) ?_)))))
  rintro _ h14 ⟨a14, c14, rfl, o14, x14, b14⟩
  have sq := o14.sl
  rw [bys_ints] at sq
  refine Wops_go rfl (Wops_chkS rfl (sr.ext x14) (by omega) rfl (Wops_go rfl (Wops_toStr rfl sq (Wops_go rfl (Wops_streq (v := decide (encQ r = encQ q)) rfl rfl (str_eq (encQ_byte kr) (encQ_byte kq)) ?_)))))
  refine Wops_go rfl (Wops_as (w := .bool true) rfl rfl ?_ (Wops_run rfl rfl (Wops_run rfl rfl ?_)))
  · have hd : decide (normQ r = normQ q) = decide (encQ r = encQ q) := decide_eq_decide.2 (encQ_inj kr kq).symm
    rw [hd]
    simp
  have x1214 := (x12.trans x13).trans x14
  have gr14 := gr.ext x1214
  have I14 := Ir.ext x1214
  have ka := kr.a
  have han : r.args.length = an := by simpa using I14.s2.len
  refine Wops_go rfl (Wops_ldA (l := RqV r ba bn bc aa an ac) rfl gr14 (by simp [RqV]) rfl (Wops_go rfl (Wops_ldA (l := RqV r ba bn bc aa an ac) rfl gr14 (by simp [RqV]) rfl (Wops_go rfl (Wops_call rfl (C21 I14.s1 I14.s2 I14.s1 I14.s2 kr.nb kr.nb kr.bb kr.bb (by omega)) ?_)))))
  rintro _ h15 ⟨rfl, x15⟩
  refine Wops_run rfl rfl (Wops_run rfl rfl (K_fin [(4, _)] rfl (?_)))
  exact K_ret (Told.mk _ rfl (by simp; rfl))
end Go.Dx.SYtkppbmhpcjjceaa
