/- InstCopies: the walk. -/
import Derived.Test.YtpogcjdenefhlaaIn7
import Derived.Test.YtpogcjdenefhlaaIn2
namespace Go.Dx.SYtpogcjdenefhlaa
open Go.Proofs
set_option linter.unusedVariables false
set_option linter.unusedSimpArgs false

abbrev eqI (d f : ID) : Bool := decide (d.bs = f.bs) && (decide (d.tt = f.tt) && (decide (d.gs = f.gs) && (decide (d.es = f.es) && decide (d.ds = f.ds))))
theorem set_ne {α : Type} {l : List α} {j : Nat} {x y : α} (hj : l[j]? = some y) (hxy : y ≠ x) : l ≠ l.set j x := fun e => by
  have h2 : (l.set j x)[j]? = some y := by rw [← e]; exact hj
  have hlt : j < l.length := by
    by_cases h : j < l.length
    · exact h
    · rw [List.getElem?_eq_none (by omega)] at hj; cases hj
  rw [List.getElem?_set_self hlt] at h2
  cases h2; exact hxy rfl
theorem xor5 {v : Int} (h : (0 ≤ v ∧ v ≤ 8) ∨ v = 18446744073709551615) : v ≠ IntKind.wrap .u64 ((BitVec.ofInt 64 v ^^^ BitVec.ofInt 64 5).toNat) := by
  have : v = 0 ∨ v = 1 ∨ v = 2 ∨ v = 3 ∨ v = 4 ∨ v = 5 ∨ v = 6 ∨ v = 7 ∨ v = 8 ∨ v = 18446744073709551615 := by omega
  rcases this with rfl | rfl | rfl | rfl | rfl | rfl | rfl | rfl | rfl | rfl <;> decide
theorem eqI_m {d f : ID} (h : d.bs ≠ f.bs) : eqI d f = false := by simp [eqI, h]
theorem eqI_t {d f : ID} (h : d.tt ≠ f.tt) : eqI d f = false := by simp [eqI, h]
theorem eqI_g {d f : ID} (h : d.gs ≠ f.gs) : eqI d f = false := by simp [eqI, h]
theorem eqI_e {d f : ID} (h : d.es ≠ f.es) : eqI d f = false := by simp [eqI, h]
theorem eqI_d {d f : ID} (h : d.ds ≠ f.ds) : eqI d f = false := by simp [eqI, h]
theorem Fn_same {h : Heap} {p q : Nat} {d f : ID} {b : Bool} (i1 : InP h p d) (i2 : InP h q f) (hb : eqI d f = b) : Fn Try.prog 17 [ptr p, ptr q] h fun v h' => v = .bool b ∧ h = h' :=
  (C17t i1 i2).mono fun v h' ⟨a, r⟩ => ⟨by rw [a]; exact congrArg Value.bool hb, r⟩
theorem tmod_in {x m : Int} (h0 : 0 ≤ x) (hm : 0 < m) : 0 ≤ x.tmod m ∧ x.tmod m < m := ⟨Int.tmod_nonneg _ h0, Int.tmod_lt_of_pos _ hm⟩

/-- A table that is appended to. -/
theorem C4def {h : Heap} {p q c : Nat} {d : ID} {x y : Value} {kn : Kn} {kx : Nat → Kn} {kr : Kn} (I : InP h q d) (K : Dist q d) (hb : d.tt.length ≤ 900)
    (hq : ∀ h' f, Ext (Own q d) h h' → InP h' q f → f.tt = d.tt ++ [0] → kn [(7, ptr p), (9, ptr q), (10, ptr c)] h') :
    W Try.prog (.region [⟨some 84, none, .mov (.t 9)⟩, ⟨some 85, none, .nilc (.t 84)⟩, ⟨some 86, none, .fa 15 (.t 85)⟩, ⟨some 87, none, .ld 1 false (.t 86)⟩, ⟨some 88, none, .mov (.t 9)⟩, ⟨some 89, none, .nilc (.t 88)⟩, ⟨some 90, none, .fa 15 (.t 89)⟩, ⟨some 91, none, .ld 1 false (.t 90)⟩, ⟨some 92, none, .iaV 1 (.t 91) (.c (.int .i64 0))⟩, ⟨some 93, none, .ld 1 false (.t 92)⟩, ⟨some 94, none, .bslice 1 1 [.int .u64 0] [(0, 1, .c (.int .u64 0))]⟩, ⟨some 95, none, .app 1 8 (.t 93) (.t 94)⟩, ⟨none, none, .chk 1 false (.t 86) 87⟩, ⟨some 96, none, .iaV 1 (.t 87) (.c (.int .i64 0))⟩, ⟨none, none, .st 1 (.t 96) (.t 95)⟩] [7, 9, 10])
      [(2, x), (7, ptr p), (9, ptr q), (10, ptr c), (162, y)] h (K3 kn kx kr) := by
  obtain ⟨tl, g⟩ := I.g
  have ml := I.ml
  have mcl := I.mcl
  have ot := I.ot
  have o1 := I.o1
  obtain ⟨mod, bl, ma, mc, bs, ta, tc, t1, t1c, tt, ga, gc, gs, ea, ec, es, da, dc, ds⟩ := d
  simp only at ml mcl ot o1 hb hq K
  unfold ID.cs at g
  simp only at g
  obtain ⟨a0, a1, a2, a3, a4, a5, a6, a7, a8, a9, a10, a11, a12, rfl⟩ := thirteen ml
  refine K_last (Wops_run rfl rfl (Wops_run rfl rfl (Wops_run rfl rfl (Wops_ld (v := .slice ta 1 tc) rfl g rfl (Wops_run rfl rfl (Wops_run rfl rfl (Wops_run rfl rfl (Wops_ld (v := .slice ta 1 tc) rfl g rfl ?_))))))))
  refine Wops_idx (u := .slice t1 tt.length t1c) rfl rfl ot.sl ⟨by omega, by omega⟩ rfl fun _ => ?_
  refine Wops_bslice (l := ints .u64 [0]) rfl rfl fun h1 n1 x1 g1 => ?_
  refine Wops_app (m := 1) rfl rfl (o1.ext x1) rfl (OwS.new (n := 1) (c := 1) g1 rfl).sl.first ⟨by omega, by omega⟩ rfl rfl (by decide) fun h2 a2' c2 x2 o2 b2 => ?_
  have gq : ∀ {i : Nat}, Blk t1 i → Own q ⟨[a0, a1, a2, a3, a4, a5, a6, a7, a8, a9, a10, a11, a12], bl, ma, mc, bs, ta, tc, t1, t1c, tt, ga, gc, gs, ea, ec, es, da, dc, ds⟩ i := fun r => .inr (.inr (.inr (.inl r)))
  have I1 := I.ext0 x1
  have g2 := (g.ext x1).ext x2 fun r => (K.o q r).1 rfl
  have ot2 := (ot.ext x1).ext x2 fun i r e => (K.t i r).2.1 e
  refine Wops_chk rfl rfl g2 (v := .slice ta 1 tc) rfl ot.sl.same (Wops_put1 rfl rfl ot2 ⟨by omega, by omega⟩ (fun _ => rfl) rfl rfl fun _ h3 n3 x3 o3 => ?_)
  have x12 : Ext (Blk t1) h h2 := (x1.of0).then x2 fun i r => .inl r
  refine K_finL [(7, _), (9, _), (10, _)] rfl (hq h3 ⟨[a0, a1, a2, a3, a4, a5, a6, a7, a8, a9, a10, a11, a12], bl, ma, mc, bs, ta, tc, a2', c2, tt ++ [0], ga, gc, gs, ea, ec, es, da, dc, ds⟩ ((x12.mono fun i _ r => gq r).then x3 fun i r => .inl (.inr (.inr (.inl r)))) ?_ rfl)
  have J : ∀ {i : Nat}, ¬ Blk t1 i → ¬ Blk ta i → ∀ {o}, At h i o → At h3 i o := fun n1 n2 _ gg => (gg.ext x12 n1).ext x3 n2
  refine ⟨⟨tl, g2.ext x3 fun r => (K.t q r).1 rfl⟩, (I.om.ext x12 fun i r e => (K.m i r).2.2.1 e).ext x3 fun i r e => (K.m i r).2.1 e, ?_, ?_, (I.og.ext x12 fun i r e => (K.o i e).2.1 r).ext x3 fun i r e => (K.t i e).2.2.1 r, (I.oe.ext x12 fun i r e => (K.o i e).2.2.1 r).ext x3 fun i r e => (K.t i e).2.2.2.1 r, (I.od.ext x12 fun i r e => (K.o i e).2.2.2 r).ext x3 fun i r e => (K.t i e).2.2.2.2 r, rfl, mcl, I.blc, I.bb, by simp only [List.length_append, List.length_cons, List.length_nil]; omega, I.gb, I.eb, I.db⟩
  · simp only [List.length_append, List.length_cons, List.length_nil]
    exact o3
  · simp only [List.length_append, List.length_cons, List.length_nil]
    rw [ints, List.map_append]
    exact o2.ext x3 fun i r e => (b2 i r).elim (fun r => (K.t i e).2.1 r) fun r => by have := ot.lt e; omega

set_option maxHeartbeats 8000000 in
/-- InstCopies -/
theorem C4 {h0 : Heap} {a : Option Addr} {n c : Nat} {xs : List Int} {what at0 : Int} (s : InS h0 a n c (ints .u8 xs)) (hx : ∀ x ∈ xs, 0 ≤ x ∧ x ≤ 255) (hwh : 0 ≤ what ∧ what ≤ 255) (hat : 0 ≤ at0 ∧ at0 ≤ 65535) : Fn Try.prog 4 [.slice a n c, .int .u8 what, .int .u16 at0] h0 fun v _ => v = .bool true := by
  have hxn : xs.length = n := by simpa using s.sl.len
  subst hxn
  refine fnK F4.fok rfl ?_
  refine K_reg (Wops_run rfl rfl (K_fin [(0, _), (1, _), (2, _)] rfl (?_)))
  refine K_ss (K_reg (Wops_call rfl C6 ?_))
  rintro _ _ ⟨rfl, rfl⟩
  refine Wops_run rfl rfl (K_fin [(0, _), (1, _), (2, _), (13, _)] rfl (?_))
  refine K_scond rfl (fun hc => by cases hc) (fun _ => ?_)
  refine K_sskip (K_ss (K_reg (Wops_run rfl rfl (Wops_run rfl rfl (Wops_run rfl rfl (K_fin [(0, _), (1, _), (2, _), (16, _)] rfl (?_)))))))
  refine K_scond rfl (fun hc => ?_) (fun hc => ?_)
  · refine K_ss (K_reg (Wops_run rfl rfl (K_fin [(6, _)] rfl (?_))))
    exact K_sret (Told.mk _ rfl rfl)
  have hn150 : xs.length ≤ 150 := by have := of_decide_eq_false hc; omega
  refine K_sskip (K_reg (Wops_run rfl rfl (Wops_call rfl C7 ?_)))
  rintro _ h1 ⟨rfl, g1, x1⟩
  have l1 := g1.lt
  refine Wops_call rfl (C8 g1 (s.sl.ext x1) hx (by omega) fun i r => ⟨by have := s.lt i r; omega, by have := s.lt i r; omega⟩) ?_
  rintro _ h2 ⟨d, rfl, mcell, lay, x2⟩
  obtain ⟨ws, hws⟩ := lay.ws
  refine Wops_call rfl (C9 lay hws) ?_
  rintro _ h3 ⟨pa, aa, ac, L, ma, mc, ta, tc, t1, t1c, ga, gc, ea, ec, da, dc, rfl, x3, I3, -, -⟩
  refine Wops_run rfl rfl (Wops_run rfl rfl (Wops_run rfl rfl (Wops_run rfl rfl (Wops_run rfl rfl (K_fin [(1, _), (2, _), (7, _), (8, _)] rfl (?_))))))
  refine K_ss (K_reg (Wops_run rfl rfl (Wops_as (w := .bool false) rfl rfl rfl (Wops_run rfl rfl (Wops_go rfl (Wops_run rfl rfl (Wops_go rfl (Wops_run rfl rfl (Wops_run rfl rfl (K_fin [(1, _), (2, _), (7, _), (29, _)] rfl (?_)))))))))))
  refine K_scond rfl (fun hc => by cases hc) (fun _ => ?_)
  refine K_sskip (K_reg (Wops_run rfl rfl (Wops_call rfl (C16t I3) ?_)))
  rintro _ h4 ⟨pb, mb, mbc, tb, tbc, t1b, t1bc, gb, gbc, eb, ebc, db, dbc, rfl, x4, I4, K4, O4⟩
  refine Wops_run rfl rfl (K_fin [(1, _), (2, _), (7, _), (9, _)] rfl (?_))
  refine K_reg (Wops_run rfl rfl (Wops_call rfl (C16t (I3.ext0 x4)) ?_))
  rintro _ h5 ⟨pc, mc', mcc, tc', tcc, t1c', t1cc, gc', gcc, ec', ecc, dc', dcc, rfl, x5, I5, -, O5⟩
  refine Wops_run rfl rfl (K_fin [(1, _), (2, _), (7, _), (9, _), (10, _)] rfl (?_))
  change InP h4 pb (d.ins aa ac mb mbc tb tbc t1b t1bc gb gbc eb ebc db dbc) at I4
  change Dist pb (d.ins aa ac mb mbc tb tbc t1b t1bc gb gbc eb ebc db dbc) at K4
  change ∀ i, Own pb (d.ins aa ac mb mbc tb tbc t1b t1bc gb gbc eb ebc db dbc) i → h3.next ≤ i at O4
  have IB := I4.ext0 x5
  obtain ⟨tl, gB⟩ := IB.g
  refine K_ss (K_reg (Wops_run rfl rfl (Wops_run rfl rfl (Wops_run rfl rfl (Wops_go rfl (Wops_run rfl rfl (Wops_go rfl (Wops_run rfl rfl (Wops_run rfl rfl (Wops_run rfl rfl ?_))))))))))
  refine Wops_go rfl (Wops_run rfl rfl (Wops_go rfl (Wops_run rfl rfl (Wops_go rfl (Wops_run rfl rfl (Wops_go rfl (Wops_ld (v := .slice gb 2 gbc) rfl gB rfl (Wops_go rfl (Wops_run rfl rfl (Wops_go rfl (Wops_as (w := .bool false) rfl rfl rfl (Wops_run rfl rfl (Wops_run rfl rfl ?_)))))))))))))
  refine Wops_go rfl (Wops_run rfl rfl (Wops_go rfl (Wops_run rfl rfl (Wops_go rfl (Wops_run rfl rfl (Wops_go rfl (Wops_ld (v := .slice tb 1 tbc) rfl gB rfl (Wops_go rfl (Wops_run rfl rfl (Wops_go rfl (Wops_as (w := .bool false) rfl rfl rfl (Wops_run rfl rfl (Wops_run rfl rfl ?_)))))))))))))
  obtain ⟨idt, offt, vst, ezt, rot, rfl, gt, hlt, -, hgt⟩ := IB.ot.sl.at (by decide)
  have hcT : vst[offt + (0 : Int).toNat * 1]? = some (.slice t1b 4 t1bc) := (hgt 0 (by decide))
  refine Wops_go rfl (Wops_run rfl rfl (Wops_go rfl (Wops_run rfl rfl (Wops_go rfl (Wops_run rfl rfl (Wops_go rfl (Wops_ld (v := .slice (some ⟨idt, offt, none⟩) 1 tbc) rfl gB rfl (Wops_go rfl (Wops_iaV rfl rfl ⟨by decide, by decide⟩ (Wops_go rfl (Wops_ld rfl gt hcT (Wops_go rfl (Wops_run rfl rfl (Wops_go rfl (Wops_as (w := .bool false) rfl rfl rfl (Wops_run rfl rfl (Wops_run rfl rfl ?_)))))))))))))))))
  refine Wops_go rfl (Wops_run rfl rfl (Wops_go rfl (Wops_run rfl rfl (Wops_go rfl (Wops_run rfl rfl (Wops_go rfl (Wops_ld (v := .slice db 2 dbc) rfl gB rfl (Wops_go rfl (Wops_run rfl rfl (Wops_go rfl (Wops_as (w := .bool false) rfl rfl rfl (Wops_run rfl rfl (Wops_run rfl rfl ?_)))))))))))))
  refine Wops_go rfl (Wops_run rfl rfl (Wops_go rfl (Wops_run rfl rfl (Wops_go rfl (Wops_run rfl rfl (Wops_go rfl (Wops_ld (v := .slice eb 2 ebc) rfl gB rfl (Wops_go rfl (Wops_run rfl rfl (Wops_go rfl (Wops_as (w := .bool false) rfl rfl rfl (Wops_run rfl rfl (K_fin [(1, _), (2, _), (7, _), (9, _), (10, _), (81, _)] rfl (?_))))))))))))))
  refine K_scond rfl (fun hc => by cases hc) (fun _ => ?_)
  obtain ⟨hm0, hm6⟩ := tmod_in (m := 6) hwh.1 (by decide)
  refine K_sskip (K_ss (K_reg (Wops_run rfl rfl (Wops_rem rfl rfl (by decide) (Wops_run rfl rfl (K_fin [(2, _), (7, _), (9, _), (10, _), (11, _)] rfl (?_)))))))
  generalize what.tmod 6 = kk at hm0 hm6 ⊢
  refine K_join (fun e h' => e = [(7, ptr pa), (9, ptr pb), (10, ptr pc)] ∧ ∃ f, Ext (Own pb (d.ins aa ac mb mbc (some ⟨idt, offt, none⟩) tbc t1b t1bc gb gbc eb ebc db dbc)) h5 h' ∧ InP h' pb f ∧ eqI (d.ins aa ac ma mc ta tc t1 t1c ga gc ea ec da dc) f = false) ?_ ?_
  rotate_left
  · -- what is told
    rintro e h6 ⟨rfl, f, x6, If, hne⟩
    have Ia : InP h6 pa (d.ins aa ac ma mc ta tc t1 t1c ga gc ea ec da dc) := ((I3.ext0 x4).ext0 x5).ext x6 fun i r q => by have := I3.lt r; have := O4 i q; omega
    have Ic := I5.ext x6 fun i r q => by have := O5 i r; have := I4.lt q; omega
    refine K_reg (Wops_run rfl rfl (Wops_run rfl rfl (Wops_call rfl (Fn_same Ia If hne) ?_)))
    rintro _ _ ⟨rfl, rfl⟩
    refine Wops_run rfl rfl (Wops_run rfl rfl (Wops_go rfl (Wops_run rfl rfl (Wops_go rfl (Wops_run rfl rfl (Wops_go rfl (Wops_call rfl (Fn_same (b := true) Ia Ic (by simp [eqI])) ?_)))))))
    rintro _ _ ⟨rfl, rfl⟩
    refine Wops_run rfl rfl (Wops_run rfl rfl (Wops_go rfl (Wops_run rfl rfl (Wops_go rfl (Wops_run rfl rfl (Wops_go rfl (Wops_call rfl (Fn_same (b := true) Ic Ia (by simp [eqI])) ?_)))))))
    rintro _ _ ⟨rfl, rfl⟩
    refine Wops_run rfl rfl (Wops_run rfl rfl (Wops_go rfl (Wops_call rfl C16nil ?_)))
    rintro _ _ ⟨rfl, rfl⟩
    refine Wops_go rfl (Wops_run rfl rfl (Wops_run rfl rfl (Wops_run rfl rfl (Wops_go rfl (Wops_call rfl C17nn ?_)))))
    rintro _ _ ⟨rfl, rfl⟩
    refine Wops_run rfl rfl (Wops_run rfl rfl (K_fin [(6, _)] rfl (?_)))
    exact K_ret (Told.mk _ rfl rfl)
  have hN := (mvN lay.mv).2
  have hk : kk = 0 ∨ kk = 1 ∨ kk = 2 ∨ kk = 3 ∨ kk = 4 ∨ kk = 5 := by omega
  have hdef : ∀ x y, W Try.prog _ [(2, x), (7, ptr pa), (9, ptr pb), (10, ptr pc), (162, y)] h5 (K3 (fun e h' => e = [(7, ptr pa), (9, ptr pb), (10, ptr pc)] ∧ ∃ f, Ext (Own pb (d.ins aa ac mb mbc (some ⟨idt, offt, none⟩) tbc t1b t1bc gb gbc eb ebc db dbc)) h5 h' ∧ InP h' pb f ∧ eqI (d.ins aa ac ma mc ta tc t1 t1c ga gc ea ec da dc) f = false) (bx 0 (fun e h' => e = [(7, ptr pa), (9, ptr pb), (10, ptr pc)] ∧ ∃ f, Ext (Own pb (d.ins aa ac mb mbc (some ⟨idt, offt, none⟩) tbc t1b t1bc gb gbc eb ebc db dbc)) h5 h' ∧ InP h' pb f ∧ eqI (d.ins aa ac ma mc ta tc t1 t1c ga gc ea ec da dc) f = false) fun _ => Told F4.res (fun v _ => v = .bool true)) (Told F4.res (fun v _ => v = .bool true))) := fun x y =>
    C4def IB K4 (show (4 : Nat) ≤ 900 by decide) fun h' f y If hf => ⟨rfl, f, y, If, eqI_t fun e => by rw [hf] at e; cases e⟩
  refine K_block ?_
  have hla : (List.replicate d.N (0 : Int)).length = d.N := List.length_replicate
  have gBm : ∀ {tl : List Value}, (ID.cs (d.ins aa ac mb mbc (some ⟨idt, offt, none⟩) tbc t1b t1bc gb gbc eb ebc db dbc) tl)[0 + 14]? = some (.slice mb d.N mbc) := fun {tl} => by
    show some (Value.slice mb (List.replicate d.N (0 : Int)).length mbc) = _
    rw [hla]
  rcases hk with rfl | rfl | rfl | rfl | rfl | rfl
  · refine K_reg (Wops_run rfl rfl (Wops_as (w := .bool true) rfl rfl rfl (Wops_run rfl rfl (Wops_go rfl (Wops_run rfl rfl (Wops_go rfl (Wops_run rfl rfl (Wops_go rfl (Wops_run rfl rfl (Wops_go rfl (Wops_ld rfl gB gBm (Wops_go rfl (Wops_run rfl rfl (Wops_go rfl ?_))))))))))))))
    rcases Nat.eq_zero_or_pos d.N with hz | hz
    · refine Wops_as (w := .bool false) rfl rfl (by simp [hz]) (Wops_run rfl rfl (Wops_run rfl rfl (K_fin [(2, _), (7, _), (9, _), (10, _), (11, _), (97, _)] rfl (?_))))
      refine K_cond rfl (fun hc => by cases hc) (fun _ => ?_)
      refine K_reg (Wops_run rfl rfl (Wops_as (w := .bool false) rfl rfl rfl (Wops_run rfl rfl (K_fin [(2, _), (7, _), (9, _), (10, _), (11, _), (124, _)] rfl (?_)))))
      refine K_cond rfl (fun hc => by cases hc) (fun _ => ?_)
      refine K_reg (Wops_run rfl rfl (Wops_as (w := .bool false) rfl rfl rfl (Wops_run rfl rfl (K_fin [(2, _), (7, _), (9, _), (10, _), (11, _), (137, _)] rfl (?_)))))
      refine K_cond rfl (fun hc => by cases hc) (fun _ => ?_)
      refine K_reg (Wops_run rfl rfl (Wops_as (w := .bool false) rfl rfl rfl (Wops_run rfl rfl (K_fin [(2, _), (7, _), (9, _), (10, _), (11, _), (152, _)] rfl (?_)))))
      refine K_cond rfl (fun hc => by cases hc) (fun _ => ?_)
      refine K_reg (Wops_run rfl rfl (Wops_as (w := .bool false) rfl rfl rfl (Wops_run rfl rfl (K_fin [(2, _), (7, _), (9, _), (10, _), (162, _)] rfl (?_)))))
      refine K_cond rfl (fun hc => by cases hc) (fun _ => ?_)
      exact hdef _ _
    · refine Wops_as (w := .bool true) rfl rfl (by rw [decide_eq_true (show (d.N : Int) > 0 by omega)]) (Wops_run rfl rfl (Wops_run rfl rfl (K_fin [(2, _), (7, _), (9, _), (10, _), (11, _), (97, _)] rfl (?_))))
      refine K_cond rfl (fun _ => ?_) (fun hc => by cases hc)
      obtain ⟨hj0, hj1⟩ := tmod_in (m := (d.N : Int)) hat.1 (by omega)
      have hjn : (at0.tmod (d.N : Int)).toNat < d.N := by omega
      have omB : OwS h5 1 mb d.N mbc (ints .u8 (List.replicate d.N 0)) := by have := IB.om; rw [show (d.ins aa ac mb mbc (some ⟨idt, offt, none⟩) tbc t1b t1bc gb gbc eb ebc db dbc).bs.length = d.N from hla] at this; exact this
      refine K_last (Wops_run rfl rfl (Wops_run rfl rfl (Wops_run rfl rfl (Wops_ld rfl gB gBm (Wops_run rfl rfl (Wops_as (w := .int .i64 at0) rfl rfl (by rw [w64 (by omega)]) (Wops_run rfl rfl (Wops_run rfl rfl (Wops_run rfl rfl (Wops_ld rfl gB gBm (Wops_run rfl rfl (Wops_rem rfl rfl (by omega) ?_))))))))))))
      refine Wops_idx (u := .int .u8 0) rfl rfl omB.sl ⟨hj0, hj1⟩ (by rw [ints, List.getElem?_map, List.getElem?_replicate, if_pos hjn]; rfl) fun _ => ?_
      refine Wops_as (w := .int .u8 5) rfl rfl rfl (Wops_put1 rfl rfl omB ⟨hj0, hj1⟩ (fun _ => rfl) rfl rfl fun _ h6 n6 x6 o6 => ?_)
      have o6' : OwS h6 1 mb (List.replicate d.N (0 : Int)).length mbc ((ints .u8 (List.replicate d.N 0)).set (at0.tmod (d.N : Int)).toNat (.int .u8 5)) := by rw [hla]; exact o6
      have S := IB.setM K4 x6 o6'
      refine K_finL [(7, _), (9, _), (10, _)] rfl ⟨rfl, _, x6.mono fun i _ r => .inr (.inl r), S, eqI_m (set_ne (y := 0) (by show (List.replicate d.N (0 : Int))[(at0.tmod (d.N : Int)).toNat]? = some 0; rw [List.getElem?_replicate, if_pos hjn]) (by decide))⟩
  · refine K_reg (Wops_run rfl rfl (Wops_as (w := .bool false) rfl rfl rfl (Wops_run rfl rfl (Wops_skip rfl (Wops_skip rfl (Wops_skip rfl (Wops_skip rfl (Wops_skip rfl (Wops_skip rfl (Wops_run rfl rfl (Wops_run rfl rfl (K_fin [(2, _), (7, _), (9, _), (10, _), (11, _), (97, _)] rfl (?_)))))))))))))
    refine K_cond rfl (fun hc => by cases hc) (fun _ => ?_)
    refine K_reg (Wops_run rfl rfl (Wops_as (w := .bool true) rfl rfl rfl (Wops_run rfl rfl (K_fin [(2, _), (7, _), (9, _), (10, _), (11, _), (124, _)] rfl (?_)))))
    refine K_cond rfl (fun _ => ?_) (fun hc => by cases hc)
    obtain ⟨hj0, hj1⟩ := tmod_in (m := 2) hat.1 (by decide)
    obtain ⟨jj, hjj⟩ : ∃ j, j = at0.tmod 2 := ⟨_, rfl⟩
    rw [← hjj] at hj0 hj1
    have hj : jj = 0 ∨ jj = 1 := by omega
    obtain ⟨vv, hvv, hv5⟩ : ∃ vv, [d.v0, d.v1][jj.toNat]? = some vv ∧ ((0 ≤ vv ∧ vv ≤ 8) ∨ vv = 18446744073709551615) := by
      rcases hj with rfl | rfl
      · exact ⟨_, rfl, .inl lay.h0⟩
      · exact ⟨_, rfl, .inr lay.h1⟩
    have hvc : (ints .u64 [d.v0, d.v1])[jj.toNat]? = some (.int .u64 vv) := by rw [ints, List.getElem?_map, hvv]; rfl
    refine K_last (Wops_run rfl rfl (Wops_run rfl rfl (Wops_run rfl rfl (Wops_ld (v := .slice gb 2 gbc) rfl gB rfl (Wops_run rfl rfl (Wops_rem rfl rfl (by decide) ?_))))))
    rw [← hjj]
    refine Wops_idx rfl rfl IB.og.sl ⟨by omega, by show _ < ((2 : Nat) : Int); omega⟩ hvc fun _ => ?_
    refine Wops_run rfl rfl (Wops_put1 rfl rfl IB.og ⟨by omega, by show _ < ((2 : Nat) : Int); omega⟩ (fun _ => rfl) rfl rfl fun _ h6 n6 x6 o6 => ?_)
    have S := IB.setG K4 x6 o6
    refine K_finL [(7, _), (9, _), (10, _)] rfl ⟨rfl, _, x6.mono fun i _ r => .inr (.inr (.inr (.inr (.inl r)))), S, eqI_g (set_ne hvv (xor5 hv5))⟩
  · refine K_reg (Wops_run rfl rfl (Wops_as (w := .bool false) rfl rfl rfl (Wops_run rfl rfl (Wops_skip rfl (Wops_skip rfl (Wops_skip rfl (Wops_skip rfl (Wops_skip rfl (Wops_skip rfl (Wops_run rfl rfl (Wops_run rfl rfl (K_fin [(2, _), (7, _), (9, _), (10, _), (11, _), (97, _)] rfl (?_)))))))))))))
    refine K_cond rfl (fun hc => by cases hc) (fun _ => ?_)
    refine K_reg (Wops_run rfl rfl (Wops_as (w := .bool false) rfl rfl rfl (Wops_run rfl rfl (K_fin [(2, _), (7, _), (9, _), (10, _), (11, _), (124, _)] rfl (?_)))))
    refine K_cond rfl (fun hc => by cases hc) (fun _ => ?_)
    refine K_reg (Wops_run rfl rfl (Wops_as (w := .bool true) rfl rfl rfl (Wops_run rfl rfl (K_fin [(2, _), (7, _), (9, _), (10, _), (11, _), (137, _)] rfl (?_)))))
    refine K_cond rfl (fun _ => ?_) (fun hc => by cases hc)
    obtain ⟨hj0, hj1⟩ := tmod_in (m := 4) hat.1 (by decide)
    obtain ⟨jj, hjj⟩ : ∃ j, j = at0.tmod 4 := ⟨_, rfl⟩
    rw [← hjj] at hj0 hj1
    have hj : jj = 0 ∨ jj = 1 ∨ jj = 2 ∨ jj = 3 := by omega
    have hvv : [(0 : Int), 0, 0, 0][jj.toNat]? = some 0 := by rcases hj with rfl | rfl | rfl | rfl <;> rfl
    have hvc : (ints .u64 [0, 0, 0, 0])[jj.toNat]? = some (.int .u64 0) := by rw [ints, List.getElem?_map, hvv]; rfl
    refine K_last (Wops_run rfl rfl (Wops_run rfl rfl (Wops_run rfl rfl (Wops_ld (v := .slice (some ⟨idt, offt, none⟩) 1 tbc) rfl gB rfl ?_))))
    refine Wops_iaV rfl rfl ⟨by decide, by decide⟩ (Wops_ld rfl gt hcT (Wops_run rfl rfl (Wops_rem rfl rfl (by decide) ?_)))
    rw [← hjj]
    refine Wops_idx rfl rfl IB.o1.sl ⟨by omega, by show _ < ((4 : Nat) : Int); omega⟩ hvc fun _ => ?_
    refine Wops_as (w := .int .u64 5) rfl rfl rfl (Wops_put1 rfl rfl IB.o1 ⟨by omega, by show _ < ((4 : Nat) : Int); omega⟩ (fun _ => rfl) rfl rfl fun _ h6 n6 x6 o6 => ?_)
    have S := IB.setT K4 x6 o6
    refine K_finL [(7, _), (9, _), (10, _)] rfl ⟨rfl, _, x6.mono fun i _ r => .inr (.inr (.inr (.inl r))), S, eqI_t (set_ne hvv (by decide))⟩
  · refine K_reg (Wops_run rfl rfl (Wops_as (w := .bool false) rfl rfl rfl (Wops_run rfl rfl (Wops_skip rfl (Wops_skip rfl (Wops_skip rfl (Wops_skip rfl (Wops_skip rfl (Wops_skip rfl (Wops_run rfl rfl (Wops_run rfl rfl (K_fin [(2, _), (7, _), (9, _), (10, _), (11, _), (97, _)] rfl (?_)))))))))))))
    refine K_cond rfl (fun hc => by cases hc) (fun _ => ?_)
    refine K_reg (Wops_run rfl rfl (Wops_as (w := .bool false) rfl rfl rfl (Wops_run rfl rfl (K_fin [(2, _), (7, _), (9, _), (10, _), (11, _), (124, _)] rfl (?_)))))
    refine K_cond rfl (fun hc => by cases hc) (fun _ => ?_)
    refine K_reg (Wops_run rfl rfl (Wops_as (w := .bool false) rfl rfl rfl (Wops_run rfl rfl (K_fin [(2, _), (7, _), (9, _), (10, _), (11, _), (137, _)] rfl (?_)))))
    refine K_cond rfl (fun hc => by cases hc) (fun _ => ?_)
    refine K_reg (Wops_run rfl rfl (Wops_as (w := .bool true) rfl rfl rfl (Wops_run rfl rfl (K_fin [(2, _), (7, _), (9, _), (10, _), (11, _), (152, _)] rfl (?_)))))
    refine K_cond rfl (fun _ => ?_) (fun hc => by cases hc)
    obtain ⟨hj0, hj1⟩ := tmod_in (m := 2) hat.1 (by decide)
    obtain ⟨jj, hjj⟩ : ∃ j, j = at0.tmod 2 := ⟨_, rfl⟩
    rw [← hjj] at hj0 hj1
    have hj : jj = 0 ∨ jj = 1 := by omega
    have hvv : [false, false][jj.toNat]? = some false := by rcases hj with rfl | rfl <;> rfl
    refine K_last (Wops_run rfl rfl (Wops_run rfl rfl (Wops_run rfl rfl (Wops_ld (v := .slice db 2 dbc) rfl gB rfl (Wops_run rfl rfl (Wops_rem rfl rfl (by decide) ?_))))))
    rw [← hjj]
    refine Wops_put1 rfl rfl IB.od ⟨by omega, by show _ < ((2 : Nat) : Int); omega⟩ (fun _ => rfl) rfl rfl fun _ h6 n6 x6 o6 => ?_
    have S := IB.setD K4 x6 o6
    refine K_finL [(7, _), (9, _), (10, _)] rfl ⟨rfl, _, x6.mono fun i _ r => .inr (.inr (.inr (.inr (.inr (.inr r))))), S, eqI_d (set_ne hvv (by decide))⟩
  · refine K_reg (Wops_run rfl rfl (Wops_as (w := .bool false) rfl rfl rfl (Wops_run rfl rfl (Wops_skip rfl (Wops_skip rfl (Wops_skip rfl (Wops_skip rfl (Wops_skip rfl (Wops_skip rfl (Wops_run rfl rfl (Wops_run rfl rfl (K_fin [(2, _), (7, _), (9, _), (10, _), (11, _), (97, _)] rfl (?_)))))))))))))
    refine K_cond rfl (fun hc => by cases hc) (fun _ => ?_)
    refine K_reg (Wops_run rfl rfl (Wops_as (w := .bool false) rfl rfl rfl (Wops_run rfl rfl (K_fin [(2, _), (7, _), (9, _), (10, _), (11, _), (124, _)] rfl (?_)))))
    refine K_cond rfl (fun hc => by cases hc) (fun _ => ?_)
    refine K_reg (Wops_run rfl rfl (Wops_as (w := .bool false) rfl rfl rfl (Wops_run rfl rfl (K_fin [(2, _), (7, _), (9, _), (10, _), (11, _), (137, _)] rfl (?_)))))
    refine K_cond rfl (fun hc => by cases hc) (fun _ => ?_)
    refine K_reg (Wops_run rfl rfl (Wops_as (w := .bool false) rfl rfl rfl (Wops_run rfl rfl (K_fin [(2, _), (7, _), (9, _), (10, _), (11, _), (152, _)] rfl (?_)))))
    refine K_cond rfl (fun hc => by cases hc) (fun _ => ?_)
    refine K_reg (Wops_run rfl rfl (Wops_as (w := .bool true) rfl rfl rfl (Wops_run rfl rfl (K_fin [(2, _), (7, _), (9, _), (10, _), (162, _)] rfl (?_)))))
    refine K_cond rfl (fun _ => ?_) (fun hc => by cases hc)
    obtain ⟨hj0, hj1⟩ := tmod_in (m := 2) hat.1 (by decide)
    obtain ⟨jj, hjj⟩ : ∃ j, j = at0.tmod 2 := ⟨_, rfl⟩
    rw [← hjj] at hj0 hj1
    have hj : jj = 0 ∨ jj = 1 := by omega
    have hvv : [false, false][jj.toNat]? = some false := by rcases hj with rfl | rfl <;> rfl
    refine K_last (Wops_run rfl rfl (Wops_run rfl rfl (Wops_run rfl rfl (Wops_ld (v := .slice eb 2 ebc) rfl gB rfl (Wops_run rfl rfl (Wops_rem rfl rfl (by decide) ?_))))))
    rw [← hjj]
    refine Wops_put1 rfl rfl IB.oe ⟨by omega, by show _ < ((2 : Nat) : Int); omega⟩ (fun _ => rfl) rfl rfl fun _ h6 n6 x6 o6 => ?_
    have S := IB.setE K4 x6 o6
    refine K_finL [(7, _), (9, _), (10, _)] rfl ⟨rfl, _, x6.mono fun i _ r => .inr (.inr (.inr (.inr (.inr (.inl r))))), S, eqI_e (set_ne hvv (by decide))⟩
  · refine K_reg (Wops_run rfl rfl (Wops_as (w := .bool false) rfl rfl rfl (Wops_run rfl rfl (Wops_skip rfl (Wops_skip rfl (Wops_skip rfl (Wops_skip rfl (Wops_skip rfl (Wops_skip rfl (Wops_run rfl rfl (Wops_run rfl rfl (K_fin [(2, _), (7, _), (9, _), (10, _), (11, _), (97, _)] rfl (?_)))))))))))))
    refine K_cond rfl (fun hc => by cases hc) (fun _ => ?_)
    refine K_reg (Wops_run rfl rfl (Wops_as (w := .bool false) rfl rfl rfl (Wops_run rfl rfl (K_fin [(2, _), (7, _), (9, _), (10, _), (11, _), (124, _)] rfl (?_)))))
    refine K_cond rfl (fun hc => by cases hc) (fun _ => ?_)
    refine K_reg (Wops_run rfl rfl (Wops_as (w := .bool false) rfl rfl rfl (Wops_run rfl rfl (K_fin [(2, _), (7, _), (9, _), (10, _), (11, _), (137, _)] rfl (?_)))))
    refine K_cond rfl (fun hc => by cases hc) (fun _ => ?_)
    refine K_reg (Wops_run rfl rfl (Wops_as (w := .bool false) rfl rfl rfl (Wops_run rfl rfl (K_fin [(2, _), (7, _), (9, _), (10, _), (11, _), (152, _)] rfl (?_)))))
    refine K_cond rfl (fun hc => by cases hc) (fun _ => ?_)
    refine K_reg (Wops_run rfl rfl (Wops_as (w := .bool false) rfl rfl rfl (Wops_run rfl rfl (K_fin [(2, _), (7, _), (9, _), (10, _), (162, _)] rfl (?_)))))
    refine K_cond rfl (fun hc => by cases hc) (fun _ => ?_)
    exact hdef _ _
theorem wf_u16 {n : Int} (h : (Lit.int .u16 n).wf = true) : 0 ≤ n ∧ n ≤ 65535 := by
  simp [Lit.wf, IntKind.min, IntKind.max, IntKind.signed, IntKind.bits] at h; omega
set_option maxRecDepth 100000 in
theorem instCopies_fn {L : List (List Value)} {vs : List Value} (hG : FlatG Try.prog 0 [22, 5, 58] vs L) : Fn Try.prog 4 vs (flatH L) fun v _ => v = .bool true := by
  obtain ⟨a, m, c, l, r, k2, L2, L3, rfl, s, hl, _, _, hF⟩ := flat_slice (P := Try.prog) (k := 0) (t := 22) (ts := [5, 58]) (L0 := []) (L := L) (L' := L) Try.underlying22 rfl rfl hG
  obtain ⟨v, r, rfl, hv, hF2⟩ := flat_scal (P := Try.prog) (k := k2) (t := 5) (ts := [58]) (L' := L3) (by rw [Try.underlying5]; simp) hF
  obtain ⟨n, rfl, hn⟩ := scal_int Try.underlying5 hv
  obtain ⟨v, r, rfl, hv, hF3⟩ := flat_scal (P := Try.prog) (k := k2) (t := 58) (ts := []) (L' := L3) (by rw [Try.underlying58]; simp) hF2
  obtain ⟨n2, rfl, hn2⟩ := scal_int Try.underlying58 hv
  obtain rfl := flat_nil hF3
  obtain ⟨xs, rfl, hw⟩ := scal_ints Try.underlying5 hl
  exact C4 s (fun x hx => wf_u8 (hw x hx)) (wf_u8 hn) (wf_u16 hn2)
end Go.Dx.SYtpogcjdenefhlaa
