/- InstNew: the walk. -/
import Derived.Test.YtpogcjdenefhlaaIn10
import Derived.Test.YtpogcjdenefhlaaIn2
namespace Go.Dx.SYtpogcjdenefhlaa
open Go.Proofs
set_option linter.unusedVariables false
set_option linter.unusedSimpArgs false

theorem least {p : Nat → Prop} : ∀ {n : Nat}, (∃ j, j < n ∧ p j) → ∃ j, j < n ∧ p j ∧ ∀ i, i < j → ¬ p i
  | 0, ⟨j, hj, _⟩ => by omega
  | n + 1, ⟨j, hj, hp⟩ => by
    by_cases h : ∃ j, j < n ∧ p j
    · obtain ⟨k, hk, hp, hl⟩ := least h
      exact ⟨k, by omega, hp, hl⟩
    · have hjn : j = n := by
        by_cases e : j < n
        · exact absurd ⟨j, e, hp⟩ h
        · omega
      subst hjn
      exact ⟨j, hj, hp, fun i hi q => h ⟨i, hi, q⟩⟩
theorem ExL.ns {el : List Value} {n : Nat} (e : ExL el n) : ∃ ns : Nat → ByteArray, ∀ i, i < n → (el.drop (i * 3)).take 3 = [.string (ns i), .int .u8 0, .int .u32 (i : Int)] := by
  have : ∀ i, ∃ s : ByteArray, i < n → (el.drop (i * 3)).take 3 = [.string s, .int .u8 0, .int .u32 (i : Int)] := fun i => by
    by_cases hi : i < n
    · obtain ⟨s, h⟩ := e i hi
      exact ⟨s, fun _ => h⟩
    · exact ⟨ByteArray.empty, fun r => absurd r hi⟩
  exact ⟨fun i => (this i).choose, fun i hi => (this i).choose_spec hi⟩
/-- What both exports come to: the same. -/
def ExP (h : Heap) (v w : Value) : Prop := ∃ (x e : Int) (pa ra pa' ra' : Option Addr) (pn pc rn rc pc' rc' : Nat) (ps rs : List Int), v = .tuple ⟨[.int .u32 x, .agg ⟨[.slice pa pn pc, .slice ra rn rc]⟩, .int .i64 e]⟩ ∧ w = .tuple ⟨[.int .u32 x, .agg ⟨[.slice pa' pn pc', .slice ra' rn rc']⟩, .int .i64 e]⟩ ∧
  SlA h 1 pa pn pc (ints .u8 ps) ∧ SlA h 1 ra rn rc (ints .u8 rs) ∧ SlA h 1 pa' pn pc' (ints .u8 ps) ∧ SlA h 1 ra' rn rc' (ints .u8 rs)
set_option maxHeartbeats 8000000 in
/-- InstNew -/
theorem C3 {h0 : Heap} {a : Option Addr} {n c : Nat} {xs : List Int} {nm : ByteArray} (s : InS h0 a n c (ints .u8 xs)) (hx : ∀ x ∈ xs, 0 ≤ x ∧ x ≤ 255) : Fn Try.prog 3 [.slice a n c, .string nm] h0 fun v _ => v = .bool true := by
  have hxn : xs.length = n := by simpa using s.sl.len
  subst hxn
  refine fnK F3.fok rfl ?_
  refine K_reg (Wops_run rfl rfl (K_fin [(0, _), (1, _)] rfl (?_)))
  refine K_ss (K_reg (Wops_call rfl C6 ?_))
  rintro _ _ ⟨rfl, rfl⟩
  refine Wops_run rfl rfl (K_fin [(0, _), (1, _), (18, _)] rfl (?_))
  refine K_scond rfl (fun hc => by cases hc) (fun _ => ?_)
  refine K_sskip (K_ss (K_reg (Wops_run rfl rfl (Wops_run rfl rfl (Wops_run rfl rfl ?_)))))
  by_cases hn : (xs.length : Int) > 150
  · rw [decide_eq_true hn]
    refine Wops_run rfl rfl (Wops_skip rfl (Wops_skip rfl (Wops_skip rfl (Wops_run rfl rfl (K_fin [(0, _), (1, _), (26, _)] rfl (?_))))))
    refine K_scond rfl (fun _ => ?_) (fun hc => by cases hc)
    refine K_ss (K_reg (Wops_run rfl rfl (K_fin [(4, _)] rfl (?_))))
    exact K_sret (Told.mk _ rfl rfl)
  rw [decide_eq_false hn]
  refine Wops_run rfl rfl (Wops_go rfl (Wops_run rfl rfl (Wops_go rfl (Wops_run rfl rfl (Wops_go rfl (Wops_run rfl rfl (Wops_run rfl rfl (K_fin [(0, _), (1, _), (26, _)] rfl (?_)))))))))
  refine K_scond rfl (fun hc => ?_) (fun hc => ?_)
  · refine K_ss (K_reg (Wops_run rfl rfl (K_fin [(4, _)] rfl (?_))))
    exact K_sret (Told.mk _ rfl rfl)
  refine K_sskip (K_reg (Wops_run rfl rfl (Wops_call rfl C7 ?_)))
  rintro _ h1 ⟨rfl, g1, x1⟩
  have l1 := g1.lt
  refine Wops_call rfl (C8 g1 (s.sl.ext x1) hx (by omega) fun i r => ⟨by have := s.lt i r; omega, by have := s.lt i r; omega⟩) ?_
  rintro _ h2 ⟨d, rfl, mcell, lay2, x2⟩
  obtain ⟨ws, hws2⟩ := lay2.ws
  refine Wops_new fun h3 n3 x3 g3 => Wops_st (l := d.mc) rfl rfl rfl rfl g3 (by simp) mcell fun h4 n4 x4 g4 => K_fin [(1, _), (5, _)] rfl (?_)
  replace g4 : At h4 h2.next (.cells d.mc 0 false) := g4
  have x24 : Ext0 h2 h4 := x3.then x4 fun i r => .inr (by omega)
  have lay := lay2.ext0 x24
  have hws : ∀ i, i < d.fs.length → CdW h4 d i (ws i) := fun i hi => by
    obtain ⟨ls, ba, bn, bc, l, q1, q2, q3⟩ := hws2 i hi
    exact ⟨ls, ba, bn, bc, l, q1, q2.ext x24, q3⟩
  refine K_reg (Wops_ldA (l := d.mc) rfl g4 (by simp) rfl (Wops_call rfl (C9 lay hws) ?_))
  rintro _ h5 ⟨pa, aa, ac, L, ma, mc, ta, tc, t1, t1c, ga, gc, ea, ec, da, dc, rfl, x5, I5, oa, bl⟩
  refine Wops_run rfl rfl (Wops_run rfl rfl (Wops_run rfl rfl (Wops_run rfl rfl (Wops_run rfl rfl (K_fin [(1, _), (5, _), (6, _), (7, _)] rfl (?_))))))
  have hws5 : ∀ i, i < d.fs.length → CdW h5 d i (ws i) := fun i hi => by
    obtain ⟨ls, ba, bn, bc, l, q1, q2, q3⟩ := hws i hi
    exact ⟨ls, ba, bn, bc, l, q1, q2.ext x5, q3⟩
  refine K_reg (Wops_ldA (l := d.mc) rfl (g4.ext x5) (by simp) rfl (Wops_call rfl (C10 (lay.ext0 x5) hws5) ?_))
  rintro _ h6 ⟨pb, ab, abc, M, mb, mbc, tb, tbc, t1b, t1bc, gb, gbc, eb, ebc, db, dbc, rfl, x6, I6, ob, bm⟩
  refine Wops_run rfl rfl (Wops_run rfl rfl (Wops_run rfl rfl (Wops_run rfl rfl (Wops_run rfl rfl (K_fin [(1, _), (6, _), (7, _), (8, _), (9, _)] rfl (?_))))))
  have IA := I5.ext0 x6
  obtain ⟨tla, gA⟩ := IA.g
  obtain ⟨tlb, gB⟩ := I6.g
  have oA := oa.ext x6
  have bA := bl.ext x6 fun _ _ _ r => r
  refine K_ss (K_reg (Wops_run rfl rfl (Wops_run rfl rfl (Wops_as (w := .bool false) rfl rfl rfl (Wops_run rfl rfl (Wops_go rfl (Wops_run rfl rfl (Wops_go rfl (Wops_run rfl rfl (Wops_run rfl rfl (Wops_run rfl rfl ?_)))))))))))
  refine Wops_go rfl (Wops_run rfl rfl (Wops_go rfl (Wops_run rfl rfl (Wops_run rfl rfl (Wops_run rfl rfl (Wops_go rfl (Wops_run rfl rfl (Wops_go rfl (Wops_run rfl rfl (Wops_go rfl (Wops_call rfl (C11 IA I6 rfl rfl rfl rfl rfl) ?_)))))))))))
  rintro _ _ ⟨rfl, rfl⟩
  refine Wops_go rfl (Wops_run rfl rfl (Wops_run rfl rfl (Wops_run rfl rfl ?_)))
  refine Wops_go rfl (Wops_run rfl rfl (Wops_go rfl (Wops_run rfl rfl (Wops_go rfl (Wops_run rfl rfl (Wops_go rfl (Wops_ld (v := .slice aa d.fs.length ac) rfl gA rfl (Wops_go rfl (Wops_run rfl rfl ?_)))))))))
  refine Wops_go rfl (Wops_run rfl rfl (Wops_go rfl (Wops_run rfl rfl (Wops_go rfl (Wops_run rfl rfl (Wops_go rfl (Wops_ld (v := .slice ab d.fs.length abc) rfl gB rfl (Wops_go rfl (Wops_run rfl rfl ?_)))))))))
  refine Wops_go rfl (Wops_neq (v := false) rfl rfl (by simp) (Wops_run rfl rfl (K_fin [(1, _), (6, _), (8, _), (69, _)] rfl (?_))))
  refine K_scond rfl (fun hc => by cases hc) (fun _ => ?_)
  have f3 := lay.f3
  -- blocks
  refine K_sskip (K_ss (K_reg (Wops_run rfl rfl (K_fin [(1, _), (6, _), (8, _), (10, _)] rfl (?_)))))
  refine K_sblock ?_
  refine K_loop (fun k e h' => ∃ i : Nat, e = [(1, .string nm), (6, ptr pa), (8, ptr pb), (10, .int .i64 (i : Int))] ∧ i ≤ d.fs.length ∧ k = d.fs.length - i ∧ h6 = h') ?_ (k := d.fs.length) ⟨0, rfl, Nat.zero_le _, rfl, rfl⟩
  rintro k e h' ⟨i, rfl, hi, rfl, rfl⟩
  refine K_ss (K_reg (Wops_run rfl rfl (Wops_run rfl rfl (Wops_run rfl rfl (Wops_run rfl rfl (Wops_ld (v := .slice ab d.fs.length abc) rfl gB rfl (Wops_run rfl rfl (Wops_run rfl rfl (K_fin [(1, _), (6, _), (8, _), (10, _), (76, _)] rfl (?_))))))))))
  refine K_scond rfl (fun hc => ?_) (fun hc => ?_)
  · have hin : i < d.fs.length := by have := of_decide_eq_true hc; omega
    obtain ⟨m1, hm1, gm1⟩ := bA.2 i hin
    obtain ⟨m2, hm2, gm2⟩ := bm.2 i hin
    refine K_sskip (K_sblock ?_)
    refine K_reg (Wops_run rfl rfl (Wops_run rfl rfl (Wops_run rfl rfl (Wops_ld (v := .slice aa d.fs.length ac) rfl gA rfl ?_))))
    refine Wops_run rfl rfl (Wops_idx (u := .map (some m1)) rfl rfl oA.sl ⟨by omega, by omega⟩ (by rw [Int.toNat_natCast]; exact hm1) fun _ => ?_)
    refine Wops_run rfl rfl (Wops_run rfl rfl (Wops_run rfl rfl (Wops_ld (v := .slice ab d.fs.length abc) rfl gB rfl ?_)))
    refine Wops_run rfl rfl (Wops_idx (u := .map (some m2)) rfl rfl ob.sl ⟨by omega, by omega⟩ (by rw [Int.toNat_natCast]; exact hm2) fun _ => ?_)
    refine Wops_call rfl (C12 (.inr ⟨m1, m2, _, rfl, rfl, gm1, gm2⟩)) ?_
    rintro _ _ ⟨rfl, rfl⟩
    refine Wops_run rfl rfl (K_fin [(1, _), (6, _), (8, _), (10, _), (94, _)] rfl (?_))
    refine K_cond rfl (fun hc => by cases hc) (fun _ => K_skip ?_)
    refine K_last (Wops_run rfl rfl (Wops_run rfl rfl (Wops_run rfl rfl (K_finL [(1, _), (6, _), (8, _), (10, _)] rfl (?_)))))
    exact ⟨d.fs.length - (i + 1), by omega, i + 1, by rw [w64s (by omega)], by omega, rfl, rfl⟩
  refine K_sexit (bx_same ?_)
  -- exports
  have lay6 := (lay.ext0 x5).ext0 x6
  obtain ⟨ns, hns⟩ := lay6.ex.ns
  have key : ∃ (Q1 : Value → Heap → Prop), Fn Try.prog 13 [ptr pa, .string nm] h6 Q1 ∧ ∀ v h7, Q1 v h7 → Ext0 h6 h7 ∧ (∃ x t e, v = .tuple ⟨[.int .u32 x, .agg ⟨t⟩, .int .i64 e]⟩ ∧ t.length = 2 ∧ t.all isCell = true) ∧ ∀ h8, Ext0 h7 h8 → Fn Try.prog 14 [ptr pb, .string nm] h8 fun w h9 => Ext0 h8 h9 ∧ ExP h9 v w := by
    by_cases hj : ∃ j, j < d.fs.length ∧ (ns j).toList = nm.toList
    · obtain ⟨j, hj, heq, hne⟩ := least hj
      have hf6 : d.fs[j] < 6 := lay6.f6 _ (List.getElem_mem hj)
      obtain ⟨qa, pn, pc, ps, ra, rn, rc, rs, ht, sp, sr, -, -, hpn, hrn⟩ := lay6.tys _ hf6
      refine ⟨_, C13hit gA lay6 hns hj hne heq ht sp sr hpn hrn, ?_⟩
      rintro v h7 ⟨pa', pc', ra', rc', rfl, x7, s1, s2⟩
      refine ⟨x7, ⟨_, _, _, rfl, rfl, rfl⟩, fun h8 x8 => ?_⟩
      have x68 := x7.trans x8
      refine (C14hit (gB.ext x68) (lay6.ext0 x68) hns hj hne heq ht (sp.ext x68) (sr.ext x68) hpn hrn).mono ?_
      rintro w h9 ⟨pa2, pc2, ra2, rc2, rfl, x9, s3, s4⟩
      exact ⟨x9, _, _, _, _, _, _, _, _, _, _, _, _, _, _, rfl, rfl, (s1.ext x8).ext x9, (s2.ext x8).ext x9, s3, s4⟩
    · have hne : ∀ i, i < d.fs.length → (ns i).toList ≠ nm.toList := fun i hi e => hj ⟨i, hi, e⟩
      refine ⟨_, C13miss gA lay6 hns hne, ?_⟩
      rintro v h7 ⟨rfl, x7⟩
      refine ⟨x7, ⟨_, _, _, rfl, rfl, rfl⟩, fun h8 x8 => ?_⟩
      have x68 := x7.trans x8
      refine (C14miss (gB.ext x68) (lay6.ext0 x68) hns hne).mono ?_
      rintro w h9 ⟨rfl, x9⟩
      exact ⟨x9, _, _, none, none, none, none, 0, 0, 0, 0, 0, 0, [], [], rfl, rfl, SlA.none, SlA.none, SlA.none, SlA.none⟩
  obtain ⟨Q1, F1, key⟩ := key
  refine K_reg (Wops_run rfl rfl (Wops_run rfl rfl (Wops_call rfl F1 ?_)))
  rintro v h7 hv
  obtain ⟨x7, ⟨x, t, e, rfl, ht2, htc⟩, F2⟩ := key v h7 hv
  refine Wops_run rfl rfl (Wops_run rfl rfl (Wops_run rfl rfl (Wops_run rfl rfl (Wops_new fun h8 n8 x8 g8 => Wops_run rfl rfl (Wops_st (l := t) rfl rfl rfl ht2 g8 (by simp) htc fun h9 n9 x9 g9 => ?_)))))
  have hput : putL [nilS, nilS] 0 t = t := by
    match t, ht2 with
    | [_, _], _ => rfl
  replace g9 : At h9 h7.next (.cells t 0 false) := by
    have : h9.get h7.next = some (.cells (putL [nilS, nilS] 0 t) 0 false) := g9
    rw [hput] at this; exact this
  have x79 : Ext0 h7 h9 := x8.then x9 fun i r => .inr (by omega)
  refine Wops_run rfl rfl (K_fin [(1, _), (8, _), (11, _), (12, _), (13, _)] rfl (?_))
  refine K_reg (Wops_run rfl rfl (Wops_run rfl rfl (Wops_call rfl (F2 h9 x79) ?_)))
  rintro w h10 ⟨x10, x', e', pa1, ra1, pa2, ra2, pn, pc1, rn, rc1, pc2, rc2, ps, rs, hvv, rfl, s1, s2, s3, s4⟩
  cases hvv
  have g10 := g9.ext x10
  refine Wops_run rfl rfl (Wops_run rfl rfl (Wops_run rfl rfl (Wops_run rfl rfl (Wops_new fun h11 n11 x11 g11 => Wops_run rfl rfl (Wops_st (l := [.slice pa2 pn pc2, .slice ra2 rn rc2]) rfl rfl rfl rfl g11 (by simp) rfl fun h12 n12 x12 g12 => ?_)))))
  replace g12 : At h12 h10.next (.cells [.slice pa2 pn pc2, .slice ra2 rn rc2] 0 false) := g12
  have x1012 : Ext0 h10 h12 := x11.then x12 fun i r => .inr (by omega)
  refine Wops_run rfl rfl (K_fin [(11, _), (12, _), (13, _), (14, _), (15, _), (16, _)] rfl (?_))
  refine K_reg (Wops_run rfl rfl (Wops_run rfl rfl (Wops_as (w := .bool true) rfl rfl (by simp) (Wops_run rfl rfl ?_))))
  refine Wops_go rfl (Wops_ldA (l := [.slice pa1 pn pc1, .slice ra1 rn rc1]) rfl (g10.ext x1012) (by simp) rfl (Wops_go rfl (Wops_ldA (l := [.slice pa2 pn pc2, .slice ra2 rn rc2]) rfl g12 (by simp) rfl (Wops_go rfl (Wops_call rfl (C15 (s1.ext x1012) (s2.ext x1012) (s3.ext x1012) (s4.ext x1012)) ?_)))))
  rintro _ _ ⟨rfl, rfl⟩
  refine Wops_run rfl rfl (Wops_run rfl rfl (Wops_go rfl (Wops_run rfl rfl (Wops_go rfl (Wops_run rfl rfl (Wops_go rfl (Wops_as (w := .bool true) rfl rfl (by simp) (Wops_run rfl rfl (Wops_run rfl rfl (K_fin [(4, _)] rfl (?_)))))))))))
  exact K_ret (Told.mk _ rfl rfl)
theorem scal_str {P : Program} {t : TypeId} {v : Value} (ht : P.underlying t = some .string) (h : ScalG P t v) : ∃ s, v = .string s := by
  unfold ScalG at h; rw [ht] at h; exact ⟨_, h.choose_spec.1⟩
set_option maxRecDepth 100000 in
theorem instNew_fn {L : List (List Value)} {vs : List Value} (hG : FlatG Try.prog 0 [22, 9] vs L) : Fn Try.prog 3 vs (flatH L) fun v _ => v = .bool true := by
  obtain ⟨a, m, c, l, r, k2, L2, L3, rfl, s, hl, _, _, hF⟩ := flat_slice (P := Try.prog) (k := 0) (t := 22) (ts := [9]) (L0 := []) (L := L) (L' := L) Try.underlying22 rfl rfl hG
  obtain ⟨v, r, rfl, hv, hF2⟩ := flat_scal (P := Try.prog) (k := k2) (t := 9) (ts := []) (L' := L3) (by rw [Try.underlying9]; simp) hF
  obtain ⟨nm, rfl⟩ := scal_str Try.underlying9 hv
  obtain rfl := flat_nil hF2
  obtain ⟨xs, rfl, hw⟩ := scal_ints Try.underlying5 hl
  exact C3 s fun x hx => wf_u8 (hw x hx)
end Go.Dx.SYtpogcjdenefhlaa
