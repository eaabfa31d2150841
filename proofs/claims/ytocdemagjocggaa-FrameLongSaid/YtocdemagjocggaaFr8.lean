/- FrameLong: the walk. -/
import Derived.Test.YtocdemagjocggaaFr7
import Derived.Test.YtocdemagjocggaaDx32
namespace Go.Dx.SYtocdemagjocggaa
open Go.Proofs
set_option linter.unusedVariables false
set_option linter.unusedSimpArgs false

theorem addR_lead {xs zs : List Int} (hb : xs.length ≤ 5000) : ∃ fs rest bad, addR [] false (putF xs ++ zs) = (xs :: fs, rest, bad, if bad = true then 4 else 0) := by
  have hl : (putF xs ++ zs).length = (xs.length + 1 + zs.length) + 1 := by rw [List.length_append, putF_length]; omega
  refine ⟨(splitF (xs.length + 1 + zs.length) zs).1, (splitF (xs.length + 1 + zs.length) zs).2.1, (splitF (xs.length + 1 + zs.length) zs).2.2, ?_⟩
  · have h1 : splitF (putF xs ++ zs).length (putF xs ++ zs) = (xs :: (splitF (xs.length + 1 + zs.length) zs).1, (splitF (xs.length + 1 + zs.length) zs).2) := by
      rw [hl]; simp only [splitF, nextF_put zs hb]
    unfold addR
    rw [if_neg (by simp), List.nil_append, h1]
theorem addR_over {xs zs : List Int} (hb : xs.length ≤ 5000) (hz : nextF zs = .long) : addR [] false (putF xs ++ zs) = ([xs], [], true, 4) := by
  have hl : (putF xs ++ zs).length = (xs.length + 1 + zs.length) + 1 := by rw [List.length_append, putF_length]; omega
  have h1 : splitF (putF xs ++ zs).length (putF xs ++ zs) = ([xs], [], true) := by
    rw [hl]
    have h2 : splitF (xs.length + 1 + zs.length) zs = ([], [], true) := by
      rw [show xs.length + 1 + zs.length = (xs.length + zs.length) + 1 by omega]
      simp only [splitF, hz]
    simp only [splitF, nextF_put zs hb, h2]
  unfold addR
  rw [if_neg (by simp), List.nil_append, h1]; rfl

theorem C4 {h : Heap} {a0 b0 : Option Addr} {n0 c0 m0 d0 : Nat} {xs ys : List Int} {nn : Int} (s0 : InS h a0 n0 c0 (ints .u8 xs)) (s1 : InS h b0 m0 d0 (ints .u8 ys)) (w0 : Byte xs) (w1 : Byte ys) (hnn : 0 ≤ nn ∧ nn ≤ 65535) :
    Fn Try.prog 4 [.slice a0 n0 c0, .slice b0 m0 d0, .int .u16 nn] h fun v _ => v = .bool true := by
  have hn : xs.length = n0 := by simpa using s0.sl.len
  have hm : ys.length = m0 := by simpa using s1.sl.len
  refine fnK F4.fok rfl ?_
  refine K_reg (Wops_run rfl rfl (K_fin [(0, _), (1, _), (2, _)] rfl (?_)))
  refine K_ss (K_reg (Wops_call rfl C15 ?_))
  rintro _ _ ⟨rfl, rfl⟩
  refine Wops_run rfl rfl (K_fin [(0, _), (1, _), (2, _), (14, _)] rfl (?_))
  refine K_scond rfl (fun hc => by cases hc) (fun _ => ?_)
  refine K_sskip (K_ss (K_reg (Wops_run rfl rfl (Wops_run rfl rfl ?_))))
  by_cases hA : (60 : Int) < n0
  · refine Wops_as (w := .bool true) rfl rfl (by rw [decide_eq_true hA]) (Wops_run rfl rfl (Wops_skip rfl (Wops_skip rfl (Wops_skip rfl (Wops_run rfl rfl (K_fin [(0, _), (1, _), (2, _), (22, _)] rfl (?_)))))))
    refine K_scond rfl (fun _ => ?_) (fun hc => by cases hc)
    refine K_ss (K_reg (Wops_run rfl rfl (K_fin [(6, _)] rfl (?_))))
    exact K_sret (Told.mk _ rfl rfl)
  refine Wops_as (w := .bool false) rfl rfl (by rw [decide_eq_false hA]) (Wops_run rfl rfl (Wops_go rfl (Wops_run rfl rfl (Wops_go rfl (Wops_run rfl rfl (Wops_go rfl (Wops_run rfl rfl (Wops_run rfl rfl (K_fin [(0, _), (1, _), (2, _), (22, _)] rfl (?_))))))))))
  refine K_scond rfl (fun hc => ?_) (fun hc => ?_)
  · refine K_ss (K_reg (Wops_run rfl rfl (K_fin [(6, _)] rfl (?_))))
    exact K_sret (Told.mk _ rfl rfl)
  have h60 : m0 ≤ 60 := by have := of_decide_eq_false hc; omega
  clear hc
  refine K_sskip (K_reg (Wops_call rfl C17 ?_))
  rintro _ h1 ⟨p, rfl, gp, xp, lp⟩
  refine Wops_run rfl rfl (K_fin [(0, _), (1, _), (2, _), (7, _)] rfl (?_))
  refine K_reg (Wops_run rfl rfl (Wops_call rfl (C16 (s0.sl.ext xp) (by omega)) ?_))
  rintro _ h2 ⟨aw, cw, rfl, ow, xw, lw⟩
  obtain ⟨hi, lo, hhi, hlo, hhl⟩ : ∃ hi lo : Int, (0 ≤ hi ∧ hi ≤ 255) ∧ (0 ≤ lo ∧ lo ≤ 255) ∧ nn = hi * 256 + lo := ⟨nn / 256, nn % 256, by omega, by omega, by omega⟩
  refine Wops_run rfl rfl (Wops_as (w := .int .u16 hi) rfl rfl (by
    show Value.int .u16 (Int.fdiv nn (2 ^ 8)) = _
    rw [Int.fdiv_eq_ediv_of_nonneg _ (by omega)]
    congr 1; omega) (Wops_as (w := .int .u8 hi) rfl rfl (by rw [wu8 (by omega)]; congr 1; omega) (Wops_run rfl rfl (Wops_as (w := .int .u8 lo) rfl rfl (by rw [wu8 (by omega)]; congr 1; omega) ?_))))
  refine Wops_bslice (l := [.int .u8 hi, .int .u8 lo]) rfl rfl fun h3 n3 x3 g3 => ?_
  refine Wops_app rfl rfl (ow.ext x3) rfl (OwS.new (n := 2) (c := 1) g3 rfl).sl.first ⟨by omega, by omega⟩ (by simp) rfl (by decide) fun h4 a4 c4 x4 o4 b4 => ?_
  have lw3 : ∀ i, Blk aw i → h1.next ≤ i := fun i r => (lw i r).1
  have s14 : SlA h4 1 b0 m0 d0 (ints .u8 ys) := (((s1.sl.ext xp).ext xw).ext x3).ext x4 (fun i r e => by have := s1.lt i r; have := lw3 i e; have := xp.next; omega)
  refine Wops_run rfl rfl (Wops_app rfl rfl o4 rfl s14.first ⟨by omega, by omega⟩ (by simpa using hm) (ints_cell _ _) (by decide) fun h5 a5 c5 x5 o5 b5 => ?_)
  refine Wops_run rfl rfl (K_fin [(0, _), (1, _), (2, _), (7, _), (8, _)] rfl (?_))
  have e2 := xw.next
  have e4 := x4.next
  have e5 := x5.next
  have hM : ∀ i, (fun i => i = p) i → i < h5.next := fun i r => by have := gp.lt; omega
  have b45 : ∀ i, Blk a4 i → h1.next ≤ i := fun i r => (b4 i r).elim (fun r => lw3 i r) (fun r => by omega)
  have X15 : Ext (fun i => h1.next ≤ i) h1 h5 := ((xw.trans x3).of0.then x4 fun i r => .inl (lw3 i r)).then x5 fun i r => .inl (b45 i r)
  have gp5 : At h5 p _ := gp.ext X15 (fun r => by have := gp.lt; omega)
  have q0 : Pt (fun i => i = p) h5 p [] false := ⟨rfl, none, 0, 0, gp5, SlA.none, fun i r => absurd r Blk.none⟩
  have hW : (ints .u8 (putF xs) ++ [.int .u8 hi, .int .u8 lo]) ++ ints .u8 ys = ints .u8 (putF xs ++ hi :: lo :: ys) := by simp [ints]
  rw [hW] at o5
  have wy : Byte (hi :: lo :: ys) := fun x hx => by
    simp only [List.mem_cons] at hx
    rcases hx with rfl | rfl | hx
    · exact hhi
    · exact hlo
    · exact w1 x hx
  have X05 : Ext0 h h5 := xp.then X15 fun i r => .inr (by have := xp.next; omega)
  have hlw : (putF xs ++ hi :: lo :: ys).length = n0 + m0 + 4 := by rw [List.length_append, putF_length]; simp; omega
  refine K_reg (Wops_run rfl rfl (Wops_run rfl rfl ?_))
  refine Wops_call rfl (C18' hM q0 (fun x hx => (by cases hx)) ⟨o5.sl, fun i r => o5.lt r⟩ ((putF_byte w0 (by omega)).app wy) (by simp) (by omega)) ?_
  by_cases hL : (5000 : Int) < nn
  · have hnx : nextF (hi :: lo :: ys) = .long := by simp only [nextF, if_pos (show hi * 256 + lo > 5000 by omega)]
    rw [addR_over (by omega) hnx]
    rintro _ h6 ⟨af, nf, cf, vs, rfl, of, bf, df, q6, x6⟩
    have hnf : nf = 1 := by have h1 := bf.length; have h2 := of.len; simp at h1 h2; omega
    subst hnf
    refine Wops_run rfl rfl (Wops_run rfl rfl (Wops_run rfl rfl (Wops_run rfl rfl (Wops_run rfl rfl (K_fin [(0, _), (1, _), (2, _), (7, _), (9, _), (10, _)] rfl (?_))))))
    refine K_ss (K_reg (Wops_run rfl rfl (Wops_as (w := .int .i64 nn) rfl rfl (by rw [w64 (by omega)]) (Wops_as (w := .bool true) rfl rfl (by rw [decide_eq_true hL]) (K_fin [(0, _), (1, _), (7, _), (9, _), (10, _), (43, _)] rfl (?_))))))
    refine K_scond rfl (fun _ => ?_) (fun hc => by cases hc)
    have X06 : Ext0 h h6 := X05.then x6 fun i r => .inr (by omega)
    refine K_ss (K_reg (Wops_run rfl rfl (Wops_run rfl rfl (Wops_call rfl (C16 (s1.sl.ext X06) (by omega)) ?_))))
    rintro _ h7 ⟨ay, cy, rfl, oy, xy, ly⟩
    have e6 := x6.next
    refine Wops_call rfl (C18' (fun i r => by have := hM i r; have := xy.next; omega) (q6.ext0 xy) (fun x hx => (by cases hx)) ⟨oy.sl, fun i r => oy.lt r⟩ (putF_byte w1 (by omega)) (by simp) (by rw [putF_length]; omega)) ?_
    rw [show addR [] true (putF ys) = ([], [], true, 4) from rfl]
    rintro _ h8 ⟨ag, ng, cg, ws, rfl, og, bg, dg, q8, x8⟩
    have hng : ng = 0 := by have h1 := bg.length; have h2 := og.len; simp at h1; subst h1; simp at h2; omega
    subst hng
    have e7 := xy.next
    have e8 := x8.next
    have pl : p < h5.next := hM p rfl
    have of8 : SlA h8 1 af 1 cf vs := (of.ext xy).ext x8 fun i r e => by have := (df i r).1; omega
    obtain ⟨a1, m1, c1, hv1, sf, hsf⟩ := (bf.ext xy fun i _ e => e).get 0 (by simp)
    have sf8 := sf.ext x8 fun i r e => by have := (hsf i r).1; omega
    have s08 : SlA h8 1 a0 n0 c0 (ints .u8 xs) := (s0.sl.ext (X06.trans xy)).ext x8 (fun i r e => by have := s0.lt i r; have := xp.next; omega)
    refine Wops_run rfl rfl (Wops_run rfl rfl (Wops_run rfl rfl (Wops_run rfl rfl (Wops_run rfl rfl (K_fin [(0, _), (7, _), (9, _), (10, _), (11, _), (12, _)] rfl (?_))))))
    refine K_ss (K_reg (Wops_run rfl rfl (Wops_run rfl rfl (Wops_run rfl rfl ?_))))
    refine Wops_go rfl (Wops_run rfl rfl (Wops_go rfl (Wops_run rfl rfl ?_)))
    refine Wops_go rfl (Wops_run rfl rfl ?_)
    refine Wops_run rfl rfl ?_
    refine Wops_run rfl rfl ?_
    refine Wops_go rfl (Wops_run rfl rfl (Wops_go rfl (Wops_idxG (u := .slice a1 m1 c1) rfl rfl of8 ⟨by omega, by omega⟩ (by simpa using hv1) (fun _ => rfl) fun _ => ?_)))
    refine Wops_go rfl (Wops_toStr rfl sf8 (Wops_go rfl (Wops_run rfl rfl (Wops_go rfl (Wops_toStr rfl s08 (Wops_go rfl (Wops_streq (v := true) rfl rfl (by simp) (Wops_run rfl rfl (Wops_run rfl rfl ?_)))))))))
    refine Wops_go rfl (Wops_run rfl rfl (Wops_go rfl (Wops_call rfl (C21 q8) ?_)))
    rintro _ _ ⟨rfl, rfl⟩
    refine Wops_run rfl rfl (Wops_run rfl rfl (Wops_go rfl (Wops_run rfl rfl (Wops_go rfl (Wops_call rfl (C20 q8) ?_)))))
    rintro _ _ ⟨rfl, rfl⟩
    refine Wops_go rfl (Wops_run rfl rfl (Wops_run rfl rfl (Wops_run rfl rfl ?_)))
    refine Wops_go rfl (Wops_run rfl rfl (Wops_go rfl (Wops_run rfl rfl (Wops_run rfl rfl (Wops_run rfl rfl ?_)))))
    refine Wops_go rfl (Wops_run rfl rfl (Wops_go rfl (Wops_run rfl rfl (Wops_go rfl (Wops_run rfl rfl (Wops_run rfl rfl (K_fin [(6, _)] rfl (?_))))))))
    exact K_sret (Told.mk _ rfl rfl)
  · obtain ⟨fs, rest, bad, hadd⟩ := addR_lead (xs := xs) (zs := hi :: lo :: ys) (by omega)
    rw [hadd]
    rintro _ h6 ⟨af, nf, cf, vs, rfl, of, bf, df, q6, x6⟩
    simp only at bf q6
    have hnf : nf = fs.length + 1 := by have h1 := bf.length; have h2 := of.len; simp at h1 h2; omega
    subst hnf
    have pl : p < h5.next := hM p rfl
    have X06 : Ext0 h h6 := X05.then x6 fun i r => .inr (by omega)
    refine Wops_run rfl rfl (Wops_run rfl rfl (Wops_run rfl rfl (Wops_run rfl rfl (Wops_run rfl rfl (K_fin [(0, _), (1, _), (2, _), (7, _), (9, _), (10, _)] rfl (?_))))))
    refine K_ss (K_reg (Wops_run rfl rfl (Wops_as (w := .int .i64 nn) rfl rfl (by rw [w64 (by omega)]) (Wops_as (w := .bool false) rfl rfl (by rw [decide_eq_false hL]) (K_fin [(0, _), (1, _), (7, _), (9, _), (10, _), (43, _)] rfl (?_))))))
    refine K_scond rfl (fun hc => by cases hc) (fun _ => ?_)
    obtain ⟨a1, m1, c1, hv1, sf, _⟩ := bf.get 0 (by simp)
    have s06 := s0.sl.ext X06
    cases bad with
    | true =>
      refine K_sskip (K_reg (Wops_run rfl rfl (Wops_eq (v := false) rfl rfl rfl (Wops_run rfl rfl ?_))))
      refine Wops_go rfl (Wops_run rfl rfl (Wops_go rfl (Wops_call rfl (C21 q6) ?_)))
      rintro _ _ ⟨rfl, rfl⟩
      refine Wops_run rfl rfl (Wops_run rfl rfl ?_)
      refine Wops_go rfl (Wops_run rfl rfl (Wops_go rfl (Wops_run rfl rfl (Wops_go rfl (Wops_as (w := .bool true) rfl rfl (by rw [decide_eq_true (by omega)]) (Wops_run rfl rfl (Wops_run rfl rfl ?_)))))))
      refine Wops_go rfl (Wops_run rfl rfl (Wops_go rfl (Wops_idxG (u := .slice a1 m1 c1) rfl rfl of ⟨by omega, by omega⟩ (by simpa using hv1) (fun _ => rfl) fun _ => ?_)))
      refine Wops_go rfl (Wops_toStr rfl sf (Wops_go rfl (Wops_run rfl rfl (Wops_go rfl (Wops_toStr rfl s06 (Wops_go rfl (Wops_streq (v := true) rfl rfl (by simp) (Wops_run rfl rfl (Wops_run rfl rfl ?_)))))))))
      refine Wops_go rfl (Wops_mkSl (k := 5001) rfl rfl ⟨by omega, by omega⟩ fun h7 cc n7 x7 g7 => ?_)
      refine Wops_go rfl (Wops_call rfl (C16long (by omega)) ?_)
      rintro _ _ ⟨rfl, rfl⟩
      refine Wops_go rfl (Wops_run rfl rfl (Wops_go rfl (Wops_run rfl rfl (Wops_run rfl rfl (Wops_run rfl rfl ?_)))))
      refine Wops_go rfl (Wops_mkSl (k := 5000) rfl rfl ⟨by omega, by omega⟩ fun h8 cc8 n8 x8 g8 => ?_)
      rw [zeros_ints] at g8
      refine Wops_go rfl (Wops_call rfl (C16 (OwS.new (n := 5000) g8 (by rw [ints, List.length_map, List.length_replicate])).sl (Nat.le_refl _)) ?_)
      rintro _ h9 ⟨a9, c9, rfl, _, _, _⟩
      refine Wops_go rfl (Wops_run rfl rfl (Wops_go rfl (Wops_eq (v := true) rfl rfl (by decide) (Wops_run rfl rfl (Wops_run rfl rfl (K_fin [(6, _)] rfl (?_)))))))
      exact K_ret (Told.mk _ rfl rfl)
    | false =>
      refine K_sskip (K_reg (Wops_run rfl rfl (Wops_eq (v := true) rfl rfl rfl (Wops_run rfl rfl ?_))))
      refine Wops_skip rfl (Wops_skip rfl (Wops_run rfl rfl (Wops_run rfl rfl ?_)))
      refine Wops_go rfl (Wops_run rfl rfl (Wops_go rfl (Wops_run rfl rfl (Wops_go rfl (Wops_as (w := .bool true) rfl rfl (by rw [decide_eq_true (by omega)]) (Wops_run rfl rfl (Wops_run rfl rfl ?_)))))))
      refine Wops_go rfl (Wops_run rfl rfl (Wops_go rfl (Wops_idxG (u := .slice a1 m1 c1) rfl rfl of ⟨by omega, by omega⟩ (by simpa using hv1) (fun _ => rfl) fun _ => ?_)))
      refine Wops_go rfl (Wops_toStr rfl sf (Wops_go rfl (Wops_run rfl rfl (Wops_go rfl (Wops_toStr rfl s06 (Wops_go rfl (Wops_streq (v := true) rfl rfl (by simp) (Wops_run rfl rfl (Wops_run rfl rfl ?_)))))))))
      refine Wops_go rfl (Wops_mkSl (k := 5001) rfl rfl ⟨by omega, by omega⟩ fun h7 cc n7 x7 g7 => ?_)
      refine Wops_go rfl (Wops_call rfl (C16long (by omega)) ?_)
      rintro _ _ ⟨rfl, rfl⟩
      refine Wops_go rfl (Wops_run rfl rfl (Wops_go rfl (Wops_run rfl rfl (Wops_run rfl rfl (Wops_run rfl rfl ?_)))))
      refine Wops_go rfl (Wops_mkSl (k := 5000) rfl rfl ⟨by omega, by omega⟩ fun h8 cc8 n8 x8 g8 => ?_)
      rw [zeros_ints] at g8
      refine Wops_go rfl (Wops_call rfl (C16 (OwS.new (n := 5000) g8 (by rw [ints, List.length_map, List.length_replicate])).sl (Nat.le_refl _)) ?_)
      rintro _ h9 ⟨a9, c9, rfl, _, _, _⟩
      refine Wops_go rfl (Wops_run rfl rfl (Wops_go rfl (Wops_eq (v := true) rfl rfl (by decide) (Wops_run rfl rfl (Wops_run rfl rfl (K_fin [(6, _)] rfl (?_)))))))
      exact K_ret (Told.mk _ rfl rfl)
theorem wf_u16 {n : Int} (h : (Lit.int .u16 n).wf = true) : 0 ≤ n ∧ n ≤ 65535 := by
  simp [Lit.wf, IntKind.min, IntKind.max, IntKind.signed, IntKind.bits] at h; omega
set_option maxRecDepth 100000 in
theorem frameLong_fn {L : List (List Value)} {vs : List Value} (hG : FlatG Try.prog 0 [23, 23, 34] vs L) : Fn Try.prog 4 vs (flatH L) fun v _ => v = .bool true := by
  obtain ⟨a, m, c, l, r, k2, L2, L3, rfl, s, hl, _, hLL, hF⟩ := flat_slice (P := Try.prog) (k := 0) (t := 23) (ts := [23, 34]) (L0 := []) (L := L) (L' := L) Try.underlying23 rfl rfl hG
  obtain ⟨a2, m2, c2, l2, r2, k3, L4, L5, rfl, s2, hl2, _, _, hF2⟩ := flat_slice (P := Try.prog) (k := k2) (t := 23) (ts := [34]) (L0 := L2) (L := L) (L' := L3) Try.underlying23 (by assumption) (by assumption) hF
  obtain ⟨v, r, rfl, hv, hF3⟩ := flat_scal (P := Try.prog) (k := k3) (t := 34) (ts := []) (L' := L5) (by rw [Try.underlying34]; simp) hF2
  obtain ⟨n, rfl, hn⟩ := scal_int Try.underlying34 hv
  obtain rfl := flat_nil hF3
  obtain ⟨xs, rfl, hw⟩ := scal_ints Try.underlying5 hl
  obtain ⟨ys, rfl, hw2⟩ := scal_ints Try.underlying5 hl2
  exact C4 s s2 (fun x hx => wf_u8 (hw x hx)) (fun x hx => wf_u8 (hw2 x hx)) (wf_u16 hn)
end Go.Dx.SYtocdemagjocggaa
