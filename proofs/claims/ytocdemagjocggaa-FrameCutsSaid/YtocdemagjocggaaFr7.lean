/- frame: Put; FrameRest, FrameLong. -/
import Derived.Test.YtocdemagjocggaaFr6
namespace Go.Dx.SYtocdemagjocggaa
open Go.Proofs
set_option linter.unusedVariables false
set_option linter.unusedSimpArgs false

def putF (bs : List Int) : List Int := ((bs.length / 256 : Nat) : Int) :: ((bs.length % 256 : Nat) : Int) :: bs
theorem putF_length (bs : List Int) : (putF bs).length = bs.length + 2 := rfl
theorem putF_byte {bs : List Int} (w : Byte bs) (hb : bs.length ≤ 5000) : Byte (putF bs) := by
  intro x hx
  simp only [putF, List.mem_cons] at hx
  rcases hx with rfl | rfl | hx
  · omega
  · omega
  · exact w x hx
theorem nextF_put {bs : List Int} (rest : List Int) (hb : bs.length ≤ 5000) : nextF (putF bs ++ rest) = .whole bs rest := by
  have h1 : ((bs.length / 256 : Nat) : Int) * 256 + ((bs.length % 256 : Nat) : Int) = bs.length := by omega
  simp only [putF, List.cons_append, nextF, h1]
  rw [if_neg (by omega), if_neg (by simp; omega)]
  simp
theorem nextF_put_take {bs : List Int} {k : Nat} (hk : k < (putF bs).length) (hb : bs.length ≤ 5000) : nextF ((putF bs).take k) = .short := by
  have h1 : ((bs.length / 256 : Nat) : Int) * 256 + ((bs.length % 256 : Nat) : Int) = bs.length := by omega
  rw [putF_length] at hk
  match k, hk with
  | 0, _ => rfl
  | 1, _ => rfl
  | k + 2, hk =>
    simp only [putF, List.take_succ_cons, nextF, h1]
    rw [if_neg (by omega), if_pos (by simp; omega)]

theorem wu8 {x : Int} (h : 0 ≤ x) : IntKind.wrap .u8 x = x % 256 := by
  simp [IntKind.wrap, IntKind.signed, IntKind.bits]

/-- frame.Put -/
theorem C16 {h : Heap} {a : Option Addr} {n c : Nat} {bs : List Int} (s : SlA h 1 a n c (ints .u8 bs)) (hb : n ≤ 5000) :
    Fn Try.prog 16 [.slice a n c] h fun v h' => ∃ a' c', v = .slice a' (2 + n) c' ∧ OwS h' 1 a' (2 + n) c' (ints .u8 (putF bs)) ∧ Ext0 h h' ∧ ∀ i, Blk a' i → h.next ≤ i ∧ i < h'.next := by
  have hn : bs.length = n := by simpa using s.len
  refine fnK F16.fok rfl ?_
  refine K_reg (Wops_run rfl rfl (K_fin [(0, _)] rfl (?_)))
  refine K_reg (Wops_run rfl rfl (Wops_run rfl rfl (Wops_run rfl rfl (K_fin [(0, _), (3, _)] rfl (?_)))))
  refine K_ss (K_reg (Wops_run rfl rfl (Wops_run rfl rfl (K_fin [(0, _), (3, _), (7, _)] rfl (?_)))))
  refine K_scond rfl (fun hc => by have := of_decide_eq_true hc; omega) (fun _ => ?_)
  refine K_sskip (K_reg (Wops_run rfl rfl (Wops_run rfl rfl (Wops_as (w := .int .u8 ((bs.length / 256 : Nat) : Int)) rfl rfl (by
    show Value.int .u8 (IntKind.wrap .u8 (Int.fdiv (n : Int) (2 ^ 8))) = _
    rw [Int.fdiv_eq_ediv_of_nonneg _ (by omega), wu8 (by omega), hn]
    congr 1; omega) (Wops_run rfl rfl (Wops_as (w := .int .u8 ((bs.length % 256 : Nat) : Int)) rfl rfl (by rw [wu8 (by omega), hn]; congr 1) ?_))))))
  refine Wops_bslice (l := [.int .u8 ((bs.length / 256 : Nat) : Int), .int .u8 ((bs.length % 256 : Nat) : Int)]) rfl rfl fun h1 n1 x1 g1 => ?_
  refine Wops_run rfl rfl (Wops_app rfl rfl (OwS.new (n := 2) g1 rfl) rfl (s.ext x1).first ⟨by omega, by omega⟩ s.len (ints_cell _ _) (by decide) fun h2 a2 c2 x2 o2 b2 => ?_)
  refine Wops_run rfl rfl (K_fin [(2, _)] rfl (?_))
  refine K_ret (Told.mk _ rfl ⟨a2, c2, rfl, by simpa [ints, putF] using o2, x1.then x2 fun i r => .inr (by rw [Blk.at] at r; omega), fun i r => ⟨?_, o2.lt r⟩⟩)
  rcases b2 i r with r | r
  · rw [Blk.at] at r; omega
  · omega
theorem C16long {h : Heap} {a : Option Addr} {n c : Nat} (hb : 5000 < n) : Fn Try.prog 16 [.slice a n c] h fun v h' => v = .slice none 0 0 ∧ h = h' := by
  refine fnK F16.fok rfl ?_
  refine K_reg (Wops_run rfl rfl (K_fin [(0, _)] rfl (?_)))
  refine K_reg (Wops_run rfl rfl (Wops_run rfl rfl (Wops_run rfl rfl (K_fin [(0, _), (3, _)] rfl (?_)))))
  refine K_ss (K_reg (Wops_run rfl rfl (Wops_run rfl rfl (K_fin [(0, _), (3, _), (7, _)] rfl (?_)))))
  refine K_scond rfl (fun _ => ?_) (fun hc => by have := of_decide_eq_false hc; omega)
  refine K_ss (K_reg (Wops_run rfl rfl (K_fin [(2, _)] rfl (?_))))
  exact K_sret (Told.mk _ rfl ⟨rfl, rfl⟩)

theorem splitF_nil (k : Nat) : splitF k [] = ([], [], false) := by cases k <;> rfl
theorem addR_put {pre suf bs : List Int} (he : pre ++ suf = putF bs) (hb : bs.length ≤ 5000) : addR pre false suf = ([bs], [], false, 0) := by
  have hl : (pre ++ suf).length = (bs.length + 1) + 1 := by rw [he]; rfl
  have h1 : splitF (pre ++ suf).length (pre ++ suf) = ([bs], [], false) := by
    rw [hl, he]
    have := nextF_put (bs := bs) [] hb
    rw [List.append_nil] at this
    simp only [splitF, this]; rfl
  simp only [addR, h1]; rfl
theorem addR_pre {bs : List Int} {k : Nat} (hk : k < (putF bs).length) (hb : bs.length ≤ 5000) : addR [] false ((putF bs).take k) = ([], (putF bs).take k, false, 0) := by
  have h1 := splitF_short (k := ([] ++ (putF bs).take k).length) (nextF_put_take hk hb)
  rw [List.nil_append] at h1
  simp only [addR, List.nil_append, h1]; rfl

theorem C5 {h : Heap} {a0 : Option Addr} {n0 c0 : Nat} {bs : List Int} {nn : Int} (s0 : InS h a0 n0 c0 (ints .u8 bs)) (hw : Byte bs) (hnn : 0 ≤ nn ∧ nn ≤ 255) : Fn Try.prog 5 [.slice a0 n0 c0, .int .u8 nn] h fun v _ => v = .bool true := by
  have hn : bs.length = n0 := by simpa using s0.sl.len
  refine fnK F5.fok rfl ?_
  refine K_reg (Wops_run rfl rfl (K_fin [(0, _), (1, _)] rfl (?_)))
  refine K_ss (K_reg (Wops_call rfl C15 ?_))
  rintro _ _ ⟨rfl, rfl⟩
  refine Wops_run rfl rfl (K_fin [(0, _), (1, _), (14, _)] rfl (?_))
  refine K_scond rfl (fun hc => by cases hc) (fun _ => ?_)
  refine K_sskip (K_ss (K_reg (Wops_run rfl rfl (Wops_run rfl rfl (Wops_run rfl rfl (K_fin [(0, _), (1, _), (17, _)] rfl (?_)))))))
  refine K_scond rfl (fun hc => ?_) (fun hc => ?_)
  · refine K_ss (K_reg (Wops_run rfl rfl (K_fin [(4, _)] rfl (?_))))
    exact K_sret (Told.mk _ rfl rfl)
  have h40 : n0 ≤ 40 := by have := of_decide_eq_false hc; omega
  refine K_sskip (K_reg (Wops_run rfl rfl (Wops_call rfl (C16 s0.sl (by omega)) ?_)))
  rintro _ h1 ⟨aw, cw, rfl, ow, xw, lw⟩
  refine Wops_run rfl rfl (K_fin [(0, _), (1, _), (5, _)] rfl (?_))
  obtain ⟨k, hk, hke⟩ : ∃ k : Nat, k < n0 + 2 ∧ nn.tmod ((n0 + 2 : Nat) : Int) = (k : Int) := by
    have h1 := Int.tmod_nonneg ((n0 + 2 : Nat) : Int) hnn.1
    have h2 := Int.tmod_lt_of_pos nn (show (0 : Int) < ((n0 + 2 : Nat) : Int) by omega)
    exact ⟨(nn.tmod ((n0 + 2 : Nat) : Int)).toNat, by omega, by omega⟩
  refine K_reg (Wops_run rfl rfl (Wops_as (w := .int .i64 nn) rfl rfl (by rw [w64 (by omega)]) (Wops_run rfl rfl (Wops_run rfl rfl (Wops_as (w := .int .i64 ((n0 + 2 : Nat) : Int)) rfl rfl (by rw [w64 (by omega)]; congr 1) (Wops_rem rfl rfl (by omega) (Wops_run rfl rfl (K_fin [(0, _), (5, _), (6, .int .i64 (k : Int))] (by rw [← hke]; rfl) (?_)))))))))
  refine K_reg (Wops_call rfl C17 ?_)
  rintro _ h2 ⟨p, rfl, gp, xp, lp⟩
  refine Wops_run rfl rfl (K_fin [(0, _), (5, _), (6, _), (7, _)] rfl (?_))
  refine K_ss (K_reg (Wops_run rfl rfl (Wops_run rfl rfl (Wops_run rfl rfl (Wops_run rfl rfl (Wops_as (w := .int .i64 ((n0 + 2 : Nat) : Int)) rfl rfl (by rw [w64 (by omega)]; congr 1) (Wops_neq (v := false) rfl rfl (by simp; omega) (K_fin [(0, _), (5, _), (6, _), (7, _), (32, _)] rfl (?_)))))))))
  refine K_scond rfl (fun hc => by cases hc) (fun _ => ?_)
  have hput : (putF bs).length = 2 + n0 := by rw [putF_length]; omega
  have ow2 := ow.ext xp
  have hM : ∀ i, (fun i => i = p) i → i < h2.next := fun i r => by have := gp.lt; omega
  have q0 : Pt (fun i => i = p) h2 p [] false := ⟨rfl, none, 0, 0, gp, SlA.none, fun i r => absurd r Blk.none⟩
  have sA := ow2.sl.sub (i := 0) (j := k) (by omega) (by omega)
  have sB := ow2.sl.sub (i := k) (j := 2 + n0) (by omega) (Nat.le_refl _)
  have hA : List.take ((k - 0) * 1) (List.drop (0 * 1) (ints .u8 (putF bs))) = ints .u8 ((putF bs).take k) := by simp [ints, List.map_take]
  have hB : List.take ((2 + n0 - k) * 1) (List.drop (k * 1) (ints .u8 (putF bs))) = ints .u8 ((putF bs).drop k) := by
    rw [List.take_of_length_le (by simp; omega)]; simp [ints, List.map_drop]
  rw [hA] at sA
  rw [hB] at sB
  have wp := putF_byte hw (by omega)
  have wA : Byte ((putF bs).take k) := fun x hx => wp x (List.mem_of_mem_take hx)
  have wB : Byte ((putF bs).drop k) := fun x hx => wp x (List.mem_of_mem_drop hx)
  have lw2 : ∀ i, Blk aw i → i < h2.next := fun i r => by have := (lw i r).2; have := xp.next; omega
  refine K_sskip (K_reg (Wops_run rfl rfl (Wops_run rfl rfl (Wops_run rfl rfl (Wops_slV rfl rfl rfl ow2.sl.ok (bounds_hi (i := k) (by omega)) ?_)))))
  refine Wops_call rfl (C18' hM q0 (fun x hx => (by cases hx)) ⟨sA, fun i r => lw2 i (shift_blk.1 r)⟩ wA (by simp) (by simp; omega)) ?_
  rw [addR_pre (by omega) (by omega)]
  rintro _ h3 ⟨af, nf, cf, vs, rfl, of, bf, df, q3, x3⟩
  have hnf : nf = 0 := by have h1 := bf.length; have h2 := of.len; simp at h1; subst h1; simp at h2; omega
  subst hnf
  refine Wops_run rfl rfl (Wops_run rfl rfl (Wops_run rfl rfl (Wops_run rfl rfl (Wops_run rfl rfl (K_fin [(0, _), (5, _), (6, _), (7, _), (8, _), (9, _)] rfl (?_))))))
  refine K_reg (Wops_run rfl rfl (Wops_call rfl (C20 q3) ?_))
  rintro _ _ ⟨rfl, rfl⟩
  refine Wops_run rfl rfl (K_fin [(0, _), (5, _), (6, _), (7, _), (8, _), (9, _), (10, _)] rfl (?_))
  have nep : ∀ i, Blk aw i → ¬ i = p := fun i r e => by have := (lw i r).2; omega
  refine K_reg (Wops_run rfl rfl (Wops_run rfl rfl (Wops_run rfl rfl (Wops_slV rfl rfl rfl (ow2.ext x3 nep).sl.ok (bounds_lo (i := k) (by omega)) ?_))))
  have e3 := x3.next
  refine Wops_call rfl (C18' (fun i r => by have := hM i r; omega) q3 wA ⟨sB.ext x3 (fun i r => nep i (shift_blk.1 r)), fun i r => by have := lw2 i (shift_blk.1 r); omega⟩ wB (by simp; omega) (by simp; omega)) ?_
  rw [addR_put (List.take_append_drop k (putF bs)) (by omega)]
  rintro _ h4 ⟨ag, ng, cg, ws, rfl, og, bg, dg, q4, x4⟩
  have hng : ng = 1 := by have h1 := bg.length; have h2 := og.len; simp at h1; omega
  subst hng
  obtain ⟨a1, m1, c1, hv1, sf, _⟩ := bg.get 0 (by simp)
  have s04 : SlA h4 1 a0 n0 c0 (ints .u8 bs) := ((s0.sl.ext xw).ext xp).ext (x3.trans x4) (fun i r e => by have := s0.lt i r; have := xw.next; omega)
  have hkk : ((putF bs).take k).length = k := by simp; omega
  refine Wops_run rfl rfl (Wops_run rfl rfl (Wops_run rfl rfl (Wops_run rfl rfl (Wops_run rfl rfl (K_fin [(0, _), (6, _), (7, _), (8, _), (9, _), (10, _), (11, _), (12, _)] rfl (?_))))))
  refine K_reg (Wops_run rfl rfl (Wops_run rfl rfl (Wops_run rfl rfl (Wops_go rfl (Wops_run rfl rfl (Wops_go rfl (Wops_run rfl rfl (Wops_go rfl (Wops_run rfl rfl (Wops_run rfl rfl (Wops_run rfl rfl ?_)))))))))))
  refine Wops_go rfl (Wops_run rfl rfl (Wops_go rfl (Wops_run rfl rfl (Wops_go rfl (Wops_eq (v := true) rfl rfl (by rw [hkk]; simp) (Wops_run rfl rfl (Wops_run rfl rfl ?_)))))))
  refine Wops_go rfl (Wops_run rfl rfl (Wops_go rfl (Wops_run rfl rfl (Wops_run rfl rfl (Wops_run rfl rfl ?_)))))
  refine Wops_go rfl (Wops_run rfl rfl (Wops_go rfl (Wops_run rfl rfl (Wops_go rfl (Wops_run rfl rfl (Wops_run rfl rfl (Wops_run rfl rfl ?_)))))))
  refine Wops_go rfl (Wops_run rfl rfl (Wops_go rfl (Wops_idxG (u := .slice a1 m1 c1) rfl rfl og ⟨by omega, by omega⟩ (by simpa using hv1) (fun _ => rfl) fun _ => ?_)))
  refine Wops_go rfl (Wops_toStr rfl sf (Wops_go rfl (Wops_run rfl rfl (Wops_go rfl (Wops_toStr rfl s04 (Wops_go rfl (Wops_streq (v := true) rfl rfl (by simp) (Wops_run rfl rfl (Wops_run rfl rfl ?_)))))))))
  refine Wops_go rfl (Wops_run rfl rfl (Wops_go rfl (Wops_call rfl (C20 q4) ?_)))
  rintro _ _ ⟨rfl, rfl⟩
  refine Wops_go rfl (Wops_run rfl rfl (Wops_run rfl rfl (Wops_run rfl rfl (K_fin [(4, _)] rfl (?_)))))
  exact K_ret (Told.mk _ rfl rfl)
set_option maxRecDepth 100000 in
theorem frameRest_fn {L : List (List Value)} {vs : List Value} (hG : FlatG Try.prog 0 [23, 5] vs L) : Fn Try.prog 5 vs (flatH L) fun v _ => v = .bool true := by
  obtain ⟨a, m, c, l, r, k2, L2, L3, rfl, s, hl, _, _, hF⟩ := flat_slice (P := Try.prog) (k := 0) (t := 23) (ts := [5]) (L0 := []) (L := L) (L' := L) Try.underlying23 rfl rfl hG
  obtain ⟨v, r, rfl, hv, hF2⟩ := flat_scal (P := Try.prog) (k := k2) (t := 5) (ts := []) (L' := L3) (by rw [Try.underlying5]; simp) hF
  obtain ⟨n, rfl, hn⟩ := scal_int Try.underlying5 hv
  obtain rfl := flat_nil hF2
  obtain ⟨xs, rfl, hw⟩ := scal_ints Try.underlying5 hl
  exact C5 s (fun x hx => wf_u8 (hw x hx)) (wf_u8 hn)
end Go.Dx.SYtocdemagjocggaa
