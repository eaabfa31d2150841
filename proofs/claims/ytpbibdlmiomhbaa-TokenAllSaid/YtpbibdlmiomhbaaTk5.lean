/- TokenOldest: SameNums, request, and the walk. -/
import Derived.Test.YtpbibdlmiomhbaaTk4
namespace Go.Dx.SYtpbibdlmiomhbaa
open Go.Proofs
set_option linter.unusedVariables false
set_option linter.unusedSimpArgs false

/-- cloakroomref1.SameNums -/
theorem C34 {h : Heap} {a b : Option Addr} {n m c d : Nat} {xs ys : List Int} (s : SlA h 1 a n c (us xs)) (s2 : SlA h 1 b m d (us ys)) (hb : n ≤ 1099511627776) :
    Fn Try.prog 34 [.slice a n c, .slice b m d] h fun v h' => v = .bool (decide (xs = ys)) ∧ h = h' := by
  have hn : xs.length = n := by simpa using s.len
  have hm : ys.length = m := by simpa using s2.len
  refine fnK F34.fok rfl ?_
  refine K_reg (Wops_run rfl rfl (K_fin [(0, _), (1, _)] rfl (?_)))
  refine K_ss (K_reg (Wops_run rfl rfl (Wops_run rfl rfl (Wops_run rfl rfl (Wops_run rfl rfl (Wops_run rfl rfl (K_fin [(0, _), (1, _), (10, _)] rfl (?_))))))))
  refine K_scond rfl (fun hc => ?_) (fun hc => ?_)
  · have hne : n ≠ m := fun e => by subst e; simp at hc
    refine K_ss (K_reg (Wops_run rfl rfl (K_fin [(4, _)] rfl (?_))))
    refine K_sret (Told.mk _ rfl (show _ ∧ _ from ⟨?_, rfl⟩))
    rw [decide_eq_false (fun e => hne (by rw [← hn, ← hm, e]))]; rfl
  · have hnm : n = m := by
      have h1 : ((n : Int) != (m : Int)) = false := hc
      simp at h1; omega
    subst hnm
    refine K_sskip (K_ss (K_reg (Wops_run rfl rfl (K_fin [(0, _), (1, _), (5, _)] rfl (?_)))))
    refine K_sblock ?_
    refine K_loop (fun k e h' => ∃ i : Nat, e = [(0, .slice a n c), (1, .slice b n d), (5, .int .i64 i)] ∧ h = h' ∧ i ≤ n ∧ k = n - i ∧ xs.take i = ys.take i) ?_ (k := n) ⟨0, rfl, rfl, by omega, rfl, rfl⟩
    rintro k e h' ⟨i, rfl, rfl, hi, rfl, ht⟩
    refine K_ss (K_reg (Wops_run rfl rfl (Wops_run rfl rfl (Wops_run rfl rfl (Wops_run rfl rfl (K_fin [(0, _), (1, _), (5, _), (14, _)] rfl (?_)))))))
    refine K_scond rfl (fun hc => ?_) (fun hc => ?_)
    · have hlt : i < n := by have := of_decide_eq_true hc; omega
      refine K_sskip (K_sblock ?_)
      refine K_reg (Wops_run rfl rfl (Wops_run rfl rfl (Wops_idx (u := .int .u64 xs[i]) rfl rfl s ⟨by omega, by omega⟩ (by simp [hn, hlt]) fun p => ?_)))
      refine Wops_run rfl rfl (Wops_run rfl rfl (Wops_idx (u := .int .u64 ys[i]) rfl rfl s2 ⟨by omega, by omega⟩ (by simp [hm, hlt]) fun p => ?_))
      refine Wops_run rfl rfl (K_fin [(0, _), (1, _), (5, _), (25, _)] rfl (?_))
      refine K_cond rfl (fun hd => ?_) (fun hd => ?_)
      · refine K_reg (Wops_run rfl rfl (K_fin [(4, _)] rfl (?_)))
        refine K_ret (Told.mk _ rfl (show _ ∧ _ from ⟨?_, rfl⟩))
        rw [decide_eq_false (fun e => by subst e; simp at hd)]; rfl
      · refine K_skip (K_last (Wops_run rfl rfl (Wops_run rfl rfl (Wops_run rfl rfl (K_finL [(0, _), (1, _), (5, _)] rfl (?_))))))
        refine ⟨n - (i + 1), by omega, i + 1, by rw [w64s (by omega)], rfl, by omega, rfl, ?_⟩
        have h1 : (xs[i] != ys[i]) = false := hd
        have h2 : xs[i] = ys[i] := by simpa using h1
        rw [List.take_add_one, List.take_add_one, ht, List.getElem?_eq_getElem (by omega), List.getElem?_eq_getElem (by omega), h2]
    · have hin : i = n := by have := of_decide_eq_false hc; omega
      refine K_sexit (bx_same ?_)
      refine K_reg (Wops_run rfl rfl (K_fin [(4, _)] rfl (?_)))
      refine K_ret (Told.mk _ rfl (show _ ∧ _ from ⟨?_, rfl⟩))
      rw [List.take_of_length_le (by omega), List.take_of_length_le (by omega)] at ht
      rw [decide_eq_true ht]; rfl

set_option maxRecDepth 100000 in
theorem begun36_run : isTrue (fnR T 600 36 [] Heap.empty) = true := by kernel_rfl
theorem C36 {h : Heap} : Fn Try.prog 36 [] h fun v h' => v = .bool true ∧ h = h' :=
  Fn.anywhere (R := fun v => v = .bool true) rfl (fn_of_true T.ok begun36_run) fun v h' q => ⟨by rw [q]; rfl, q⟩

abbrev bs (xs : List Bool) : List Value := xs.map Value.bool
/-- request -/
theorem C41 {h : Heap} {x : Int} (hx : 0 ≤ x ∧ x ≤ 255) : Fn Try.prog 41 [.int .u8 x] h fun v h' => v = .agg ⟨[.int .i64 (1 + x % 3), .int .u64 0, .int .u64 (x % 2), .string ByteArray.empty, .slice none 0 0, .slice none 0 0, .int .u64 0, .int .u64 0]⟩ ∧ Ext0 h h' := by
  refine fnK F41.fok rfl ?_
  refine K_reg (Wops_new fun h1 n1 x1 g1 => K_fin [(0, _), (2, _)] rfl (?_))
  have e3 : x.tmod 3 = x % 3 := Int.tmod_eq_emod_of_nonneg hx.1
  have e2 : x.tmod 2 = x % 2 := Int.tmod_eq_emod_of_nonneg hx.1
  have w8 : ∀ y : Int, 0 ≤ y → y ≤ 255 → IntKind.wrap .u8 y = y := fun y h1 h2 => by simp [IntKind.wrap, IntKind.signed, IntKind.bits]; omega
  refine K_reg (Wops_run rfl rfl (Wops_rem rfl rfl (by decide) (Wops_as (w := .int .i64 (x % 3)) rfl rfl (by rw [e3]; first | rw [w8 _ (by omega) (by omega), w64 (by omega)] | rw [w64 (by omega)]) (Wops_as (w := .int .i64 (1 + x % 3)) rfl rfl (by rw [w64 (by omega)]) ?_))))
  refine Wops_run rfl rfl (Wops_rem rfl rfl (by decide) (Wops_as (w := .int .u64 (x % 2)) rfl rfl (by rw [e2]; first | rw [w8 _ (by omega) (by omega), wu64 (by omega)] | rw [wu64 (by omega)]) (Wops_run rfl rfl ?_)))
  refine Wops_st (l := [.int .i64 (1 + x % 3), .int .u64 0, .int .u64 (x % 2), .string ByteArray.empty, .slice none 0 0, .slice none 0 0, .int .u64 0, .int .u64 0]) rfl rfl rfl rfl g1 (by simp) rfl fun h2 n2 x2 g2 => ?_
  refine K_fin [(2, _)] rfl (?_)
  exact K_ret (Told.mk _ (resL_cons (res_c (l := [.int .i64 (1 + x % 3), .int .u64 0, .int .u64 (x % 2), .string ByteArray.empty, .slice none 0 0, .slice none 0 0, .int .u64 0, .int .u64 0]) rfl g2 (by simp [putL_length]) (by rfl)) rfl) ⟨rfl, x1.then x2 fun i r => .inr (by omega)⟩)

/-- What TokenOldest has. -/
structure TO (h0 h : Heap) (p : Nat) (ec es : List E) (S : Nat → Prop) (ka : Option Addr) (kc : Nat) (ia : Option Addr) (ic : Nat) : Prop where
  x : Ext0 h0 h
  c : Kc h p ec S
  sn : ∀ j, S j → h0.next ≤ j
  k : OwS h 1 ka es.length kc (us (es.map E.tk))
  i : OwS h 1 ia es.length ic (bs (es.map E.dn))
  kn : ∀ j, Blk ka j → h0.next ≤ j ∧ ¬ S j
  im : ∀ j, Blk ia j → h0.next ≤ j ∧ ¬ S j
  ki : ∀ j, Blk ka j → ¬ Blk ia j
theorem TO.ext0 {h0 h h' : Heap} {p : Nat} {ec es : List E} {S : Nat → Prop} {ka ia : Option Addr} {kc ic : Nat} (t : TO h0 h p ec es S ka kc ia ic) (x : Ext0 h h') : TO h0 h' p ec es S ka kc ia ic :=
  ⟨t.x.trans x, t.c.ext0 x, t.sn, t.k.ext x, t.i.ext x, t.kn, t.im, t.ki⟩

theorem rem_step {es : List E} {g j : Nat} (hj : j < es.length) : (es.take (j + 1)).eraseIdx g = (es.take j).eraseIdx g ++ if j = g then [] else [es[j]] := by
  rw [List.take_add_one, List.getElem?_eq_getElem hj, Option.toList_some]
  have hl : (es.take j).length = j := by simp; omega
  by_cases h1 : g < j
  · rw [if_neg (by omega), List.eraseIdx_append_of_lt_length (by omega)]
  · rw [List.eraseIdx_append_of_length_le (by omega), hl]
    by_cases h2 : j = g
    · obtain rfl := h2
      rw [if_pos rfl, Nat.sub_self, List.eraseIdx_of_length_le (l := es.take j) (by omega)]; rfl
    · rw [if_neg h2, List.eraseIdx_of_length_le (l := es.take j) (by omega), List.eraseIdx_of_length_le (by simp; omega)]

set_option maxHeartbeats 4000000 in
theorem C12 {h0 : Heap} {ad : Option Addr} {nd cd : Nat} {ds : List Bool} (sd : InS h0 ad nd cd (bs ds)) : Fn Try.prog 12 [.slice ad nd cd] h0 fun v _ => v = .bool true := by
  have hds : ds.length = nd := by simpa using sd.sl.len
  refine fnK F12.fok rfl ?_
  refine K_reg (Wops_run rfl rfl (K_fin [(0, _)] rfl (?_)))
  refine K_ss (K_reg (Wops_call rfl C36 ?_))
  rintro _ _ ⟨rfl, rfl⟩
  refine Wops_run rfl rfl (K_fin [(0, _), (15, _)] rfl (?_))
  refine K_scond rfl (fun hc => by cases hc) (fun _ => ?_)
  refine K_sskip (K_ss (K_reg (Wops_run rfl rfl (Wops_run rfl rfl (Wops_run rfl rfl (K_fin [(0, _), (18, _)] rfl (?_)))))))
  refine K_scond rfl (fun hc => ?_) (fun hc => ?_)
  · refine K_ss (K_reg (Wops_run rfl rfl (K_fin [(2, _)] rfl (?_))))
    exact K_sret (Told.mk _ rfl rfl)
  have hnd : nd ≤ 12 := by have := of_decide_eq_false hc; omega
  refine K_sskip (K_reg (Wops_call rfl C37 ?_))
  rintro _ h1 ⟨p, rfl, q1, x1, n1⟩
  refine Wops_run rfl rfl (K_fin [(0, _), (3, _)] rfl (?_))
  refine K_reg (Wops_run rfl rfl (K_fin [(0, _), (3, _), (4, _)] rfl (?_)))
  refine K_reg (Wops_run rfl rfl (K_fin [(0, _), (3, _), (4, _), (5, _)] rfl (?_)))
  refine K_ss (K_reg (Wops_run rfl rfl (K_fin [(0, _), (3, _), (4, _), (5, _), (6, _)] rfl (?_))))
  refine K_sblock ?_
  refine K_loop (fun k e h' => ∃ (i : Nat) (es : List E) (S : Nat → Prop) (ka ia : Option Addr) (kc ic : Nat), e = [(0, .slice ad nd cd), (3, ptr p), (4, .slice ka es.length kc), (5, .slice ia es.length ic), (6, .int .i64 i)] ∧ i ≤ nd ∧ k = nd - i ∧ TO h0 h' p es es S ka kc ia ic ∧ ∀ x ∈ es, 1 ≤ x.tk ∧ x.tk ≤ i ∧ x.tm = 1) ?_ (k := nd)
    ⟨0, [], _, none, none, 0, 0, rfl, by omega, rfl, ⟨x1, q1, fun j r => by rw [r]; exact n1, OwS.none, OwS.none, fun j r => absurd r Blk.none, fun j r => absurd r Blk.none, fun j r => absurd r Blk.none⟩, fun x hx => by cases hx⟩
  rintro k' e h' ⟨i, es, S, ka, ia, kc, ic, rfl, hi, rfl, T, hes⟩
  refine K_ss (K_reg (Wops_run rfl rfl (Wops_run rfl rfl (Wops_run rfl rfl (Wops_run rfl rfl (K_fin [(0, _), (3, _), (4, _), (5, _), (6, _), (23, _)] rfl (?_)))))))
  refine K_scond rfl (fun hc => ?_) (fun hc => ?_)
  rotate_left
  · refine K_sexit (bx_same ?_)
    refine K_reg (Wops_run rfl rfl (K_fin [(2, _)] rfl (?_)))
    exact K_ret (Told.mk _ rfl rfl)
  have hlt : i < nd := by have := of_decide_eq_true hc; omega
  have hle := (let ⟨_, _, _, _, k, _⟩ := T.c; (by rw [k.len]; exact k.le) : es.length ≤ 4)
  refine K_sskip (K_sblock ?_)
  refine K_reg (Wops_run rfl rfl (Wops_as (w := .int .i64 ((i + 1 : Nat) : Int)) rfl rfl (by rw [w64s (by omega)]) (Wops_as (w := .int .u64 ((i + 1 : Nat) : Int)) rfl rfl (by rw [wu64 (by omega)]) (Wops_run rfl rfl (K_fin [(0, _), (3, _), (4, _), (5, _), (6, _), (7, _)] rfl (?_))))))
  refine K_reg (Wops_run rfl rfl (Wops_run rfl rfl (Wops_call rfl (C41 (x := 0) (by omega)) ?_)))
  rintro _ h2 ⟨rfl, x2⟩
  have T2 := T.ext0 x2
  refine Wops_call rfl (C38 (xs := []) T2.c rfl SlA.none (by omega) (fun j r => absurd r Blk.none)) ?_
  rintro v h3 ⟨S3, t3, hp3⟩
  have hno : es.any (tkf ((i + 1 : Nat) : Int)) = false := by
    rw [List.any_eq_false]
    intro x hx
    have := (hes x hx).2.1
    simp [tkf]; omega
  obtain ⟨err, es2, rfl, hcase, q3⟩ : ∃ (err : Int) (es2 : List E), v = .int .i64 err ∧ ((begE es = none ∧ err = 13 ∧ es2 = es) ∨ (∃ es1 x, begE es = some es1 ∧ err = 0 ∧ es2 = es1 ++ [x] ∧ x.tk = ((i + 1 : Nat) : Int) ∧ x.tm = 1 ∧ x.dn = false)) ∧ Kc h3 p es2 S3 := by
    rcases hp3 with ⟨e0, _⟩ | ⟨_, e0, _⟩ | ⟨_, _, e1, rfl, q⟩ | ⟨_, _, es1, a', c', hx, e1, rfl, q, _⟩
    · omega
    · rw [hno] at e0; cases e0
    · exact ⟨_, _, rfl, .inl ⟨e1, rfl, rfl⟩, q⟩
    · exact ⟨_, _, rfl, .inr ⟨es1, _, e1, rfl, rfl, rfl, rfl, rfl⟩, q⟩
  have k3 := T2.k.ext t3.ext (fun j r => (T2.kn j r).2)
  have i3 := T2.i.ext t3.ext (fun j r => (T2.im j r).2)
  have x03 : Ext0 h0 h3 := t3.ext0 T2.x T2.sn
  have sn3 := t3.new T2.x T2.sn
  have kn3 : ∀ j, Blk ka j → h0.next ≤ j ∧ ¬ S3 j := fun j r => ⟨(T2.kn j r).1, fun q => (t3.own j q).elim (T2.kn j r).2 fun q => by have := T2.k.lt r; omega⟩
  have im3 : ∀ j, Blk ia j → h0.next ≤ j ∧ ¬ S3 j := fun j r => ⟨(T2.im j r).1, fun q => (t3.own j q).elim (T2.im j r).2 fun q => by have := T2.i.lt r; omega⟩
  refine Wops_run rfl rfl (K_fin [(0, _), (3, _), (4, _), (5, _), (6, _), (7, _), (8, _)] rfl (?_))
  refine K_reg (Wops_run rfl rfl (K_fin [(0, _), (3, _), (4, _), (5, _), (6, _), (7, _), (8, _), (9, _)] rfl (?_)))
  refine K_ss (K_reg (Wops_run rfl rfl (K_fin [(0, _), (3, _), (4, _), (5, _), (6, _), (7, _), (8, _), (9, _), (10, _)] rfl (?_))))
  refine K_jblock (fun e h' => ∃ j : Nat, e = [(0, .slice ad nd cd), (3, ptr p), (4, .slice ka es.length kc), (5, .slice ia es.length ic), (6, .int .i64 i), (7, .int .u64 ((i + 1 : Nat) : Int)), (8, .int .i64 err), (9, .int .i64 (ixG E.dn es)), (10, .int .i64 j), (40, .bool false)] ∧ h3 = h') ?_ ?_
  · refine K_loop (fun k e h' => ∃ (j : Nat) (gn : Int), e = [(0, .slice ad nd cd), (3, ptr p), (4, .slice ka es.length kc), (5, .slice ia es.length ic), (6, .int .i64 i), (7, .int .u64 ((i + 1 : Nat) : Int)), (8, .int .i64 err), (9, .int .i64 gn), (10, .int .i64 j)] ∧ h3 = h' ∧ j ≤ es.length ∧ k = es.length - j ∧
        ((gn = -1 ∧ ∀ m (hm : m < j) (hl : m < es.length), es[m].dn = false) ∨ (0 ≤ gn ∧ gn = ixG E.dn es))) ?_ (k := es.length) ⟨0, -1, rfl, rfl, by omega, rfl, .inl ⟨rfl, fun m hm => by omega⟩⟩
    · rintro k' e h' ⟨j, gn, rfl, rfl, hj, rfl, hg⟩
      refine K_ss (K_reg (Wops_run rfl rfl (Wops_run rfl rfl (Wops_run rfl rfl ?_))))
      by_cases hjl : j < es.length
      · refine Wops_as (w := .bool true) rfl rfl (by rw [decide_eq_true (by omega)]) (Wops_run rfl rfl (Wops_go rfl (Wops_run rfl rfl (Wops_go rfl ?_))))
        rcases hg with ⟨rfl, hall⟩ | ⟨hg0, hge⟩
        · refine Wops_run rfl rfl (Wops_run rfl rfl (K_fin [(0, _), (3, _), (4, _), (5, _), (6, _), (7, _), (8, _), (9, _), (10, _), (40, _)] rfl (?_)))
          refine K_scond rfl (fun _ => ?_) (fun hc => by cases hc)
          refine K_sskip (K_sblock ?_)
          refine K_reg (Wops_run rfl rfl (Wops_run rfl rfl (Wops_idx (u := .bool es[j].dn) rfl rfl i3.sl ⟨by omega, by omega⟩ (by simp [bs, hjl]) fun _ => ?_)))
          refine K_fin [(0, _), (3, _), (4, _), (5, _), (6, _), (7, _), (8, _), (9, _), (10, _), (46, _)] rfl (?_)
          refine K_cond rfl (fun hd => ?_) (fun hd => ?_)
          · refine K_last (Wops_run rfl rfl (Wops_run rfl rfl (K_finL [(0, _), (3, _), (4, _), (5, _), (6, _), (7, _), (8, _), (9, _), (10, _)] rfl (?_))))
            refine K_last (Wops_run rfl rfl (Wops_run rfl rfl (Wops_run rfl rfl (K_finL [(0, _), (3, _), (4, _), (5, _), (6, _), (7, _), (8, _), (9, _), (10, _)] rfl (?_)))))
            exact ⟨es.length - (j + 1), by omega, j + 1, j, by rw [w64s (by omega)], rfl, by omega, rfl, .inr ⟨by omega, (ixG_at hjl hd hall).symm⟩⟩
          · refine K_skip ?_
            refine K_last (Wops_run rfl rfl (Wops_run rfl rfl (Wops_run rfl rfl (K_finL [(0, _), (3, _), (4, _), (5, _), (6, _), (7, _), (8, _), (9, _), (10, _)] rfl (?_)))))
            refine ⟨es.length - (j + 1), by omega, j + 1, -1, by rw [w64s (by omega)], rfl, by omega, rfl, .inl ⟨rfl, fun m hm hl => ?_⟩⟩
            by_cases hmj : m = j
            · subst hmj; exact hd
            · exact hall m (by omega) hl
        · refine Wops_as (w := .bool false) rfl rfl (by rw [decide_eq_false (by omega)]) (Wops_run rfl rfl (K_fin [(0, _), (3, _), (4, _), (5, _), (6, _), (7, _), (8, _), (9, _), (10, _), (40, _)] rfl (?_)))
          refine K_scond rfl (fun hc => by cases hc) (fun _ => ?_)
          refine K_sexit (bx_same ?_)
          exact ⟨j, by rw [hge], rfl⟩
      · refine Wops_as (w := .bool false) rfl rfl (by rw [decide_eq_false (by omega)]) (Wops_run rfl rfl (Wops_skip rfl (Wops_skip rfl ?_)))
        refine Wops_run rfl rfl (K_fin [(0, _), (3, _), (4, _), (5, _), (6, _), (7, _), (8, _), (9, _), (10, _), (40, _)] rfl (?_))
        refine K_scond rfl (fun hc => by cases hc) (fun _ => ?_)
        refine K_sexit (bx_same ?_)
        refine ⟨j, ?_, rfl⟩
        rcases hg with ⟨rfl, hall⟩ | ⟨hg0, rfl⟩
        · rw [ixG_none (fun m hl => hall m (by omega) hl)]
        · rfl
  rintro e h4 ⟨j0, rfl, rfl⟩
  have T3 : TO h0 h3 p es2 es S3 ka kc ia ic := ⟨x03, q3, sn3, k3, i3, kn3, im3, T2.ki⟩
  rcases hcase with ⟨hb, rfl, rfl⟩ | ⟨es1, x, hb, rfl, rfl, hxt, hxm, hxd⟩
  · have hl4 : ¬ es2.length < 4 ∧ ixG E.dn es2 < 0 := by
      unfold begE at hb
      by_cases h1 : es2.length < 4
      · rw [if_pos h1] at hb; cases hb
      · rw [if_neg h1] at hb
        by_cases h2 : ixG E.dn es2 < 0
        · exact ⟨h1, h2⟩
        · rw [if_neg h2] at hb; cases hb
    refine K_ss (K_reg (Wops_run rfl rfl (Wops_run rfl rfl (Wops_as (w := .bool true) rfl rfl (by rw [decide_eq_true (by omega)]) (Wops_run rfl rfl (Wops_go rfl (Wops_run rfl rfl (Wops_go rfl (Wops_as (w := .bool true) rfl rfl (by rw [decide_eq_true hl4.2]) (Wops_run rfl rfl (K_fin [(0, _), (3, _), (4, _), (5, _), (6, _), (7, _), (8, _), (9, _), (54, _)] rfl (?_))))))))))))
    refine K_scond rfl (fun _ => ?_) (fun hc => by cases hc)
    refine K_ss (K_ss (K_reg (Wops_run rfl rfl (Wops_run rfl rfl (K_fin [(0, _), (3, _), (4, _), (5, _), (6, _), (56, _)] rfl (?_))))))
    refine K_scond rfl (fun hc => by cases hc) (fun _ => ?_)
    refine K_sskip (K_sexit (bx_same ?_))
    refine K_last (Wops_run rfl rfl (Wops_run rfl rfl (Wops_run rfl rfl (K_finL [(0, _), (3, _), (4, _), (5, _), (6, _)] rfl (?_)))))
    exact ⟨nd - (i + 1), by omega, i + 1, es2, S3, ka, ia, kc, ic, by rw [w64s (by omega)], by omega, rfl, T3, fun x hx => by have := hes x hx; omega⟩
  have hl4 : es.length < 4 ∧ es1 = es ∨ ¬ es.length < 4 ∧ ∃ g : Nat, ixG E.dn es = g ∧ g < es.length ∧ es1 = es.eraseIdx g := by
    unfold begE at hb
    by_cases h1 : es.length < 4
    · rw [if_pos h1] at hb; cases hb; exact .inl ⟨h1, rfl⟩
    · rw [if_neg h1] at hb
      by_cases h2 : ixG E.dn es < 0
      · rw [if_pos h2] at hb; cases hb
      · rw [if_neg h2] at hb
        rcases ixG_cases E.dn es with ⟨h3, _⟩ | ⟨g, hg, h3, _⟩
        · omega
        · rw [h3] at hb; cases hb; exact .inr ⟨h1, g, h3, hg, by rw [Int.toNat_natCast]⟩
  have hes1 : ∀ y ∈ es1, 1 ≤ y.tk ∧ y.tk ≤ i ∧ y.tm = 1 := by
    rcases hl4 with ⟨_, rfl⟩ | ⟨_, g, _, _, rfl⟩
    · exact hes
    · exact fun y hy => hes y (List.mem_of_mem_eraseIdx hy)
  have hle1 : es1.length ≤ 3 := by
    rcases hl4 with ⟨_, rfl⟩ | ⟨_, g, _, hg, rfl⟩
    · omega
    · rw [List.length_eraseIdx_of_lt hg]; omega
  refine K_join (fun e h' => e = [(0, .slice ad nd cd), (3, ptr p), (4, .slice ka es.length kc), (5, .slice ia es.length ic), (6, .int .i64 i), (7, .int .u64 ((i + 1 : Nat) : Int)), (8, .int .i64 0), (9, .int .i64 (ixG E.dn es)), (54, .bool false)] ∧ h3 = h') ?_ ?_
  · rcases hl4 with ⟨hl4, _⟩ | ⟨hl4, g, hg, _, _⟩
    · refine K_reg (Wops_run rfl rfl (Wops_run rfl rfl (Wops_as (w := .bool false) rfl rfl (by rw [decide_eq_false (by omega)]) (Wops_run rfl rfl (Wops_skip rfl (Wops_skip rfl (Wops_run rfl rfl (K_fin [(0, _), (3, _), (4, _), (5, _), (6, _), (7, _), (8, _), (9, _), (54, _)] rfl (?_)))))))))
      refine K_cond rfl (fun hc => by cases hc) (fun _ => ?_)
      exact K_skip ⟨rfl, rfl⟩
    · refine K_reg (Wops_run rfl rfl (Wops_run rfl rfl (Wops_as (w := .bool true) rfl rfl (by rw [decide_eq_true (by omega)]) (Wops_run rfl rfl (Wops_go rfl (Wops_run rfl rfl (Wops_go rfl (Wops_as (w := .bool false) rfl rfl (by rw [decide_eq_false (by omega)]) (Wops_run rfl rfl (K_fin [(0, _), (3, _), (4, _), (5, _), (6, _), (7, _), (8, _), (9, _), (54, _)] rfl (?_)))))))))))
      refine K_cond rfl (fun hc => by cases hc) (fun _ => ?_)
      exact K_skip ⟨rfl, rfl⟩
  rintro e _ ⟨rfl, rfl⟩
  refine K_ss (K_reg (Wops_run rfl rfl (Wops_run rfl rfl (K_fin [(0, _), (3, _), (4, _), (5, _), (6, _), (7, _), (9, _), (58, _)] rfl (?_)))))
  refine K_scond rfl (fun hc => by cases hc) (fun _ => ?_)
  refine K_sskip ?_
  refine K_join (fun e h' => ∃ (ka ia : Option Addr) (kc ic : Nat), (e = [(0, .slice ad nd cd), (3, ptr p), (4, .slice ka es1.length kc), (5, .slice ia es1.length ic), (6, .int .i64 i), (7, .int .u64 ((i + 1 : Nat) : Int))] ∨ e = [(0, .slice ad nd cd), (3, ptr p), (4, .slice ka es1.length kc), (5, .slice ia es1.length ic), (6, .int .i64 i), (7, .int .u64 ((i + 1 : Nat) : Int)), (9, .int .i64 (ixG E.dn es)), (61, .bool false)]) ∧ TO h0 h' p (es1 ++ [x]) es1 S3 ka kc ia ic) ?_ ?_
  · rcases hl4 with ⟨hl4, rfl⟩ | ⟨hl4, g, hg, hgl, rfl⟩
    · refine K_reg (Wops_run rfl rfl (Wops_run rfl rfl (Wops_as (w := .bool false) rfl rfl (by rw [decide_eq_false (by omega)]) (K_fin [(0, _), (3, _), (4, _), (5, _), (6, _), (7, _), (9, _), (61, _)] rfl (?_)))))
      refine K_cond rfl (fun hc => by cases hc) (fun _ => ?_)
      exact K_skip ⟨ka, ia, kc, ic, .inr rfl, T3⟩
    · rw [hg]
      refine K_reg (Wops_run rfl rfl (Wops_run rfl rfl (Wops_as (w := .bool true) rfl rfl (by rw [decide_eq_true (by omega)]) (K_fin [(0, _), (3, _), (4, _), (5, _), (6, _), (7, _), (9, _), (61, _)] rfl (?_)))))
      refine K_cond rfl (fun _ => ?_) (fun hc => by cases hc)
      refine K_reg (Wops_run rfl rfl (K_fin [(0, _), (3, _), (4, _), (5, _), (6, _), (7, _), (9, _), (11, _)] rfl (?_)))
      refine K_reg (Wops_run rfl rfl (K_fin [(0, _), (3, _), (4, _), (5, _), (6, _), (7, _), (9, _), (11, _), (12, _)] rfl (?_)))
      refine K_ss (K_reg (Wops_run rfl rfl (K_fin [(0, _), (3, _), (4, _), (5, _), (6, _), (7, _), (9, _), (11, _), (12, _), (13, _)] rfl (?_))))
      refine K_sblock ?_
      refine K_loop (fun k e h' => ∃ (j : Nat) (a b : Option Addr) (ac bc m : Nat), e = [(0, .slice ad nd cd), (3, ptr p), (4, .slice ka es.length kc), (5, .slice ia es.length ic), (6, .int .i64 i), (7, .int .u64 ((i + 1 : Nat) : Int)), (9, .int .i64 g), (11, .slice a m ac), (12, .slice b m bc), (13, .int .i64 j)] ∧ j ≤ es.length ∧ k = es.length - j ∧ Ext0 h3 h' ∧
          m ≤ j ∧ OwS h' 1 a m ac (us (((es.take j).eraseIdx g).map E.tk)) ∧ OwS h' 1 b m bc (bs (((es.take j).eraseIdx g).map E.dn)) ∧ (∀ m, Blk a m → h3.next ≤ m) ∧ (∀ m, Blk b m → h3.next ≤ m) ∧ ∀ m, Blk a m → ¬ Blk b m) ?_ (k := es.length)
        ⟨0, none, none, 0, 0, 0, rfl, by omega, rfl, Ext.refl _ _, by omega, OwS.none, OwS.none, fun m r => absurd r Blk.none, fun m r => absurd r Blk.none, fun m r => absurd r Blk.none⟩
      rintro k' e h' ⟨j, a, b, ac, bc, m, rfl, hj, rfl, x', hm, oa, ob, na, nb, nab⟩
      refine K_ss (K_reg (Wops_run rfl rfl (Wops_run rfl rfl (Wops_run rfl rfl ?_))))
      by_cases hjl : j < es.length
      · have hst := rem_step (g := g) hjl
        refine Wops_as (w := .bool true) rfl rfl (by rw [decide_eq_true (by omega)]) (K_fin [(0, _), (3, _), (4, _), (5, _), (6, _), (7, _), (9, _), (11, _), (12, _), (13, _), (65, _)] rfl (?_))
        refine K_scond rfl (fun _ => ?_) (fun hc => by cases hc)
        refine K_sskip (K_sblock ?_)
        by_cases hjg : j = g
        · refine K_reg (Wops_run rfl rfl (Wops_run rfl rfl (Wops_neq (v := false) rfl rfl (by simp [hjg]) (K_fin [(0, _), (3, _), (4, _), (5, _), (6, _), (7, _), (9, _), (11, _), (12, _), (13, _), (70, _)] rfl (?_)))))
          refine K_cond rfl (fun hc => by cases hc) (fun _ => ?_)
          refine K_skip ?_
          refine K_last (Wops_run rfl rfl (Wops_run rfl rfl (Wops_run rfl rfl (K_finL [(0, _), (3, _), (4, _), (5, _), (6, _), (7, _), (9, _), (11, _), (12, _), (13, _)] rfl (?_)))))
          refine ⟨es.length - (j + 1), by omega, j + 1, a, b, ac, bc, m, by rw [w64s (by omega)], by omega, rfl, x', by omega, ?_, ?_, na, nb, nab⟩
          · rw [hst, if_pos hjg, List.append_nil]; exact oa
          · rw [hst, if_pos hjg, List.append_nil]; exact ob
        · refine K_reg (Wops_run rfl rfl (Wops_run rfl rfl (Wops_neq (v := true) rfl rfl (by simp; omega) (K_fin [(0, _), (3, _), (4, _), (5, _), (6, _), (7, _), (9, _), (11, _), (12, _), (13, _), (70, _)] rfl (?_)))))
          refine K_cond rfl (fun _ => ?_) (fun hc => by cases hc)
          have kk := k3.ext x'
          have ii := i3.ext x'
          refine K_last (Wops_run rfl rfl (Wops_run rfl rfl (Wops_run rfl rfl (Wops_idx (u := .int .u64 es[j].tk) rfl rfl kk.sl ⟨by omega, by omega⟩ (by simp [us, hjl]) fun _ => ?_))))
          refine Wops_bslice (l := us [es[j].tk]) rfl rfl fun h5 n5 x5 g5 => ?_
          refine Wops_run rfl rfl (Wops_run rfl rfl (Wops_run rfl rfl (Wops_iaS rfl rfl (ii.ext x5).sl ⟨by omega, by omega⟩ fun iid off vs ez ro hia v1 v2 v3 => ?_)))
          have hvj : vs[off + (j : Int).toNat * 1]? = some (.bool es[j].dn) := by rw [Int.toNat_natCast, Nat.mul_one, v3 j (by omega)]; simp [bs, hjl]
          refine Wops_ld rfl v1 hvj ?_
          refine Wops_bslice (l := bs [es[j].dn]) rfl rfl fun h6 n6 x6 g6 => ?_
          refine Wops_app rfl rfl ((oa.ext x5).ext x6) rfl (OwS.new (n := 1) (c := 1) (x6.some0 g5) rfl).sl.first ⟨by omega, by omega⟩ rfl rfl (by decide) fun h7 a7 c7 x7 o7 b7 => ?_
          have y5 := x5.next
          have y6 := x6.next
          have y7 := x7.next
          have y' := x'.next
          have iil : iid < h3.next := i3.lt (Blk.at.2 rfl |> fun q => by rw [hia]; exact q)
          refine Wops_chk rfl rfl ((v1.ext x6).ext x7 (fun r => by have := na _ r; omega)) hvj (by simp [sameV, sameCell]) ?_
          refine Wops_app rfl rfl (((ob.ext x5).ext x6).ext x7 (fun m r q => nab m q r)) rfl (OwS.new (n := 1) (c := 1) (x7.some g6 (fun r => by have := oa.lt r; omega)) rfl).sl.first ⟨by omega, by omega⟩ rfl rfl (by decide) fun h8 a8 c8 x8 o8 b8 => ?_
          have y8 := x8.next
          refine Wops_run rfl rfl (Wops_run rfl rfl (K_finL [(0, _), (3, _), (4, _), (5, _), (6, _), (7, _), (9, _), (11, _), (12, _), (13, _)] rfl (?_)))
          refine K_last (Wops_run rfl rfl (Wops_run rfl rfl (Wops_run rfl rfl (K_finL [(0, _), (3, _), (4, _), (5, _), (6, _), (7, _), (9, _), (11, _), (12, _), (13, _)] rfl (?_)))))
          have x38 : Ext0 h3 h8 := (((x'.trans x5).trans x6).then x7 fun m r => .inr (na m r)).then x8 fun m r => .inr (nb m r)
          refine ⟨es.length - (j + 1), by omega, j + 1, a7, a8, c7, c8, m + 1, by rw [w64s (by omega)], by omega, rfl, x38, by omega, ?_, ?_, fun m r => (b7 m r).elim (na m) fun r => by omega, fun m r => (b8 m r).elim (nb m) fun r => by omega, fun m r q => ?_⟩
          · rw [hst, if_neg hjg, List.map_append, us, List.map_append]
            refine o7.ext x8 (fun m r q => ?_)
            rcases b7 m r with r | r
            · exact nab m r q
            · have := ob.lt q; omega
          · rw [hst, if_neg hjg, List.map_append, bs, List.map_append]; exact o8
          · have h7 := o7.lt r
            rcases b7 m r with r | r <;> rcases b8 m q with q | q
            · exact nab m r q
            · have := oa.lt r; omega
            · have := ob.lt q; omega
            · omega
      · refine Wops_as (w := .bool false) rfl rfl (by rw [decide_eq_false (by omega)]) (K_fin [(0, _), (3, _), (4, _), (5, _), (6, _), (7, _), (9, _), (11, _), (12, _), (13, _), (65, _)] rfl (?_))
        refine K_scond rfl (fun hc => by cases hc) (fun _ => ?_)
        refine K_sexit (bx_same ?_)
        have htk : es.take j = es := List.take_of_length_le (by omega)
        rw [htk] at oa ob
        have hml : m = (es.eraseIdx g).length := by have := oa.len; simp [us] at this; omega
        subst hml
        refine K_last (Wops_run rfl rfl (Wops_run rfl rfl (Wops_run rfl rfl (Wops_run rfl rfl (K_finL [(0, _), (3, _), (4, _), (5, _), (6, _), (7, _)] rfl (?_))))))
        refine ⟨a, b, ac, bc, .inl rfl, ⟨x03.trans x', q3.ext0 x', sn3, oa, ob, fun m r => ⟨by have := na m r; have := x03.next; omega, fun q => by have := q3.lt q; have := na m r; omega⟩, fun m r => ⟨by have := nb m r; have := x03.next; omega, fun q => by have := q3.lt q; have := nb m r; omega⟩, nab⟩⟩
  rintro e h5 ⟨ka5, ia5, kc5, ic5, he, T5⟩
  have sd5 := sd.ext0 T5.x
  rcases he with rfl | rfl
  all_goals
    refine K_reg (Wops_run rfl rfl (Wops_run rfl rfl (Wops_bslice (l := us [((i + 1 : Nat) : Int)]) rfl rfl fun h6 n6 x6 g6 => ?_)))
    refine Wops_run rfl rfl (Wops_run rfl rfl (Wops_run rfl rfl (Wops_iaS rfl rfl (sd5.ext0 x6).sl ⟨by omega, by omega⟩ fun did off vs ez ro hda v1 v2 v3 => ?_)))
    have hvj : vs[off + (i : Int).toNat * 1]? = some (.bool (ds[i]'(by omega))) := by rw [Int.toNat_natCast, Nat.mul_one, v3 i (by omega)]; simp [bs, hds, hlt]
    have did0 : did < h0.next := sd.lt did (by rw [hda]; exact Blk.at.2 rfl)
    refine Wops_ld rfl v1 hvj ?_
    refine Wops_bslice (l := bs [ds[i]'(by omega)]) rfl rfl fun h7 n7 x7 g7 => ?_
    have T7 := (T5.ext0 x6).ext0 x7
    refine Wops_app rfl rfl T7.k rfl (OwS.new (n := 1) (c := 1) (x7.some0 g6) rfl).sl.first ⟨by omega, by omega⟩ rfl rfl (by decide) fun h8 a8 c8 x8 o8 b8 => ?_
    have y5 := T5.x.next
    have y6 := x6.next
    have y7 := x7.next
    have y8 := x8.next
    refine Wops_chk rfl rfl ((v1.ext x7).ext x8 (fun r => by have := (T7.kn _ r).1; omega)) hvj (by simp [sameV, sameCell]) ?_
    refine Wops_app rfl rfl (T7.i.ext x8 (fun m r q => T7.ki m q r)) rfl (OwS.new (n := 1) (c := 1) (x8.some g7 (fun r => by have := T5.k.lt r; omega)) rfl).sl.first ⟨by omega, by omega⟩ rfl rfl (by decide) fun h9 a9 c9 x9 o9 b9 => ?_
    have y9 := x9.next
    refine Wops_run rfl rfl (Wops_run rfl rfl (K_fin [(0, _), (3, _), (4, _), (5, _), (6, _), (7, _)] rfl (?_)))
    have x79 : Ext (fun m => h0.next ≤ m ∧ ¬ S3 m) h7 h9 := (x8.mono fun m _ r => T7.kn m r).then x9 fun m r => .inl (T7.im m r)
    have x09 : Ext0 h0 h9 := T7.x.then x79 fun m r => .inr r.1
    have c9' : Kc h9 p (es1 ++ [x]) S3 := T7.c.ext x79 fun m r q => q.2 r
    have S3lt : ∀ m, S3 m → m < h5.next := fun m r => T5.c.lt r
    have kn9 : ∀ m, Blk a8 m → h0.next ≤ m ∧ ¬ S3 m := fun m r => (b8 m r).elim (T7.kn m) fun r => ⟨by omega, fun q => by have := S3lt m q; omega⟩
    have im9 : ∀ m, Blk a9 m → h0.next ≤ m ∧ ¬ S3 m := fun m r => (b9 m r).elim (T7.im m) fun r => ⟨by omega, fun q => by have := S3lt m q; omega⟩
    have ki9 : ∀ m, Blk a8 m → ¬ Blk a9 m := fun m r q => by
      have h8' := o8.lt r
      rcases b8 m r with r | r <;> rcases b9 m q with q | q
      · exact T7.ki m r q
      · have := T7.k.lt r; omega
      · have := T7.i.lt q; omega
      · omega
    have ok9 : OwS h9 1 a8 (es1.length + 1) c8 (us (es1.map E.tk ++ [((i + 1 : Nat) : Int)])) := by
      rw [us, List.map_append]
      exact o8.ext x9 fun m r q => (b8 m r).elim (fun r => T7.ki m r q) fun r => by have := T7.i.lt q; omega
    have oi9 : OwS h9 1 a9 (es1.length + 1) c9 (bs (es1.map E.dn ++ [ds[i]'(by omega)])) := by
      rw [bs, List.map_append]; exact o9
    refine K_join (fun e h' => e = [(0, .slice ad nd cd), (3, ptr p), (4, .slice a8 (es1.length + 1) c8), (5, .slice a9 (es1.length + 1) c9), (6, .int .i64 i), (108, .bool false)] ∧ ∃ y : E, y.tk = ((i + 1 : Nat) : Int) ∧ y.dn = ds[i]'(by omega) ∧ y.tm = 1 ∧ Kc h' p (es1 ++ [y]) S3 ∧ Ext S3 h9 h') ?_ ?_
    · refine K_reg (Wops_run rfl rfl (Wops_run rfl rfl (Wops_idx (u := .bool (ds[i]'(by omega))) rfl rfl (sd.ext0 x09).sl ⟨by omega, by omega⟩ (by simp [bs, hds, hlt]) fun _ => ?_)))
      cases hdi : ds[i]'(by omega) with
      | false =>
        refine Wops_run rfl rfl (Wops_skip rfl (Wops_skip rfl (Wops_skip rfl (Wops_skip rfl (Wops_skip rfl (Wops_run rfl rfl (K_fin [(0, _), (3, _), (4, _), (5, _), (6, _), (108, _)] rfl (?_))))))))
        refine K_cond rfl (fun hc => by cases hc) (fun _ => ?_)
        exact K_skip ⟨rfl, x, hxt, hxd, hxm, c9', Ext.refl _ _⟩
      | true =>
        refine Wops_run rfl rfl (Wops_go rfl (Wops_run rfl rfl (Wops_go rfl (Wops_run rfl rfl (Wops_go rfl (Wops_run rfl rfl (Wops_go rfl ?_)))))))
        refine Wops_call rfl (C40 (p0 := .int .u64 0) (p1 := .int .i64 0) (p2 := .int .u64 0) (a := none) (n := 0) (c := 0) (xs := []) c9' rfl SlA.none (by omega)) ?_
        rintro v h10 ⟨t10, hv⟩
        obtain ⟨y, rfl, hy1, hy2, hy3, q10⟩ : ∃ y : E, v = .int .i64 1 ∧ y.tk = ((i + 1 : Nat) : Int) ∧ y.dn = true ∧ y.tm = 1 ∧ Kc h10 p (es1 ++ [y]) S3 := by
          rcases hv with ⟨h0 | h0, _⟩ | ⟨_, m, hm, _, htk, hh⟩
          · omega
          · exact absurd hxt (h0 x (by simp))
          · have hml : m = es1.length := by
              apply Classical.byContradiction
              intro hne
              have hml : m < es1.length := by simp at hm; omega
              rw [List.getElem_append_left hml] at htk
              have := (hes1 _ (List.getElem_mem hml)).2.1
              omega
            subst hml
            have hge : (es1 ++ [x])[es1.length] = x := by simp
            rw [hge] at hh
            rcases hh with ⟨hd, _⟩ | ⟨_, rfl, a', c', hx, q, _⟩
            · rw [hxd] at hd; cases hd
            · refine ⟨_, by rw [hxm], ?_, ?_, ?_, by simpa using q⟩
              · exact hxt
              · rfl
              · exact hxm
        refine Wops_go rfl (Wops_run rfl rfl (Wops_run rfl rfl (K_fin [(0, _), (3, _), (4, _), (5, _), (6, _), (108, _)] rfl (?_))))
        refine K_cond rfl (fun hc => by cases hc) (fun _ => ?_)
        exact K_skip ⟨rfl, y, hy1, by rw [hy2], hy3, q10, t10.ext⟩
    · rintro e h10 ⟨rfl, y, hy1, hy2, hy3, q10, x10⟩
      have e1 : es1.map E.tk ++ [((i + 1 : Nat) : Int)] = (es1 ++ [y]).map E.tk := by simp [hy1]
      have e2 : es1.map E.dn ++ [ds[i]'(by omega)] = (es1 ++ [y]).map E.dn := by simp [hy2]
      have hl : (es1 ++ [y]).length = es1.length + 1 := by simp
      rw [e1] at ok9
      rw [e2] at oi9
      have ok10 := ok9.ext x10 (fun m r => (kn9 m r).2)
      have oi10 := oi9.ext x10 (fun m r => (im9 m r).2)
      refine K_reg (Wops_run rfl rfl (Wops_call rfl (C42 q10) ?_))
      rintro _ h11 ⟨ao, no, co, rfl, so, hno2, x11⟩
      refine Wops_run rfl rfl (Wops_call rfl (C34 so (ok10.sl.ext x11) (by omega)) ?_)
      rintro _ _ ⟨rfl, rfl⟩
      rw [decide_eq_true rfl]
      refine Wops_run rfl rfl (K_fin [(0, _), (3, _), (4, _), (5, _), (6, _), (113, _)] rfl (?_))
      refine K_cond rfl (fun hc => by cases hc) (fun _ => ?_)
      refine K_skip ?_
      refine K_last (Wops_run rfl rfl (Wops_run rfl rfl (Wops_run rfl rfl (K_finL [(0, _), (3, _), (4, _), (5, _), (6, _)] rfl (?_)))))
      refine ⟨nd - (i + 1), by omega, i + 1, es1 ++ [y], S3, a8, a9, c8, c9, by rw [w64s (by omega), hl], by omega, rfl, ?_, fun z hz => ?_⟩
      · refine ⟨(x09.then x10 fun m r => .inr (sn3 m r)).trans x11, q10.ext0 x11, sn3, ?_, ?_, kn9, im9, ki9⟩
        · rw [hl]; exact ok10.ext x11
        · rw [hl]; exact oi10.ext x11
      · rcases List.mem_append.1 hz with hz | hz
        · have := hes1 z hz; omega
        · rw [List.mem_singleton] at hz; subst hz; omega

set_option maxRecDepth 100000 in
theorem tokenOldest_fn {L : List (List Value)} {vs : List Value} (hG : FlatG Try.prog 0 [74] vs L) : Fn Try.prog 12 vs (flatH L) fun v _ => v = .bool true := by
  obtain ⟨a, n, c, l, r, k2, L2, L3, rfl, s, hl, _, _, hF⟩ := flat_slice (P := Try.prog) (k := 0) (t := 74) (ts := []) (L0 := []) (L := L) (L' := L) Try.underlying74 rfl rfl hG
  obtain rfl := flat_nil hF
  obtain ⟨xs, rfl⟩ := scal_bools Try.underlying4 hl
  exact C12 s
end Go.Dx.SYtpbibdlmiomhbaa
