/- Instances: clones, comparisons, Copy, Same (without tables). -/
import Derived.Test.YtpogcjdenefhlaaMx
namespace Go.Dx.SYtpogcjdenefhlaa
open Go.Proofs
set_option linter.unusedVariables false
set_option linter.unusedSimpArgs false

abbrev nilS : Value := .slice none 0 0
abbrev bools (xs : List Bool) : List Value := xs.map Value.bool
theorem bools_cell (xs : List Bool) : (bools xs).all isCell = true := by simp [bools, isCell]
/-- slices.Clone of bytes -/
theorem C30 {h : Heap} {a : Option Addr} {n c : Nat} {l : List Value} (s : SlA h 1 a n c l) (hc : l.all isCell = true) (hb : n ≤ 1073741824) :
    Fn Try.prog 30 [.slice a n c] h fun v h' => ∃ a' c', v = .slice a' n c' ∧ OwS h' 1 a' n c' l ∧ Ext0 h h' ∧ ∀ i, Blk a' i → h.next ≤ i := by
  refine fnK F30.fok rfl ?_
  refine K_reg (Wops_run rfl rfl (K_fin [(0, _)] rfl (?_)))
  cases a with
  | none =>
    obtain ⟨rfl, rfl⟩ := s.nil rfl
    obtain rfl : l = [] := List.eq_nil_of_length_eq_zero (by simpa using s.len)
    refine K_ss (K_reg (Wops_run rfl rfl (Wops_run rfl rfl (K_fin [(0, _), (4, _)] rfl (?_)))))
    refine K_scond rfl (fun _ => ?_) (fun hc => by cases hc)
    refine K_ss (K_reg (Wops_run rfl rfl (K_fin [(2, _)] rfl (?_))))
    exact K_sret (Told.mk _ rfl ⟨none, 0, rfl, OwS.none, Ext.refl _ _, fun i r => absurd r Blk.none⟩)
  | some p =>
    refine K_ss (K_reg (Wops_run rfl rfl (Wops_run rfl rfl (K_fin [(0, _), (4, _)] rfl (?_)))))
    refine K_scond rfl (fun hc => by cases hc) (fun _ => ?_)
    refine K_sskip (K_reg (Wops_bslice (l := []) rfl rfl fun h1 n1 x1 g1 => ?_))
    refine Wops_run rfl rfl (Wops_app rfl rfl (OwS.new (n := 0) g1 rfl) rfl (s.ext x1).first ⟨by omega, by omega⟩ s.len hc (by decide) fun h2 a2 c2 x2 o2 b2 => ?_)
    refine Wops_run rfl rfl (K_fin [(2, _)] rfl (?_))
    rw [List.nil_append, Nat.zero_add] at o2
    rw [Nat.zero_add]
    refine K_ret (Told.mk _ rfl ⟨a2, c2, rfl, o2, x1.then x2 fun i r => .inr (by rw [Blk.at] at r; omega), fun i r => (b2 i r).elim (fun r => by rw [Blk.at] at r; omega) fun r => by omega⟩)
/-- slices.Clone of numbers -/
theorem C31 {h : Heap} {a : Option Addr} {n c : Nat} {l : List Value} (s : SlA h 1 a n c l) (hc : l.all isCell = true) (hb : n ≤ 1073741824) :
    Fn Try.prog 31 [.slice a n c] h fun v h' => ∃ a' c', v = .slice a' n c' ∧ OwS h' 1 a' n c' l ∧ Ext0 h h' ∧ ∀ i, Blk a' i → h.next ≤ i := by
  refine fnK F31.fok rfl ?_
  refine K_reg (Wops_run rfl rfl (K_fin [(0, _)] rfl (?_)))
  cases a with
  | none =>
    obtain ⟨rfl, rfl⟩ := s.nil rfl
    obtain rfl : l = [] := List.eq_nil_of_length_eq_zero (by simpa using s.len)
    refine K_ss (K_reg (Wops_run rfl rfl (Wops_run rfl rfl (K_fin [(0, _), (4, _)] rfl (?_)))))
    refine K_scond rfl (fun _ => ?_) (fun hc => by cases hc)
    refine K_ss (K_reg (Wops_run rfl rfl (K_fin [(2, _)] rfl (?_))))
    exact K_sret (Told.mk _ rfl ⟨none, 0, rfl, OwS.none, Ext.refl _ _, fun i r => absurd r Blk.none⟩)
  | some p =>
    refine K_ss (K_reg (Wops_run rfl rfl (Wops_run rfl rfl (K_fin [(0, _), (4, _)] rfl (?_)))))
    refine K_scond rfl (fun hc => by cases hc) (fun _ => ?_)
    refine K_sskip (K_reg (Wops_bslice (l := []) rfl rfl fun h1 n1 x1 g1 => ?_))
    refine Wops_run rfl rfl (Wops_app rfl rfl (OwS.new (n := 0) g1 rfl) rfl (s.ext x1).first ⟨by omega, by omega⟩ s.len hc (by decide) fun h2 a2 c2 x2 o2 b2 => ?_)
    refine Wops_run rfl rfl (K_fin [(2, _)] rfl (?_))
    rw [List.nil_append, Nat.zero_add] at o2
    rw [Nat.zero_add]
    refine K_ret (Told.mk _ rfl ⟨a2, c2, rfl, o2, x1.then x2 fun i r => .inr (by rw [Blk.at] at r; omega), fun i r => (b2 i r).elim (fun r => by rw [Blk.at] at r; omega) fun r => by omega⟩)
/-- slices.Clone of bools -/
theorem C32 {h : Heap} {a : Option Addr} {n c : Nat} {l : List Value} (s : SlA h 1 a n c l) (hc : l.all isCell = true) (hb : n ≤ 1073741824) :
    Fn Try.prog 32 [.slice a n c] h fun v h' => ∃ a' c', v = .slice a' n c' ∧ OwS h' 1 a' n c' l ∧ Ext0 h h' ∧ ∀ i, Blk a' i → h.next ≤ i := by
  refine fnK F32.fok rfl ?_
  refine K_reg (Wops_run rfl rfl (K_fin [(0, _)] rfl (?_)))
  cases a with
  | none =>
    obtain ⟨rfl, rfl⟩ := s.nil rfl
    obtain rfl : l = [] := List.eq_nil_of_length_eq_zero (by simpa using s.len)
    refine K_ss (K_reg (Wops_run rfl rfl (Wops_run rfl rfl (K_fin [(0, _), (4, _)] rfl (?_)))))
    refine K_scond rfl (fun _ => ?_) (fun hc => by cases hc)
    refine K_ss (K_reg (Wops_run rfl rfl (K_fin [(2, _)] rfl (?_))))
    exact K_sret (Told.mk _ rfl ⟨none, 0, rfl, OwS.none, Ext.refl _ _, fun i r => absurd r Blk.none⟩)
  | some p =>
    refine K_ss (K_reg (Wops_run rfl rfl (Wops_run rfl rfl (K_fin [(0, _), (4, _)] rfl (?_)))))
    refine K_scond rfl (fun hc => by cases hc) (fun _ => ?_)
    refine K_sskip (K_reg (Wops_bslice (l := []) rfl rfl fun h1 n1 x1 g1 => ?_))
    refine Wops_run rfl rfl (Wops_app rfl rfl (OwS.new (n := 0) g1 rfl) rfl (s.ext x1).first ⟨by omega, by omega⟩ s.len hc (by decide) fun h2 a2 c2 x2 o2 b2 => ?_)
    refine Wops_run rfl rfl (K_fin [(2, _)] rfl (?_))
    rw [List.nil_append, Nat.zero_add] at o2
    rw [Nat.zero_add]
    refine K_ret (Told.mk _ rfl ⟨a2, c2, rfl, o2, x1.then x2 fun i r => .inr (by rw [Blk.at] at r; omega), fun i r => (b2 i r).elim (fun r => by rw [Blk.at] at r; omega) fun r => by omega⟩)
/-- slices.Equal of bytes -/
theorem C34 {h : Heap} {a b : Option Addr} {n m c d : Nat} {xs ys : List Int} (s : SlA h 1 a n c (ints .u8 xs)) (s2 : SlA h 1 b m d (ints .u8 ys)) (hb : n ≤ 1073741824) (hb2 : m ≤ 1073741824) :
    Fn Try.prog 34 [.slice a n c, .slice b m d] h fun v h' => v = .bool (decide (xs = ys)) ∧ h = h' := by
  have hn : xs.length = n := by simpa using s.len
  have hm : ys.length = m := by simpa using s2.len
  refine fnK F34.fok rfl ?_
  refine K_reg (Wops_run rfl rfl (K_fin [(0, _), (1, _)] rfl (?_)))
  refine K_ss (K_reg (Wops_run rfl rfl (Wops_run rfl rfl (Wops_run rfl rfl (Wops_run rfl rfl ?_)))))
  by_cases hnm : n = m
  case neg =>
    refine Wops_neq (v := true) rfl rfl (by simp; omega) (K_fin [(0, _), (1, _), (10, _)] rfl (?_))
    refine K_scond rfl (fun _ => ?_) (fun hc => by cases hc)
    refine K_ss (K_reg (Wops_run rfl rfl (K_fin [(4, _)] rfl (?_))))
    exact K_sret (Told.mk _ rfl ⟨by rw [decide_eq_false fun q => hnm (by rw [← hn, ← hm, q])]; rfl, rfl⟩)
  subst hnm
  refine Wops_neq (v := false) rfl rfl (by simp) (K_fin [(0, _), (1, _), (10, _)] rfl (?_))
  refine K_scond rfl (fun hc => by cases hc) (fun _ => ?_)
  refine K_sskip (K_ss (K_reg (Wops_run rfl rfl (Wops_run rfl rfl (Wops_run rfl rfl (K_fin [(0, _), (1, _), (12, _), (13, _)] rfl (?_)))))))
  refine K_sblock ?_
  refine K_loop (fun k e h' => ∃ i : Nat, e = [(0, .slice a n c), (1, .slice b n d), (12, .int .i64 (n : Int)), (13, .int .i64 (i : Int))] ∧ i ≤ n ∧ k = n - i ∧ h = h' ∧ xs.take i = ys.take i) ?_ (k := n) ⟨0, rfl, Nat.zero_le _, rfl, rfl, rfl⟩
  rintro k e h' ⟨i, rfl, hi, rfl, rfl, hp⟩
  refine K_reg (Wops_run rfl rfl (K_fin [(0, _), (1, _), (12, _), (13, _), (14, _)] rfl (?_)))
  refine K_scond rfl (fun hc => ?_) (fun hc => ?_)
  · have hil : i < n := by have := of_decide_eq_true hc; omega
    have hix : i < xs.length := by omega
    have hiy : i < ys.length := by omega
    refine K_sskip (K_sblock ?_)
    refine K_reg (Wops_run rfl rfl (Wops_run rfl rfl (K_fin [(0, _), (1, _), (5, _), (12, _), (13, _)] rfl (?_))))
    refine K_reg (Wops_run rfl rfl (Wops_run rfl rfl (Wops_idx (u := .int .u8 xs[i]) rfl rfl s ⟨by omega, by omega⟩ (by simp [hix]) fun _ => ?_)))
    refine Wops_run rfl rfl (Wops_run rfl rfl (Wops_idx (u := .int .u8 ys[i]) rfl rfl s2 ⟨by omega, by omega⟩ (by simp [hiy]) fun _ => ?_))
    by_cases hxy : xs[i] = ys[i]
    · refine Wops_as (w := .bool false) rfl rfl (by simp [hxy]) (K_fin [(0, _), (1, _), (12, _), (13, _), (24, _)] rfl (?_))
      refine K_cond rfl (fun hc => by cases hc) (fun _ => K_skip ?_)
      refine K_last (Wops_run rfl rfl (Wops_run rfl rfl (K_finL [(0, _), (1, _), (12, _), (13, _)] rfl (?_))))
      exact ⟨n - (i + 1), by omega, i + 1, by rw [w64s (by omega)], by omega, rfl, rfl, by rw [List.take_add_one, List.take_add_one, hp, List.getElem?_eq_getElem hix, List.getElem?_eq_getElem hiy, hxy]⟩
    · refine Wops_as (w := .bool true) rfl rfl (by simp [hxy]) (K_fin [(0, _), (1, _), (12, _), (13, _), (24, _)] rfl (?_))
      refine K_cond rfl (fun _ => ?_) (fun hc => by cases hc)
      refine K_reg (Wops_run rfl rfl (K_fin [(4, _)] rfl (?_)))
      exact K_ret (Told.mk _ rfl ⟨by rw [decide_eq_false fun q => hxy (by simp only [q])]; rfl, rfl⟩)
  · have hin : i = n := by have := of_decide_eq_false hc; omega
    refine K_sexit (bx_same ?_)
    refine K_reg (Wops_run rfl rfl (K_fin [(4, _)] rfl (?_)))
    rw [List.take_of_length_le (by omega), List.take_of_length_le (by omega)] at hp
    exact K_ret (Told.mk _ rfl ⟨by rw [decide_eq_true hp]; rfl, rfl⟩)
/-- slices.Equal of numbers -/
theorem C36 {h : Heap} {a b : Option Addr} {n m c d : Nat} {xs ys : List Int} (s : SlA h 1 a n c (ints .u64 xs)) (s2 : SlA h 1 b m d (ints .u64 ys)) (hb : n ≤ 1073741824) (hb2 : m ≤ 1073741824) :
    Fn Try.prog 36 [.slice a n c, .slice b m d] h fun v h' => v = .bool (decide (xs = ys)) ∧ h = h' := by
  have hn : xs.length = n := by simpa using s.len
  have hm : ys.length = m := by simpa using s2.len
  refine fnK F36.fok rfl ?_
  refine K_reg (Wops_run rfl rfl (K_fin [(0, _), (1, _)] rfl (?_)))
  refine K_ss (K_reg (Wops_run rfl rfl (Wops_run rfl rfl (Wops_run rfl rfl (Wops_run rfl rfl ?_)))))
  by_cases hnm : n = m
  case neg =>
    refine Wops_neq (v := true) rfl rfl (by simp; omega) (K_fin [(0, _), (1, _), (10, _)] rfl (?_))
    refine K_scond rfl (fun _ => ?_) (fun hc => by cases hc)
    refine K_ss (K_reg (Wops_run rfl rfl (K_fin [(4, _)] rfl (?_))))
    exact K_sret (Told.mk _ rfl ⟨by rw [decide_eq_false fun q => hnm (by rw [← hn, ← hm, q])]; rfl, rfl⟩)
  subst hnm
  refine Wops_neq (v := false) rfl rfl (by simp) (K_fin [(0, _), (1, _), (10, _)] rfl (?_))
  refine K_scond rfl (fun hc => by cases hc) (fun _ => ?_)
  refine K_sskip (K_ss (K_reg (Wops_run rfl rfl (Wops_run rfl rfl (Wops_run rfl rfl (K_fin [(0, _), (1, _), (12, _), (13, _)] rfl (?_)))))))
  refine K_sblock ?_
  refine K_loop (fun k e h' => ∃ i : Nat, e = [(0, .slice a n c), (1, .slice b n d), (12, .int .i64 (n : Int)), (13, .int .i64 (i : Int))] ∧ i ≤ n ∧ k = n - i ∧ h = h' ∧ xs.take i = ys.take i) ?_ (k := n) ⟨0, rfl, Nat.zero_le _, rfl, rfl, rfl⟩
  rintro k e h' ⟨i, rfl, hi, rfl, rfl, hp⟩
  refine K_reg (Wops_run rfl rfl (K_fin [(0, _), (1, _), (12, _), (13, _), (14, _)] rfl (?_)))
  refine K_scond rfl (fun hc => ?_) (fun hc => ?_)
  · have hil : i < n := by have := of_decide_eq_true hc; omega
    have hix : i < xs.length := by omega
    have hiy : i < ys.length := by omega
    refine K_sskip (K_sblock ?_)
    refine K_reg (Wops_run rfl rfl (Wops_run rfl rfl (K_fin [(0, _), (1, _), (5, _), (12, _), (13, _)] rfl (?_))))
    refine K_reg (Wops_run rfl rfl (Wops_run rfl rfl (Wops_idx (u := .int .u64 xs[i]) rfl rfl s ⟨by omega, by omega⟩ (by simp [hix]) fun _ => ?_)))
    refine Wops_run rfl rfl (Wops_run rfl rfl (Wops_idx (u := .int .u64 ys[i]) rfl rfl s2 ⟨by omega, by omega⟩ (by simp [hiy]) fun _ => ?_))
    by_cases hxy : xs[i] = ys[i]
    · refine Wops_as (w := .bool false) rfl rfl (by simp [hxy]) (K_fin [(0, _), (1, _), (12, _), (13, _), (24, _)] rfl (?_))
      refine K_cond rfl (fun hc => by cases hc) (fun _ => K_skip ?_)
      refine K_last (Wops_run rfl rfl (Wops_run rfl rfl (K_finL [(0, _), (1, _), (12, _), (13, _)] rfl (?_))))
      exact ⟨n - (i + 1), by omega, i + 1, by rw [w64s (by omega)], by omega, rfl, rfl, by rw [List.take_add_one, List.take_add_one, hp, List.getElem?_eq_getElem hix, List.getElem?_eq_getElem hiy, hxy]⟩
    · refine Wops_as (w := .bool true) rfl rfl (by simp [hxy]) (K_fin [(0, _), (1, _), (12, _), (13, _), (24, _)] rfl (?_))
      refine K_cond rfl (fun _ => ?_) (fun hc => by cases hc)
      refine K_reg (Wops_run rfl rfl (K_fin [(4, _)] rfl (?_)))
      exact K_ret (Told.mk _ rfl ⟨by rw [decide_eq_false fun q => hxy (by simp only [q])]; rfl, rfl⟩)
  · have hin : i = n := by have := of_decide_eq_false hc; omega
    refine K_sexit (bx_same ?_)
    refine K_reg (Wops_run rfl rfl (K_fin [(4, _)] rfl (?_)))
    rw [List.take_of_length_le (by omega), List.take_of_length_le (by omega)] at hp
    exact K_ret (Told.mk _ rfl ⟨by rw [decide_eq_true hp]; rfl, rfl⟩)
/-- slices.Equal of bools -/
theorem C37 {h : Heap} {a b : Option Addr} {n m c d : Nat} {xs ys : List Bool} (s : SlA h 1 a n c (bools xs)) (s2 : SlA h 1 b m d (bools ys)) (hb : n ≤ 1073741824) (hb2 : m ≤ 1073741824) :
    Fn Try.prog 37 [.slice a n c, .slice b m d] h fun v h' => v = .bool (decide (xs = ys)) ∧ h = h' := by
  have hn : xs.length = n := by simpa using s.len
  have hm : ys.length = m := by simpa using s2.len
  refine fnK F37.fok rfl ?_
  refine K_reg (Wops_run rfl rfl (K_fin [(0, _), (1, _)] rfl (?_)))
  refine K_ss (K_reg (Wops_run rfl rfl (Wops_run rfl rfl (Wops_run rfl rfl (Wops_run rfl rfl ?_)))))
  by_cases hnm : n = m
  case neg =>
    refine Wops_neq (v := true) rfl rfl (by simp; omega) (K_fin [(0, _), (1, _), (10, _)] rfl (?_))
    refine K_scond rfl (fun _ => ?_) (fun hc => by cases hc)
    refine K_ss (K_reg (Wops_run rfl rfl (K_fin [(4, _)] rfl (?_))))
    exact K_sret (Told.mk _ rfl ⟨by rw [decide_eq_false fun q => hnm (by rw [← hn, ← hm, q])]; rfl, rfl⟩)
  subst hnm
  refine Wops_neq (v := false) rfl rfl (by simp) (K_fin [(0, _), (1, _), (10, _)] rfl (?_))
  refine K_scond rfl (fun hc => by cases hc) (fun _ => ?_)
  refine K_sskip (K_ss (K_reg (Wops_run rfl rfl (Wops_run rfl rfl (Wops_run rfl rfl (K_fin [(0, _), (1, _), (12, _), (13, _)] rfl (?_)))))))
  refine K_sblock ?_
  refine K_loop (fun k e h' => ∃ i : Nat, e = [(0, .slice a n c), (1, .slice b n d), (12, .int .i64 (n : Int)), (13, .int .i64 (i : Int))] ∧ i ≤ n ∧ k = n - i ∧ h = h' ∧ xs.take i = ys.take i) ?_ (k := n) ⟨0, rfl, Nat.zero_le _, rfl, rfl, rfl⟩
  rintro k e h' ⟨i, rfl, hi, rfl, rfl, hp⟩
  refine K_reg (Wops_run rfl rfl (K_fin [(0, _), (1, _), (12, _), (13, _), (14, _)] rfl (?_)))
  refine K_scond rfl (fun hc => ?_) (fun hc => ?_)
  · have hil : i < n := by have := of_decide_eq_true hc; omega
    have hix : i < xs.length := by omega
    have hiy : i < ys.length := by omega
    refine K_sskip (K_sblock ?_)
    refine K_reg (Wops_run rfl rfl (Wops_run rfl rfl (K_fin [(0, _), (1, _), (5, _), (12, _), (13, _)] rfl (?_))))
    refine K_reg (Wops_run rfl rfl (Wops_run rfl rfl (Wops_idx (u := .bool xs[i]) rfl rfl s ⟨by omega, by omega⟩ (by simp [hix]) fun _ => ?_)))
    refine Wops_run rfl rfl (Wops_run rfl rfl (Wops_idx (u := .bool ys[i]) rfl rfl s2 ⟨by omega, by omega⟩ (by simp [hiy]) fun _ => ?_))
    by_cases hxy : xs[i] = ys[i]
    · refine Wops_as (w := .bool false) rfl rfl (by simp [hxy]) (K_fin [(0, _), (1, _), (12, _), (13, _), (24, _)] rfl (?_))
      refine K_cond rfl (fun hc => by cases hc) (fun _ => K_skip ?_)
      refine K_last (Wops_run rfl rfl (Wops_run rfl rfl (K_finL [(0, _), (1, _), (12, _), (13, _)] rfl (?_))))
      exact ⟨n - (i + 1), by omega, i + 1, by rw [w64s (by omega)], by omega, rfl, rfl, by rw [List.take_add_one, List.take_add_one, hp, List.getElem?_eq_getElem hix, List.getElem?_eq_getElem hiy, hxy]⟩
    · refine Wops_as (w := .bool true) rfl rfl (by simp [hxy]) (K_fin [(0, _), (1, _), (12, _), (13, _), (24, _)] rfl (?_))
      refine K_cond rfl (fun _ => ?_) (fun hc => by cases hc)
      refine K_reg (Wops_run rfl rfl (K_fin [(4, _)] rfl (?_)))
      exact K_ret (Told.mk _ rfl ⟨by rw [decide_eq_false fun q => hxy (by simp only [q])]; rfl, rfl⟩)
  · have hin : i = n := by have := of_decide_eq_false hc; omega
    refine K_sexit (bx_same ?_)
    refine K_reg (Wops_run rfl rfl (K_fin [(4, _)] rfl (?_)))
    rw [List.take_of_length_le (by omega), List.take_of_length_le (by omega)] at hp
    exact K_ret (Told.mk _ rfl ⟨by rw [decide_eq_true hp]; rfl, rfl⟩)
theorem the_same {α : Type} [DecidableEq α] {f : Nat} {av : List Value} {h : Heap} {x : α} (hf : Fn Try.prog f av h fun v h' => v = .bool (decide (x = x)) ∧ h = h') : Fn Try.prog f av h fun v h' => v = .bool true ∧ h = h' :=
  hf.mono fun v h' ⟨q, r⟩ => ⟨by rw [q, decide_eq_true rfl], r⟩
/-- slices.EqualFunc of no tables -/
theorem C35nil {h : Heap} {f : Value} : Fn Try.prog 35 [nilS, nilS, f] h fun v h' => v = .bool true ∧ h = h' := by
  refine fnK F35.fok rfl ?_
  refine K_reg (Wops_run rfl rfl (K_fin [(0, _), (1, _), (2, _)] rfl (?_)))
  refine K_ss (K_reg (Wops_run rfl rfl (Wops_run rfl rfl (Wops_run rfl rfl (Wops_run rfl rfl (Wops_run rfl rfl (K_fin [(0, _), (1, _), (2, _), (14, _)] rfl (?_))))))))
  refine K_scond rfl (fun hc => by cases hc) (fun _ => ?_)
  refine K_sskip (K_ss (K_reg (Wops_run rfl rfl (Wops_run rfl rfl (Wops_run rfl rfl (K_fin [(1, _), (2, _), (15, _), (16, _), (17, _)] rfl (?_)))))))
  refine K_sblock ?_
  refine K_loop (fun k e h' => e = [(1, nilS), (2, f), (15, nilS), (16, .int .i64 0), (17, .int .i64 0)] ∧ h = h') ?_ (k := 0) ⟨rfl, rfl⟩
  rintro k e h' ⟨rfl, rfl⟩
  refine K_reg (Wops_run rfl rfl (K_fin [(1, _), (2, _), (15, _), (16, _), (17, _), (18, _)] rfl (?_)))
  refine K_scond rfl (fun hc => by cases hc) (fun _ => ?_)
  refine K_sexit (bx_same ?_)
  refine K_reg (Wops_run rfl rfl (K_fin [(6, _)] rfl (?_)))
  exact K_ret (Told.mk _ rfl ⟨rfl, rfl⟩)
/-- slices.Clone of no tables -/
theorem C33nil {h : Heap} : Fn Try.prog 33 [nilS] h fun v h' => v = nilS ∧ h = h' := by
  refine fnK F33.fok rfl ?_
  refine K_reg (Wops_run rfl rfl (K_fin [(0, _)] rfl (?_)))
  refine K_ss (K_reg (Wops_run rfl rfl (Wops_run rfl rfl (K_fin [(0, _), (4, _)] rfl (?_)))))
  refine K_scond rfl (fun _ => ?_) (fun hc => by cases hc)
  refine K_ss (K_reg (Wops_run rfl rfl (K_fin [(2, _)] rfl (?_))))
  exact K_sret (Told.mk _ rfl ⟨rfl, rfl⟩)

/-- An instance without tables: its memory, its globals, what was dropped. -/
structure In0 (h : Heap) (p : Nat) (mod : List Value) (bl : Value) (bs gs : List Int) (es ds : List Bool) : Prop where
  ex : ∃ (ma : Option Addr) (mc : Nat) (ga : Option Addr) (gc : Nat) (ea : Option Addr) (ec : Nat) (da : Option Addr) (dc : Nat) (tl : List Value), At h p (.cells (mod ++ (bl :: .slice ma bs.length mc :: nilS :: .slice ga gs.length gc :: .slice ea es.length ec :: .slice da ds.length dc :: tl)) 0 false) ∧
    SlA h 1 ma bs.length mc (ints .u8 bs) ∧ SlA h 1 ga gs.length gc (ints .u64 gs) ∧ SlA h 1 ea es.length ec (bools es) ∧ SlA h 1 da ds.length dc (bools ds)
  ml : mod.length = 13
  mc : mod.all isCell = true
  bc : isCell bl = true
  bb : bs.length ≤ 1073741824
  gb : gs.length ≤ 1000
  eb : es.length ≤ 1000
  db : ds.length ≤ 1000
theorem In0.ext0 {h h' : Heap} {p : Nat} {mod : List Value} {bl : Value} {bs gs : List Int} {es ds : List Bool} (q : In0 h p mod bl bs gs es ds) (x : Ext0 h h') : In0 h' p mod bl bs gs es ds := by
  obtain ⟨⟨ma, mc, ga, gc, ea, ec, da, dc, tl, g, s1, s2, s3, s4⟩, a, b, c, d, e, f, i⟩ := q
  exact ⟨⟨ma, mc, ga, gc, ea, ec, da, dc, tl, g.ext x, s1.ext x, s2.ext x, s3.ext x, s4.ext x⟩, a, b, c, d, e, f, i⟩
theorem thirteen {mod : List Value} (h : mod.length = 13) : ∃ a0 a1 a2 a3 a4 a5 a6 a7 a8 a9 a10 a11 a12, mod = [a0, a1, a2, a3, a4, a5, a6, a7, a8, a9, a10, a11, a12] := by
  match mod, h with
  | [a0, a1, a2, a3, a4, a5, a6, a7, a8, a9, a10, a11, a12], _ => exact ⟨a0, a1, a2, a3, a4, a5, a6, a7, a8, a9, a10, a11, a12, rfl⟩

set_option maxHeartbeats 2000000 in
/-- inst.Same, of the same -/
theorem C17 {h : Heap} {p q : Nat} {m1 m2 : List Value} {b1 b2 : Value} {bs gs : List Int} {es ds : List Bool} (i1 : In0 h p m1 b1 bs gs es ds) (i2 : In0 h q m2 b2 bs gs es ds) : Fn Try.prog 17 [ptr p, ptr q] h fun v h' => v = .bool true ∧ h = h' := by
  obtain ⟨⟨ma, mc, ga, gc, ea, ec, da, dc, tl, g, s1, s2, s3, s4⟩, ml, -, -, bb, gb, eb, db⟩ := i1
  obtain ⟨⟨ma', mc', ga', gc', ea', ec', da', dc', tl', g', s1', s2', s3', s4'⟩, ml', -⟩ := i2
  obtain ⟨a0, a1, a2, a3, a4, a5, a6, a7, a8, a9, a10, a11, a12, rfl⟩ := thirteen ml
  obtain ⟨c0, c1, c2, c3, c4, c5, c6, c7, c8, c9, c10, c11, c12, rfl⟩ := thirteen ml'
  refine fnK F17.fok rfl ?_
  refine K_reg (Wops_run rfl rfl (K_fin [(0, _), (1, _)] rfl (?_)))
  refine K_ss (K_reg (Wops_run rfl rfl (Wops_run rfl rfl (Wops_run rfl rfl (Wops_go rfl (Wops_run rfl rfl (Wops_go rfl (Wops_run rfl rfl (Wops_run rfl rfl (K_fin [(0, _), (1, _), (10, _)] rfl (?_)))))))))))
  refine K_scond rfl (fun hc => by cases hc) (fun _ => ?_)
  refine K_sskip (K_reg (Wops_run rfl rfl (Wops_run rfl rfl (Wops_run rfl rfl (Wops_ld (v := .slice ma bs.length mc) rfl g rfl (Wops_run rfl rfl (Wops_run rfl rfl (Wops_run rfl rfl (Wops_ld (v := .slice ma' bs.length mc') rfl g' rfl (Wops_call rfl (the_same (C34 s1 s1' bb bb)) ?_))))))))))
  rintro _ _ ⟨rfl, rfl⟩
  refine Wops_run rfl rfl ?_
  refine Wops_go rfl (Wops_run rfl rfl (Wops_go rfl (Wops_run rfl rfl (Wops_go rfl (Wops_run rfl rfl (Wops_go rfl (Wops_ld (v := nilS) rfl g rfl ?_)))))))
  refine Wops_go rfl (Wops_run rfl rfl (Wops_go rfl (Wops_run rfl rfl (Wops_go rfl (Wops_run rfl rfl (Wops_go rfl (Wops_ld (v := nilS) rfl g' rfl (Wops_go rfl (Wops_call rfl C35nil ?_)))))))))
  rintro _ _ ⟨rfl, rfl⟩
  refine Wops_run rfl rfl (Wops_run rfl rfl ?_)
  refine Wops_go rfl (Wops_run rfl rfl (Wops_go rfl (Wops_run rfl rfl (Wops_go rfl (Wops_run rfl rfl (Wops_go rfl (Wops_ld (v := .slice ga gs.length gc) rfl g rfl ?_)))))))
  refine Wops_go rfl (Wops_run rfl rfl (Wops_go rfl (Wops_run rfl rfl (Wops_go rfl (Wops_run rfl rfl (Wops_go rfl (Wops_ld (v := .slice ga' gs.length gc') rfl g' rfl (Wops_go rfl (Wops_call rfl (the_same (C36 s2 s2' (by omega) (by omega))) ?_)))))))))
  rintro _ _ ⟨rfl, rfl⟩
  refine Wops_run rfl rfl (Wops_run rfl rfl ?_)
  refine Wops_go rfl (Wops_run rfl rfl (Wops_go rfl (Wops_run rfl rfl (Wops_go rfl (Wops_run rfl rfl (Wops_go rfl (Wops_ld (v := .slice ea es.length ec) rfl g rfl ?_)))))))
  refine Wops_go rfl (Wops_run rfl rfl (Wops_go rfl (Wops_run rfl rfl (Wops_go rfl (Wops_run rfl rfl (Wops_go rfl (Wops_ld (v := .slice ea' es.length ec') rfl g' rfl (Wops_go rfl (Wops_call rfl (the_same (C37 s3 s3' (by omega) (by omega))) ?_)))))))))
  rintro _ _ ⟨rfl, rfl⟩
  refine Wops_run rfl rfl (Wops_run rfl rfl ?_)
  refine Wops_go rfl (Wops_run rfl rfl (Wops_go rfl (Wops_run rfl rfl (Wops_go rfl (Wops_run rfl rfl (Wops_go rfl (Wops_ld (v := .slice da ds.length dc) rfl g rfl ?_)))))))
  refine Wops_go rfl (Wops_run rfl rfl (Wops_go rfl (Wops_run rfl rfl (Wops_go rfl (Wops_run rfl rfl (Wops_go rfl (Wops_ld (v := .slice da' ds.length dc') rfl g' rfl (Wops_go rfl (Wops_call rfl (the_same (C37 s4 s4' (by omega) (by omega))) ?_)))))))))
  rintro _ _ ⟨rfl, rfl⟩
  refine Wops_run rfl rfl (Wops_run rfl rfl ?_)
  refine K_fin [(4, _)] rfl (?_)
  exact K_ret (Told.mk _ rfl ⟨rfl, rfl⟩)
theorem C17nil {h : Heap} {p : Nat} : Fn Try.prog 17 [ptr p, .pointer none] h fun v h' => v = .bool false ∧ h = h' := by
  refine fnK F17.fok rfl ?_
  refine K_reg (Wops_run rfl rfl (K_fin [(0, _), (1, _)] rfl (?_)))
  refine K_ss (K_reg (Wops_run rfl rfl (Wops_run rfl rfl (Wops_run rfl rfl (Wops_go rfl (Wops_run rfl rfl (Wops_go rfl (Wops_run rfl rfl (Wops_run rfl rfl (K_fin [(0, _), (1, _), (10, _)] rfl (?_)))))))))))
  refine K_scond rfl (fun _ => ?_) (fun hc => by cases hc)
  refine K_ss (K_reg (Wops_run rfl rfl (Wops_run rfl rfl (Wops_run rfl rfl (Wops_run rfl rfl (K_fin [(4, _)] rfl (?_)))))))
  exact K_sret (Told.mk _ rfl ⟨rfl, rfl⟩)

set_option maxHeartbeats 4000000 in
/-- inst.Copy, of one without tables -/
theorem C16 {h : Heap} {p : Nat} {mod : List Value} {bl : Value} {bs gs : List Int} {es ds : List Bool} (i : In0 h p mod bl bs gs es ds) : Fn Try.prog 16 [ptr p] h fun v h' => ∃ q, v = ptr q ∧ In0 h' q mod bl bs gs es ds ∧ Ext0 h h' := by
  have I0 := i
  obtain ⟨⟨ma, mc, ga, gc, ea, ec, da, dc, tl, g, s1, s2, s3, s4⟩, ml, mcl, blc, bb, gb, eb, db⟩ := i
  obtain ⟨a0, a1, a2, a3, a4, a5, a6, a7, a8, a9, a10, a11, a12, rfl⟩ := thirteen ml
  have gl := g.lt
  refine fnK F16.fok rfl ?_
  refine K_reg (Wops_run rfl rfl (K_fin [(0, _)] rfl (?_)))
  refine K_ss (K_reg (Wops_run rfl rfl (Wops_run rfl rfl (K_fin [(0, _), (6, _)] rfl (?_)))))
  refine K_scond rfl (fun hc => by cases hc) (fun _ => ?_)
  have hcell : ∀ (m t gg e d : Value), isCell m = true → isCell t = true → isCell gg = true → isCell e = true → isCell d = true → ([a0, a1, a2, a3, a4, a5, a6, a7, a8, a9, a10, a11, a12] ++ [bl, m, t, gg, e, d]).all isCell = true := by
    intro m t gg e d h1 h2 h3 h4 h5
    rw [List.all_append, mcl]
    simp [blc, h1, h2, h3, h4, h5]
  refine K_sskip (K_reg (Wops_run rfl rfl (Wops_run rfl rfl (Wops_ldA rfl g (by simp) rfl (Wops_new fun h1 n1 x1 g1 => ?_)))))
  refine Wops_st (l := [a0, a1, a2, a3, a4, a5, a6, a7, a8, a9, a10, a11, a12, bl, .slice ma bs.length mc, nilS, .slice ga gs.length gc, .slice ea es.length ec, .slice da ds.length dc]) rfl rfl rfl rfl g1 (by simp) (hcell _ _ _ _ _ rfl rfl rfl rfl rfl) fun h2 n2 x2 g2 => ?_
  refine K_fin [(0, _), (3, _)] rfl (?_)
  replace g2 : At h2 h.next (.cells [a0, a1, a2, a3, a4, a5, a6, a7, a8, a9, a10, a11, a12, bl, .slice ma bs.length mc, nilS, .slice ga gs.length gc, .slice ea es.length ec, .slice da ds.length dc] 0 false) := g2
  have x02 : Ext0 h h2 := x1.then x2 fun j r => .inr (by omega)
  have gi := g.ext x02
  refine K_reg (Wops_run rfl rfl (Wops_run rfl rfl (Wops_run rfl rfl (Wops_ld (v := .slice ma bs.length mc) rfl gi rfl (Wops_run rfl rfl (Wops_run rfl rfl (Wops_run rfl rfl (Wops_ld (v := .slice ga gs.length gc) rfl gi rfl ?_))))))))
  refine Wops_run rfl rfl (Wops_run rfl rfl (Wops_run rfl rfl (Wops_ld (v := .slice ea es.length ec) rfl gi rfl (Wops_run rfl rfl (Wops_run rfl rfl (Wops_run rfl rfl (Wops_ld (v := .slice da ds.length dc) rfl gi rfl ?_)))))))
  refine Wops_call rfl (C30 (s1.ext x02) (ints_cell _ _) bb) ?_
  rintro _ h3 ⟨a3', c3, rfl, o3, x3, b3⟩
  have gi3 := gi.ext x3
  refine Wops_chk rfl rfl gi3 (v := .slice ga gs.length gc) rfl s2.same (Wops_chk rfl rfl gi3 (v := .slice ea es.length ec) rfl s3.same (Wops_chk rfl rfl gi3 (v := .slice da ds.length dc) rfl s4.same ?_))
  refine Wops_call rfl (C31 ((s2.ext x02).ext x3) (ints_cell _ _) (by omega)) ?_
  rintro _ h4 ⟨a4', c4, rfl, o4, x4, b4⟩
  have gi4 := gi3.ext x4
  refine Wops_chk rfl rfl gi4 (v := .slice ea es.length ec) rfl s3.same (Wops_chk rfl rfl gi4 (v := .slice da ds.length dc) rfl s4.same ?_)
  refine Wops_call rfl (C32 (((s3.ext x02).ext x3).ext x4) (bools_cell _) (by omega)) ?_
  rintro _ h5 ⟨a5', c5, rfl, o5, x5, b5⟩
  have gi5 := gi4.ext x5
  refine Wops_chk rfl rfl gi5 (v := .slice da ds.length dc) rfl s4.same ?_
  refine Wops_call rfl (C32 ((((s4.ext x02).ext x3).ext x4).ext x5) (bools_cell _) (by omega)) ?_
  rintro _ h6 ⟨a6', c6, rfl, o6, x6, b6⟩
  have z1 := x1.next
  have z2 := x2.next
  have z3 := x3.next
  have z4 := x4.next
  have z5 := x5.next
  have z6 := x6.next
  have gn := (((g2.ext x3).ext x4).ext x5).ext x6
  refine Wops_run rfl rfl (Wops_st (l := [.slice a3' bs.length c3]) rfl rfl rfl rfl gn (by simp) rfl fun h7 n7 x7 g7 => ?_)
  refine Wops_run rfl rfl (Wops_st (l := [.slice a4' gs.length c4]) rfl rfl rfl rfl g7 (by simp [putL]) rfl fun h8 n8 x8 g8 => ?_)
  refine Wops_run rfl rfl (Wops_st (l := [.slice a5' es.length c5]) rfl rfl rfl rfl g8 (by simp [putL]) rfl fun h9 n9 x9 g9 => ?_)
  refine Wops_run rfl rfl (Wops_st (l := [.slice a6' ds.length c6]) rfl rfl rfl rfl g9 (by simp [putL]) rfl fun h10 n10 x10 g10 => ?_)
  refine K_fin [(0, _), (3, _)] rfl (?_)
  replace g10 : At h10 h.next (.cells [a0, a1, a2, a3, a4, a5, a6, a7, a8, a9, a10, a11, a12, bl, .slice a3' bs.length c3, nilS, .slice a4' gs.length c4, .slice a5' es.length c5, .slice a6' ds.length c6] 0 false) := g10
  have x610 := ((x7.trans x8).trans x9).trans x10
  have gi10 := (gi5.ext x6).ext x610 fun r => by omega
  refine K_reg (Wops_run rfl rfl (Wops_run rfl rfl (Wops_run rfl rfl (Wops_ld (v := nilS) rfl gi10 rfl (Wops_call rfl C33nil ?_)))))
  rintro _ _ ⟨rfl, rfl⟩
  refine Wops_run rfl rfl (Wops_st (l := [nilS]) rfl rfl rfl rfl g10 (by simp) rfl fun h11 n11 x11 g11 => ?_)
  replace g11 : At h11 h.next (.cells [a0, a1, a2, a3, a4, a5, a6, a7, a8, a9, a10, a11, a12, bl, .slice a3' bs.length c3, nilS, .slice a4' gs.length c4, .slice a5' es.length c5, .slice a6' ds.length c6] 0 false) := g11
  refine K_fin [(0, _), (3, _)] rfl (?_)
  refine K_ss (K_reg (Wops_run rfl rfl (Wops_ld (v := nilS) rfl g11 rfl (Wops_run rfl rfl (Wops_run rfl rfl (K_fin [(0, _), (3, _), (42, _), (43, _)] rfl (?_)))))))
  refine K_sblock ?_
  refine K_loop (fun k e h' => e = [(0, ptr p), (3, ptr h.next), (42, .int .i64 0), (43, .int .i64 0)] ∧ h11 = h') ?_ (k := 0) ⟨rfl, rfl⟩
  rintro k e h' ⟨rfl, rfl⟩
  refine K_reg (Wops_run rfl rfl (K_fin [(0, _), (3, _), (42, _), (43, _), (44, _)] rfl (?_)))
  refine K_scond rfl (fun hc => by cases hc) (fun _ => ?_)
  refine K_sexit (bx_same ?_)
  refine K_reg (Wops_run rfl rfl (K_fin [(2, _)] rfl (?_)))
  have x611 := x610.trans x11
  have nb : ∀ {a : Option Addr} {k : Nat}, (∀ j, Blk a j → k ≤ j) → h2.next ≤ k → ∀ j, Blk a j → ¬ j = h.next := fun hb hk j r e => by have := hb j r; omega
  refine K_ret (Told.mk _ rfl ⟨h.next, rfl, ⟨⟨a3', c3, a4', c4, a5', c5, a6', c6, [], g11, ?_, ?_, ?_, ?_⟩, ml, mcl, blc, bb, gb, eb, db⟩, ((((x02.trans x3).trans x4).trans x5).trans x6).then x611 fun j r => .inr (by omega)⟩)
  · exact ((((o3.ext x4).ext x5).ext x6).ext x611 (nb b3 (by omega))).sl
  · exact (((o4.ext x5).ext x6).ext x611 (nb b4 (by omega))).sl
  · exact ((o5.ext x6).ext x611 (nb b5 (by omega))).sl
  · exact (o6.ext x611 (nb b6 (by omega))).sl
end Go.Dx.SYtpogcjdenefhlaa
