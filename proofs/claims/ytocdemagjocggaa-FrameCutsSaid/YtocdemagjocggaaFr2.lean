/- Contracts of frame's functions: frames out of bytes. -/
import Derived.Test.YtocdemagjocggaaFr1
namespace Go.Dx.SYtocdemagjocggaa
open Go.Proofs
set_option linter.unusedVariables false
set_option linter.unusedSimpArgs false

abbrev ptr (p : Nat) : Value := .pointer (some ⟨p, 0, none⟩)
def Byte (xs : List Int) : Prop := ∀ x ∈ xs, 0 ≤ x ∧ x ≤ 255

inductive Nx where
  | short | long
  | whole (f rest : List Int)
def nextF : List Int → Nx
  | b0 :: b1 :: r => if b0 * 256 + b1 > 5000 then .long else if (r.length : Int) < b0 * 256 + b1 then .short else .whole (r.take (b0 * 256 + b1).toNat) (r.drop (b0 * 256 + b1).toNat)
  | _ => .short
def splitF : Nat → List Int → List (List Int) × List Int × Bool
  | 0, bs => ([], bs, false)
  | k + 1, bs => match nextF bs with
    | .short => ([], bs, false)
    | .long => ([], [], true)
    | .whole f rest => (f :: (splitF k rest).1, (splitF k rest).2)

/-- Pieces: those of M are all that may be turned. -/
def Pt (M : Nat → Prop) (h : Heap) (p : Nat) (bs : List Int) (bad : Bool) : Prop :=
  M p ∧ ∃ a n c, At h p (.cells [.slice a n c, .bool bad] 0 false) ∧ SlA h 1 a n c (ints .u8 bs) ∧ ∀ i, Blk a i → ¬ M i ∧ i < h.next
theorem Pt.ext {M T : Nat → Prop} {h h' : Heap} {p : Nat} {bs : List Int} {bad : Bool} (q : Pt M h p bs bad) (x : Ext T h h') (hp : ¬ T p) (hT : ∀ i, T i → M i) : Pt M h' p bs bad := by
  obtain ⟨m, a, n, c, h1, h2, h3⟩ := q
  exact ⟨m, a, n, c, h1.ext x hp, h2.ext x (fun i r t => (h3 i r).1 (hT i t)), fun i r => ⟨(h3 i r).1, Nat.lt_of_lt_of_le (h3 i r).2 x.next⟩⟩
theorem Pt.ext0 {M : Nat → Prop} {h h' : Heap} {p : Nat} {bs : List Int} {bad : Bool} (q : Pt M h p bs bad) (x : Ext0 h h') : Pt M h' p bs bad := q.ext x (fun r => r) (fun _ r => r.elim)

theorem or_i64 {a b : Int} (ha : 0 ≤ a ∧ a ≤ 255) (hb : 0 ≤ b ∧ b ≤ 255) : IntKind.wrap .i64 ((BitVec.ofInt (IntKind.bits .i64) (a * 256) ||| BitVec.ofInt (IntKind.bits .i64) b).toNat : Nat) = a * 256 + b := by
  obtain ⟨x, rfl⟩ : ∃ x : Nat, a = x := ⟨a.toNat, by omega⟩
  obtain ⟨y, rfl⟩ : ∃ y : Nat, b = y := ⟨b.toNat, by omega⟩
  have e1 : ((x : Int) * 256) = ((x * 256 : Nat) : Int) := by simp
  rw [e1, BitVec.ofInt_natCast, BitVec.ofInt_natCast, BitVec.toNat_or, BitVec.toNat_ofNat, BitVec.toNat_ofNat]
  have e2 : (x * 256) % 2 ^ IntKind.bits .i64 = x * 256 := Nat.mod_eq_of_lt (by show _ < 2 ^ 64; omega)
  have e3 : y % 2 ^ IntKind.bits .i64 = y := Nat.mod_eq_of_lt (by show _ < 2 ^ 64; omega)
  rw [e2, e3]
  have := Nat.two_pow_add_eq_or_of_lt (i := 8) (b := y) (by omega) x
  rw [show x * 256 = 2 ^ 8 * x by omega, ← this, w64 (by omega)]
  omega

theorem C50 {M : Nat → Prop} {h : Heap} {p : Nat} {bs : List Int} {bad : Bool} (hM : ∀ i, M i → i < h.next) (q : Pt M h p bs bad) (hw : Byte bs) (hb : bs.length ≤ 1000000) :
    Fn Try.prog 50 [ptr p] h fun v h' => match nextF bs with
      | .short => v = .tuple ⟨[.slice none 0 0, .bool false, .bool false]⟩ ∧ h = h'
      | .long => v = .tuple ⟨[.slice none 0 0, .bool false, .bool true]⟩ ∧ h = h'
      | .whole f rest => ∃ a n c, v = .tuple ⟨[.slice a n c, .bool true, .bool false]⟩ ∧ OwS h' 1 a n c (ints .u8 f) ∧ (∀ i, Blk a i → h.next ≤ i) ∧ Pt M h' p rest bad ∧ Ext (· = p) h h' := by
  obtain ⟨mp, a, n, c, g, s, ha⟩ := q
  have hn : bs.length = n := by simpa using s.len
  refine fnK F50.fok rfl ?_
  refine K_reg (Wops_run rfl rfl (Wops_run rfl rfl (Wops_run rfl rfl (K_fin [(0, _)] rfl (?_)))))
  refine K_ss (K_reg (Wops_run rfl rfl (Wops_run rfl rfl (Wops_run rfl rfl (Wops_ld rfl g (by rfl) ?_)))))
  refine Wops_run rfl rfl (Wops_run rfl rfl (K_fin [(0, _), (11, _)] rfl (?_)))
  refine K_scond rfl (fun hc => ?_) (fun hc => ?_)
  · have h2 : n < 2 := by have := of_decide_eq_true hc; omega
    have hx : nextF bs = .short := by
      match bs, hn with
      | [], _ => rfl
      | [_], _ => rfl
      | _ :: _ :: _, hn => simp at hn; omega
    rw [hx]
    refine K_ss (K_reg (Wops_run rfl rfl (Wops_run rfl rfl (Wops_run rfl rfl (K_fin [(2, _), (3, _), (4, _)] rfl (?_))))))
    exact K_sret (Told.mk _ rfl ⟨rfl, rfl⟩)
  · have h2 : 2 ≤ n := by have := of_decide_eq_false hc; omega
    obtain ⟨b0, b1, r, rfl⟩ : ∃ b0 b1 r, bs = b0 :: b1 :: r := by
      match bs, hn with
      | [], hn => simp at hn; omega
      | [_], hn => simp at hn; omega
      | b0 :: b1 :: r, _ => exact ⟨b0, b1, r, rfl⟩
    have w0 := hw b0 (by simp)
    have w1 := hw b1 (by simp)
    have hr : r.length + 2 = n := by simpa using hn
    refine K_sskip (K_reg (Wops_run rfl rfl (Wops_run rfl rfl (Wops_run rfl rfl (Wops_ld rfl g (by rfl) ?_)))))
    refine Wops_idx (u := .int .u8 b0) rfl rfl s ⟨by omega, by omega⟩ (by simp) fun _ => ?_
    refine Wops_as (w := .int .i64 b0) rfl rfl (by rw [w64 (by omega)]) (Wops_as (w := .int .i64 (b0 * 256)) rfl rfl (by
      show Value.int .i64 (IntKind.wrap .i64 (b0 * 2 ^ 8)) = _
      rw [w64 (by omega)]; rfl) ?_)
    refine Wops_run rfl rfl (Wops_run rfl rfl (Wops_run rfl rfl (Wops_ld rfl g (by rfl) ?_)))
    refine Wops_idx (u := .int .u8 b1) rfl rfl s ⟨by omega, by omega⟩ (by simp) fun _ => ?_
    refine Wops_as (w := .int .i64 b1) rfl rfl (by rw [w64 (by omega)]) (Wops_as (w := .int .i64 (b0 * 256 + b1)) rfl rfl (by rw [← or_i64 w0 w1]) ?_)
    refine Wops_run rfl rfl (K_fin [(0, _), (5, _)] rfl (?_))
    obtain ⟨m, hm⟩ : ∃ m : Nat, b0 * 256 + b1 = m := ⟨(b0 * 256 + b1).toNat, by omega⟩
    simp only [nextF, hm]
    refine K_ss (K_reg (Wops_run rfl rfl (Wops_run rfl rfl (K_fin [(0, _), (5, _), (29, _)] rfl (?_)))))
    refine K_scond rfl (fun hc => ?_) (fun hc => ?_)
    · rw [if_pos (of_decide_eq_true hc)]
      refine K_ss (K_reg (Wops_run rfl rfl (Wops_run rfl rfl (Wops_run rfl rfl (K_fin [(2, _), (3, _), (4, _)] rfl (?_))))))
      exact K_sret (Told.mk _ rfl ⟨rfl, rfl⟩)
    · rw [if_neg (of_decide_eq_false hc)]
      have h5 : m ≤ 5000 := by have := of_decide_eq_false hc; omega
      refine K_sskip (K_ss (K_reg (Wops_run rfl rfl (Wops_run rfl rfl (Wops_run rfl rfl (Wops_ld rfl g (by rfl) ?_))))))
      refine Wops_run rfl rfl (Wops_as (w := .int .i64 (r.length : Nat)) rfl rfl (by rw [w64 (by omega)]; congr 1; omega) ?_)
      refine Wops_run rfl rfl (Wops_run rfl rfl (K_fin [(0, _), (5, _), (37, _)] rfl (?_)))
      refine K_scond rfl (fun hc => ?_) (fun hc => ?_)
      · rw [if_pos (of_decide_eq_true hc)]
        refine K_ss (K_reg (Wops_run rfl rfl (Wops_run rfl rfl (Wops_run rfl rfl (K_fin [(2, _), (3, _), (4, _)] rfl (?_))))))
        exact K_sret (Told.mk _ rfl ⟨rfl, rfl⟩)
      · rw [if_neg (of_decide_eq_false hc)]
        have hmr : m ≤ r.length := by have := of_decide_eq_false hc; omega
        have hcast : IntKind.wrap .i64 (2 + (m : Int)) = ((2 + m : Nat) : Int) := by rw [w64 (by omega)]; omega
        have sA := s.sub (i := 2) (j := 2 + m) (by omega) (by omega)
        have sB := s.sub (i := 2 + m) (j := n) (by omega) (Nat.le_refl _)
        have hA : List.take ((2 + m - 2) * 1) (List.drop (2 * 1) (ints .u8 (b0 :: b1 :: r))) = ints .u8 (r.take m) := by
          simp [ints, List.map_take]
        have hB : List.take ((n - (2 + m)) * 1) (List.drop ((2 + m) * 1) (ints .u8 (b0 :: b1 :: r))) = ints .u8 (r.drop m) := by
          rw [List.take_of_length_le (by simp; omega), show (2 + m) * 1 = m + 2 by omega]
          simp [ints, List.map_drop]
        rw [hA] at sA
        rw [hB] at sB
        have hlt := g.lt
        refine K_sskip (K_reg (Wops_run rfl rfl (Wops_run rfl rfl (Wops_run rfl rfl (Wops_ld rfl g (by rfl) ?_)))))
        refine Wops_run rfl rfl (Wops_as (w := .int .i64 ((2 + m : Nat) : Int)) rfl rfl (by rw [hcast]) (Wops_slV rfl rfl rfl s.ok (bounds_lh (i := 2) (j := 2 + m) ⟨by omega, by omega⟩) ?_))
        refine Wops_call rfl (C57 sA (ints_cell _ _) (by omega)) ?_
        rintro _ h1 ⟨a1, c1, rfl, o1, x1, b1'⟩
        refine Wops_run rfl rfl (K_fin [(0, _), (2, _), (5, _)] rfl (?_))
        refine K_reg (Wops_run rfl rfl (Wops_run rfl rfl (Wops_run rfl rfl (Wops_run rfl rfl (Wops_ld rfl (At.ext (o := .cells [.slice a n c, .bool bad] 0 false) g x1) (by rfl) ?_)))))
        refine Wops_run rfl rfl (Wops_as (w := .int .i64 ((2 + m : Nat) : Int)) rfl rfl (by rw [hcast]) (Wops_slV rfl rfl rfl (s.ext x1).ok (bounds_lo (i := 2 + m) (by omega)) ?_))
        refine Wops_run rfl rfl (Wops_run rfl rfl (Wops_st rfl rfl rfl rfl (x1.some0 g) (by simp) rfl fun h3 n3 x3 g3 => ?_))
        refine K_fin [(2, _)] rfl (?_)
        refine K_reg (Wops_run rfl rfl (Wops_run rfl rfl (Wops_run rfl rfl (Wops_run rfl rfl (K_fin [(2, _), (3, _), (4, _)] rfl (?_))))))
        refine K_ret (Told.mk _ rfl ⟨a1, _, c1, rfl, ?_, fun i r => (b1' i r).1, ⟨mp, shift a ((2 + m) * 1), _, c, g3, (sB.ext x1).ext x3 (fun i r e => (ha i (shift_blk.1 r)).1 (by rw [e]; exact mp)), fun i r => ?_⟩, x1.of0.then x3 fun i r => .inl r⟩)
        · exact o1.ext x3 fun i r e => by have := (b1' i r).1; omega
        · obtain ⟨q1, q2⟩ := ha i (shift_blk.1 r)
          exact ⟨q1, by have := x1.next; omega⟩
end Go.Dx.SYtocdemagjocggaa
