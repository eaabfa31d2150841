/- A deterministic reading of the model's code: parts of slices, clearing, copying. -/
import Derived.Test.YtpkefdoleieloaaDx27
namespace Go.Dx
set_option linter.unusedVariables false
set_option linter.unusedSimpArgs false

theorem Blk.at {id off i : Nat} {sp : Option Nat} : Blk (Option.some ⟨id, off, sp⟩) i ↔ id = i := Blk.some
/-- An address so many cells on. -/
def shift (a : Option Addr) (m : Nat) : Option Addr := a.map fun p => { p with off := p.off + m }
theorem shift_blk {a : Option Addr} {m i : Nat} : Blk (shift a m) i ↔ Blk a i := by
  cases a with
  | none => exact Iff.rfl
  | some p => unfold shift; simp only [Option.map_some, Blk.some]
theorem shift_none {m : Nat} : shift none m = none := rfl
theorem shift_some {id off m : Nat} : shift (some ⟨id, off, none⟩) m = some ⟨id, off + m, none⟩ := rfl

theorem bounds_lo {n : Nat} {k : IntKind} {i : Nat} (h : i ≤ n) : bounds n n (some (.int k i)) none = some (i, n) := by
  simp only [bounds, hiOf, loOf, natOf]
  rw [if_pos ⟨by omega, by omega⟩]; rfl
theorem bounds_hi {n : Nat} {k : IntKind} {i : Nat} (h : i ≤ n) : bounds n n none (some (.int k i)) = some (0, i) := by
  simp only [bounds, hiOf, loOf, natOf]
  rw [if_pos ⟨by omega, by omega⟩]; rfl
theorem bounds_lh {n : Nat} {k k' : IntKind} {i j : Nat} (h : i ≤ j ∧ j ≤ n) : bounds n n (some (.int k i)) (some (.int k' j)) = some (i, j) := by
  simp only [bounds, hiOf, loOf, natOf]
  rw [if_pos ⟨by omega, by omega⟩]
  simp only [Int.toNat_natCast]
  rw [if_pos ⟨by omega, by omega⟩]

theorem slOk_shift {h : Heap} {sz n c m n' : Nat} {a : Option Addr} (ho : slOk h sz (.slice a n c) = true) : slOk h sz (.slice (shift a m) n' c) = true := by
  cases a with
  | none => rfl
  | some p => obtain ⟨id, off, sp⟩ := p; cases sp <;> exact ho

theorem SlA.sub {h : Heap} {sz n c : Nat} {a : Option Addr} {l : List Value} (s : SlA h sz a n c l) {i j : Nat} (hij : i ≤ j) (hj : j ≤ n) : SlA h sz (shift a (i * sz)) (j - i) c ((l.drop (i * sz)).take ((j - i) * sz)) := by
  have h1 : i * sz + (j - i) * sz = j * sz := by rw [← Nat.add_mul]; congr 1; omega
  have h2 : j * sz ≤ n * sz := Nat.mul_le_mul_right _ hj
  refine ⟨by rw [List.length_take, List.length_drop, s.len]; omega, fun q => ?_, fun p hp => ?_, slOk_shift s.ok, fun p hp => ?_⟩
  · cases a with
    | none => have := s.nil rfl; omega
    | some p => cases q
  · cases a with
    | none => cases hp
    | some p => cases hp; exact s.spot p rfl
  · cases a with
    | none => cases hp
    | some p0 =>
      cases hp
      by_cases h0 : j - i = 0
      · exact .inl h0
      · rcases s.get _ rfl with q | q
        · omega
        · obtain ⟨vs, e, ro, g, hl, rfl⟩ := rd_some q
          refine .inr ?_
          rw [rd_mk g (by simp only; omega)]
          congr 1
          rw [List.drop_take, List.take_take, List.drop_drop]
          simp only
          congr 1
          omega

theorem OwS.sub {h : Heap} {sz n c : Nat} {a : Option Addr} {l : List Value} (s : OwS h sz a n c l) {i j : Nat} (hij : i ≤ j) (hj : j ≤ n) : OwS h sz (shift a (i * sz)) (j - i) c ((l.drop (i * sz)).take ((j - i) * sz)) := by
  have h1 : i * sz + (j - i) * sz = j * sz := by rw [← Nat.add_mul]; congr 1; omega
  have h2 : j * sz ≤ n * sz := Nat.mul_le_mul_right _ hj
  refine ⟨(s.sl.sub hij hj).len, ?_⟩
  rcases s.ex with ⟨rfl, rfl, rfl⟩ | ⟨id, off, vs, rfl, g, hl, rfl⟩
  · exact .inl ⟨rfl, by omega, rfl⟩
  · refine .inr ⟨id, off + i * sz, vs, rfl, g, by omega, ?_⟩
    rw [List.drop_take, List.take_take, List.drop_drop]
    congr 1
    omega

section
variable {P : Program} {d : Option Nat} {r : List SOp} {e : Env} {h : Heap} {Q : Env → Heap → Prop}

theorem Wops_slV {sz n c l hh : Nat} {x : Arg} {lo hi : Option Arg} {a : Option Addr} {lov hiv : Option Value} (hx : x.ev e = some (.slice a n c)) (hlo : optEv e lo = some lov) (hhi : optEv e hi = some hiv) (ok : slOk h sz (.slice a n c) = true) (hb : bounds n n lov hiv = some (l, hh))
    (hq : Wops P r (e.put d (.slice (shift a (l * sz)) (hh - l) c)) h Q) : Wops P (⟨d, none, .slV sz x lo hi none⟩ :: r) e h Q := by
  refine Wops_run (v := .slice (shift a (l * sz)) (hh - l) c) (h' := h) rfl ?_ hq
  have ho : optEv e none = some none := rfl
  simp only [SO.run, hx, hlo, hhi, ho, slVV, slB, ok, Bool.not_true, cond_false, hb, Option.map_some, shift]

/-- Cells of one's own are written over. -/
theorem wr_own {id off ez : Nat} {vs l : List Value} (g : At h id (.cells vs ez false)) (hb : off + l.length ≤ vs.length) (hc : l.all isCell = true) :
    ∃ h', wr h id off l = some h' ∧ h'.next = h.next ∧ Ext (· = id) h h' ∧ At h' id (.cells (putL vs off l) ez false) := by
  have hat : h.get id = some (.cells vs ez false) := g
  refine ⟨_, ?_, Heap.next_put _ _ _, Ext.put hat rfl _, put_get hat rfl _⟩
  unfold wr
  simp only [hat, Nat.ble_eq_true_of_le hb, hc, Bool.and_self, cond_true]

theorem Wops_clr {sz id off n c ez : Nat} {zero vs : List Value} {x : Arg} (hx : x.ev e = some (.slice (some ⟨id, off, none⟩) n c)) (g : At h id (.cells vs ez false)) (hb : off + n * sz ≤ vs.length) (hz : zero.length = sz) (hc : zero.all isCell = true)
    (hq : ∀ h', Ext (· = id) h h' → At h' id (.cells (putL vs off (zeros zero n)) ez false) → Wops P r (e.put d undefV) h' Q) : Wops P (⟨d, none, .clr sz zero x⟩ :: r) e h Q := by
  by_cases hn : n = 0
  · subst hn
    exact Wops_run (v := undefV) (h' := h) rfl (by simp only [SO.run, hx]; rfl) (hq h (Ext.refl _ _) g)
  · obtain ⟨h', h1, h2, h3, h4⟩ := wr_own (off := off) (l := zeros zero n) g (by rw [zeros_length, hz]; exact hb) (zeros_isCell hc n)
    refine Wops_run (v := undefV) (h' := h') rfl ?_ (hq h' h3 h4)
    have hnb : n.beq 0 = false := by rw [beq_iff]; simp [hn]
    have hzb : zero.length.beq sz = true := by rw [beq_iff]; simp [hz]
    simp only [SO.run, hx, hnb, cond_false, hzb, cond_true, h1, Option.map_some]
end
end Go.Dx
namespace Go.Dx
section
variable {P : Program} {d : Option Nat} {r : List SOp} {e : Env} {h : Heap} {Q : Env → Heap → Prop}
/-- A slice is the same as itself. -/
theorem SlA.same {sz n c : Nat} {a : Option Addr} {l : List Value} (s : SlA h sz a n c l) : sameV (.slice a n c) (.slice a n c) = true := by
  cases a with
  | none => obtain ⟨rfl, rfl⟩ := s.nil rfl; rfl
  | some p =>
    obtain ⟨id, off, sp⟩ := p
    obtain rfl : sp = .none := s.spot _ rfl
    simp [sameV, sameCell]
theorem Wops_chk {off id ez n t : Nat} {a : Arg} {vs : List Value} {ro : Bool} {v : Value} (ha : a.ev e = some (.pointer (some ⟨id, off, none⟩))) (ht : e.get t = some v) (hg : h.get id = some (.cells vs ez ro)) (hv : vs[off]? = some v) (hs : sameV v v = true) (hq : Wops P r (e.put d undefV) h Q) :
    Wops P (⟨d, none, .chk n false a t⟩ :: r) e h Q := by
  refine Wops_run (v := undefV) (h' := h) rfl ?_ hq
  simp only [SO.run, ha, ht, ldV, hg, hv, hs, cond_true]
theorem Wops_chkV {sz n c l hh t : Nat} {x : Arg} {lo hi : Option Arg} {a : Option Addr} {lov hiv : Option Value} (hx : x.ev e = some (.slice a n c)) (hlo : optEv e lo = some lov) (hhi : optEv e hi = some hiv) (ht : e.get t = some (.slice (shift a (l * sz)) (hh - l) c))
    (ok : slOk h sz (.slice a n c) = true) (hb : bounds n n lov hiv = some (l, hh)) (hs : sameV (.slice (shift a (l * sz)) (hh - l) c) (.slice (shift a (l * sz)) (hh - l) c) = true)
    (hq : Wops P r (e.put d undefV) h Q) : Wops P (⟨d, none, .chkV sz x lo hi none t⟩ :: r) e h Q := by
  refine Wops_run (v := undefV) (h' := h) rfl ?_ hq
  have ho : optEv e none = some none := rfl
  have hv : slVV h sz (.slice a n c) lov hiv none = some (.slice (shift a (l * sz)) (hh - l) c) := by simp only [slVV, slB, ok, Bool.not_true, cond_false, hb, Option.map_some, shift]
  simp only [SO.run, hx, hlo, hhi, ho, ht, hv, hs, cond_true]
end
end Go.Dx
