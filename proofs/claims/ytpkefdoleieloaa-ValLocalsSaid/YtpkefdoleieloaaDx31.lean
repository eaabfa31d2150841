/- A deterministic reading of the model's code: slices of slices of numbers; growing; texts of bytes. -/
import Derived.Test.YtpkefdoleieloaaDx30
import Derived.Laws.Strings
namespace Go.Dx
set_option linter.unusedVariables false
set_option linter.unusedSimpArgs false

abbrev ints (k : IntKind) (xs : List Int) : List Value := xs.map (Value.int k)
theorem ints_cell (k : IntKind) (xs : List Int) : (ints k xs).all isCell = true := by simp [ints, isCell]
theorem all_sub {l : List Value} (h : l.all isCell = true) (i j : Nat) : ((l.drop i).take j).all isCell = true :=
  List.all_eq_true.2 fun x hx => List.all_eq_true.1 h x (List.mem_of_mem_drop (List.mem_of_mem_take hx))

/-- Slices, one cell each, that hold numbers; their blocks are of S. -/
def Bys (h : Heap) (k : IntKind) (S : Nat → Prop) : List Value → List (List Int) → Prop
  | [], [] => True
  | v :: vs, f :: fs => (∃ a n c, v = .slice a n c ∧ SlA h 1 a n c (ints k f) ∧ ∀ i, Blk a i → S i) ∧ Bys h k S vs fs
  | _, _ => False

theorem Bys.ext {h h' : Heap} {k : IntKind} {S T : Nat → Prop} (x : Ext T h h') (d : ∀ i, S i → ¬ T i) : ∀ {vs : List Value} {fs : List (List Int)}, Bys h k S vs fs → Bys h' k S vs fs
  | [], [], _ => trivial
  | [], _ :: _, b => b
  | _ :: _, [], b => b
  | _ :: _, _ :: _, ⟨⟨a, n, c, h1, h2, h3⟩, b⟩ => ⟨⟨a, n, c, h1, h2.ext x (fun i q => d i (h3 i q)), h3⟩, Bys.ext x d b⟩
theorem Bys.mono {h : Heap} {k : IntKind} {S T : Nat → Prop} (d : ∀ i, S i → T i) : ∀ {vs : List Value} {fs : List (List Int)}, Bys h k S vs fs → Bys h k T vs fs
  | [], [], _ => trivial
  | [], _ :: _, b => b
  | _ :: _, [], b => b
  | _ :: _, _ :: _, ⟨⟨a, n, c, h1, h2, h3⟩, b⟩ => ⟨⟨a, n, c, h1, h2, fun i q => d i (h3 i q)⟩, Bys.mono d b⟩
theorem Bys.length {h : Heap} {k : IntKind} {S : Nat → Prop} : ∀ {vs : List Value} {fs : List (List Int)}, Bys h k S vs fs → vs.length = fs.length
  | [], [], _ => rfl
  | [], _ :: _, b => b.elim
  | _ :: _, [], b => b.elim
  | _ :: _, _ :: _, ⟨_, b⟩ => by simp [Bys.length b]
theorem Bys.get {h : Heap} {k : IntKind} {S : Nat → Prop} : ∀ {vs : List Value} {fs : List (List Int)}, Bys h k S vs fs → ∀ i (hi : i < fs.length), ∃ a n c, vs[i]? = some (.slice a n c) ∧ SlA h 1 a n c (ints k fs[i]) ∧ ∀ j, Blk a j → S j
  | [], [], _, i, hi => by simp at hi
  | [], _ :: _, b, _, _ => b.elim
  | _ :: _, [], b, _, _ => b.elim
  | _ :: _, _ :: _, ⟨⟨a, n, c, rfl, h2, h3⟩, b⟩, 0, hi => ⟨a, n, c, rfl, h2, h3⟩
  | _ :: _, _ :: _, ⟨_, b⟩, i + 1, hi => by
    obtain ⟨a, n, c, q1, q2, q3⟩ := Bys.get b i (by simpa using hi)
    exact ⟨a, n, c, by simpa using q1, by simpa using q2, q3⟩
theorem Bys.append {h : Heap} {k : IntKind} {S : Nat → Prop} : ∀ {vs ws : List Value} {fs gs : List (List Int)}, Bys h k S vs fs → Bys h k S ws gs → Bys h k S (vs ++ ws) (fs ++ gs)
  | [], _, [], _, _, b => b
  | [], _, _ :: _, _, a, _ => a.elim
  | _ :: _, _, [], _, a, _ => a.elim
  | _ :: _, _, _ :: _, _, ⟨h1, a⟩, b => ⟨h1, Bys.append a b⟩
theorem Bys.one {h : Heap} {k : IntKind} {S : Nat → Prop} {a : Option Addr} {n c : Nat} {f : List Int} (s : SlA h 1 a n c (ints k f)) (d : ∀ i, Blk a i → S i) : Bys h k S [.slice a n c] [f] := ⟨⟨a, n, c, rfl, s, d⟩, trivial⟩
theorem Bys.cell {h : Heap} {k : IntKind} {S : Nat → Prop} : ∀ {vs : List Value} {fs : List (List Int)}, Bys h k S vs fs → vs.all isCell = true
  | [], [], _ => rfl
  | [], _ :: _, b => b.elim
  | _ :: _, [], b => b.elim
  | _ :: _, _ :: _, ⟨⟨a, n, c, rfl, _, _⟩, b⟩ => by rw [List.all_cons, Bys.cell b]; rfl

section
variable {P : Program} {d : Option Nat} {r : List SOp} {e : Env} {h : Heap} {Q : Env → Heap → Prop}

theorem Wops_appZ {sz bytes n c m : Nat} {zero : List Value} {s x : Arg} {a : Option Addr} {l : List Value} (hs : s.ev e = some (.slice a n c)) (hx : x.ev e = some (.int .i64 m)) (o : OwS h sz a n c l) (hb : (n + m) * bytes ≤ 1099511627776 ∧ n + m ≤ 1099511627776) (hz0 : zero.length = sz) (hc : zero.all isCell = true) (hz : 0 < sz)
    (hq : ∀ h' a' c', Ext (Blk a) h h' → OwS h' sz a' (n + m) c' (l ++ zeros zero m) → (∀ i, Blk a' i → Blk a i ∨ h.next ≤ i) → Wops P r (e.put d (.slice a' (n + m) c')) h' Q) : Wops P (⟨d, none, .appZ sz bytes zero s x⟩ :: r) e h Q := by
  obtain ⟨h', a', c', q1, q2, q3, q4⟩ := appL_own (bytes := bytes) (new := zeros zero m) (m := m) o hb.1 hb.2 (by rw [zeros_length, hz0]) (zeros_isCell hc m) hz
  refine Wops_run (v := .slice a' (n + m) c') (h' := h') rfl ?_ (hq h' a' c' q2 q3 q4)
  have hmb : m * bytes ≤ 1099511627776 := Nat.le_trans (Nat.mul_le_mul_right _ (Nat.le_add_left m n)) hb.1
  have h2 : ((m * bytes : Nat) : Int) ≤ 1099511627776 := by omega
  rw [Int.natCast_mul] at h2
  have hcond : (0 : Int) ≤ (m : Int) ∧ (m : Int) ≤ 1099511627776 ∧ (m : Int) * (bytes : Int) ≤ 1099511627776 := ⟨by omega, by omega, h2⟩
  simp only [SO.run, hs, hx, if_pos hcond, Int.toNat_natCast, q1]

/-- The bytes of numbers. -/
def bytesOf (xs : List Int) : List UInt8 := xs.map fun x => UInt8.ofNat x.toNat
theorem bytesOfCells_ints : ∀ xs : List Int, bytesOfCells (ints .u8 xs) = some (bytesOf xs)
  | [] => rfl
  | x :: xs => by
    have ih := bytesOfCells_ints xs
    simp only [ints, List.map_cons, bytesOfCells] at ih ⊢
    rw [ih]; rfl
theorem bytesOf_inj : ∀ {xs ys : List Int}, (∀ x ∈ xs, 0 ≤ x ∧ x ≤ 255) → (∀ y ∈ ys, 0 ≤ y ∧ y ≤ 255) → bytesOf xs = bytesOf ys → xs = ys
  | [], [], _, _, _ => rfl
  | [], _ :: _, _, _, h => by simp [bytesOf] at h
  | _ :: _, [], _, _, h => by simp [bytesOf] at h
  | x :: xs, y :: ys, hx, hy, h => by
    simp only [bytesOf, List.map_cons, List.cons.injEq] at h
    have h1 := hx x (by simp)
    have h2 := hy y (by simp)
    have h3 : x.toNat % 256 = y.toNat % 256 := by simpa using congrArg UInt8.toNat h.1
    rw [bytesOf_inj (fun z hz => hx z (by simp [hz])) (fun z hz => hy z (by simp [hz])) h.2]
    rw [show x = y by omega]
/-- string(x) of a slice of bytes. -/
theorem Wops_toStr {n c : Nat} {x : Arg} {a : Option Addr} {xs : List Int} (hx : x.ev e = some (.slice a n c)) (s : SlA h 1 a n c (ints .u8 xs)) (hq : Wops P r (e.put d (.string ⟨⟨bytesOf xs⟩⟩)) h Q) : Wops P (⟨d, none, .toStr x⟩ :: r) e h Q := by
  refine Wops_run (v := .string ⟨⟨bytesOf xs⟩⟩) (h' := h) rfl ?_ hq
  have hn : xs.length = n := by simpa [ints] using s.len
  cases a with
  | none =>
    obtain ⟨h0, _⟩ := s.nil rfl
    have : xs = [] := List.eq_nil_of_length_eq_zero (by omega)
    subst this
    simp only [SO.run, hx]; rfl
  | some p =>
    obtain ⟨id, off, sp⟩ := p
    obtain rfl : sp = none := s.spot _ rfl
    by_cases h0 : n = 0
    · have : xs = [] := List.eq_nil_of_length_eq_zero (by omega)
      subst this; subst h0
      simp only [SO.run, hx]; rfl
    · have hb : n.beq 0 = false := by rw [beq_iff]; simp [h0]
      rcases s.get _ rfl with q | q
      · omega
      · rw [Nat.mul_one] at q
        simp only [SO.run, hx, hb, cond_false, q, bytesOfCells_ints, Option.map_some]
theorem Wops_strne {x y : Arg} {s t : ByteArray} {v : Bool} (hx : x.ev e = some (.string s)) (hy : y.ev e = some (.string t)) (hv : (!(s.toList == t.toList)) = v) (hq : Wops P r (e.put d (.bool v)) h Q) : Wops P (⟨d, none, .bin .neq x y⟩ :: r) e h Q := by
  subst hv
  refine Wops_run (v := .bool (!(s.toList == t.toList))) (h' := h) rfl ?_ hq
  have hb : binV .neq (.string s) (.string t) = some (.bool (!(s.toList == t.toList))) := by simp [binV, strV]
  simp only [SO.run, hx, hy, hb, Option.map_some]
theorem Wops_streq {x y : Arg} {s t : ByteArray} {v : Bool} (hx : x.ev e = some (.string s)) (hy : y.ev e = some (.string t)) (hv : (s.toList == t.toList) = v) (hq : Wops P r (e.put d (.bool v)) h Q) : Wops P (⟨d, none, .bin .eql x y⟩ :: r) e h Q := by
  subst hv
  refine Wops_run (v := .bool (s.toList == t.toList)) (h' := h) rfl ?_ hq
  have hb : binV .eql (.string s) (.string t) = some (.bool (s.toList == t.toList)) := by simp [binV, strV]
  simp only [SO.run, hx, hy, hb, Option.map_some]
theorem toList_bytes (l : List UInt8) : (⟨⟨l⟩⟩ : ByteArray).toList = l := by rw [ByteArray.toList_eq]
end
end Go.Dx
