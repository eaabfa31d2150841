/- A deterministic reading of the model's code: the rest of a function, run by the kernel from a state that is known. -/
import Derived.Test.YtpkefdoleieloaaDx31
namespace Go.Dx
set_option linter.unusedVariables false
set_option linter.unusedSimpArgs false

section
variable {P : Program} {T : List (Nat × SFn)}
/-- What is told by the rest of a function. -/
def tells (res : List Res) : Option (Out × Env × Heap) → Bool
  | some (.exit _, _, _) => false
  | some (_, e, h) => match resL e h res with
    | some [.bool true] => true
    | _ => false
  | none => false
theorem W_tells (hT : ∀ f F, lookN T f = some F → FOk P f F) {n : Nat} {c : SCode} {e : Env} {h : Heap} {res : List Res} {Q : Value → Heap → Prop} {kx : Nat → Kn} (ht : tells res (codeR (fnR T n) n c e h) = true) (hq : ∀ h', Q (.bool true) h') : W P c e h (K3 (Told res Q) kx (Told res Q)) := by
  rw [codeR_eq, fnR_eq] at ht
  unfold tells at ht
  split at ht
  · cases ht
  · rename_i o e' h' hx hr
    refine dcode_ok (dfn_ok hT n) n _ _ _ _ _ _ _ hr ?_
    have told : Told res Q e' h' := by
      split at ht
      · rename_i hv
        exact ⟨_, hv, hq _⟩
      · cases ht
    match o, hx, told with
    | .normal, _, told => exact told
    | .exit i, hx, _ => exact (hx i rfl).elim
    | .ret, _, told => exact told
  · cases ht
/-- All numbers of a span. -/
noncomputable def allB (g : Nat → Bool) (n : Nat) : Nat → Bool := Nat.rec (motive := fun _ => Nat → Bool) (fun _ => true) (fun _ ih lo => match g lo with
  | true => ih (lo + 1)
  | false => false) n
theorem allB_ok {g : Nat → Bool} : ∀ (n lo : Nat), allB g n lo = true → ∀ k, lo ≤ k → k < lo + n → g k = true
  | 0, lo, _, k, h1, h2 => by omega
  | n + 1, lo, h, k, h1, h2 => by
    have h' : (match g lo with | true => allB g n (lo + 1) | false => false) = true := h
    cases hc : g lo with
    | false => rw [hc] at h'; cases h'
    | true =>
      rw [hc] at h'
      by_cases hk : k = lo
      · subst hk; exact hc
      · exact allB_ok n (lo + 1) h' k (by omega) (by omega)
/-- All lists of bools of at most so many. -/
noncomputable def allL (n : Nat) : (List Value → Bool) → Bool := Nat.rec (motive := fun _ => (List Value → Bool) → Bool) (fun g => g []) (fun _ ih g => match g [] with
  | true => match ih (fun l => g (.bool true :: l)) with
    | true => ih (fun l => g (.bool false :: l))
    | false => false
  | false => false) n
theorem allL_ok : ∀ {n : Nat} {g : List Value → Bool}, allL n g = true → ∀ l : List Value, l.length ≤ n → (∀ c ∈ l, ∃ b, c = .bool b) → g l = true
  | 0, g, h, l, hl, _ => by
    have : l = [] := List.length_eq_zero_iff.mp (by omega)
    subst this; exact h
  | n + 1, g, h, l, hl, hb => by
    have h' : (match g [] with | true => (match allL n (fun l => g (.bool true :: l)) with | true => allL n (fun l => g (.bool false :: l)) | false => false) | false => false) = true := h
    split at h'
    · rename_i h0
      split at h'
      · rename_i h1
        cases l with
        | nil => exact h0
        | cons c l =>
          obtain ⟨b, rfl⟩ := hb c (by simp)
          have hl2 : l.length ≤ n := by simpa using hl
          have hb2 : ∀ c ∈ l, ∃ b, c = .bool b := fun c hc => hb c (by simp [hc])
          cases b with
          | true => exact allL_ok h1 l hl2 hb2
          | false => exact allL_ok h' l hl2 hb2
      · cases h'
    · cases h'
end

theorem zeros_ints (k : IntKind) : ∀ n, zeros [.int k 0] n = ints k (List.replicate n 0)
  | 0 => rfl
  | n + 1 => by
    show [Value.int k 0] ++ zeros [.int k 0] n = _
    rw [zeros_ints k n, List.replicate_succ]; rfl
theorem Wops_mkSl {P : Program} {d : Option Nat} {r : List SOp} {e : Env} {h : Heap} {Q : Env → Heap → Prop} {size bytes : Nat} {z : List Value} {l c : Arg} {k : Nat} (hl : l.ev e = some (.int .i64 k)) (hc : c.ev e = some (.int .i64 k)) (h0 : k ≤ 1099511627776 ∧ k * bytes ≤ 1099511627776)
    (hq : ∀ h' cc, h'.next = h.next + 1 → Ext0 h h' → At h' h.next (.cells (zeros z k) size false) → Wops P r (e.put d (.slice (some ⟨h.next, 0, none⟩) k cc)) h' Q) : Wops P (⟨d, none, .mkSl size bytes z l c⟩ :: r) e h Q := by
  refine Wops_run (v := .slice (some ⟨h.next, 0, none⟩) k (bif k.beq 0 then 0 else k * size + 2)) (h' := h.add (.cells (zeros z k) size false)) rfl ?_ (hq _ _ rfl (Ext.add _ _) (add_get _ _))
  simp only [SO.run, hl, hc]
  rw [if_pos ⟨by omega, by omega, by omega, by omega⟩]
  simp
/-- The same; its room is told. -/
theorem Wops_mkSlE {P : Program} {d : Option Nat} {r : List SOp} {e : Env} {h : Heap} {Q : Env → Heap → Prop} {size bytes : Nat} {z : List Value} {l c : Arg} {k : Nat} (hl : l.ev e = some (.int .i64 k)) (hc : c.ev e = some (.int .i64 k)) (h0 : 0 < k ∧ k ≤ 1099511627776 ∧ k * bytes ≤ 1099511627776)
    (hq : ∀ h', h'.next = h.next + 1 → Ext0 h h' → At h' h.next (.cells (zeros z k) size false) → Wops P r (e.put d (.slice (some ⟨h.next, 0, none⟩) k (k * size + 2))) h' Q) : Wops P (⟨d, none, .mkSl size bytes z l c⟩ :: r) e h Q := by
  refine Wops_run (v := .slice (some ⟨h.next, 0, none⟩) k (k * size + 2)) (h' := h.add (.cells (zeros z k) size false)) rfl ?_ (hq _ rfl (Ext.add _ _) (add_get _ _))
  have hb : k.beq 0 = false := by rw [beq_iff]; simp; omega
  simp only [SO.run, hl, hc]
  rw [if_pos ⟨by omega, by omega, by omega, by omega⟩]
  simp [hb]
/-- A slice's room, where its end is known. -/
theorem Wops_cap {P : Program} {d : Option Nat} {r : List SOp} {e : Env} {h : Heap} {Q : Env → Heap → Prop} {x : Arg} {id off n c ez : Nat} {vs : List Value} (hx : x.ev e = some (.slice (some ⟨id, off, none⟩) n c)) (hc : 2 ≤ c) (g : At h id (.cells vs ez false)) (hz : 0 < ez)
    (hq : Wops P r (e.put d (.int .i64 ((c - 2 - off) / ez : Nat))) h Q) : Wops P (⟨d, none, .capV x⟩ :: r) e h Q := by
  refine Wops_run (v := .int .i64 ((c - 2 - off) / ez : Nat)) (h' := h) rfl ?_ hq
  have hat : h.get id = some (.cells vs ez false) := g
  have hb : c.ble 1 = false := by
    cases hq2 : c.ble 1 with
    | false => rfl
    | true => have := Nat.le_of_ble_eq_true hq2; omega
  have hzb : ez.beq 0 = false := by rw [beq_iff]; simp; omega
  obtain ⟨c', rfl⟩ : ∃ c', c = c' + 2 := ⟨c - 2, by omega⟩
  simp only [SO.run, hx, hb, cond_false, hat, hzb]
end Go.Dx
