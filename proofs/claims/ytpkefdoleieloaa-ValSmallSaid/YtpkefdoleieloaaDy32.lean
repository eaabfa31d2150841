/- A deterministic reading of the model's code: the rest of a function, run by the kernel from a state that is known. -/
import Derived.Test.YtpkefdoleieloaaDy31
namespace Go.Dx
set_option linter.unusedVariables false
set_option linter.unusedSimpArgs false
section
variable {P : Program} {T : List (Nat × SFn)}
noncomputable def allB (g : Nat → Bool) (n : Nat) : Nat → Bool := Nat.rec (motive := fun _ => Nat → Bool) (fun _ => true) (fun _ ih lo => match g lo with
  | true => ih (lo + 1)
  | false => false) n
theorem Jo {g : Nat → Bool} : ∀ (n lo : Nat),allB g n lo = true → ∀ k,lo ≤ k → k < lo + n → g k = true
  | 0,lo,_,k,h1,h2 => by omega
  | n + 1,lo,h,k,h1,h2 => by
    have h' : (match g lo with | true => allB g n (lo + 1) | false => false) = true := h
    cases hc : g lo with
    | false => rw [hc] at h'; cases h'
    | true =>
      rw [hc] at h'
      by_cases hk : k = lo
      · subst hk; exact hc
      · exact Jo n (lo + 1) h' k (by omega) (by omega)
end
theorem zeros_ints (k : IntKind) : ∀ n,Xj [.int k 0] n = Kk k (List.replicate n 0)
  | 0 => rfl
  | n + 1 => by
    show [Value.int k 0] ++ Xj [.int k 0] n = _
    rw [zeros_ints k n,List.replicate_succ]; rfl
theorem Wops_mkSl {P : Program} {d : Option Nat} {r : List SOp} {e : Env} {h : Heap} {Q : Env → Heap → Prop} {size bytes : Nat} {z : List Value} {l c : Arg} {k : Nat} (hl : l.ev e = some (.int .i64 k)) (hc : c.ev e = some (.int .i64 k)) (h0 : k ≤ 1099511627776 ∧ k * bytes ≤ 1099511627776)
    (hq : ∀ h' cc,h'.next = h.next + 1 → Xk h h' → At h' h.next (.cells (Xj z k) size false) → Xe P r (e.put d (.slice (some ⟨h.next,0,none⟩) k cc)) h' Q) : Xe P (⟨d,none,.mkSl size bytes z l c⟩ :: r) e h Q := by
  refine Wa (v := .slice (some ⟨h.next,0,none⟩) k (bif k.beq 0 then 0 else k * size + 2)) (h' := h.add (.cells (Xj z k) size false)) rfl ?_ (hq _ _ rfl (Ext.add _ _) (Qs _ _))
  simp only [SO.run,hl,hc]
  rw [if_pos ⟨by omega,by omega,by omega,by omega⟩]
  simp
end Go.Dx
