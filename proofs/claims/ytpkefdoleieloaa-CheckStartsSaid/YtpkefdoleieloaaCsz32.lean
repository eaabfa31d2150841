/- A deterministic reading of the model's code: the rest of a function, run by the kernel from a state that is known. -/
import Derived.Test.YtpkefdoleieloaaCsz31
namespace Go.Dx
set_option linter.unusedVariables false
set_option linter.unusedSimpArgs false
section
variable {P : Program} {T : List (Nat × SFn)}
end
theorem zeros_ints (k : IntKind) : ∀ n,Xt [.int k 0] n = Yw k (List.replicate n 0)
  | 0 => rfl
  | n + 1 => by
    show [Value.int k 0] ++ Xt [.int k 0] n = _
    rw [zeros_ints k n,List.replicate_succ]; rfl
theorem Wops_mkSl {P : Program} {d : Option Nat} {r : List SOp} {e : Env} {h : Heap} {Q : Env → Heap → Prop} {size bytes : Nat} {z : List Value} {l c : Arg} {k : Nat} (hl : l.ev e = some (.int .i64 k)) (hc : c.ev e = some (.int .i64 k)) (h0 : k ≤ 1099511627776 ∧ k * bytes ≤ 1099511627776)
    (hq : ∀ h' cc,h'.next = h.next + 1 → Xe h h' → At h' h.next (.cells (Xt z k) size false) → Xd P r (e.put d (.slice (some ⟨h.next,0,none⟩) k cc)) h' Q) : Xd P (⟨d,none,.mkSl size bytes z l c⟩ :: r) e h Q := by
  refine Wa (v := .slice (some ⟨h.next,0,none⟩) k (bif k.beq 0 then 0 else k * size + 2)) (h' := h.add (.cells (Xt z k) size false)) rfl ?_ (hq _ _ rfl (Ext.add _ _) (Jw _ _))
  simp only [SO.run,hl,hc]
  rw [if_pos ⟨by omega,by omega,by omega,by omega⟩]
  simp
end Go.Dx
