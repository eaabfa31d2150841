/- A deterministic reading of the model's code: slices of slices of numbers; growing; texts of bytes. -/
import Derived.Test.YtpkefdoleieloaaCsz30
import Derived.Laws.Strings
namespace Go.Dx
set_option linter.unusedVariables false
set_option linter.unusedSimpArgs false
abbrev Yw (k : IntKind) (xs : List Int) : List Value := xs.map (Value.int k)
section
variable {P : Program} {d : Option Nat} {r : List SOp} {e : Env} {h : Heap} {Q : Env → Heap → Prop}
theorem Wops_appZ {sz bytes n c m : Nat} {zero : List Value} {s x : Arg} {a : Option Addr} {l : List Value} (hs : s.ev e = some (.slice a n c)) (hx : x.ev e = some (.int .i64 m)) (o : OwS h sz a n c l) (hb : (n + m) * bytes ≤ 1099511627776 ∧ n + m ≤ 1099511627776) (hz0 : zero.length = sz) (hc : zero.all isCell = true) (hz : 0 < sz)
    (hq : ∀ h' a' c',Ext (Blk a) h h' → OwS h' sz a' (n + m) c' (l ++ Xt zero m) → (∀ i,Blk a' i → Blk a i ∨ h.next ≤ i) → Xd P r (e.put d (.slice a' (n + m) c')) h' Q) : Xd P (⟨d,none,.appZ sz bytes zero s x⟩ :: r) e h Q := by
  obtain ⟨h',a',c',q1,q2,q3,q4⟩ := appL_own (bytes := bytes) (new := Xt zero m) (m := m) o hb.1 hb.2 (by rw [Zd,hz0]) (Kf hc m) hz
  refine Wa (v := .slice a' (n + m) c') (h' := h') rfl ?_ (hq h' a' c' q2 q3 q4)
  have hmb : m * bytes ≤ 1099511627776 := Nat.le_trans (Nat.mul_le_mul_right _ (Nat.le_add_left m n)) hb.1
  have h2 : ((m * bytes : Nat) : Int) ≤ 1099511627776 := by omega
  rw [Int.natCast_mul] at h2
  have hcond : (0 : Int) ≤ (m : Int) ∧ (m : Int) ≤ 1099511627776 ∧ (m : Int) * (bytes : Int) ≤ 1099511627776 := ⟨by omega,by omega,h2⟩
  simp only [SO.run,hs,hx,if_pos hcond,Int.toNat_natCast,q1]
def bytesOf (xs : List Int) : List UInt8 := xs.map fun x => UInt8.ofNat x.toNat
theorem Jv : ∀ xs : List Int,Yh (Yw .u8 xs) = some (bytesOf xs)
  | [] => rfl
  | x :: xs => by
    have ih := Jv xs
    simp only [Yw,List.map_cons,Yh] at ih ⊢
    rw [ih]; rfl
theorem Wops_toStr {n c : Nat} {x : Arg} {a : Option Addr} {xs : List Int} (hx : x.ev e = some (.slice a n c)) (s : SlA h 1 a n c (Yw .u8 xs)) (hq : Xd P r (e.put d (.string ⟨⟨bytesOf xs⟩⟩)) h Q) : Xd P (⟨d,none,.toStr x⟩ :: r) e h Q := by
  refine Wa (v := .string ⟨⟨bytesOf xs⟩⟩) (h' := h) rfl ?_ hq
  have hn : xs.length = n := by simpa [Yw] using s.len
  cases a with
  | none =>
    obtain ⟨h0,_⟩ := s.nil rfl
    have : xs = [] := List.eq_nil_of_length_eq_zero (by omega)
    subst this
    simp only [SO.run,hx]; rfl
  | some p =>
    obtain ⟨id,off,sp⟩ := p
    obtain rfl : sp = none := s.spot _ rfl
    by_cases h0 : n = 0
    · have : xs = [] := List.eq_nil_of_length_eq_zero (by omega)
      subst this; subst h0
      simp only [SO.run,hx]; rfl
    · have hb : n.beq 0 = false := by rw [Ww]; simp [h0]
      rcases s.get _ rfl with q | q
      · omega
      · rw [Nat.mul_one] at q
        simp only [SO.run,hx,hb,cond_false,q,Jv,Option.map_some]
end
end Go.Dx
