/- A deterministic reading of the model's code: a slice of bools of at most so many, in all its forms. -/
import Derived.Test.YtpkefdoleieloaaDx33
namespace Go.Dx
set_option linter.unusedVariables false
set_option linter.unusedSimpArgs false

/-- What stands behind so many parts. -/
def SCode.rest : Nat → SCode → SCode
  | n + 1, .seq _ b => SCode.rest n b
  | _, c => c
noncomputable def bothB (g : Bool → Bool) : Bool := match g true with
  | true => g false
  | false => false
theorem bothB_ok {g : Bool → Bool} (h : bothB g = true) (b : Bool) : g b = true := by
  have h' : (match g true with | true => g false | false => false) = true := h
  split at h'
  · rename_i h1
    cases b
    · exact h'
    · exact h1
  · cases h'
noncomputable def lsts (n : Nat) (g : Value → Heap → Bool) : Bool := match g (.slice none 0 0) (flatH []) with
  | true => match g (.slice (some ⟨0, 0, none⟩) 0 0) (flatH []) with
    | true => allL n fun l => g (.slice (some ⟨1, 0, none⟩) l.length 1) (flatH [l])
    | false => false
  | false => false
/-- A slice of bools that is a flat argument, the only one. -/
def BoolsIn (v : Value) (L : List (List Value)) : Prop := ((v = .slice none 0 0 ∨ v = .slice (some ⟨0, 0, none⟩) 0 0) ∧ L = []) ∨ ∃ l, v = .slice (some ⟨1, 0, none⟩) l.length 1 ∧ L = [l] ∧ ∀ c ∈ l, ∃ b, c = .bool b
theorem BoolsIn.nof {v : Value} {L : List (List Value)} (b : BoolsIn v L) : ∃ a n c, v = .slice a n c := by
  rcases b with ⟨rfl | rfl, _⟩ | ⟨l, rfl, _, _⟩
  · exact ⟨_, _, _, rfl⟩
  · exact ⟨_, _, _, rfl⟩
  · exact ⟨_, _, _, rfl⟩
theorem lsts_ok {n : Nat} {g : Value → Heap → Bool} (h : lsts n g = true) {a : Option Addr} {m c : Nat} {L : List (List Value)} (hv : BoolsIn (.slice a m c) L) (hm : m ≤ n) : g (.slice a m c) (flatH L) = true := by
  have h' : (match g (.slice none 0 0) (flatH []) with | true => (match g (.slice (some ⟨0, 0, none⟩) 0 0) (flatH []) with | true => allL n (fun l => g (.slice (some ⟨1, 0, none⟩) l.length 1) (flatH [l])) | false => false) | false => false) = true := h
  split at h'
  · rename_i h1
    split at h'
    · rename_i h2
      rcases hv with ⟨e | e, rfl⟩ | ⟨l, e, rfl, hl⟩
      · rw [e]; exact h1
      · rw [e]; exact h2
      · have hml : m = l.length := by injection e
        rw [e]
        exact allL_ok h' l (by omega) hl
    · cases h'
  · cases h'
theorem bools_in {P : Program} {t e : TypeId} {ts : List TypeId} {vs : List Value} {L : List (List Value)} (ht : P.underlying t = some (.slice e)) (he : P.underlying e = some .bool) (hG : FlatG P 0 (t :: ts) vs L) (hts : ∀ k r L', FlatG P k ts r L' → L' = []) :
    ∃ v r k, vs = v :: r ∧ BoolsIn v L ∧ FlatG P k ts r [] := by
  unfold FlatG at hG
  obtain ⟨v, r, rfl, hG⟩ := hG
  rw [ht] at hG
  rcases hG with ⟨hv, hF⟩ | ⟨l, L2, rfl, rfl, hl, hF⟩
  · obtain rfl := hts _ _ _ hF
    exact ⟨_, _, _, rfl, .inl ⟨hv, rfl⟩, hF⟩
  · obtain rfl := hts _ _ _ hF
    refine ⟨_, _, _, rfl, .inr ⟨l, rfl, rfl, fun c hc => ?_⟩, hF⟩
    have := hl c hc
    unfold ScalG at this
    rw [he] at this
    exact this
theorem flat_scals {P : Program} : ∀ (ts : List TypeId), (∀ t ∈ ts, ∀ e, P.underlying t ≠ some (.slice e)) → ∀ (k : Nat) (r : List Value) (L : List (List Value)), FlatG P k ts r L → L = []
  | [], _, k, r, L, h => h.2
  | t :: ts, hn, k, r, L, h => by
    obtain ⟨v, r', rfl, h2⟩ := h
    split at h2
    · rename_i e he; exact absurd he (hn t (by simp) e)
    · exact flat_scals ts (fun t ht => hn t (by simp [ht])) k r' L h2.2
end Go.Dx
