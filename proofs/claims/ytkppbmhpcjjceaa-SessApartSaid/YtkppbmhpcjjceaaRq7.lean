/- Requests: plain law. -/
import Derived.Test.YtkppbmhpcjjceaaRq4
namespace Go.Dx.SYtkppbmhpcjjceaa
open Go.Proofs
set_option linter.unusedVariables false
set_option linter.unusedSimpArgs false

abbrev M64 : Nat := 18446744073709551616
structure Rq where
  kind : Nat
  tok : Nat
  han : Nat
  name : List Nat
  body : List Nat
  args : List Nat
  tic : Nat
  oth : Nat
deriving DecidableEq
def Rq.zero : Rq := ⟨0, 0, 0, [], [], [], 0, 0⟩

/-- A reader of something that was put. -/
structure Rds {α : Type} (g : Rd → α × Rd) (e : List Nat) (v : α) : Prop where
  ok : ∀ r, g (e ++ r, 0) = (v, r, 0)
  cut : ∀ k, k < e.length → (g (e.take k, 0)).2.2 = 3
  st : ∀ s, s.2 ≠ 0 → (g s).2 = s
theorem Rds.seq {α β : Type} {g : Rd → α × Rd} {g' : Rd → β × Rd} {e e' : List Nat} {v : α} {v' : β} (A : Rds g e v) (B : Rds g' e' v') :
    Rds (fun s => (((g s).1, (g' (g s).2).1), (g' (g s).2).2)) (e ++ e') (v, v') := by
  refine ⟨fun r => ?_, fun k hk => ?_, fun s h => ?_⟩
  · rw [List.append_assoc]
    simp only [A.ok, B.ok]
  · show (g' (g ((e ++ e').take k, 0)).2).2.2 = 3
    by_cases hl : e.length ≤ k
    · rw [take_in hl, A.ok]
      exact B.cut _ (by rw [List.length_append] at hk; omega)
    · have h3 := A.cut k (by omega)
      rw [take_out (by omega), B.st _ (by rw [h3]; decide)]
      exact h3
  · show (g' (g s).2).2 = s
    rw [A.st s h, B.st s h]
theorem Rds.map {α β : Type} {g : Rd → α × Rd} {e : List Nat} {v : α} (A : Rds g e v) (f : α → β) : Rds (fun s => (f (g s).1, (g s).2)) e (f v) :=
  ⟨fun r => by simp only [A.ok], fun k hk => A.cut k hk, fun s h => A.st s h⟩

theorem Rds.number {v : Nat} (h : v < M64) : Rds numberS (encU v) v := ⟨fun r => number_ok h, fun k hk => number_cut h hk, fun s q => by rw [stick_number q]⟩
theorem Rds.numbers {vs : List Nat} (h8 : vs.length ≤ 8) (h : ∀ v ∈ vs, v < M64) : Rds numbersS (encL vs) vs := ⟨fun r => numbers_ok h8 h, fun k hk => numbers_cut h8 h hk, fun s q => by rw [stick_numbers q]⟩
theorem Rds.fixed8 {v : Nat} (h : v < M64) : Rds (fixedS 8) (enc8 v) v :=
  ⟨fun r => fixed8_ok h, fun k hk => by rw [enc8_len] at hk; rw [fixed_cut (by rw [List.length_take, enc8_len]; omega)], fun s q => by rw [stick_fixed q]⟩
def nameS (s : Rd) : List Nat × Rd := bytesS (countS 32 s).1 (countS 32 s).2
def encN (n : List Nat) : List Nat := encU n.length ++ n
theorem Rds.name {n : List Nat} (h : n.length ≤ 32) : Rds nameS (encN n) n := by
  refine ⟨fun r => ?_, fun k hk => ?_, fun s q => ?_⟩
  · unfold nameS encN
    rw [List.append_assoc, count_ok h (by decide)]
    exact bytes_ok
  · unfold nameS
    unfold encN at hk ⊢
    by_cases hl : (encU n.length).length ≤ k
    · rw [take_in hl, count_ok h (by decide)]
      have hc := bytes_cut (xs := n.take (k - (encU n.length).length)) (n := n.length) (by rw [List.length_take]; rw [List.length_append] at hk; omega)
      show (bytesS n.length (n.take _, 0)).2.2 = 3
      rw [hc]
    · have h3 := count_cut h (by decide) (show k < (encU n.length).length by omega)
      rw [take_out (by omega), stick_bytes (by rw [h3]; decide)]
      exact h3
  · unfold nameS
    rw [stick_count q, stick_bytes q]

def bodyS (k t : Nat) (s : Rd) : Rq × Rd := match k with
  | 1 => (⟨1, t, 0, [], (bytesS s.1.length s).1, [], 0, 0⟩, (bytesS s.1.length s).2)
  | 2 => (⟨2, t, (numberS s).1, (nameS (numberS s).2).1, [], [], 0, 0⟩, (nameS (numberS s).2).2)
  | 3 => (⟨3, t, 0, (nameS s).1, [], [], 0, 0⟩, (nameS s).2)
  | 4 => (⟨4, t, (numberS s).1, (nameS (numberS s).2).1, [], (numbersS (nameS (numberS s).2).2).1, (numberS (numbersS (nameS (numberS s).2).2).2).1, 0⟩, (numberS (numbersS (nameS (numberS s).2).2).2).2)
  | 5 => (⟨5, t, (numberS s).1, [], [], [], 0, 0⟩, (numberS s).2)
  | 6 => (⟨6, t, 0, [], [], [], 0, (fixedS 8 s).1⟩, (fixedS 8 s).2)
  | k => (⟨k, t, 0, [], [], [], 0, 0⟩, s)
def kindS (s : Rd) : Nat × Rd := ((fixedS 1 s).1, failS (decide ((fixedS 1 s).1 < 1 ∨ (fixedS 1 s).1 > 6)) 2 (fixedS 1 s).2)
def allS (xs : List Nat) : Rq × Rd := bodyS (kindS (xs, 0)).1 (fixedS 8 (kindS (xs, 0)).2).1 (fixedS 8 (kindS (xs, 0)).2).2
def takeQ (xs : List Nat) : Rq × Int := if (endS (allS xs).2).2 ≠ 0 then (Rq.zero, (endS (allS xs).2).2) else ((allS xs).1, 0)

def encB (r : Rq) : List Nat := match r.kind with
  | 1 => r.body
  | 2 => encU r.han ++ encN r.name
  | 3 => encN r.name
  | 4 => encU r.han ++ (encN r.name ++ (encL r.args ++ encU r.tic))
  | 5 => encU r.han
  | 6 => enc8 r.oth
  | _ => []
def normQ (r : Rq) : Rq := match r.kind with
  | 1 => ⟨1, r.tok, 0, [], r.body, [], 0, 0⟩
  | 2 => ⟨2, r.tok, r.han, r.name, [], [], 0, 0⟩
  | 3 => ⟨3, r.tok, 0, r.name, [], [], 0, 0⟩
  | 4 => ⟨4, r.tok, r.han, r.name, [], r.args, r.tic, 0⟩
  | 5 => ⟨5, r.tok, r.han, [], [], [], 0, 0⟩
  | 6 => ⟨6, r.tok, 0, [], [], [], 0, r.oth⟩
  | k => ⟨k, r.tok, 0, [], [], [], 0, 0⟩
def encQ (r : Rq) : List Nat := [r.kind] ++ (enc8 r.tok ++ encB r)
structure Rq.Ok (r : Rq) : Prop where
  k1 : 1 ≤ r.kind
  k6 : r.kind ≤ 6
  t : r.tok < M64
  h : r.han < M64
  n : r.name.length ≤ 32
  nb : ∀ x ∈ r.name, x < 256
  b : r.body.length ≤ 300
  bb : ∀ x ∈ r.body, x < 256
  a : r.args.length ≤ 8
  ab : ∀ x ∈ r.args, x < M64
  c : r.tic < M64
  o : r.oth < M64
theorem Rds.kind {k : Nat} (h1 : 1 ≤ k) (h6 : k ≤ 6) : Rds kindS [k] k := by
  have hd : decide (k < 1 ∨ k > 6) = false := by simp; omega
  refine ⟨fun r => ?_, fun i hi => ?_, fun s q => ?_⟩
  · unfold kindS
    rw [List.singleton_append, fixed1_ok (by omega)]
    simp only [hd, fail_no]
  · have : i = 0 := by simpa using hi
    subst this
    unfold kindS
    rw [List.take_zero, fixed_cut (by decide)]
    rfl
  · unfold kindS
    rw [stick_fixed q, stick_fail q]
theorem bodyS_Rds {r : Rq} (k : r.Ok) (h1 : r.kind ≠ 1) : Rds (bodyS r.kind r.tok) (encB r) (normQ r) := by
  have hk1 := k.k1
  have hk6 := k.k6
  have hh : r.kind = 2 ∨ r.kind = 3 ∨ r.kind = 4 ∨ r.kind = 5 ∨ r.kind = 6 := by omega
  unfold encB normQ
  rcases hh with e | e | e | e | e <;> rw [e]
  · exact ((Rds.number k.h).seq (Rds.name k.n)).map fun x => (⟨2, r.tok, x.1, x.2, [], [], 0, 0⟩ : Rq)
  · exact (Rds.name k.n).map fun x => (⟨3, r.tok, 0, x, [], [], 0, 0⟩ : Rq)
  · have A := ((Rds.number k.h).seq ((Rds.name k.n).seq ((Rds.numbers k.a k.ab).seq (Rds.number k.c))))
    exact A.map fun x => (⟨4, r.tok, x.1, x.2.1, [], x.2.2.1, x.2.2.2, 0⟩ : Rq)
  · exact (Rds.number k.h).map fun x => (⟨5, r.tok, x, [], [], [], 0, 0⟩ : Rq)
  · exact (Rds.fixed8 k.o).map fun x => (⟨6, r.tok, 0, [], [], [], 0, x⟩ : Rq)
theorem allS_enc {r : Rq} (k : r.Ok) (h1 : r.kind ≠ 1) (m : List Nat) : allS (encQ r ++ m) = (normQ r, m, 0) := by
  unfold allS encQ
  rw [List.append_assoc, (Rds.kind k.k1 k.k6).ok]
  simp only []
  rw [List.append_assoc, (Rds.fixed8 k.t).ok]
  exact (bodyS_Rds k h1).ok m
theorem allS_enc1 {r : Rq} (k : r.Ok) (h1 : r.kind = 1) : allS (encQ r) = (normQ r, [], 0) := by
  unfold allS encQ
  rw [(Rds.kind k.k1 k.k6).ok]
  simp only []
  rw [(Rds.fixed8 k.t).ok]
  unfold encB normQ
  rw [h1]
  have hb := bytes_ok (xs := r.body) (r := [])
  rw [List.append_nil] at hb
  show ((⟨1, r.tok, 0, [], (bytesS r.body.length (r.body, 0)).1, [], 0, 0⟩ : Rq), (bytesS r.body.length (r.body, 0)).2) = _
  rw [hb]; rfl
theorem takeQ_enc {r : Rq} (k : r.Ok) : takeQ (encQ r) = (normQ r, 0) := by
  have h : allS (encQ r) = (normQ r, [], 0) := by
    by_cases h1 : r.kind = 1
    · exact allS_enc1 k h1
    · have := allS_enc k h1 []
      rwa [List.append_nil] at this
  unfold takeQ
  rw [h]
  simp [endS, failS]
theorem takeQ_more {r : Rq} (k : r.Ok) (h1 : r.kind ≠ 1) (x : Nat) : (takeQ (encQ r ++ [x])).2 = 2 := by
  unfold takeQ
  rw [allS_enc k h1 [x]]
  simp [endS, failS]
theorem bodyS_st (k t : Nat) (s : Rd) (h : s.2 ≠ 0) : (bodyS k t s).2 = s := by
  unfold bodyS
  split
  · rw [stick_bytes h]
  · rw [stick_number h]; unfold nameS; rw [stick_count h, stick_bytes h]
  · unfold nameS; rw [stick_count h, stick_bytes h]
  · have hn : nameS s = ([], s) := by unfold nameS; rw [stick_count h, stick_bytes h]
    rw [stick_number h, hn, stick_numbers h, stick_number h]
  · rw [stick_number h]
  · rw [stick_fixed h]
  · rfl
theorem takeQ_cut {r : Rq} (k : r.Ok) (h1 : r.kind ≠ 1) {i : Nat} (hi : i < (encQ r).length) : (takeQ ((encQ r).take i)).2 = 3 := by
  have key : (allS ((encQ r).take i)).2.2 = 3 := by
    unfold allS
    unfold encQ at hi ⊢
    by_cases hl : [r.kind].length ≤ i
    · rw [take_in hl, (Rds.kind k.k1 k.k6).ok]
      have hi' : i - [r.kind].length < (enc8 r.tok ++ encB r).length := by rw [List.length_append] at hi; omega
      generalize i - [r.kind].length = j at hi' ⊢
      simp only []
      by_cases hj : (enc8 r.tok).length ≤ j
      · rw [take_in hj, (Rds.fixed8 k.t).ok]
        exact (bodyS_Rds k h1).cut _ (by rw [List.length_append] at hi'; omega)
      · have h3 := (Rds.fixed8 k.t).cut j (by omega)
        rw [take_out (by omega), bodyS_st _ _ _ (by rw [h3]; decide)]
        exact h3
    · have h3 := (Rds.kind k.k1 k.k6).cut i (by omega)
      have h4 : (kindS (List.take i ([r.kind] ++ (enc8 r.tok ++ encB r)), 0)).2.2 = 3 := by rw [take_out (by omega)]; exact h3
      generalize kindS (List.take i ([r.kind] ++ (enc8 r.tok ++ encB r)), 0) = s at h4 ⊢
      rw [stick_fixed (s := s.2) (by rw [h4]; decide), bodyS_st _ _ _ (by rw [h4]; decide)]
      exact h4
  unfold takeQ
  have he : endS (allS ((encQ r).take i)).2 = (allS ((encQ r).take i)).2 := stick_end (by rw [key]; decide)
  rw [he, if_pos (by rw [key]; decide)]
  exact key

theorem norm_idem (r : Rq) : normQ (normQ r) = normQ r := by
  obtain ⟨k, t, h, n, b, a, c, o⟩ := r
  match k with
  | 0 => rfl
  | 1 => rfl
  | 2 => rfl
  | 3 => rfl
  | 4 => rfl
  | 5 => rfl
  | 6 => rfl
  | k + 7 => rfl
theorem enc_norm (r : Rq) : encQ (normQ r) = encQ r := by
  obtain ⟨k, t, h, n, b, a, c, o⟩ := r
  match k with
  | 0 => rfl
  | 1 => rfl
  | 2 => rfl
  | 3 => rfl
  | 4 => rfl
  | 5 => rfl
  | 6 => rfl
  | k + 7 => rfl
theorem encQ_inj {a b : Rq} (ka : a.Ok) (kb : b.Ok) : encQ a = encQ b ↔ normQ a = normQ b := by
  constructor
  · intro h
    have h1 := takeQ_enc ka
    rw [h, takeQ_enc kb] at h1
    exact (congrArg Prod.fst h1).symm
  · intro h
    rw [← enc_norm a, ← enc_norm b, h]
end Go.Dx.SYtkppbmhpcjjceaa
