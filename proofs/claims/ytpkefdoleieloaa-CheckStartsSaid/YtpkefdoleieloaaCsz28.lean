/- A deterministic reading of the model's code: parts of slices, clearing, copying. -/
import Derived.Test.YtpkefdoleieloaaCsz27
namespace Go.Dx
set_option linter.unusedVariables false
set_option linter.unusedSimpArgs false
theorem Blk.at {id off i : Nat} {sp : Option Nat} : Blk (Option.some ⟨id,off,sp⟩) i ↔ id = i := Blk.some
def shift (a : Option Addr) (m : Nat) : Option Addr := a.map fun p => { p with off := p.off + m }
theorem shift_blk {a : Option Addr} {m i : Nat} : Blk (shift a m) i ↔ Blk a i := by
  cases a with
  | none => exact Iff.rfl
  | some p => unfold shift; simp only [Option.map_some,Blk.some]
theorem bounds_lo {n : Nat} {k : IntKind} {i : Nat} (h : i ≤ n) : Yz n n (some (.int k i)) none = some (i,n) := by
  simp only [Yz,hiOf,Gj,Ur]
  rw [if_pos ⟨by omega,by omega⟩]; rfl
theorem Qq {n : Nat} {k : IntKind} {i : Nat} (h : i ≤ n) : Yz n n none (some (.int k i)) = some (0,i) := by
  simp only [Yz,hiOf,Gj,Ur]
  rw [if_pos ⟨by omega,by omega⟩]; rfl
theorem slOk_shift {h : Heap} {sz n c m n' : Nat} {a : Option Addr} (ho : Jy h sz (.slice a n c) = true) : Jy h sz (.slice (shift a m) n' c) = true := by
  cases a with
  | none => rfl
  | some p => obtain ⟨id,off,sp⟩ := p; cases sp <;> exact ho
theorem SlA.sub {h : Heap} {sz n c : Nat} {a : Option Addr} {l : List Value} (s : SlA h sz a n c l) {i j : Nat} (hij : i ≤ j) (hj : j ≤ n) : SlA h sz (shift a (i * sz)) (j - i) c ((l.drop (i * sz)).take ((j - i) * sz)) := by
  have h1 : i * sz + (j - i) * sz = j * sz := by rw [← Nat.add_mul]; congr 1; omega
  have h2 : j * sz ≤ n * sz := Nat.mul_le_mul_right _ hj
  refine ⟨by rw [List.length_take,List.length_drop,s.len]; omega,fun q => ?_,fun p hp => ?_,slOk_shift s.ok,fun p hp => ?_⟩
  · cases a with
    | none => have := s.nil rfl; omega
    | some p => cases q
  · cases a with
    | none => cases hp
    | some p => cases hp; exact s.spot p rfl
  · cases a with
    | none => cases hp
    | some p0 =>
      cases hp
      by_cases h0 : j - i = 0
      · exact .inl h0
      · rcases s.get _ rfl with q | q
        · omega
        · obtain ⟨vs,e,ro,g,hl,rfl⟩ := rd_some q
          refine .inr ?_
          rw [rd_mk g (by simp only; omega)]
          congr 1
          rw [List.drop_take,List.take_take,List.drop_drop]
          simp only
          congr 1
          omega
theorem OwS.sub {h : Heap} {sz n c : Nat} {a : Option Addr} {l : List Value} (s : OwS h sz a n c l) {i j : Nat} (hij : i ≤ j) (hj : j ≤ n) : OwS h sz (shift a (i * sz)) (j - i) c ((l.drop (i * sz)).take ((j - i) * sz)) := by
  have h1 : i * sz + (j - i) * sz = j * sz := by rw [← Nat.add_mul]; congr 1; omega
  have h2 : j * sz ≤ n * sz := Nat.mul_le_mul_right _ hj
  refine ⟨(s.sl.sub hij hj).len,?_⟩
  rcases s.ex with ⟨rfl,rfl,rfl⟩ | ⟨id,off,vs,rfl,g,hl,rfl⟩
  · exact .inl ⟨rfl,by omega,rfl⟩
  · refine .inr ⟨id,off + i * sz,vs,rfl,g,by omega,?_⟩
    rw [List.drop_take,List.take_take,List.drop_drop]
    congr 1
    omega
section
variable {P : Program} {d : Option Nat} {r : List SOp} {e : Env} {h : Heap} {Q : Env → Heap → Prop}
theorem Jo {sz n c l hh : Nat} {x : Arg} {lo hi : Option Arg} {a : Option Addr} {lov hiv : Option Value} (hx : x.ev e = some (.slice a n c)) (hlo : Zr e lo = some lov) (hhi : Zr e hi = some hiv) (ok : Jy h sz (.slice a n c) = true) (hb : Yz n n lov hiv = some (l,hh))
    (hq : Xd P r (e.put d (.slice (shift a (l * sz)) (hh - l) c)) h Q) : Xd P (⟨d,none,.slV sz x lo hi none⟩ :: r) e h Q := by
  refine Wa (v := .slice (shift a (l * sz)) (hh - l) c) (h' := h) rfl ?_ hq
  have ho : Zr e none = some none := rfl
  simp only [SO.run,hx,hlo,hhi,ho,slVV,slB,ok,Bool.not_true,cond_false,hb,Option.map_some,shift]
end
end Go.Dx
namespace Go.Dx
set_option linter.unusedVariables false
set_option linter.unusedSimpArgs false
section
variable {P : Program} {d : Option Nat} {r : List SOp} {e : Env} {h : Heap} {Q : Env → Heap → Prop}
theorem SlA.same {sz n c : Nat} {a : Option Addr} {l : List Value} (s : SlA h sz a n c l) : Yq (.slice a n c) (.slice a n c) = true := by
  cases a with
  | none => obtain ⟨rfl,rfl⟩ := s.nil rfl; rfl
  | some p =>
    obtain ⟨id,off,sp⟩ := p
    obtain rfl : sp = .none := s.spot _ rfl
    simp [Yq,Ys]
theorem Yn {off id ez n t : Nat} {a : Arg} {vs : List Value} {ro : Bool} {v : Value} (ha : a.ev e = some (.pointer (some ⟨id,off,none⟩))) (ht : e.get t = some v) (hg : h.get id = some (.cells vs ez ro)) (hv : vs[off]? = some v) (hs : Yq v v = true) (hq : Xd P r (e.put d Xl) h Q) :
    Xd P (⟨d,none,.chk n false a t⟩ :: r) e h Q := by
  refine Wa (v := Xl) (h' := h) rfl ?_ hq
  simp only [SO.run,ha,ht,ldV,hg,hv,hs,cond_true]
end
end Go.Dx
