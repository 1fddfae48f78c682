import Derived.Test.YtcpalnmodbbklaaDoorHscan7
import Derived.Test.YtcpalnmodbbklaaDoorPf21
/- What scan.Words makes of a text, in plain words. -/
namespace Go.Proofs.YtcpalnmodbbklaaDoor.P
set_option linter.unusedVariables false
set_option linter.unusedSimpArgs false
open Go.RowKit Go.Proofs.YtcpalnmodbbklaaDoorW.PrintWords Go.Proofs.YtcpalnmodbbklaaDoorW.PrintLast Go.Proofs.YtcpalnmodbbklaaDoorW.PrintMore

def stepS (σ : Sc) (c : Int) : Sc × Int := match σ.md with
  | .btw => stepB σ c
  | .pln => stepP σ c
  | .quo => stepQ σ c
  | .esc => stepE σ c
  | .com => stepC σ c
/-- what holds of a state behind so many runes -/
structure Inv (σ : Sc) (n : Nat) : Prop where
  w : σ.wd.length ≤ n
  t : σ.tx.length ≤ n
  p : σ.md = .pln → (σ.gk = 1 ∨ σ.gk = 2) ∧ σ.wd ≠ []
  q : σ.md = .quo → σ.wd ≠ []
  e : σ.md = .esc → σ.wd ≠ []
  l : 1 ≤ σ.ln ∧ σ.ln ≤ n + 1
  c : 1 ≤ σ.cl ∧ σ.cl ≤ n + 1
theorem withText_length (l : List SW) (t : ByteArray) : (withText l t).length = l.length := by
  by_cases h : l = []
  · subst h; rfl
  · obtain ⟨wl, x, rfl⟩ := wd_snoc h
    rw [withText_snoc]; simp
theorem withText_ne {l : List SW} {t : ByteArray} (h : l ≠ []) : withText l t ≠ [] := by
  intro e
  have := withText_length l t
  rw [e] at this
  exact h (List.eq_nil_of_length_eq_zero this.symm)
/-- a step keeps line and column, and the state's bounds -/
structure Stepped (σ τ : Sc) (n : Nat) : Prop where
  ln : τ.ln = σ.ln
  cl : τ.cl = σ.cl
  w : τ.wd.length ≤ n + 1
  t : τ.tx.length ≤ n + 1
  p : τ.md = .pln → (τ.gk = 1 ∨ τ.gk = 2) ∧ τ.wd ≠ []
  q : τ.md = .quo → τ.wd ≠ []
  e : τ.md = .esc → τ.wd ≠ []
theorem Stepped.same {σ : Sc} {n : Nat} (h : Inv σ n) : Stepped σ σ n := ⟨rfl, rfl, Nat.le_succ_of_le h.w, Nat.le_succ_of_le h.t, h.p, h.q, h.e⟩
theorem stepB_ok (σ : Sc) (c : Int) (n : Nat) (hw : σ.wd.length ≤ n) (ht : σ.tx.length ≤ n + 1) (hm : σ.md = .btw) : Stepped σ (stepB σ c).1 n := by
  unfold stepB
  split
  · exact ⟨rfl, rfl, Nat.le_succ_of_le hw, ht, fun h => (by rw [hm] at h; cases h), fun h => (by rw [hm] at h; cases h), fun h => (by rw [hm] at h; cases h)⟩
  split
  · exact ⟨rfl, rfl, Nat.le_succ_of_le hw, ht, fun h => (by cases h), fun h => (by cases h), fun h => (by cases h)⟩
  split
  · exact ⟨rfl, rfl, by simp [beginS]; omega, by simp [beginS], fun _ => ⟨Or.inl rfl, (by simp [beginS])⟩, fun h => (by cases h), fun h => (by cases h)⟩
  split
  · exact ⟨rfl, rfl, by simp [beginS]; omega, by simp [beginS], fun _ => ⟨Or.inr rfl, (by simp [beginS])⟩, fun h => (by cases h), fun h => (by cases h)⟩
  split
  · exact ⟨rfl, rfl, by simp [beginS]; omega, by simp [beginS], fun h => (by cases h), fun _ => (by simp [beginS]), fun h => (by cases h)⟩
  split
  · exact ⟨rfl, rfl, by simp [beginS, endS, withText_length]; omega, by simp [beginS, endS], fun h => (by cases h), fun h => (by cases h), fun h => (by cases h)⟩
  · exact ⟨rfl, rfl, Nat.le_succ_of_le hw, ht, fun h => (by rw [hm] at h; cases h), fun h => (by rw [hm] at h; cases h), fun h => (by rw [hm] at h; cases h)⟩
theorem stepS_ok (σ : Sc) (c : Int) (n : Nat) (h : Inv σ n) : Stepped σ (stepS σ c).1 n := by
  obtain ⟨md, wd, gk, tx, ln, cl⟩ := σ
  have hw : wd.length ≤ n := h.w
  have ht : tx.length ≤ n := h.t
  cases md with
  | btw => exact stepB_ok _ c n h.w (Nat.le_succ_of_le h.t) rfl
  | pln =>
    have hp := h.p rfl
    unfold stepS stepP
    dsimp only
    split
    · exact ⟨rfl, rfl, Nat.le_succ_of_le hw, by simp; omega, fun _ => hp, fun h => (by cases h), fun h => (by cases h)⟩
    split
    · have := stepB_ok (endS ⟨.pln, wd, gk, tx, ln, cl⟩) c n (by show (withText wd _).length ≤ n; rw [withText_length]; exact hw) (Nat.le_succ_of_le ht) rfl
      exact ⟨this.ln, this.cl, this.w, this.t, this.p, this.q, this.e⟩
    · exact Stepped.same h
  | quo =>
    have hq := h.q rfl
    unfold stepS stepQ
    dsimp only
    split
    · exact Stepped.same h
    split
    · exact Stepped.same h
    split
    · exact ⟨rfl, rfl, Nat.le_succ_of_le hw, Nat.le_succ_of_le ht, fun h => (by cases h), fun h => (by cases h), fun _ => hq⟩
    split
    · exact ⟨rfl, rfl, by show (withText wd _).length ≤ _; rw [withText_length]; exact Nat.le_succ_of_le hw, Nat.le_succ_of_le ht, fun h => (by cases h), fun h => (by cases h), fun h => (by cases h)⟩
    · exact ⟨rfl, rfl, Nat.le_succ_of_le hw, by simp; omega, fun h => (by cases h), fun _ => hq, fun h => (by cases h)⟩
  | esc =>
    have he := h.e rfl
    unfold stepS stepE
    dsimp only
    split
    · exact Stepped.same h
    split
    · exact ⟨rfl, rfl, Nat.le_succ_of_le hw, by simp; omega, fun h => (by cases h), fun _ => he, fun h => (by cases h)⟩
    · exact Stepped.same h
  | com =>
    unfold stepS stepC
    dsimp only
    split
    · exact ⟨rfl, rfl, Nat.le_succ_of_le hw, Nat.le_succ_of_le ht, fun h => (by cases h), fun h => (by cases h), fun h => (by cases h)⟩
    · exact Stepped.same h
/-- behind a rune: the next place -/
def moveS (σ : Sc) (c : Int) : Sc := if c = 10 then { σ with ln := σ.ln + 1, cl := 1 } else { σ with cl := σ.cl + 1 }
theorem moveS_ok {σ τ : Sc} {c : Int} {n : Nat} (h : Inv σ n) (k : Stepped σ τ n) : Inv (moveS τ c) (n + 1) := by
  have hl := h.l
  have hc := h.c
  have h1 := k.ln
  have h2 := k.cl
  unfold moveS
  split
  · exact ⟨k.w, k.t, k.p, k.q, k.e, by dsimp only; omega, by dsimp only; omega⟩
  · exact ⟨k.w, k.t, k.p, k.q, k.e, by dsimp only; omega, by dsimp only; omega⟩
theorem next_calls (w0 W : World) (g it : Nat) (io : Obj) (σ : Sc) (c : Int) (n : Nat) (h0 : 0 ≤ c) (h1 : c ≤ 1114111) (H : SCs w0 W g it io σ) (hI : Inv σ n) (hn : n ≤ 90000) :
    Calls Tryd.prog (fnOf σ.md) #[.pointer (some ⟨g, 0, none⟩), .int .i32 c] W (Post w0 g it io (stepS σ c)) := by
  have hw := hI.w
  have ht := hI.t
  obtain ⟨md, wd, gk, tx, ln, cl⟩ := σ
  cases md with
  | btw => exact between_calls w0 W g it io _ c h0 h1 H (by omega)
  | pln =>
    obtain ⟨hg, hne⟩ := hI.p rfl
    rcases hg with hg | hg
    · exact plain_name w0 W g it io _ c h0 h1 H rfl hg hne (by omega) (by omega)
    · exact plain_number w0 W g it io _ c h0 h1 H rfl hg hne (by omega) (by omega)
  | quo => exact quoted_calls w0 W g it io _ c h0 h1 H rfl (hI.q rfl) (by omega) (by omega)
  | esc => exact escaped_calls w0 W g it io _ c h0 h1 H (by omega)
  | com => exact comment_calls w0 W g it io _ c h0 h1 H
/-- is there no rune at a byte? -/
def oddB (s : ByteArray) (pos : Nat) : Bool := decide ((Utf8.decode s pos).1 = 65533) && decide ((Utf8.decode s pos).2 = 1)
theorem decode_range (s : ByteArray) (pos : Nat) : (Utf8.decode s pos).1 ≤ 1114111 ∧ 1 ≤ (Utf8.decode s pos).2 ∧ (Utf8.decode s pos).2 ≤ 4 := by
  unfold Utf8.decode Utf8.runeError
  simp only
  split
  · dsimp only; omega
  split
  · split <;> dsimp only <;> omega
  split
  · split <;> dsimp only <;> omega
  split
  · split
    · rename_i h
      simp only [Bool.and_eq_true, decide_eq_true_eq] at h
      have := h.2
      unfold Utf8.valid at this
      simp at this
      simp only [Nat.add_zero]
      omega
    · dsimp only; omega
  · dsimp only; omega
/-- a text's words: or where it is wrong, and how -/
def wordsGo (s : ByteArray) : Nat → Nat → Sc → List SW × Int × Int × Int
  | 0, _, σ => ([], σ.ln, σ.cl, 4)
  | k + 1, pos, σ =>
    if pos < s.size then
      if oddB s pos = true then ([], σ.ln, σ.cl, 4)
      else if (stepS σ (Utf8.decode s pos).1).2 = 0 then wordsGo s k (pos + (Utf8.decode s pos).2) (moveS (stepS σ (Utf8.decode s pos).1).1 (Utf8.decode s pos).1)
      else ([], σ.ln, σ.cl, (stepS σ (Utf8.decode s pos).1).2)
    else if (stepS σ 10).2 = 0 then ((stepS σ 10).1.wd, 0, 0, 0) else ([], σ.ln, σ.cl, (stepS σ 10).2)
def sc0 : Sc := ⟨.btw, [], 0, [], 1, 1⟩
def wordsF (s : ByteArray) : List SW × Int × Int × Int := if s.size ≤ 65536 then wordsGo s (s.size + 1) 0 sc0 else ([], 0, 0, 5)
def scan_Words.f (s : ByteArray) : Option (List SW × Int × Int × Int) := if s.size ≤ 9223372036854775807 then some (wordsF s) else none
theorem inv0 : Inv sc0 0 := ⟨Nat.le_refl _, Nat.le_refl _, fun h => (by cases h), fun h => (by cases h), fun h => (by cases h), by decide, by decide⟩
end Go.Proofs.YtcpalnmodbbklaaDoor.P
