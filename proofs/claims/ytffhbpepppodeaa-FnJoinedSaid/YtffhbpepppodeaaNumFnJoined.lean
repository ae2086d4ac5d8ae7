/-
  Numbers of seven bits a byte: how they are written and read, as lists.
-/
import Derived.Test.YtffhbpepppodeaaBytesFnJoined
namespace Go.Proofs.Ytffhbpepppodeaa.Base
open Go.RowKit Go.Proofs.YtffhbpepppodeaaW.PrintWords Go.Proofs.YtffhbpepppodeaaW.PrintMore

/-- A number's bytes; d bounds how many. -/
def puts : Nat → Int → List Int
  | 0, _ => []
  | d + 1, v => if v > 127 then (128 + v % 128) :: puts d (v / 128) else [v]
/-- The number at the head of a list: itself and how many bytes it takes; d bounds them. -/
def pn : Nat → List Int → Option (Int × Nat)
  | 0, _ => none
  | _ + 1, [] => none
  | d + 1, c :: r => if c < 128 then some (c, 1) else (pn d r).map fun x => (c - 128 + 128 * x.1, x.2 + 1)
def val : List Int → Int
  | [] => 0
  | c :: r => c % 128 + 128 * val r
/-- As few bytes as can be: the last one is not 0, or there is one alone. -/
def least (t : List Int) : Prop := t.length = 1 ∨ t.getLast? ≠ some 0
instance (t : List Int) : Decidable (least t) := by unfold least; infer_instance
/-- All but the last have their highest bit set, the last has not. -/
def form : List Int → Prop
  | [] => False
  | [c] => c < 128
  | c :: r => 128 ≤ c ∧ form r
theorem form_cons {c : Int} {r : List Int} (hr : r ≠ []) : form (c :: r) ↔ 128 ≤ c ∧ form r := by
  cases r with
  | nil => exact absurd rfl hr
  | cons a b => exact Iff.rfl
theorem val_nonneg (t : List Int) : 0 ≤ val t := by
  induction t with
  | nil => exact Int.le_refl _
  | cons c r ih => simp only [val]; omega
theorem val_lt (t : List Int) : val t < 128 ^ t.length := by
  induction t with
  | nil => simp [val]
  | cons c r ih =>
    simp only [val, List.length_cons, Int.pow_succ]
    omega
theorem pn_some {d : Nat} {l : List Int} {v : Int} {n : Nat} (hb : Bytes l) (h : pn d l = some (v, n)) : n ≤ d ∧ 1 ≤ n ∧ n ≤ l.length ∧ form (l.take n) ∧ v = val (l.take n) := by
  induction d generalizing l v n with
  | zero => simp [pn] at h
  | succ d ih =>
    cases l with
    | nil => simp [pn] at h
    | cons c r =>
      have hc := hb.head
      simp only [pn] at h
      by_cases c1 : c < 128
      · rw [if_pos c1] at h
        simp only [Option.some.injEq, Prod.mk.injEq] at h
        obtain ⟨rfl, rfl⟩ := h
        refine ⟨by omega, by omega, by simp, by simpa [form] using c1, ?_⟩
        simp [val]
        omega
      · rw [if_neg c1, Option.map_eq_some_iff] at h
        obtain ⟨⟨x, m⟩, hx, he⟩ := h
        simp only [Prod.mk.injEq] at he
        obtain ⟨rfl, rfl⟩ := he
        obtain ⟨h1, h2, h3, h4, h5⟩ := ih hb.tail hx
        have hne : r.take m ≠ [] := by
          intro h0
          have h6 : (r.take m).length = m := by rw [List.length_take]; omega
          rw [h0] at h6
          simp at h6
          omega
        refine ⟨by omega, by omega, by simp; omega, ?_, ?_⟩
        · rw [List.take_succ_cons, form_cons hne]
          exact ⟨by omega, h4⟩
        · rw [List.take_succ_cons]
          show c - 128 + 128 * x = c % 128 + 128 * val (r.take m)
          rw [← h5]
          omega
theorem pn_of_form {t : List Int} (hb : Bytes t) (hf : form t) {d : Nat} (hd : t.length ≤ d) (l : List Int) : pn d (t ++ l) = some (val t, t.length) := by
  induction t generalizing d with
  | nil => exact absurd hf (by simp [form])
  | cons c r ih =>
    obtain ⟨d, rfl⟩ : ∃ m, d = m + 1 := ⟨d - 1, by simp at hd; omega⟩
    have hc := hb.head
    by_cases hr : r = []
    · subst hr
      simp only [form] at hf
      simp only [List.cons_append, List.nil_append, pn, val]
      rw [if_pos hf]
      simp
      omega
    · rw [form_cons hr] at hf
      simp only [List.cons_append, pn]
      rw [if_neg (by omega), ih hb.tail hf.2 (by simp at hd; omega)]
      simp only [Option.map_some, val, List.length_cons]
      congr 2
      omega
theorem pn_mono {d : Nat} {l : List Int} {x : Int × Nat} (h : pn d l = some x) {e : Nat} (he : d ≤ e) : pn e l = some x := by
  induction d generalizing l x e with
  | zero => simp [pn] at h
  | succ d ih =>
    obtain ⟨e, rfl⟩ : ∃ m, e = m + 1 := ⟨e - 1, by omega⟩
    cases l with
    | nil => simp [pn] at h
    | cons c r =>
      simp only [pn] at h ⊢
      by_cases c1 : c < 128
      · rw [if_pos c1] at h ⊢; exact h
      · rw [if_neg c1] at h ⊢
        rw [Option.map_eq_some_iff] at h
        obtain ⟨y, hy, he'⟩ := h
        rw [ih hy (by omega)]
        simpa using he'
theorem puts_bytes (d : Nat) (v : Int) (h : 0 ≤ v) : Bytes (puts d v) := by
  induction d generalizing v with
  | zero => exact Bytes.nil
  | succ d ih =>
    simp only [puts]
    split
    · exact Bytes.cons (by omega) (ih _ (by omega))
    · exact Bytes.cons (by omega) Bytes.nil
theorem puts_len (d : Nat) (v : Int) : (puts d v).length ≤ d := by
  induction d generalizing v with
  | zero => simp [puts]
  | succ d ih =>
    simp only [puts]
    split
    · have := ih (v / 128); simp; omega
    · simp
theorem puts_form {d : Nat} {v : Int} (h : 0 ≤ v) (hd : v < 128 ^ d) (h1 : 1 ≤ d) : form (puts d v) ∧ val (puts d v) = v ∧ least (puts d v) := by
  induction d generalizing v with
  | zero => omega
  | succ d ih =>
    simp only [puts]
    by_cases c : v > 127
    · rw [if_pos c]
      have hd' : v / 128 < 128 ^ d := by rw [Int.pow_succ] at hd; omega
      have d1 : 1 ≤ d := by
        rcases Nat.eq_zero_or_pos d with h0 | h0
        · subst h0; simp at hd'; omega
        · exact h0
      obtain ⟨f, e, l⟩ := ih (v := v / 128) (by omega) hd' d1
      have hne : puts d (v / 128) ≠ [] := by intro h0; rw [h0] at f; exact f
      refine ⟨(form_cons hne).2 ⟨by omega, f⟩, by simp only [val]; rw [e]; omega, .inr ?_⟩
      rw [List.getLast?_cons_of_ne_nil hne]
      rcases l with l | l
      · obtain ⟨a, ha⟩ : ∃ a, puts d (v / 128) = [a] := List.length_eq_one_iff.1 l
        rw [ha] at e ⊢
        simp [val] at e ⊢
        omega
      · exact l
    · rw [if_neg c]
      exact ⟨by simp [form]; omega, by simp [val]; omega, .inl rfl⟩
theorem val_zero_last {t : List Int} (hb : Bytes t) (hf : form t) (h : val t = 0) : t.getLast? = some 0 := by
  induction t with
  | nil => exact absurd hf (by simp [form])
  | cons c r ih =>
    have hc := hb.head
    by_cases hr : r = []
    · subst hr
      simp [form, val] at hf h ⊢
      omega
    · rw [form_cons hr] at hf
      simp only [val] at h
      have := val_nonneg r
      rw [List.getLast?_cons_of_ne_nil hr]
      exact ih hb.tail hf.2 (by omega)
theorem puts_val {t : List Int} (hb : Bytes t) (hf : form t) {d : Nat} (hd : t.length ≤ d) : puts d (val t) = t ↔ least t := by
  induction t generalizing d with
  | nil => exact absurd hf (by simp [form])
  | cons c r ih =>
    obtain ⟨d, rfl⟩ : ∃ m, d = m + 1 := ⟨d - 1, by simp at hd; omega⟩
    have hc := hb.head
    by_cases hr : r = []
    · subst hr
      simp only [form] at hf
      have hv : val [c] = c := by simp [val]; omega
      rw [hv]
      simp only [puts]
      rw [if_neg (by omega)]
      exact ⟨fun _ => .inl rfl, fun _ => rfl⟩
    · rw [form_cons hr] at hf
      have hl : least (c :: r) ↔ r.getLast? ≠ some 0 := by
        unfold least
        rw [List.getLast?_cons_of_ne_nil hr]
        constructor
        · rintro (h | h)
          · simp at h; exact absurd h hr
          · exact h
        · exact .inr
      have v0 := val_nonneg r
      rw [hl]
      have e0 : val (c :: r) = c % 128 + 128 * val r := rfl
      generalize val (c :: r) = V at e0 ⊢
      simp only [puts]
      by_cases c2 : val r = 0
      · have := val_zero_last hb.tail hf.2 c2
        rw [if_neg (by omega)]
        constructor
        · intro h
          have := congrArg List.length h
          simp at this
          exact absurd this hr
        · intro h; exact absurd this h
      · rw [if_pos (by omega)]
        have e : V / 128 = val r := by omega
        rw [e]
        have e2 : 128 + V % 128 = c := by omega
        rw [e2]
        have ih' := ih hb.tail hf.2 (d := d) (by simp at hd; omega)
        constructor
        · intro h
          have h' : puts d (val r) = r := by simpa using h
          rcases (ih'.1 h') with l | l
          · obtain ⟨a, ha⟩ : ∃ a, r = [a] := List.length_eq_one_iff.1 l
            subst ha
            simp [val] at c2 ⊢
            omega
          · exact l
        · intro h
          rw [ih'.2 (.inr h)]
end Go.Proofs.Ytffhbpepppodeaa.Base
