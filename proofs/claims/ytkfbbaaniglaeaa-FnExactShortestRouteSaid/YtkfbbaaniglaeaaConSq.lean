/- Going depth-first through the orders: with and without cutting off what is too long already. Plain facts, no Go and no memory. -/
import Derived.Test.YtkfbbaaniglaeaaConTa
namespace Go.Proofs.Ytkfbbaaniglaeaa.Con
open Go.RowKit Go.Proofs.YtkfbbaaniglaeaaW.PrintWords Go.Proofs.YtkfbbaaniglaeaaW.PrintLast Go.Proofs.YtkfbbaaniglaeaaW.PrintMore Go.Proofs.Ytkfbbaaniglaeaa.Mth
set_option linter.unusedVariables false
set_option linter.unusedSimpArgs false
/-- The best order so far and its length. -/
abbrev Sg := Option (List Int × Int)
def prn (len : Int) : Sg → Bool
  | some (_, x) => decide (x ≤ len)
  | none => false
def lst (o : List Int) : Int := rd o ((o.length : Int) - 1)
def fld (n : Nat) (o : List Int) (g : Int → Sg → Sg) (σ : Sg) : Sg := (List.range n).foldl (fun s (i : Nat) => if (i : Int) ∈ o then s else g (i : Int) s) σ
theorem fld_succ (n : Nat) (o : List Int) (g : Int → Sg → Sg) (σ : Sg) : fld (n + 1) o g σ = if (n : Int) ∈ o then fld n o g σ else g (n : Int) (fld n o g σ) := by
  unfold fld
  rw [List.range_succ, List.foldl_append]
  rfl
theorem fld_zero (o : List Int) (g : Int → Sg → Sg) (σ : Sg) : fld 0 o g σ = σ := rfl
/-- The reference: r more places are to be taken. -/
def wk (n : Nat) (d : Int → Int → Int) : Nat → List Int → Int → Sg → Sg
  | 0, o, len, σ => if prn len σ then σ else some (o, len)
  | r + 1, o, len, σ => if prn len σ then σ else fld n o (fun i s => wk n d r (o ++ [i]) (len + d (lst o) i) s) σ
/-- The program. -/
def vs (n : Nat) (d : Int → Int → Int) : Nat → List Int → Int → Sg → Sg
  | 0, o, len, σ => if prn len σ then σ else some (o, len)
  | r + 1, o, len, σ => fld n o (fun i s => vs n d r (o ++ [i]) (len + d (lst o) i) s) σ
theorem fld_same (n : Nat) (o : List Int) (g : Int → Sg → Sg) (σ : Sg) (h : ∀ i, g i σ = σ) : fld n o g σ = σ := by
  induction n with
  | zero => rfl
  | succ n ih => rw [fld_succ, ih]; split <;> first | rfl | exact h _
theorem fld_congr (n : Nat) (o : List Int) (g f : Int → Sg → Sg) (σ : Sg) (h : ∀ i s, g i s = f i s) : fld n o g σ = fld n o f σ := by
  rw [show g = f from funext fun i => funext fun s => h i s]
theorem prn_le {len len' : Int} {σ : Sg} (h : prn len σ = true) (hl : len ≤ len') : prn len' σ = true := by
  unfold prn at h ⊢
  split
  · rename_i a x
    simp only [] at h
    exact decide_eq_true (by have := of_decide_eq_true h; omega)
  · simp at h
theorem vs_same (n : Nat) (d : Int → Int → Int) (hd : ∀ a b, 0 ≤ d a b) : ∀ (r : Nat) (o : List Int) (len : Int) (σ : Sg), prn len σ = true → vs n d r o len σ = σ := by
  intro r
  induction r with
  | zero => intro o len σ h; unfold vs; rw [if_pos h]
  | succ r ih =>
    intro o len σ h
    unfold vs
    exact fld_same _ _ _ _ (fun i => ih _ _ _ (prn_le h (by have := hd (lst o) i; omega)))
theorem wk_vs (n : Nat) (d : Int → Int → Int) (hd : ∀ a b, 0 ≤ d a b) : ∀ (r : Nat) (o : List Int) (len : Int) (σ : Sg), wk n d r o len σ = vs n d r o len σ := by
  intro r
  induction r with
  | zero => intro o len σ; rfl
  | succ r ih =>
    intro o len σ
    by_cases h : prn len σ = true
    · rw [vs_same n d hd _ _ _ _ h]
      unfold wk
      rw [if_pos h]
    · unfold wk vs
      rw [if_neg h]
      exact fld_congr _ _ _ _ _ (fun i s => ih _ _ _)
/-- An order: numbers below n, none twice. -/
def Ord (n : Nat) (o : List Int) : Prop := o.Nodup ∧ ∀ x ∈ o, 0 ≤ x ∧ x < n
theorem ord_len (n : Nat) : ∀ o : List Int, Ord n o → o.length ≤ n ∧ (o.length = n → ∀ i : Int, 0 ≤ i → i < n → i ∈ o) := by
  induction n with
  | zero =>
    intro o ⟨_, h⟩
    cases o with
    | nil => exact ⟨Nat.le_refl _, fun _ i h0 h1 => by omega⟩
    | cons a t => have := h a List.mem_cons_self; omega
  | succ n ih =>
    intro o ⟨h1, h2⟩
    by_cases hm : (n : Int) ∈ o
    · have he := List.length_erase_of_mem hm
      have hp := List.length_pos_of_mem hm
      have hq : Ord n (o.erase (n : Int)) := ⟨h1.erase _, fun x hx => by
        have q := (h1.mem_erase_iff).1 hx
        have := h2 x q.2
        have : x ≠ (n : Int) := q.1
        omega⟩
      obtain ⟨a, b⟩ := ih _ hq
      refine ⟨by omega, fun hl i i0 i1 => ?_⟩
      by_cases e : i = (n : Int)
      · rw [e]; exact hm
      · exact List.mem_of_mem_erase (b (by omega) i i0 (by omega))
    · have hq : Ord n o := ⟨h1, fun x hx => by
        have := h2 x hx
        have : x ≠ (n : Int) := fun e => hm (e ▸ hx)
        omega⟩
      obtain ⟨a, b⟩ := ih _ hq
      exact ⟨by omega, fun hl => by omega⟩
theorem ord_app {n : Nat} {o : List Int} (h : Ord n o) {i : Nat} (hi : i < n) (hm : (i : Int) ∉ o) : Ord n (o ++ [(i : Int)]) := by
  refine ⟨List.nodup_append.2 ⟨h.1, by simp, fun x hx y hy e => ?_⟩, fun x hx => ?_⟩
  · rw [List.mem_singleton.1 hy] at e
    exact hm (e ▸ hx)
  · rcases List.mem_append.1 hx with hx | hx
    · exact h.2 x hx
    · rw [List.mem_singleton.1 hx]; omega
/-- There is a next place. -/
theorem ord_next {n : Nat} {o : List Int} (h : Ord n o) (hl : o.length < n) : ∃ i : Nat, i < n ∧ (i : Int) ∉ o := by
  apply Classical.byContradiction
  intro q
  have all : ∀ i : Nat, i < n → (i : Int) ∈ o := fun i hi => Classical.byContradiction fun c => q ⟨i, hi, c⟩
  have : ∀ m : Nat, m ≤ n → ∃ l : List Int, l.length = m ∧ l.Nodup ∧ (∀ x ∈ l, x ∈ o ∧ 0 ≤ x ∧ x < m) := by
    intro m
    induction m with
    | zero => intro _; exact ⟨[], rfl, List.nodup_nil, fun x hx => by cases hx⟩
    | succ m ih =>
      intro hm
      obtain ⟨l, a, b, c⟩ := ih (by omega)
      refine ⟨(m : Int) :: l, by simp [a], List.nodup_cons.2 ⟨fun hx => by have := (c _ hx).2; omega, b⟩, fun x hx => ?_⟩
      rcases List.mem_cons.1 hx with hx | hx
      · rw [hx]; exact ⟨all m (by omega), by omega, by omega⟩
      · have := c x hx; exact ⟨this.1, this.2.1, by omega⟩
  obtain ⟨l, a, b, c⟩ := this n (Nat.le_refl _)
  have hle : ∀ (l o : List Int), l.Nodup → (∀ x ∈ l, x ∈ o) → l.length ≤ o.length := by
    intro l
    induction l with
    | nil => intro o _ _; exact Nat.zero_le _
    | cons y l ih =>
      intro o hn hs
      obtain ⟨y1, y2⟩ := List.nodup_cons.1 hn
      have hy := hs y List.mem_cons_self
      have := ih (o.erase y) y2 (fun x hx => (List.mem_erase_of_ne (fun e => y1 (by rw [← e]; exact hx))).2 (hs x (List.mem_cons_of_mem _ hx)))
      rw [List.length_erase_of_mem hy] at this
      have := List.length_pos_of_mem hy
      rw [List.length_cons]; omega
  have := hle l o b (fun x hx => (c x hx).1)
  omega
/-- What is found: an order of all, of a length that a number holds. -/
def Fnd (n : Nat) (B : Int) (σ : Sg) : Prop := ∀ L x, σ = some (L, x) → L.length = n ∧ 0 ≤ x ∧ x ≤ B
theorem fld_inv (n : Nat) (o : List Int) (g : Int → Sg → Sg) (σ : Sg) (P : Sg → Prop) (h0 : P σ) (h : ∀ (i : Nat) s, i < n → (i : Int) ∉ o → P s → P (g i s)) : ∀ m, m ≤ n → P (fld m o g σ) := by
  intro m
  induction m with
  | zero => intro _; exact h0
  | succ m ih =>
    intro hm
    rw [fld_succ]
    by_cases c : (m : Int) ∈ o
    · rw [if_pos c]; exact ih (by omega)
    · rw [if_neg c]; exact h m _ (by omega) c (ih (by omega))
theorem vs_fnd (n : Nat) (d : Int → Int → Int) (D : Int) (hd : ∀ a b, 0 ≤ d a b ∧ d a b ≤ D) : ∀ (r : Nat) (o : List Int) (len : Int) (σ : Sg), o.length + r = n → 0 ≤ len → len + D * r ≤ D * n → Fnd n (D * n) σ → Fnd n (D * n) (vs n d r o len σ) := by
  intro r
  induction r with
  | zero =>
    intro o len σ hl h0 h1 hf
    unfold vs
    split
    · exact hf
    · intro L x e
      obtain ⟨rfl, rfl⟩ := Prod.mk.inj (Option.some.inj e)
      rw [show D * ((0 : Nat) : Int) = 0 by simp] at h1
      exact ⟨by omega, h0, by omega⟩
  | succ r ih =>
    intro o len σ hl h0 h1 hf
    unfold vs
    refine fld_inv n o _ σ (Fnd n (D * n)) hf (fun i s hi hm hs => ?_) n (Nat.le_refl _)
    have := hd (lst o) i
    refine ih _ _ _ (by rw [List.length_append]; show o.length + 1 + r = n; omega) (by omega) ?_ hs
    rw [show D * ((r + 1 : Nat) : Int) = D * (r : Int) + D by rw [Int.natCast_succ, Int.mul_add, Int.mul_one]] at h1
    omega
theorem vs_some (n : Nat) (d : Int → Int → Int) : ∀ (r : Nat) (o : List Int) (len : Int) (σ : Sg), Ord n o → o.length + r = n → (vs n d r o len σ).isSome = true := by
  intro r
  induction r with
  | zero =>
    intro o len σ ho hl
    unfold vs prn
    split
    · split at * <;> simp_all
    · rfl
  | succ r ih =>
    intro o len σ ho hl
    unfold vs
    obtain ⟨i, hi, hm⟩ := ord_next ho (by omega)
    have key : ∀ m, i < m → m ≤ n → (fld m o (fun i s => vs n d r (o ++ [i]) (len + d (lst o) i) s) σ).isSome = true := by
      intro m
      induction m with
      | zero => intro h; omega
      | succ m ihm =>
        intro h1 h2
        rw [fld_succ]
        by_cases c : (m : Int) ∈ o
        · rw [if_pos c]
          refine ihm ?_ (by omega)
          have : i ≠ m := fun e => hm (e ▸ c)
          omega
        · rw [if_neg c]
          exact ih _ _ _ (ord_app ho (by omega) c) (by rw [List.length_append]; show o.length + 1 + r = n; omega)
    exact key n hi (Nat.le_refl _)
end Go.Proofs.Ytkfbbaaniglaeaa.Con
