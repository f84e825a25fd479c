/-
  Texts of the proof.
-/
import Derived.Tactics
import Derived.KernelRfl
import Derived.Below
namespace Go.Proofs
theorem zk {p : Prop} (h : p := by kernel_rfl) : p := h
end Go.Proofs
namespace Go.Proofs.Ytfbeepkogcmlmaa
open Go Go.RowKit
set_option linter.unusedVariables false
set_option linter.unusedSimpArgs false
theorem zq1.{u} {α : Type u} (l : List α) (i : Nat) (a : α) : l.toArray.setIfInBounds i a = (l.set i a).toArray := List.setIfInBounds_toArray l i a
theorem zq2.{u} {α : Type u} {x : α} {xs : List α} {a : α} : (x :: xs).set 0 a = a :: xs := rfl
theorem zq3.{u} {α : Type u} {x : α} {xs : List α} {i : Nat} {a : α} : (x :: xs).set (i + 1) a = x :: xs.set i a := rfl
theorem zq4.{u} {α : Type u} {x : α} {xs : List α} {d : α} : (x :: xs).getD 0 d = x := rfl
theorem zq5.{u} {α : Type u} {x : α} {xs : List α} {n : Nat} {d : α} : (x :: xs).getD (n + 1) d = xs.getD n d := rfl
theorem zh {p : Prop} (h : p) : Hid p := h
theorem zqr {p : Prop} (h : p := by
  (try simp only [depsP, zq4, zq5, IsP] at hD)
  generalize hAA : jD y _ _ = AA at hK ⊢
  simp only [jD, Act.put, zq1, zq2, zq3, zq4, zq5, IsP] at hAA
  subst hAA
  simp only [zq4, zq5, IsP] at hK
  (try simp only [hD] at hK ⊢)
  (try clear hD)
  refine qS (by rfl) ?_
  go_simp
  exact hK _ _ _ rfl (jC.refl _) rfl) : p := h
theorem zqd {p : Prop} (h : p := by
  refine wordP_all ?_
  intro y w2 p hlo hhi hW hD K hK
  (try simp only [depsP, zq4, zq5, IsP] at hD)
  generalize hAA : jD y _ _ = AA at hK ⊢
  simp only [jD, Act.put, zq1, zq2, zq3, zq4, zq5, IsP] at hAA
  subst hAA
  simp only [zq4, zq5, IsP] at hK
  (try simp only [hD] at hK ⊢)
  (try clear hD)
  refine qS (by rfl) ?_
  go_simp
  exact hK _ _ _ rfl (jC.refl _) rfl) : p := h
theorem zsr {p : Prop} (h : p := by
  (try simp only [jM, zq4, zq5, Is, and_true] at hD)
  simp only [jD, Act.put, zq1, zq2, zq3, zq4, zq5, Is] at hK ⊢
  (try simp only [hD] at hK ⊢)
  (try clear hD)
  refine qS (by rfl) ?_
  go_simp
  exact hK _ _ _ rfl (jC.refl _) rfl) : p := h
theorem zst {p : Prop} (h : p := by
  intro y w2 hG hD K hK
  (try simp only [jM, zq4, zq5, Is, and_true] at hD)
  simp only [jD, Act.put, zq1, zq2, zq3, zq4, zq5, Is] at hK ⊢
  (try simp only [hD] at hK ⊢)
  (try clear hD)
  refine qS (by rfl) ?_
  go_simp
  exact hK _ _ _ rfl (jC.refl _) rfl) : p := h
theorem zsh {p : Prop} (h : p := by
  intro y w2 hG hD K hK
  (try simp only [jM, zq4, zq5, Is, and_true] at hD)
  generalize hA : jD y _ _ = A at hK ⊢
  simp only [jD, Act.put, zq1, zq2, zq3, zq4, zq5, Is] at hA
  subst hA
  (try simp only [hD] at hK ⊢)
  (try clear hD)
  refine qS (by rfl) ?_
  go_simp
  exact hK _ _ _ rfl (jC.refl _) rfl) : p := h
theorem zsg {p : Prop} (h : p := by
  (try simp only [jM, zq4, zq5, Is, and_true] at hD)
  generalize hA : jD y _ _ = A at hK ⊢
  simp only [jD, Act.put, zq1, zq2, zq3, zq4, zq5, Is] at hA
  subst hA
  (try simp only [hD] at hK ⊢)
  (try clear hD)
  refine qS (by rfl) ?_
  go_simp
  exact hK _ _ _ rfl (jC.refl _) rfl) : p := h
end Go.Proofs.Ytfbeepkogcmlmaa
