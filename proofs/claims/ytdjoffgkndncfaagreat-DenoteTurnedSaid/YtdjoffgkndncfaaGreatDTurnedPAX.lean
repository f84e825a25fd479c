/-
  Texts of the proof.
-/
import Derived.Test.YtdjoffgkndncfaaGreatDTurnedPAS
import Derived.Test.YtdjoffgkndncfaaGreatDTurnedPAW
set_option linter.unusedVariables false
set_option linter.unusedSimpArgs false
namespace Go.Proofs.YtdjoffgkndncfaaGreat
open Go Go.ChangeShapes Go.WideShapes Go.ChangeAt Go.RowKit Go.Joins Go.Deep
theorem kids_iff {d:List UInt8} {typ w at_ n:Int}:∀{l:List Tr} {i:Nat},vC d typ w at_ n i l=true↔∀j x,l[j]? = some x→(qZ d typ w at_ n (i+j)).2.2=0∧JN d (qZ d typ w at_ n (i+j)).1 (at_+((i+j:Nat):Int)*w) w (qZ d typ w at_ n (i+j)).2.1 (K2 typ w at_) x=true
 | [],i=>by simp[vC]
 | x::r,i=>by
  simp only[vC,Bool.and_eq_true,decide_eq_true_eq];rw[kids_iff (l:=r) (i:=i+1)];constructor
  ·rintro ⟨h,hr⟩ j y hy
   cases j with
   | zero=>simp only[List.getElem?_cons_zero,Option.some.injEq] at hy;subst hy;exact h
   | succ j=>
    simp only[List.getElem?_cons_succ] at hy;have:=hr j y hy;rw[show i+(j+1)=i+1+j by omega];exact this
  ·intro h;refine⟨h 0 x rfl,fun j y hy=>?_⟩;have:=h (j+1) y (by simpa using hy);rw[show i+(j+1)=i+1+j by omega] at this;exact this
theorem aD {d:List UInt8} {typ pos par wid lim:Int} {t:Tr} (h:JN d typ pos par wid lim t=true) :
 (isW par=true∧isW wid=true∧Ft.legalB typ=true)∧((ZZ typ=true∧KR d typ pos par wid 0 t=true) ∨
  (ZZ typ=false∧gZ d typ pos par wid lim=true∧Z7 typ=true∧KR d typ pos par wid (pos - (z6 d pos par).1) t=true) ∨
  (ZZ typ=false∧gZ d typ pos par wid lim=true∧Z7 typ=false∧JZ d typ wid (pos - (z6 d pos par).1) t=true)):=by
 rw[mR] at h;rw[KT] at h
 cases hg:(isW par && isW wid && Ft.legalB typ) with
 | false=>rw[if_pos hg] at h;cases h
 | true=>
  rw[if_neg (by rw[hg];decide)] at h;simp only[Bool.and_eq_true] at hg;refine⟨⟨hg.1.1,hg.1.2,hg.2⟩,?_⟩
  cases hn:ZZ typ with
  | true=>rw[if_pos hn] at h;exact .inl ⟨rfl,h⟩
  | false=>
   rw[if_neg (by rw[hn];decide)] at h
   cases hf:gZ d typ pos par wid lim with
   | false=>rw[if_pos hf] at h;cases h
   | true=>
    rw[if_neg (by rw[hf];decide)] at h
    cases ht:Z7 typ with
    | true=>rw[if_pos ht] at h;exact .inr (.inl ⟨rfl,rfl,rfl,h⟩)
    | false=>rw[if_neg (by rw[ht];decide)] at h;exact .inr (.inr ⟨rfl,rfl,rfl,h⟩)
end Go.Proofs.YtdjoffgkndncfaaGreat
