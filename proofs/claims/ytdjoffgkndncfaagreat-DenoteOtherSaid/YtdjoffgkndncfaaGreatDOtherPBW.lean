/-Texts-/
import Derived.Test.YtdjoffgkndncfaaGreatDOtherPAT
import Derived.Test.YtdjoffgkndncfaaGreatDOtherPAS
set_option linter.unusedVariables false
set_option linter.unusedSimpArgs false
namespace Go.Proofs.YtdjoffgkndncfaaGreat
open Go
mutual
def yQ (x:Tr):Tr→Int→Tr × Int
 | .mk k n u s keys l,c=>if c=0 then (x,-1) else (.mk k n u s keys (z7 x l (c - 1)).1,(z7 x l (c - 1)).2)
def z7 (x:Tr):List Tr→Int→List Tr × Int
 | [],c=>([],c)
 | t::r,c=>if c < 0 then (t::(z7 x r c).1,(z7 x r c).2) else ((yQ x t c).1::(z7 x r (yQ x t c).2).1,(z7 x r (yQ x t c).2).2)
end
theorem gK (x:Tr):∀(l:List Tr) (c:Int),c < 0→z7 x l c=(l,c)
 | [],c,h=>rfl
 | t::r,c,h=>by
  simp only[z7,zl h,gK x r c h]
mutual
theorem nQ (x:Tr):∀(t:Tr) (n:Nat),t.size≤n→yQ x t (n:Int)=(t,((n - t.size:Nat):Int))
 | .mk k m u s keys l,n,h=>by
  simp only[Tr.size] at h;obtain⟨q,rfl⟩:∃q,n=q+1:=⟨n - 1,by omega⟩;have hq:=nT x l q zo;simp only[yQ];rw[ze zo,show ((q+1:Nat):Int) - 1=(q:Int) by omega,hq];simp only[Tr.size];congr 2;omega
theorem nT (x:Tr):∀(l:List Tr) (n:Nat),zY l≤n→z7 x l (n:Int)=(l,((n - zY l:Nat):Int))
 | [],n,h=>by simp[z7,zY]
 | t::r,n,h=>by
  simp only[zY] at h;have h1:=nQ x t n zo;have h2:=nT x r (n - t.size) zo;simp only[z7];rw[ze zo,h1];dsimp only;rw[h2];simp only[zY];congr 2;omega
end
mutual
theorem AX (x was:Tr) (p:Nat):∀(t:Tr) (b n:Nat),(vP b t)[n]? = some (p,was)→(yQ x t (n:Int)).2 = -1∧((yQ x t (n:Int)).1=t↔x=was)
 | .mk k m u s keys l,b,n,h=>by
  simp only[vP] at h
  cases n with
  | zero=>
   simp only[yb,ya,Prod.mk.injEq] at h;obtain⟨_,rfl⟩:=h;exact⟨by simp[yQ],by simp[yQ]⟩
  | succ q=>
   simp only[xp] at h;obtain⟨h1,h2⟩:=AY x was p l (b+1) q h;simp only[yQ];rw[ze zo,show ((q+1:Nat):Int) - 1=(q:Int) by omega];refine⟨h1,?_⟩;rw[← h2];simp
theorem AY (x was:Tr) (p:Nat):∀(l:List Tr) (b n:Nat),(JL b l)[n]? = some (p,was)→(z7 x l (n:Int)).2 = -1∧((z7 x l (n:Int)).1=l↔x=was)
 | [],b,n,h=>by simp[JL] at h
 | t::r,b,n,h=>by
  simp only[JL] at h;simp only[z7];rw[ze zo];by_cases hn:n < t.size
  ·rw[qy (by rw[vB];exact hn)] at h;obtain⟨h1,h2⟩:=AX x was p t b n h;rw[h1,gK x r (-1) zo];refine⟨rfl,?_⟩;rw[← h2];simp
  rw[qs (by rw[vB];omega),vB] at h;rw[nQ x t n zo];dsimp only;obtain⟨h1,h2⟩:=AY x was p r b (n - t.size) h;refine⟨h1,?_⟩;rw[← h2];simp
end
mutual
theorem AZ {x:Tr} (hx:okS x):∀(t:Tr) (c:Int),okS t→okS (yQ x t c).1
 | .mk k m u s keys l,c,h=>by
  simp only[yQ];split
  ·exact hx
  rw[okS] at h⊢;obtain⟨h1,h2,h3,h4,h5⟩:=h;obtain⟨g1,g2⟩:=nU hx l (c - 1) h5;exact⟨h1,h2,h3,by rw[g1];exact h4,g2⟩
theorem nU {x:Tr} (hx:okS x):∀(l:List Tr) (c:Int),(∀y∈l,okS y)→(z7 x l c).1.length=l.length∧∀y∈(z7 x l c).1,okS y
 | [],c,h=>⟨rfl,λy hy=>by simp[z7] at hy⟩
 | t::r,c,h=>by
  simp only[z7];split
  ·obtain⟨g1,g2⟩:=nU hx r c (λy hy=>h y (zj _ hy));refine⟨by simp[g1],λy hy=>?_⟩;rcases qp.1 hy with rfl|hy
   ·exact h _ zx
   exact g2 y hy
  obtain⟨g1,g2⟩:=nU hx r (yQ x t c).2 (λy hy=>h y (zj _ hy));have gt:=AZ hx t c (h t zx);refine⟨by simp[g1],λy hy=>?_⟩;rcases qp.1 hy with rfl|hy
  ·exact gt
  exact g2 y hy
end
theorem eT (x:Tr):∀(l:List Tr) (c:Int),(z7 x l c).1.length=l.length
 | [],c=>rfl
 | t::r,c=>by
  simp only[z7];split<;>simp[eT x r]
mutual
theorem NK (x:Tr):∀(t:Tr) (c:Int),0≤c→(yQ x t c).2≤c
 | .mk k m u s keys l,c,h=>by
  have:=eU x l (c - 1) zo;simp only[yQ];split
  ·dsimp only;omega
  dsimp only;omega
theorem eU (x:Tr):∀(l:List Tr) (c:Int),-1≤c→(z7 x l c).2≤c
 | [],c,h=>Int.le_refl _
 | t::r,c,h=>by
  by_cases hc:c < 0
  ·simp only[z7,zl hc];exact eU x r c h
  simp only[z7,ze hc];have h1:=NK x t c zo;by_cases hd:(yQ x t c).2 < 0
  ·rw[gK x r _ hd];exact h1
  exact Int.le_trans (eU x r _ zo) h1
end
theorem dH (x y:Tr):∀(l:List Tr) (c:Int),z7 x (l++[y]) c=((z7 x l c).1++[if (z7 x l c).2 < 0 then y else (yQ x y (z7 x l c).2).1],if (z7 x l c).2 < 0 then (z7 x l c).2 else (yQ x y (z7 x l c).2).2)
 | [],c=>by
  by_cases h:c < 0
  ·simp[z7,h]
  ·simp[z7,h]
 | t::r,c=>by
  by_cases h:c < 0
  ·simp only[qz,z7,zl h];rw[dH x y r c]
  simp only[qz,z7,ze h];rw[dH x y r _]
end Go.Proofs.YtdjoffgkndncfaaGreat
