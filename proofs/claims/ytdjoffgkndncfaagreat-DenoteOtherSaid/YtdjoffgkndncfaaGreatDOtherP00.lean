/-Texts-/
import Derived.Tactics
import Derived.KernelRfl
import Derived.Below
import Derived.Tactics2
namespace Go.Proofs
theorem zk {p : Prop} (h : p := by kernel_rfl) : p := h
end Go.Proofs
namespace Go.Proofs.YtdjoffgkndncfaaGreat
open Go Go.RowKit
set_option linter.unusedVariables false
set_option linter.unusedSimpArgs false
abbrev za:=@List.getElem?_eq_getElem
abbrev zb:=@List.length_append
abbrev zc:=@Array.getElem?_eq_some_iff
abbrev ze:=@if_neg
abbrev zf:=@Nat.le_trans
abbrev zg:=@Bool.and_eq_true
abbrev zi:=@List.getElem?_eq_some_iff
abbrev zj:=@List.mem_cons_of_mem
abbrev zl:=@if_pos
abbrev zm:=@World.size_alloc
abbrev zp:=@decide_eq_true_eq
abbrev zr:=@Nat.le_refl
abbrev zw:=@List.getD_eq_getElem?_getD
abbrev zx:=@List.mem_cons_self
abbrev zy:=@IntKind.wrap_i64
abbrev zz:=@List.length_cons
abbrev qa:=@And.intro
abbrev qb:=@List.length_map
abbrev qc:=@heap_alloc_new
abbrev qd:=@List.mem_of_getElem?
abbrev qe:=@List.append_assoc
abbrev qg:=@List.length_nil
abbrev qh:=@List.mem_map
abbrev qj:=@List.length_pos_iff
abbrev qk:=@Nat.lt_of_lt_of_le
abbrev ql:=@congrArg
abbrev qm:=@World.ownsRow.lt
abbrev qn:=@List.take_length
abbrev qo:=@List.take_add_one
abbrev qp:=@List.mem_cons
abbrev qr:=@List.length_take
abbrev qs:=@List.getElem?_append_right
abbrev qt:=@decide_eq_true
abbrev qu:=@List.all_eq_true
abbrev qv:=@Bool.or_eq_true
abbrev qw:=@List.mem_range
abbrev qx:=@Array.getElem?_eq_getElem
abbrev qy:=@List.getElem?_append_left
abbrev qz:=@List.cons_append
abbrev xb:=@List.map_append
abbrev xd:=@Int.emod_lt_of_pos
abbrev xe:=@List.map_map
abbrev xf:=@List.mem_append
abbrev xg:=@Int.emod_nonneg
abbrev xh:=@List.mem_filter
abbrev xj:=@List.getElem?_map
abbrev xm:=@List.nil_append
abbrev xo:=@of_decide_eq_true
abbrev xp:=@List.getElem?_cons_succ
abbrev xq:=@List.getElem_mem
abbrev xr:=@List.length_drop
abbrev xt:=@List.size_toArray
abbrev xw:=@beq_iff_eq
abbrev xy:=@Nat.min_eq_left
abbrev xz:=@ByteArray.size_append
abbrev ya:=@Option.some.injEq
abbrev yb:=@List.getElem?_cons_zero
abbrev yc:=@World.block_lt_of_cell?
abbrev yd:=@List.take_append_of_le_length
abbrev ye:=@Nat.le_of_lt
abbrev yf:=@List.length_set
abbrev yg:=@List.flatMap_append
abbrev yh:=@List.take_take
abbrev yj:=@Nat.sub_self
theorem zq1.{u} {α : Type u} (l : List α) (i : Nat) (a : α) : l.toArray.setIfInBounds i a = (l.set i a).toArray := List.setIfInBounds_toArray l i a
theorem zq2.{u} {α : Type u} {x : α} {xs : List α} {a : α} : (x :: xs).set 0 a = a :: xs := rfl
theorem zq3.{u} {α : Type u} {x : α} {xs : List α} {i : Nat} {a : α} : (x :: xs).set (i + 1) a = x :: xs.set i a := rfl
theorem zq4.{u} {α : Type u} {x : α} {xs : List α} {d : α} : (x :: xs).getD 0 d = x := rfl
theorem zq5.{u} {α : Type u} {x : α} {xs : List α} {n : Nat} {d : α} : (x :: xs).getD (n + 1) d = xs.getD n d := rfl
theorem zq {α : Type} : (∀ (l : List α) (i : Nat) (a : α), l.toArray.setIfInBounds i a = (l.set i a).toArray) ∧ (∀ (x : α) (xs : List α) (a : α), (x :: xs).set 0 a = a :: xs) ∧ (∀ (x : α) (xs : List α) (i : Nat) (a : α), (x :: xs).set (i + 1) a = x :: xs.set i a) ∧ (∀ (x : α) (xs : List α) (d : α), (x :: xs).getD 0 d = x) ∧ ∀ (x : α) (xs : List α) (n : Nat) (d : α), (x :: xs).getD (n + 1) d = xs.getD n d := ⟨λl i a => zq1 l i a, λ_ _ _ => rfl, λ_ _ _ _ => rfl, λ_ _ _ => rfl, λ_ _ _ _ => rfl⟩
theorem zh {p : Prop} (h : p) : Hid p := h
theorem zqr {p : Prop} (h : p := by
  (try simp only [kV, zq4, zq5, IsP] at hD)
  generalize hAA : jF y _ _ = AA at hK ⊢
  simp only [jF, Act.put, zq, IsP] at hAA
  subst hAA
  simp only [zq4, zq5, IsP] at hK
  (try simp only [hD] at hK ⊢)
  (try clear hD)
  refine Q9 (by rfl) ?_
  go_simp
  exact hK _ _ _ rfl (jC.refl _) rfl) : p := h
theorem zqd {p : Prop} (h : p := by
  refine EC ?_
  intro y w2 p hlo hhi hW hD K hK
  (try simp only [kV, zq4, zq5, IsP] at hD)
  generalize hAA : jF y _ _ = AA at hK ⊢
  simp only [jF, Act.put, zq, IsP] at hAA
  subst hAA
  simp only [zq4, zq5, IsP] at hK
  (try simp only [hD] at hK ⊢)
  (try clear hD)
  refine Q9 (by rfl) ?_
  go_simp
  exact hK _ _ _ rfl (jC.refl _) rfl) : p := h
theorem zsr {p : Prop} (h : p := by
  (try simp only [kC, zq4, zq5, Is, and_true] at hD)
  simp only [jF, Act.put, zq, Is] at hK ⊢
  (try simp only [hD] at hK ⊢)
  (try clear hD)
  refine Q9 (by rfl) ?_
  go_simp
  exact hK _ _ _ rfl (jC.refl _) rfl) : p := h
theorem zst {p : Prop} (h : p := by
  intro y w2 hG hD K hK
  (try simp only [kC, zq4, zq5, Is, and_true] at hD)
  simp only [jF, Act.put, zq, Is] at hK ⊢
  (try simp only [hD] at hK ⊢)
  (try clear hD)
  refine Q9 (by rfl) ?_
  go_simp
  exact hK _ _ _ rfl (jC.refl _) rfl) : p := h
theorem zsh {p : Prop} (h : p := by
  intro y w2 hG hD K hK
  (try simp only [kC, zq4, zq5, Is, and_true] at hD)
  generalize hA : jF y _ _ = A at hK ⊢
  simp only [jF, Act.put, zq, Is] at hA
  subst hA
  (try simp only [hD] at hK ⊢)
  (try clear hD)
  refine Q9 (by rfl) ?_
  go_simp
  exact hK _ _ _ rfl (jC.refl _) rfl) : p := h
theorem zsg {p : Prop} (h : p := by
  (try simp only [kC, zq4, zq5, Is, and_true] at hD)
  generalize hA : jF y _ _ = A at hK ⊢
  simp only [jF, Act.put, zq, Is] at hA
  subst hA
  (try simp only [hD] at hK ⊢)
  (try clear hD)
  refine Q9 (by rfl) ?_
  go_simp
  exact hK _ _ _ rfl (jC.refl _) rfl) : p := h
theorem zA2 {a0 a1 p : Prop} (k : a0 → a1 → p) : a0 ∧ a1 → p := λ⟨a0, a1⟩ => k a0 a1
theorem zA3 {a0 a1 a2 p : Prop} (k : a0 → a1 → a2 → p) : a0 ∧ a1 ∧ a2 → p := λ⟨a0, a1, a2⟩ => k a0 a1 a2
theorem zA4 {a0 a1 a2 a3 p : Prop} (k : a0 → a1 → a2 → a3 → p) : a0 ∧ a1 ∧ a2 ∧ a3 → p := λ⟨a0, a1, a2, a3⟩ => k a0 a1 a2 a3
theorem zA5 {a0 a1 a2 a3 a4 p : Prop} (k : a0 → a1 → a2 → a3 → a4 → p) : a0 ∧ a1 ∧ a2 ∧ a3 ∧ a4 → p := λ⟨a0, a1, a2, a3, a4⟩ => k a0 a1 a2 a3 a4
theorem zA6 {a0 a1 a2 a3 a4 a5 p : Prop} (k : a0 → a1 → a2 → a3 → a4 → a5 → p) : a0 ∧ a1 ∧ a2 ∧ a3 ∧ a4 ∧ a5 → p := λ⟨a0, a1, a2, a3, a4, a5⟩ => k a0 a1 a2 a3 a4 a5
theorem zA7 {a0 a1 a2 a3 a4 a5 a6 p : Prop} (k : a0 → a1 → a2 → a3 → a4 → a5 → a6 → p) : a0 ∧ a1 ∧ a2 ∧ a3 ∧ a4 ∧ a5 ∧ a6 → p := λ⟨a0, a1, a2, a3, a4, a5, a6⟩ => k a0 a1 a2 a3 a4 a5 a6
theorem zA8 {a0 a1 a2 a3 a4 a5 a6 a7 p : Prop} (k : a0 → a1 → a2 → a3 → a4 → a5 → a6 → a7 → p) : a0 ∧ a1 ∧ a2 ∧ a3 ∧ a4 ∧ a5 ∧ a6 ∧ a7 → p := λ⟨a0, a1, a2, a3, a4, a5, a6, a7⟩ => k a0 a1 a2 a3 a4 a5 a6 a7
theorem zA9 {a0 a1 a2 a3 a4 a5 a6 a7 a8 p : Prop} (k : a0 → a1 → a2 → a3 → a4 → a5 → a6 → a7 → a8 → p) : a0 ∧ a1 ∧ a2 ∧ a3 ∧ a4 ∧ a5 ∧ a6 ∧ a7 ∧ a8 → p := λ⟨a0, a1, a2, a3, a4, a5, a6, a7, a8⟩ => k a0 a1 a2 a3 a4 a5 a6 a7 a8
theorem zo {p : Prop} (h : p := by omega) : p := h
theorem zd {p : Prop} (h : p := by decide) : p := h
theorem zp2 {p : Prop} (h : p := by simp) : p := h
theorem zp3 {p : Prop} (h : p := by go_simp) : p := h
theorem zp4 {p : Prop} (h : p := by unfold kY KG kI;decide) : p := h
theorem zp5 {p : Prop} (h : p := by intro x hx;simp only[List.mem_cons,List.not_mem_nil,or_false] at hx;rcases hx with rfl | rfl<;>exact⟨_,_,_,_,_,_,_,_,_,_,rfl⟩) : p := h
theorem zp6 {p : Prop} (h : p := by simp;omega) : p := h
theorem zp7 {p : Prop} (h : p := by have:=JC hx;omega) : p := h
theorem zp8 {p : Prop} (h : p := by unfold kY;omega) : p := h
theorem zp9 {p : Prop} (h : p := by rw[List.length_map];omega) : p := h
theorem zp10 {p : Prop} (h : p := by have:=HLM.out;have:=HQB.out;simp only[List.length_cons,List.length_nil];omega) : p := h
theorem gM {p : Prop} (h : p := by unfold maxLen;omega) : p := h
theorem eV {p : Prop} (h : p := by simpa using hx) : p := h
theorem zp13 {p : Prop} (h : p := by simp only[List.length_append,kF,jT];unfold lenM at hr;omega) : p := h
theorem zp14 {p : Prop} (h : p := by intro x hx;simp only[List.mem_cons,List.not_mem_nil,or_false] at hx;subst hx;exact⟨_,_,_,_,_,_,_,_,_,_,rfl⟩) : p := h
theorem zp15 {p : Prop} (h : p := by rw[show w.heap.size+1=(w.alloc (.cells #[.int .i64 (-1)] 3)).heap.size by simp];exact heap_alloc_new _ _) : p := h
theorem zp16 {p : Prop} (h : p := by rw[show w.heap.size+1=(w.alloc (.cells #[.int .i64 elem] 3)).heap.size by simp];exact heap_alloc_new _ _) : p := h
theorem nV {p : Prop} (h : p := by decide +kernel) : p := h
theorem zp18 {p : Prop} (h : p := by rw[← HMV.out];exact eR ho) : p := h
theorem A3 {p : Prop} (h : p := by simp[MapKept.IsKey]) : p := h
theorem zp20 {p : Prop} (h : p := by rw[List.length_map];exact HL.out) : p := h
theorem tZ {p : Prop} (h : p := by simpa using h) : p := h
theorem gN {p : Prop} (h : p := by cases h) : p := h
theorem A4 {p : Prop} (h : p := by simpa using hz) : p := h
theorem zp24 {p : Prop} (h : p := by simp at hl;omega) : p := h
theorem zp25 {p : Prop} (h : p := by have:=HDL.out;omega) : p := h
theorem zp26 {p : Prop} (h : p := by rw[List.append_nil];exact j5) : p := h
theorem zp27 {p : Prop} (h : p := by rw[hI.size];exact hilt) : p := h
theorem oL {p : Prop} (h : p := by simp[hx]) : p := h
theorem zp29 {p : Prop} (h : p := by have:=HLN.out;have:=HL.out;simp;omega) : p := h
theorem zp30 {p : Prop} (h : p := by have:=HV4.out;omega) : p := h
theorem zp31 {p : Prop} (h : p := by have:=HSZ.out;omega) : p := h
theorem zp32 {p : Prop} (h : p := by simpa using hi) : p := h
theorem zp33 {p : Prop} (h : p := by simpa using he) : p := h
theorem zb0 {p : Prop} (h : p := by
 have hjlt:j < jH.size:=by
  rw[hI.size]
  rcases Nat.lt_or_ge j ops.size with h'|h'
  ·exact h'
  rw[Array.getElem?_eq_none h'] at hdst;cases hdst
 rw[zU hjlt]
 cases hl:jH.getD j false with
 | false=>rfl
 | true=>
  have:=hI.closed j hl i (by simpa [lD] using hw)
  rw[hunf] at this
  cases this) : p := h
theorem zb1 {p : Prop} (h : p := by
 by_cases hij:i=j
 ·subst hij
  have h2:i < jH.size:=by rw[hI.size];exact hilt
  simp[h2] at hj
 rw[getD_set_ne true hij] at hj;exact hj) : p := h
theorem zb2 {p : Prop} (h : p := by
 have h2:i < jH.size:=by rw[hI.size];exact hilt
 simp[h2]) : p := h
theorem zb3 {p : Prop} (h : p := by
 cases hd:o.dst with
 | none=>
  rw[hI.act]
  show jF y (qU ops) a0=_
  refine V7 _ _ _ _ λp hp=>?_
  have:=mem_pairsOf.1 (show (p.1,p.2)∈qU ops from hp)
  have hne:p.2≠i:=λhe=>by rw[he,ho] at this;simp[hd] at this
  simp[hne]
 | some d=>
  rw[hI.act,oO y i v _ a0 d vC (mem_pairsOf.2 (by simp[ho,hd]))]) : p := h
theorem zb4 {p : Prop} (h : p := by
 intro j hj
 by_cases hji:j=i
 ·subst hji;simpa using hφ
 simp only[hji,if_false]
 rw[getD_set_ne false (Ne.symm hji)] at hj
 exact hst j _ _ _ hr (hI.facts j hj)) : p := h
theorem zb5 {p : Prop} (h : p := by
 intro j d hj hdst
 have hji:j≠i:=λhe=>by subst he;simp[h2] at hj
 simp only[hji,if_false]
 rw[getD_set_ne true (Ne.symm hji)] at hj
 exact hI.open_ j d hj hdst) : p := h
theorem zb6 {p : Prop} (h : p := by
 intro j hj k hk
 by_cases hji:j=i
 ·subst hji;exact getD_set_true (hD k hk)
 rw[getD_set_ne false (Ne.symm hji)] at hj
 exact getD_set_true (hI.closed j hj k hk)) : p := h
theorem zb7 {p : Prop} (h : p := by
 rename_i hwa
 rw[if_pos hwa]
 refine .inl ?_
 have h3:o.wp P a w (wpAny P .any ops Q fuel (jH.setIfInBounds i true)) (λ_ _ _=>False):=
  Oper.wp_mono (λa' w' ⟨v,he,hr,hφ⟩=>by subst he;exact hnext v w' hr hφ) hw2
 exact wp_exit h3) : p := h
theorem zb8 {p : Prop} (h : p := by
 rename_i hwa
 rw[if_neg hwa]
 obtain⟨v,he,hr,hφ⟩:=hw2
 rw[he]
 exact hnext v w hr hφ) : p := h
theorem zb9 {p : Prop} (h : p := by
 exact Nat.le_trans (List.length_filter_le _ _) (by simp)) : p := h
theorem zb10 {p : Prop} (h : p := by
 symm
 have:∀(L:List (Nat × Nat)),(∀p∈L,(ops[p.2]?).bind (·.dst)=some p.1)→jF (λj=>match (ops[j]?).bind (·.dst) with | some d=>a0.tmps.getD d undef | none=>undef) L a0=a0:=by
  intro L
  induction L with
  | nil=>intro _;rfl
  | cons p L ih=>
   intro h
   obtain⟨d,j⟩:=p
   have hd:=h (d,j) (by simp)
   simp only at hd
   show jF _ L (a0.put (some d) _)=a0
   simp only[hd]
   rw[t7]
   exact ih (λp hp=>h p (by simp[hp]))
 exact this _ (λp hp=>mem_pairsOf.1 hp)) : p := h
theorem A5 {p : Prop} (h : p := by
 intro j hj
 have h:(Array.replicate ops.size false).getD j false=false:=by
  simp[Array.getD]
 rw[h] at hj;cases hj) : p := h
theorem zb12 {p : Prop} (h : p := by
 intro j d _ hdst
 simp only[hdst]
 exact t7 a0 d) : p := h
theorem zb13 {p : Prop} (h : p := by
 have hd:D0.toArray.getD i []=d:=by
  have:=hD 0
  simp at this
  simp[Array.getD_eq_getD_getElem?,← this]
 have hc:yZ ops D0.toArray i=c:=by
  rw[← hC i (by simp at hl;omega)]
  have:=hC' 0
  simp at this
  simp[List.getD_eq_getElem?_getD,← this]
 intro y w hR hj K hK
 rw[hd] at hj
 rw[hc] at hK⊢
 exact h1 y w hR (t8 _ hj) K (λa' v w' he hr hφ=>by subst he;exact hK v w' hr hφ)) : p := h
theorem zb14 {p : Prop} (h : p := by
 have:=hD (k+1)
 simp at this
 rw[this];congr 1;omega) : p := h
theorem zb15 {p : Prop} (h : p := by
 have:=hC' (k+1)
 simp at this
 rw[this];congr 1;omega) : p := h
theorem zb16 {p : Prop} (h : p := by
 intro j v w w' hr hφ
 rcases Nat.lt_or_ge j Φ.length with hj|hj
 ·have e:Φ.getD j (λ_ _=>True)=Φ[j]:=by simp[List.getD_eq_getElem?_getD,hj]
  simp only[e] at hφ⊢
  exact rW Φ hst _ (List.getElem_mem hj) v w w' hr hφ
 have e:Φ.getD j (λ_ _=>True)=λ_ _=>True:=by simp[List.getD_eq_getElem?_getD,hj]
 simp only[e]) : p := h
theorem VW {p : Prop} (h : p := by
 intro y w2' hG hD K hK
 simp only[jF,Act.put,zq,Is] at hK⊢
 refine jN ?_
 go_simp
 exact hK _ _ _ rfl (jC.refl _) rfl) : p := h
theorem oM {p : Prop} (h : p := by
 intro y w2' hG hD K hK
 simp only[kC,zq4,zq5,Is,and_true] at hD
 have dc0:=hG.cell c0
 have dc1:=hG.cell c1
 have dc2:=hG.cell c2
 have dc3:=hG.cell c3
 have dc4':=hG.cell c4'
 simp only[jF,Act.put,zq,Is] at hK⊢
 simp only[hD] at hK⊢
 clear hD
 refine jN ?_
 go_simp
 exact hK _ _ _ rfl (jC.refl _) rfl) : p := h
theorem zb20 {p : Prop} (h : p := by
 intro y w2' hG hD K hK
 simp only[kC,zq4,zq5,Is,and_true] at hD
 simp only[jF,Act.put,zq,Is] at hK⊢
 simp only[hD] at hK⊢
 clear hD
 refine jN ?_
 go_simp
 refine (nZ _ _ _ (HKS.grew (HG.trans hG)) (by omega)).mono ?_
 rintro r w3 ⟨v',rfl,hv,hg⟩
 exact hK _ _ _ rfl hg (JO hv (Nat.le_trans hB2.out hG.size))) : p := h
theorem zb21 {p : Prop} (h : p := by
 intro y w2' hG hD K hK
 simp only[kC,zq4,zq5,Is,and_true] at hD
 have h10:=hD.2.2.2.2
 simp only[jF,Act.put,zq,Is] at hK⊢
 simp only[hD] at hK⊢
 clear hD
 refine jN ?_
 refine Exists.elim (jR h10) λva h=>Exists.elim h λvc h=>?_
 have hs:=h.1
 clear h
 rw[hs] at hK h10⊢
 go_simp
 exact hK _ _ _ rfl (jC.refl _) ⟨_,rfl,h10⟩) : p := h
theorem zb22 {p : Prop} (h : p := by
 intro y w2' hG hD K hK
 simp only[jF,Act.put,zq,Is] at hK⊢
 refine jN ?_
 go_simp
 exact hK _ _ _ rfl ((jC.refl _).alloc _) ⟨_,rfl,Nat.le_trans hB2.out hG.size,heap_alloc_new _ _⟩) : p := h
theorem zb23 {p : Prop} (h : p := by
 refine JO (Moved.owns hT hkvW (λq hq e=>?_)) (by omega)
 rcases e with rfl|rfl
 ·exact KU hkvW HROWW.out (by decide) hq
 exact KU hkvW HRESW.out (by decide) hq) : p := h
theorem zb24 {p : Prop} (h : p := by
 intro y w2' hG hD K hK
 simp only[kC,zq4,zq5,Is,and_true] at hD
 have dc0:=hG.cell c0
 have dc1:=hG.cell c1
 have dc2:=hG.cell c2
 have dc3:=hG.cell c3
 have dc4':=hG.cell c4'
 have dr1:=hG.cell r1
 simp only[jF,Act.put,zq,Is] at hK⊢
 simp only[hD] at hK⊢
 clear hD
 refine jN ?_
 go_simp
 exact hK _ _ _ rfl (jC.refl _) rfl) : p := h
theorem zb25 {p : Prop} (h : p := by
 intro y w2' hG hD K hK
 simp only[kC,zq4,zq5,Is,and_true] at hD
 simp only[jF,Act.put,zq,Is] at hK⊢
 simp only[hD] at hK⊢
 clear hD
 refine jN ?_
 go_simp
 exact hK _ _ _ rfl (jC.refl _) rfl) : p := h
theorem zb26 {p : Prop} (h : p := by
 intro y w2' hG hD K hK
 simp only[kC,zq4,zq5,Is,and_true] at hD
 have dc0:=hG.cell c0
 simp only[jF,Act.put,zq,Is] at hK⊢
 simp only[hD] at hK⊢
 clear hD
 refine jN ?_
 go_simp
 exact hK _ _ _ rfl (jC.refl _) rfl) : p := h
theorem zb27 {p : Prop} (h : p := by
 have HF2:Hid (E=70):=by
  show _=_
  rw[HF,← HW.2.2,HT,if_pos h0]
 go_wp2_with (go_at_call 66;refine (ZO _ _).mono ?_;rintro r w2 ⟨rfl,rfl⟩;rw[h0])
 go_ret
 exact⟨by rw[HF2];rfl,HW.2.1⟩) : p := h
theorem zb28 {p : Prop} (h : p := by
 have ej:j=keys.length:=by omega
 subst ej
 have HF2:Hid (E=0):=by
  show _=_
  rw[HF,← HW.2.2]
  simp[J7]
 go_wp2_with fail
 go_ret
 exact⟨by rw[HF2];rfl,HW.2.1⟩) : p := h
theorem zb29 {p : Prop} (h : p := by
 have HV:Hid (res=false):=by show _=_;rw[HRS];rfl
 go_wp2_with fail
 go_ret
 exact⟨by rw[HV];rfl,HG.out⟩) : p := h
theorem zb30 {p : Prop} (h : p := by
 have hb:(md == 0)=false:=by simpa using hm
 have HV:Hid (res=false):=by show _=_;rw[HRS,decide_eq_false hm];rfl
 clear hm
 go_wp2_with fail
 go_ret
 exact⟨by rw[HV];rfl,HG.out⟩) : p := h
theorem zb31 {p : Prop} (h : p := by
 have hb:(nv == (ts.size:Int))=false:=by simpa using hn
 have HV:Hid (res=false):=by show _=_;rw[HRS,decide_eq_false hn];rfl
 clear hn
 go_wp2_with fail
 go_ret
 exact⟨by rw[HV];rfl,HG.out⟩) : p := h
theorem zb32 {p : Prop} (h : p := by
 intro y wv hG hD K hK
 simp only[jF,Act.put,zq,Is] at hK⊢
 refine jN ?_
 go_simp
 exact hK _ _ _ rfl (jC.refl _) rfl) : p := h
theorem zb33 {p : Prop} (h : p := by
 intro y wv hG hD K hK
 simp only[kC,zq4,zq5,Is,and_true] at hD
 simp only[jF,Act.put,zq,Is] at hK⊢
 simp only[hD] at hK⊢
 clear hD
 refine jN ?_
 go_simp
 exact hK _ _ _ rfl (jC.refl _) rfl) : p := h
theorem zb34 {p : Prop} (h : p := by
 intro y wv hG hD K hK
 simp only[kC,zq4,zq5,Is,and_true] at hD
 simp only[jF,Act.put,zq,Is] at hK⊢
 simp only[hD] at hK⊢
 clear hD
 refine jN ?_
 go_simp
 exact hK _ _ _ rfl ((jC.refl _).alloc _) ⟨_,rfl,hG.size,heap_alloc_new _ _⟩) : p := h
theorem A6 {p : Prop} (h : p := by
 intro y wz hG hD K hK
 simp only[jF,Act.put,zq,Is] at hK⊢
 refine jN ?_
 go_simp
 exact hK _ _ _ rfl (V6.refl _) rfl) : p := h
theorem zb36 {p : Prop} (h : p := by
 intro y wz hG hD K hK
 simp only[kC,zq4,zq5,Is,and_true] at hD
 simp only[jF,Act.put,zq,Is] at hK⊢
 simp only[hD] at hK⊢
 clear hD
 refine jN ?_
 go_simp
 exact hK _ _ _ rfl (V6.refl _) rfl) : p := h
theorem zb37 {p : Prop} (h : p := by
 intro y w2 hG hI hD K hK
 clear hI
 simp only[jF,Act.put,zq] at hK⊢
 refine jN ?_
 go_simp
 exact hK _ _ _ rfl (.inl rfl) rfl) : p := h
theorem zb38 {p : Prop} (h : p := by
 obtain⟨p,hp,rfl⟩:=List.mem_map.1 hx
 have h1:=(List.of_mem_zip ((qT _).mem_iff.1 hp)).2
 rw[yW] at h1
 obtain⟨y,hy,e⟩:=List.mem_map.1 h1
 rw[← e];exact hk y hy) : p := h
theorem zb39 {p : Prop} (h : p := by
 rintro ⟨h,hr⟩ j y hy
 cases j with
 | zero=>simp only[List.getElem?_cons_zero,Option.some.injEq] at hy;subst hy;exact h
 | succ j=>
  simp only[List.getElem?_cons_succ] at hy
  have:=hr j y hy
  rw[show i+(j+1)=i+1+j by omega];exact this) : p := h
theorem zb40 {p : Prop} (h : p := by
 intro h
 refine⟨h 0 x rfl,λj y hy=>?_⟩
 have:=h (j+1) y (by simpa using hy)
 rw[show i+(j+1)=i+1+j by omega] at this;exact this) : p := h
theorem zb41 {p : Prop} (h : p := by
 intro y w2 hG hD K hK
 have dca:=hG.cell ca
 have dcb:=hG.cell cb
 exact zsr) : p := h
theorem zb42 {p : Prop} (h : p := by
 intro y w2 hG hD K hK
 simp only[kC,zq4,zq5,Is,and_true] at hD
 simp only[jF,Act.put,zq,Is] at hK⊢
 simp only[hD] at hK⊢
 clear hD
 refine jN ?_
 go_simp
 refine (K6 (HB.grew hG)).mono ?_
 rintro r w3 ⟨rfl,rfl⟩
 exact hK _ _ _ rfl (jC.refl _) rfl) : p := h
theorem zb43 {p : Prop} (h : p := by
 intro y w2 hG hD K hK
 simp only[kC,zq4,zq5,Is,and_true] at hD
 simp only[jF,Act.put,zq,Is] at hK⊢
 simp only[hD] at hK⊢
 clear hD
 refine jN ?_
 go_simp
 refine (sum_any w2 _ ss (HS.grew hG) hsl hss).mono ?_
 rintro r w3 ⟨rfl,rfl⟩
 exact hK _ _ _ rfl (jC.refl _) rfl) : p := h
theorem zb44 {p : Prop} (h : p := by
 exact (((HG.setCell (by simp) _).setCell (by simp) _).setCell (by simp) _).setCell (by simp) _) : p := h
theorem zb45 {p : Prop} (h : p := by
 intro y w2 hG hD K hK
 have dg2:=hG.cell g2
 have dd0:=hG.cell d0
 have dd1:=hG.cell d1
 have dd2:=hG.cell d2
 exact zsr) : p := h
theorem dI {p : Prop} (h : p := by
 simp[results,Tryz.results180,go_sem,c0,c1,c2,J3,vV]) : p := h
theorem nW {p : Prop} (h : p := by
 rw[← HPP.out,HF]) : p := h
theorem zb48 {p : Prop} (h : p := by
 rw[← HPP.out,HF]
 exact (kO.refl HB0.out).grew ((((HGW.out).setCell (Nat.le_refl _) _).setCell (Nat.le_refl _) _).setCell (Nat.le_refl _) _)) : p := h
theorem zb49 {p : Prop} (h : p := by
 rw[← HPP.out,HF]
 exact (kO.refl HB0.out).grew ((((HG3.out).setCell (Nat.le_refl _) _).setCell (Nat.le_refl _) _).setCell (Nat.le_refl _) _)) : p := h
theorem zb50 {p : Prop} (h : p := by
 have:=HA.out ad n c' e
 exact⟨by omega,this.2⟩) : p := h
theorem zb51 {p : Prop} (h : p := by
 rw[← HPP.out,HF2]
 exact HM7.turnSet (Nat.le_refl _) _ _ _) : p := h
theorem zb52 {p : Prop} (h : p := by
 intro y w2 hG hD K hK
 simp only[kC,zq4,zq5,Is,and_true] at hD
 simp only[jF,Act.put,zq,Is] at hK⊢
 simp only[hD] at hK⊢
 clear hD
 refine jN ?_
 go_simp
 refine (FB elem (ty,wd,vn) _ _ (hG.cell HW.2.2.2.2.2.2)).mono ?_
 rintro r w3 ⟨rfl,hg⟩
 exact hK _ _ _ rfl hg rfl) : p := h
theorem zb53 {p : Prop} (h : p := by
 rintro r w5 ⟨rfl,hg5⟩
 have HGG:=zh (((jC.refl _).alloc _).trans hg5)
 have hle:=L3 (v:=(ty,wd,vn)) hlb
 have HLE:=zh hle
 clear hg5 hle
 go_wp2
 go_ret
 exact⟨by rw[HE.out,if_pos HWK.out,HBD.out (by rw[HLE];decide),HLE.out];rfl,HGW.trans HGG.out⟩) : p := h
theorem zb54 {p : Prop} (h : p := by
 simp[results,Tryz.results193,go_sem,c0,c1,c2,J3,vV]) : p := h
theorem zb55 {p : Prop} (h : p := by
 refine jP 0 0 ?_
 intro y w2 p hlo hhi hW hD K hK
 obtain rfl:p=0:=by omega
 have dd:=jC.cell hW HBk.out
 exact zqr) : p := h
theorem zb56 {p : Prop} (h : p := by
 refine jP 0 0 ?_
 intro y w2 p hlo hhi hW hD K hK
 obtain rfl:p=0:=by omega
 have dd:=jC.cell hW HBa.out
 exact zqr) : p := h
theorem zb57 {p : Prop} (h : p := by
 refine jP 0 0 ?_
 intro y w2 p hlo hhi hW hD K hK
 simp only[kV,zq4,zq5,IsP] at hD
 generalize hAA:jF y _ _=AA at hK⊢
 simp only[jF,Act.put,zq,IsP] at hAA
 subst hAA
 simp only[zq4,zq5,IsP] at hK
 simp only[hD] at hK⊢
 clear hD
 refine jN ?_
 go_simp
 exact hK _ _ _ rfl (jC.refl _) ⟨_,_,rfl,λh=>if_neg (by omega)⟩) : p := h
theorem zb58 {p : Prop} (h : p := by
 refine jP 0 0 ?_
 intro y w2 p hlo hhi hW hD K hK
 obtain rfl:p=0:=by omega
 have d10:=Env.cell hW HM1.out 0 _ rfl
 exact zqr) : p := h
theorem zb59 {p : Prop} (h : p := by
 refine jP 0 0 ?_
 intro y w2 p hlo hhi hW hD K hK
 obtain rfl:p=0:=by omega
 have d31:=Env.cell hW HM3.out 1 _ rfl
 exact zqr) : p := h
theorem zb60 {p : Prop} (h : p := by
 refine jP 0 0 ?_
 intro y w2 p hlo hhi hW hD K hK
 obtain rfl:p=0:=by omega
 have dd:=Env.at0 hW
 exact zqr) : p := h
theorem zb61 {p : Prop} (h : p := by
 intro y w2 hW hF
 simp only[yR,IsP,Nat.reduceAdd,List.length_cons,List.length_nil] at hF hW
 have h0:=hF.1
 have h1:=hF.2.1
 have h2:=hF.2.2.1
 have h3:=hF.2.2.2.1
 have h4:=hF.2.2.2.2.1
 have h5:=hF.2.2.2.2.2.1
 have h6:=hF.2.2.2.2.2.2.1
 have h7:=hF.2.2.2.2.2.2.2.1
 have h8:=hF.2.2.2.2.2.2.2.2.1
 have h9:=hF.2.2.2.2.2.2.2.2.2.1
 clear hF
 simp only[jF,Act.put,zq]
 simp only[h0,h1,h2,h3,h4,h5,h6,h7,h8,h9]
 clear h0 h1 h2 h3 h4 h5 h6 h7 h8 h9
 have HE8:Hid (Env B q jB jD w κ [(w.heap.size,Obj.cells #[.int .i64 0,.int .i64 0,.int .u64 0] 135 (0,0))] (({x with s:=kQ jB (jS [k,⟨#[0]⟩]) x.s,keys:=qD k (x.s.1.length:Int) x.keys,names:=x.names++[((x.s.1.length:Int),k)]}:BS).fail (kQ jB (jS [k,⟨#[0]⟩]) x.s).2) w2):=hW
 have jK:=HE8.kp HM.out
 have c0:=jA jK 0 _ rfl
 have c1:=jA jK 1 _ rfl
 have c2:=jA jK 2 _ rfl
 have f0:=jE jK 0
 have f1:=jE jK 1
 have f2:=jE jK 2
 clear jK
 go_wp2_with fail
 refine bodyPost_ret (v:=vV (4,1,(x.s.1.length:Int))) (by simp[results,Tryz.results131,go_sem,c0,c1,c2,vV]) rfl ?_
 exact⟨by rw[HP],by rw[HP];exact HE8.told HM.out (Nat.le_refl _) (Moved.setCell (p:=⟨w.heap.size,2,none⟩) (Moved.setCell (p:=⟨w.heap.size,1,none⟩) (Moved.setCell (p:=⟨w.heap.size,0,none⟩) (Moved.refl (λk=>k=w.heap.size) _) (λ_=>rfl) _) (λ_=>rfl) _) (λ_=>rfl) _)⟩) : p := h
theorem zb62 {p : Prop} (h : p := by
 refine jP 0 0 ?_
 intro y w2 p hlo hhi hW hD K hK
 simp only[kV,zq4,zq5,IsP] at hD
 generalize hAA:jF y _ _=AA at hK⊢
 simp only[jF,Act.put,zq,IsP] at hAA
 subst hAA
 simp only[zq4,zq5,IsP] at hK
 simp only[hD] at hK⊢
 clear hD
 refine jN ?_
 go_simp
 obtain rfl:p=0:=by omega
 refine (Env.buferr hW).mono ?_
 rintro r w3 ⟨rfl,hw3⟩
 exact hK _ _ _ rfl (by rw[hw3];exact jC.refl _) rfl) : p := h
theorem zb63 {p : Prop} (h : p := by
 refine jZ 0 rfl ?_
 intro y w2 hW hD K hK
 simp only[kV,zq4,zq5,IsP] at hD
 generalize hAA:jF y _ _=AA at hK⊢
 simp only[jF,Act.put,zq,IsP] at hAA
 subst hAA
 simp only[zq4,zq5,IsP] at hK
 simp only[hD] at hK⊢
 clear hD
 refine jN ?_
 go_simp
 refine (Env.call hW λκ1 hb hz=>yN _ hb).mono ?_
 rintro r w3 ⟨rfl,he⟩
 exact hK _ _ _ rfl trivial he rfl) : p := h
theorem zb64 {p : Prop} (h : p := by
 refine jP 0 0 ?_
 intro y w2 p hlo hhi hW hD K hK
 have d10:=Env.cell hW HM1.out 0 _ rfl
 exact zqr) : p := h
theorem zb65 {p : Prop} (h : p := by
 refine jP 0 0 ?_
 intro y w2 p hlo hhi hW hD K hK
 have d20:=Env.cell hW HM2.out 0 _ rfl
 exact zqr) : p := h
theorem zb66 {p : Prop} (h : p := by
 refine jP 0 0 ?_
 intro y w2 p hlo hhi hW hD K hK
 have dd0:=Env.cell hW List.mem_cons_self 0 _ rfl
 have dd1:=Env.cell hW List.mem_cons_self 1 _ rfl
 have dd2:=Env.cell hW List.mem_cons_self 2 _ rfl
 exact zqr) : p := h
theorem zb67 {p : Prop} (h : p := by
 refine jZ 0 rfl ?_
 intro y w2 hW hD K hK
 simp only[kV,zq4,zq5,IsP] at hD
 generalize hAA:jF y _ _=AA at hK⊢
 simp only[jF,Act.put,zq,IsP] at hAA
 subst hAA
 simp only[zq4,zq5,IsP] at hK
 simp only[hD] at hK⊢
 clear hD
 refine jN ?_
 go_simp
 refine (Env.call hW λκ1 hb hz=>ZV (ty,wd,n) HVO.out hb).mono ?_
 rintro r w3 ⟨rfl,he⟩
 exact hK _ _ _ rfl trivial he rfl) : p := h
theorem zb68 {p : Prop} (h : p := by
 refine jP 0 0 ?_
 intro y w2 p hlo hhi hW hD K hK
 have dd:=Env.at0 hW
 exact zqr) : p := h
theorem zb69 {p : Prop} (h : p := by
 simp only[List.mem_cons,List.not_mem_nil,or_false] at hz
 have h1:=HSZ.out
 have h2:=HS4.out
 rcases hz with rfl|rfl|rfl<;>dsimp only at e<;>omega) : p := h
theorem zb70 {p : Prop} (h : p := by
 refine jP 0 1 ?_
 intro y w5 p hlo hhi hW hD K hK
 have dq:=jA (ApW.old hW hhi (HE7.kp HN1.out) (λe=>vL HO8.out (HE7.kp HN1.out) (by decide) e.symm)) 0 _ rfl
 clear hD
 generalize hAA:jF y _ _=AA at hK⊢
 simp only[jF,Act.put,zq,IsP] at hAA
 subst hAA
 simp only[zq4,zq5,IsP] at hK
 refine jN ?_
 go_simp
 exact hK _ _ _ rfl (jC.refl _) rfl) : p := h
theorem zb71 {p : Prop} (h : p := by
 refine jP 0 0 ?_
 intro y w5 p hlo hhi hW hD K hK
 obtain rfl:p=0:=by omega
 have dq:=Env.cell ((HE7.out).grew (show jC wr6 w5 from hW)) HN1.out 0 _ rfl
 clear hD
 generalize hAA:jF y _ _=AA at hK⊢
 simp only[jF,Act.put,zq,IsP] at hAA
 subst hAA
 simp only[zq4,zq5,IsP] at hK
 refine jN ?_
 go_simp
 exact hK _ _ _ rfl (jC.refl _) rfl) : p := h
theorem zb72 {p : Prop} (h : p := by
 refine jP 0 0 ?_
 intro y w5 p hlo hhi hW hD K hK
 simp only[kV,zq4,zq5,IsP] at hD
 generalize hAA:jF y _ _=AA at hK⊢
 simp only[jF,Act.put,zq,IsP] at hAA
 subst hAA
 simp only[zq4,zq5,IsP] at hK
 simp only[hD] at hK⊢
 clear hD
 refine jN ?_
 go_simp
 exact hK _ _ _ rfl (jC.refl _) rfl) : p := h
theorem zb73 {p : Prop} (h : p := by
 refine jP 0 0 ?_
 intro y w5 p hlo hhi hW hD K hK
 obtain rfl:p=0:=by omega
 have dd:=jC.cell (show jC wr6 w5 from hW) c8
 simp only[kV,zq4,zq5,IsP] at hD
 generalize hAA:jF y _ _=AA at hK⊢
 simp only[jF,Act.put,zq,IsP] at hAA
 subst hAA
 simp only[zq4,zq5,IsP] at hK
 simp only[hD] at hK⊢
 clear hD
 refine jN ?_
 go_simp
 exact hK _ _ _ rfl (jC.refl _) rfl) : p := h
theorem zb74 {p : Prop} (h : p := by
 refine jP 0 0 ?_
 intro y w5 p hlo hhi hW hD K hK
 obtain rfl:p=0:=by omega
 have dv0:=Env.cell (HE7.grew (show jC wr6 w5 from hW)) HN3.out 0 _ rfl
 have dv1:=Env.cell (HE7.grew (show jC wr6 w5 from hW)) HN3.out 1 _ rfl
 have dv2:=Env.cell (HE7.grew (show jC wr6 w5 from hW)) HN3.out 2 _ rfl
 clear hD
 generalize hAA:jF y _ _=AA at hK⊢
 simp only[jF,Act.put,zq,IsP] at hAA
 subst hAA
 simp only[zq4,zq5,IsP] at hK
 refine jN ?_
 go_simp
 exact hK _ _ _ rfl (jC.refl _) rfl) : p := h
theorem zb75 {p : Prop} (h : p := by
 refine jP 0 0 ?_
 intro y w5 p hlo hhi hW hD K hK
 simp only[kV,zq4,zq5,IsP] at hD
 generalize hAA:jF y _ _=AA at hK⊢
 simp only[jF,Act.put,zq,IsP] at hAA
 subst hAA
 simp only[zq4,zq5,IsP] at hK
 simp only[hD] at hK⊢
 clear hD
 refine jN ?_
 go_simp
 obtain rfl:p=0:=by omega
 exact hK _ _ _ rfl ((jC.refl _).alloc _) (λ_=>⟨⟨_,rfl⟩,Y2 w5 (ty,wd,n)⟩)) : p := h
theorem zb76 {p : Prop} (h : p := by
 refine jZ 0 rfl ?_
 intro y w5 hW hD K hK
 simp only[kV,zq4,zq5,IsP] at hD
 have h7:=hD.2.2.2.2.2.2.1
 generalize hAA:jF y _ _=AA at hK⊢
 simp only[jF,Act.put,zq,IsP] at hAA
 subst hAA
 simp only[zq4,zq5,IsP] at hK
 simp only[hD] at hK⊢
 clear hD
 obtain⟨⟨g7,e7⟩,hv7⟩:=h7 (Nat.le_refl _)
 rw[e7] at hK hv7⊢
 refine jN ?_
 refine MQ w5 _ _ rfl (.slice va8 x.vals.length vc8) x.vals rfl (JM HO8.out (show jC wr6 w5 from hW)) _ (ty,wd,n) g7 rfl hv7 rfl (by have:=HVS.out;omega) ?_
 intro v' w' ho hgr hnx
 exact hK _ _ _ rfl trivial (Moved.trans (Moved.of_grew (S:=λk=>some k=(Value.slice va8 x.vals.length vc8).ownBlock) (show jC wr6 w5 from hW)) (Moved.of_grown hgr) (λ_ _ e=>e)) ⟨ho,λk hk=>(hnx k hk).imp id (λe=>Nat.le_trans (jC.size (show jC wr6 w5 from hW)) e)⟩) : p := h
theorem zb77 {p : Prop} (h : p := by
 refine jP 1 1 ?_
 intro y w5 p hlo hhi hW hD K hK
 simp only[kV,zq4,zq5,IsP] at hD
 generalize hAA:jF y _ _=AA at hK⊢
 simp only[jF,Act.put,zq,IsP] at hAA
 subst hAA
 simp only[zq4,zq5,IsP] at hK
 simp only[hD] at hK⊢
 clear hD
 refine jN ?_
 go_simp
 exact hK _ _ _ rfl (jC.refl _) rfl) : p := h
theorem zb78 {p : Prop} (h : p := by
 refine jZ 1 rfl ?_
 intro y w5 hW hD K hK
 have hrp:w5.heap[q.p]? = some (eM q jD (.slice va8 x.vals.length vc8) ({({x with s:=s1}:BS).fail ee with lists:=qD list x.vals.length x.lists}).e):=Moved.heap (show Moved _ wr6 w5 from hW) HR8.out (λe=>vL HO8.out HR8.out (by decide) e.symm)
 have dd:=jA hrp 8 _ rfl
 have ff:=jE hrp 8
 simp only[kV,zq4,zq5,IsP] at hD
 have h8:=hD.2.2.2.2.2.2.2.2.1
 generalize hAA:jF y _ _=AA at hK⊢
 simp only[jF,Act.put,zq,IsP] at hAA
 subst hAA
 simp only[zq4,zq5,IsP] at hK
 simp only[hD] at hK⊢
 clear hD
 have hq:jU w5 0 _ _∧yX wr6 _ _:=h8
 obtain⟨a8,c8',e8,_⟩:=zI hq.1
 replace e8:y 8=.slice a8 (x.vals.length+1) c8':=by rw[e8];simp
 rw[e8] at hK hq⊢
 clear e8 h8
 refine jN ?_
 go_simp
 exact hK _ undef _ rfl trivial (HE7.setVals HR8.out (show Moved _ wr6 w5 from hW) hq.1 hq.2 HLV.out HOV.out) trivial) : p := h
theorem zb79 {p : Prop} (h : p := by
 refine jP 0 0 ?_
 intro y wr6 p hlo hhi hW hD K hK
 have dq:=Env.cell hW HN1.out 0 _ rfl
 clear hD
 generalize hAA:jF y _ _=AA at hK⊢
 simp only[jF,Act.put,zq,IsP] at hAA
 subst hAA
 simp only[zq4,zq5,IsP] at hK
 refine jN ?_
 go_simp
 exact hK _ _ _ rfl (jC.refl _) rfl) : p := h
theorem zb80 {p : Prop} (h : p := by
 refine jP 0 0 ?_
 intro y wr6 p hlo hhi hW hD K hK
 simp only[kV,zq4,zq5,IsP] at hD
 generalize hAA:jF y _ _=AA at hK⊢
 simp only[jF,Act.put,zq,IsP] at hAA
 subst hAA
 simp only[zq4,zq5,IsP] at hK
 simp only[hD] at hK⊢
 clear hD
 refine jN ?_
 go_simp
 exact hK _ _ _ rfl (jC.refl _) rfl) : p := h
theorem zb81 {p : Prop} (h : p := by
 refine jP 0 0 ?_
 intro y wr6 p hlo hhi hW hD K hK
 have dd:=Env.at6 hW
 simp only[kV,zq4,zq5,IsP] at hD
 generalize hAA:jF y _ _=AA at hK⊢
 simp only[jF,Act.put,zq,IsP] at hAA
 subst hAA
 simp only[zq4,zq5,IsP] at hK
 simp only[hD] at hK⊢
 clear hD
 refine jN ?_
 go_simp
 exact hK _ _ _ rfl (jC.refl _) rfl) : p := h
theorem zb82 {p : Prop} (h : p := by
 refine jP 0 0 ?_
 intro y wr6 p hlo hhi hW hD K hK
 clear hD
 generalize hAA:jF y _ _=AA at hK⊢
 simp only[jF,Act.put,zq,IsP] at hAA
 subst hAA
 simp only[zq4,zq5,IsP] at hK
 refine jN ?_
 go_simp
 exact hK _ _ _ rfl (jC.refl _) rfl) : p := h
theorem zb83 {p : Prop} (h : p := by
 refine jP 0 0 ?_
 intro y wr6 p hlo hhi hW hD K hK
 have di:=Env.cell hW List.mem_cons_self 0 _ rfl
 clear hD
 generalize hAA:jF y _ _=AA at hK⊢
 simp only[jF,Act.put,zq,IsP] at hAA
 subst hAA
 simp only[zq4,zq5,IsP] at hK
 refine jN ?_
 go_simp
 exact hK _ _ _ rfl (jC.refl _) rfl) : p := h
theorem zb84 {p : Prop} (h : p := by
 refine jZ 0 rfl ?_
 intro y wr6 hW hD K hK
 simp only[kV,zq4,zq5,IsP] at hD
 generalize hAA:jF y _ _=AA at hK⊢
 simp only[jF,Act.put,zq,IsP] at hAA
 subst hAA
 simp only[zq4,zq5,IsP] at hK
 simp only[hD] at hK⊢
 clear hD
 refine jN ?_
 go_simp
 refine (Env.listsPut (x:=({x with s:=s1}:BS).fail ee) list (x.vals.length:Int) HLS.out hW).mono ?_
 rintro r w3 ⟨rfl,he⟩
 exact hK _ _ _ rfl trivial he rfl) : p := h
theorem zb85 {p : Prop} (h : p := by
 refine jP 0 0 ?_
 intro y w2 p hlo hhi hW hD K hK
 obtain rfl:p=0:=by omega
 simp only[kV,zq4,zq5,IsP] at hD
 generalize hAA:jF y _ _=AA at hK⊢
 simp only[jF,Act.put,zq,IsP] at hAA
 subst hAA
 simp only[zq4,zq5,IsP] at hK
 simp only[hD] at hK⊢
 clear hD
 refine jN ?_
 go_simp
 exact hK _ _ _ rfl ((jC.refl _).alloc _) (λ_=>⟨⟨_,rfl⟩,GD w2 pk.1 W _ _ HPB.out HWB.out⟩)) : p := h
theorem zb86 {p : Prop} (h : p := by
 refine jP 0 0 ?_
 intro y w2 p hlo hhi hW hD K hK
 simp only[kV,zq4,zq5,IsP] at hD
 have h8:=hD.2.2.2.1
 generalize hAA:jF y _ _=AA at hK⊢
 simp only[jF,Act.put,zq,IsP] at hAA
 subst hAA
 simp only[zq4,zq5,IsP] at hK
 simp only[hD] at hK⊢
 clear hD
 obtain rfl:p=0:=by omega
 obtain⟨⟨g8,e8⟩,hb8⟩:=h8 (Nat.le_refl _)
 rw[e8] at hK hb8⊢
 have hst:(convert 28 9 (.slice (some ⟨g8,0,none⟩) 2 2)).run Tryz.prog w2=.ok (.string ⟨#[UInt8.ofNat pk.1.toNat,UInt8.ofNat W.toNat]⟩) w2:=ZD hb8
 refine jN ?_
 go_simp
 exact hK _ _ _ rfl (jC.refl _) rfl) : p := h
theorem zb87 {p : Prop} (h : p := by
 refine jP 0 0 ?_
 intro y w2 p hlo hhi hW hD K hK
 obtain rfl:p=0:=by omega
 simp only[kV,zq4,zq5,IsP] at hD
 generalize hAA:jF y _ _=AA at hK⊢
 simp only[jF,Act.put,zq,IsP] at hAA
 subst hAA
 simp only[zq4,zq5,IsP] at hK
 simp only[hD] at hK⊢
 clear hD
 refine jN ?_
 go_simp
 exact hK _ _ _ rfl ((jC.refl _).alloc _) (λ_=>⟨_,rfl,Env.add hW _⟩)) : p := h
theorem zb88 {p : Prop} (h : p := by
 refine jZ 0 rfl ?_
 intro y w2 hW hD K hK
 simp only[kV,zq4,zq5,IsP] at hD
 have h10:=hD.2.2.2.2.2.2.2.2.2.2.1
 generalize hAA:jF y _ _=AA at hK⊢
 simp only[jF,Act.put,zq,IsP] at hAA
 subst hAA
 simp only[zq4,zq5,IsP] at hK
 simp only[hD] at hK⊢
 clear hD
 obtain⟨g10,e10,hE10⟩:=h10 (Nat.le_refl _)
 rw[e10] at hK⊢
 refine jN ?_
 go_simp
 refine (Env.text1 hE10 (show (2:Nat)+0≤1073741824 by decide)).mono ?_
 rintro r w3 ⟨rfl,he⟩
 have e2:jS [(⟨#[UInt8.ofNat pk.1.toNat,UInt8.ofNat W.toNat]⟩:ByteArray)]=[UInt8.ofNat pk.1.toNat,UInt8.ofNat W.toNat]:=by simp[jS]
 rw[e2] at he
 exact hK _ _ _ rfl trivial he rfl) : p := h
theorem zb89 {p : Prop} (h : p := by
 intro y w4 hG hD K hK
 simp only[jF,Act.put,zq,Is] at hK⊢
 refine jN ?_
 go_simp
 exact hK _ _ _ rfl (jC.refl _) rfl) : p := h
theorem oN {p : Prop} (h : p := by
 intro y w4 hG hD K hK
 simp only[kC,zq4,zq5,Is,and_true] at hD
 simp only[jF,Act.put,zq,Is] at hK⊢
 simp only[hD] at hK⊢
 clear hD
 refine jN ?_
 go_simp
 exact hK _ _ _ rfl (jC.refl _) rfl) : p := h
theorem zb91 {p : Prop} (h : p := by
 intro y w4 hG hD K hK
 simp only[kC,zq4,zq5,Is,and_true] at hD
 have dcb0:=hG.cell cb0
 simp only[jF,Act.put,zq,Is] at hK⊢
 simp only[hD] at hK⊢
 clear hD
 refine jN ?_
 go_simp
 exact hK _ _ _ rfl (jC.refl _) rfl) : p := h
theorem zb92 {p : Prop} (h : p := by
 refine jP 0 1 ?_
 intro y w8 p hlo hhi hW hD K hK
 clear hD
 generalize hAA:jF y _ _=AA at hK⊢
 simp only[jF,Act.put,zq,IsP] at hAA
 subst hAA
 simp only[zq4,zq5,IsP] at hK
 refine jN ?_
 go_simp
 exact hK _ _ _ rfl (jC.refl _) rfl) : p := h
theorem zb93 {p : Prop} (h : p := by
 refine jP 0 0 ?_
 intro yy wB p hlo hhi hW hD K hK
 simp only[kV,zq4,zq5,IsP] at hD
 generalize hAA:jF yy _ _=AA at hK⊢
 simp only[jF,Act.put,zq,IsP] at hAA
 subst hAA
 simp only[zq4,zq5,IsP] at hK
 simp only[hD] at hK⊢
 clear hD
 refine jN ?_
 go_simp
 exact hK _ _ _ rfl (jC.refl _) rfl) : p := h
theorem A7 {p : Prop} (h : p := by
 intro y w2 hG hD K hK
 have dc0:=hG.cell c0
 have dc1:=hG.cell c1
 have dc2:=hG.cell c2
 have dc3:=hG.cell c3
 exact zsg) : p := h
theorem zb95 {p : Prop} (h : p := by
 intro y w2 hG hD K hK
 simp only[kC,zq4,zq5,Is,and_true] at hD
 generalize hA:jF y _ _=A at hK⊢
 simp only[jF,Act.put,zq,Is] at hA
 subst hA
 simp only[hD] at hK⊢
 clear hD
 refine jN ?_
 go_simp
 exact hK _ _ _ rfl (jC.refl _) (by first | rfl | exact congrArg Value.bool (decide_eq_false (by omega)))) : p := h
theorem zb96 {p : Prop} (h : p := by
 intro y w2 hG hD K hK
 simp only[kC,zq4,zq5,Is,and_true] at hD
 generalize hA:jF y _ _=A at hK⊢
 simp only[jF,Act.put,zq,Is] at hA
 subst hA
 simp only[hD] at hK⊢
 clear hD
 refine jN ?_
 go_simp
 refine (ES typ w2).mono ?_
 rintro r w3 ⟨rfl,hg3⟩
 exact hK _ _ _ rfl hg3 rfl) : p := h
theorem zb97 {p : Prop} (h : p := by
 intro y w2 hG hD K hK
 simp only[kC,zq4,zq5,Is,and_true] at hD
 generalize hA:jF y _ _=A at hK⊢
 simp only[jF,Act.put,zq,Is] at hA
 subst hA
 simp only[hD] at hK⊢
 clear hD
 refine jN ?_
 go_simp
 exact hK _ _ _ rfl (jC.refl _) (by first | rfl | exact congrArg Value.bool HBL.out)) : p := h
theorem zb98 {p : Prop} (h : p := by
 skip
 have HV:Hid (res=false):=by show _=_;rw[HRS];simp
 go_wp2_with fail
 go_ret
 exact⟨by rw[HV];rfl,HG.out⟩) : p := h
theorem zb99 {p : Prop} (h : p := by
 have hbx:(md != 0)=true:=by simpa using hmd0
 have HV:Hid (res=false):=by show _=_;rw[HRS];simp[hmd0]
 go_wp2_with fail
 go_ret
 exact⟨by rw[HV];rfl,HG.out⟩) : p := h
theorem zb100 {p : Prop} (h : p := by
 have hgt:(d.length:Int) < at_+(l.length:Int)*wid+(l.length:Int):=by omega
 have HV:Hid (res=false):=by show _=_;rw[HRS];simp[hend]
 go_wp2_with fail
 go_ret
 exact⟨by rw[HV];rfl,HG.out⟩) : p := h
theorem zb101 {p : Prop} (h : p := by
 have hbx:(nv != (l.length:Int))=true:=by simpa using hnv
 have HV:Hid (res=false):=by show _=_;rw[HRS];simp[hnv]
 go_wp2_with fail
 go_ret
 exact⟨by rw[HV];rfl,HG.out⟩) : p := h
theorem D8 {p : Prop} (h : p := by
 have ek:kk=l.length:=by omega
 have HV:Hid (res=true):=by show _=_;rw[HRS2,HL.2,ek,List.drop_length];rfl
 subst ek
 clear hlt
 go_wp2_with fail
 go_ret
 exact⟨by rw[HV];rfl,HGW.out⟩) : p := h
theorem zb103 {p : Prop} (h : p := by
 have hbu:(ue != 0)=true:=by simpa using hue
 have HV:Hid (res=false):=by show _=_;rw[HRS2,HL.2,HDR,JD,HEK,decide_eq_false hue];rfl
 have HGF:=zh (HGW.trans HG4.out)
 clear hue
 go_wp2_with fail
 go_ret
 exact⟨by rw[HV];rfl,HGF.out⟩) : p := h
theorem D9 {p : Prop} (h : p := by
 have HV:Hid (res=false):=by show _=_;rw[HRS2,HKX];rfl
 have HGF:=zh (HGW.trans HG6.out)
 go_wp2_with fail
 go_ret
 exact⟨by rw[HV];rfl,HGF.out⟩) : p := h
theorem zb105 {p : Prop} (h : p := by
 have hgt:(d.length:Int) < at_+(l.length:Int)*wid:=by omega
 have HV:Hid (res=false):=by show _=_;rw[HRS];simp[hend]
 go_wp2_with fail
 go_ret
 exact⟨by rw[HV];rfl,HG.out⟩) : p := h
theorem EA {p : Prop} (h : p := by
 intro y w2 hG hD K hK
 have da0:=hG.cell a0
 have da1:=hG.cell a1
 have da2:=hG.cell a2
 have da3:=hG.cell a3
 have da4:=hG.cell a4
 have da5:=hG.cell a5
 exact zsg) : p := h
theorem EB {p : Prop} (h : p := by
 have eq:q=l.length:=by omega
 subst eq
 have hqi:¬((l.length:Nat):Int) < l.length:=by omega
 have hf:=HW.out
 rw[List.take_length,HMR] at hf
 obtain⟨va,vc,rfl,hz1,hz2,hz3⟩:=jR hf.1
 have HF:=zh hf
 clear HW hf hz1 hz2 hz3
 go_wp2
 go_ret
 exact⟨.slice va MR.length vc,rfl,JO HF.1 HG0.size,HG0.trans HF.2⟩) : p := h
theorem iK {p : Prop} (h : p := by
 intro y w2 hG hD K hK
 have dcb:=hG.cell cb
 exact zsr) : p := h
theorem zb109 {p : Prop} (h : p := by
 intro y w2 hG hD K hK
 have de0:=hG.cell e0
 have de1:=hG.cell e1
 have de2:=hG.cell e2
 have de3:=hG.cell e3
 have de4:=hG.cell e4
 have de5:=hG.cell e5
 exact zsr) : p := h
theorem rU {p : Prop} (h : p := by
 intro y w2 hG hD K hK
 have dg0:=hG.cell g0
 have dg1:=hG.cell g1
 have dg2:=hG.cell g2
 have dg3:=hG.cell g3
 have dg4:=hG.cell g4
 have dg5:=hG.cell g5
 exact zsr) : p := h
theorem zb111 {p : Prop} (h : p := by
 refine jP 0 0 ?_
 intro y w9 p hlo hhi hW hD K hK
 clear hD
 generalize hAA:jF y _ _=AA at hK⊢
 simp only[jF,Act.put,zq,IsP] at hAA
 subst hAA
 simp only[zq4,zq5,IsP] at hK
 refine jN ?_
 go_simp
 exact hK _ _ _ rfl (jC.refl _) rfl) : p := h
theorem zb112 {p : Prop} (h : p := by
 intro y wk hG hD K hK
 simp only[jF,Act.put,zq,Is] at hK⊢
 refine jN ?_
 go_simp
 exact hK _ _ _ rfl (jC.refl _) rfl) : p := h
def sqC1 (i:Nat):List (List Nat)→List (Nat × Nat)→List (Nat × Nat)
  | d::D,p::F=>bif i==p.2||d.contains i then sqC1 i D F else p::sqC1 i D F
  | _,_=>[]
def sqC2 (D:List (List Nat)) (F:List (Nat × Nat)):Nat→List (List Nat)→List (List (Nat × Nat))
  | i,_::r=>sqC1 i D F::sqC2 D F (i+1) r
  | _,[]=>[]
def sqC (D:List (List Nat)) (F:List (Nat × Nat)):=sqC2 D F 0 D
theorem sqc {p : Prop} (h : p := by simp only[sqC,sqC1,sqC2,List.contains,List.elem,Nat.reduceAdd,Nat.reduceBEq,BEq.rfl,Bool.or_true,Bool.true_or,Bool.or_false,Bool.or_self,cond_true,cond_false];rfl) : p := h
end Go.Proofs.YtdjoffgkndncfaaGreat
