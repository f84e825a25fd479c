/-
  Texts of the proof.
-/
import Derived.Test.YtjnpcddbgfmpcaaGreatDoorBMapsPAD
import Derived.Laws.AppendOwnNone
import Derived.Lib.AppendZeros
set_option linter.unusedVariables false
set_option linter.unusedSimpArgs false
namespace Go.Proofs.YtjnpcddbgfmpcaaGreatDoor
open Go Go.ChangeShapes Go.WideShapes Go.ChangeAt Go.RowKit Go.Joins
def kB (w:World) (v:Value) (x:List UInt8):Prop:=
 ∃a c,v=.slice a x.length c∧x.length≤c∧(a=none→c=0)∧∀(i:Nat) (b:UInt8),x[i]? = some b→∃bl off,a=some ⟨bl,off,none⟩∧w.cell? ⟨bl,off+i,none⟩=some (.int .u8 b.toNat)
theorem kB.grew {w w':World} {v:Value} {x:List UInt8} (h:kB w v x) (hg:jA w w'):kB w' v x:=by
 obtain⟨a,c,h1,h2,h3,h4⟩:=h
 refine⟨a,c,h1,h2,h3,fun i b hb=>?_⟩
 obtain⟨bl,off,e,hc⟩:=h4 i b hb
 exact⟨bl,off,e,hg.cell hc⟩
theorem kB.nil (w:World):kB w (.slice none 0 0) []:=⟨none,0,rfl,Nat.le_refl _,fun _=>rfl,by simp⟩
theorem kB.of_own {w:World} {B:Nat} {t:TypeId} {v:Value} {l:List UInt8} (h:w.ownsRow B t 1 v l.length (Lib.byteCells l)):kB w v l:=by
 have h0:=h
 obtain⟨_,h2⟩:=h
 rcases h2 with ⟨rfl,hn⟩|⟨g,cap,cur,rfl,_,_,hn,_⟩
 ·have:l=[]:=List.length_eq_zero_iff.1 hn
  subst this
  exact kB.nil w
 ·refine⟨some ⟨g,0,none⟩,cap,rfl,hn,(fun h=>by cases h),fun i b hb=>⟨g,0,rfl,?_⟩⟩
  have hi:=(List.getElem?_eq_some_iff.1 hb).1
  rw[Nat.zero_add,World.ownsRow.cellAt h0 i (by omega)]
  simp[Lib.byteCells,hb]
theorem Tryz.infoByte:(Tryz.prog.info? 5).map (fun i=>(i.zero,i.size,i.bytes))=some (some (.int .u8 0),1,1):=by kernel_rfl
theorem YV:∃i0,Tryz.prog.info? 5=some i0∧i0.zero=some (.int .u8 0)∧i0.size=1∧i0.bytes=1:=by
 have h:=Tryz.infoByte
 cases hq:Tryz.prog.info? 5 with
 | none=>simp[hq] at h
 | some i=>simp[hq] at h;exact⟨i,rfl,h.1,h.2.1,h.2.2⟩
theorem y6 {P:Program} (w:World) (base:Nat) (t ty e:TypeId) (i:TypeInfo) (z:Value) (size bytes:Nat) (ht:P.underlying t=some (.slice e)) (hi:P.info? e=some i) (hz:i.zero=some z)
 (hsize:i.size=size) (hby:i.bytes=bytes) (hzs:z.cells.size=size) (hsz:0 < size)
 (v:Value) (n:Nat) (xs:List Value) (j3:w.ownsRow base e size v n xs)
 (a:Addr) (m c:Nat) (news:List Value) (hl:news.length=m*size) (hnews:∀j u,news[j]? = some u→w.cell? (a.add j)=some u) (h1:∀u∈news,u.oneCell'=true)
 (h63:n+m≤maxLen) (hbytes:(n+m)*bytes≤140737488355328) (hbase:base≤w.heap.size) :
 ∃v' w',(Builtin.append_ #[t,t] ty #[v,.slice (some a) m c]).run P w=.ok v' w'∧w'.ownsRow base e size v' (n+m) (xs++news)∧w.grownBy w' v.ownBlock∧zO w v.ownBlock v'.ownBlock:=by
 obtain⟨v',w',hr,h2,h3,h4⟩:=run_append_own (P:=P) w base t ty e i z size bytes ht hi hz hsize hby hzs hsz v n xs j3 a m c news hl hnews h1 h63 hbytes hbase
 refine⟨v',w',hr,h2,h3,?_⟩
 subst hsize
 subst hby
 have h64:n+m≤9223372036854775807:=by simp only[maxLen] at h63;omega
 rcases j3.2 with ⟨rfl,rfl⟩|⟨g,cap,cur,rfl,hbg,hg,hnc,hcm,hcs,htake⟩
 ·by_cases hm:m=0
  ·rw[h4.2 ⟨rfl,hm⟩];exact zO.refl _ _
  ·have hr2:=run_append_nil (P:=P) w t ty e i z ht hi hz a m c news hl hnews (by omega) (by omega) (by have hb:=hbytes;simp only[Nat.zero_add] at hb;omega)
   rw[hr] at hr2
   injection hr2 with e1 e2
   subst e1
   exact zO.fresh (Nat.le_refl _)
 ·by_cases hroom:n+m≤cap
  ·have hfit:n*i.size+news.length≤cur.size:=by rw[hl,hcs,← Nat.add_mul];exact Nat.mul_le_mul_right _ hroom
   have hr2:=run_append_room (P:=P) w t ty e i ht hi g n cap cur hg a m c news hl hnews h1 hroom hfit
   rw[hr] at hr2
   injection hr2 with e1 e2
   subst e1
   exact zO.refl _ _
  ·have holds:∀j u,xs[j]? = some u→w.cell? ((⟨g,0,none⟩:Addr).add j)=some u:=j3.cells (g:=g) rfl
   have hr2:=run_append_grow (P:=P) w t ty e i z ht hi hz ⟨g,0,none⟩ n cap xs j3.1 holds a m c news hl hnews (by omega) (by omega) (growslice_fits (by omega) hbytes)
   rw[hr] at hr2
   injection hr2 with e1 e2
   subst e1
   exact zO.fresh (Nat.le_refl _)
theorem ZK {ops:Array Oper} {rest:List Oper} {o:Oper} {a:Act} {w:World} {Q:Exit→Act→World→Prop} (hgd:o.guard=none) (s x:Operand)
 (ho:o.op=.call {callee:=.builtin .append,args:=#[s,x],argTypes:=#[31,31]}) (B:Nat) (v:Value) (l:List UInt8) (hs:a.eval s=v) (j3:w.ownsRow B 5 1 v l.length (Lib.byteCells l))
 (sv:Value) (l2:List UInt8) (hx:a.eval x=sv) (hsv:kB w sv l2) (j8:l.length+l2.length≤1099511627776) (hB:B≤w.heap.size)
 (h:∀v' w',w'.ownsRow B 5 1 v' (l++l2).length (Lib.byteCells (l++l2))→w.grownBy w' v.ownBlock→zO w v.ownBlock v'.ownBlock→wpList Tryz.prog ops Q rest (a.put o.dst v') w'):wpList Tryz.prog ops Q (o::rest) a w:=by
 obtain⟨i0,hi,hz0,hz1,hz2⟩:=YV
 obtain⟨sa,cap,rfl,hcap,kQ,hc⟩:=hsv
 cases sa with
 | none=>
  have h0:l2=[]:=by
   cases l2 with
   | nil=>rfl
   | cons y r=>obtain⟨b,off,e,_⟩:=hc 0 y rfl;cases e
  subst h0
  have:=kQ rfl
  subst this
  refine wpList_append_own_none hgd s x 31 ho B 5 i0 1 Tryz.underlying31 hi v l.length _ hs j3 hx ?_
  exact h v w (by rw[List.append_nil];exact j3) ⟨rfl,rfl,rfl,Nat.le_refl _,fun _ _ _=>rfl⟩ (zO.refl _ _)
 | some ad=>
  have hcells:∀j u,(Lib.byteCells l2)[j]? = some u→w.cell? (ad.add j)=some u:=by
   intro j u hj
   simp only[Lib.byteCells,List.getElem?_map,Option.map_eq_some_iff] at hj
   obtain⟨b,hb,rfl⟩:=hj
   obtain⟨bl,off,e,j2⟩:=hc j b hb
   cases e
   have:(⟨bl,off,none⟩:Addr).add j=⟨bl,off+j,none⟩:=by
    unfold Addr.add
    split
    ·rename_i h;subst h;rfl
    ·rfl
   rw[this];exact j2
  have hone:∀u∈Lib.byteCells l2,u.oneCell'=true:=by
   intro u hu
   simp only[Lib.byteCells,List.mem_map] at hu
   obtain⟨b,_,rfl⟩:=hu
   rfl
  obtain⟨v',w',hr,h2,h3,h4⟩:=y6 (P:=Tryz.prog) w B 31 o.type 5 i0 (.int .u8 0) 1 1 Tryz.underlying31 hi hz0 hz1 hz2 rfl (by decide) v l.length _ j3 ad l2.length cap (Lib.byteCells l2) (by simp[Lib.byteCells]) hcells hone (by unfold maxLen;omega) (by omega) hB
  refine wpList_plain hgd fun _ hK=>Lib.wp_append_run w s x 31 31 ho v _ hs hx v' w' hr (hK _ _ (h v' w' ?_ h3 h4))
  rw[List.length_append,show Lib.byteCells (l++l2)=Lib.byteCells l++Lib.byteCells l2 by simp[Lib.byteCells]]
  exact h2
theorem rK {B:Nat} {w w3:World} {p:Nat} {o:Option Nat} {l':List UInt8} {most e:Int} {v v':Value} (hBp:B≤p) (h1:w.heap[p]? = some (.cells #[.bool true,v,.int .i64 most,.int .i64 e] 107 (0,0))) (h3:v.ownBlock=o) (h4:o≠some p)
 (j3:w3.ownsRow B 5 1 v' l'.length (Lib.byteCells l')) (hgr:w.grownBy w3 v.ownBlock) (hnx:zO w v.ownBlock v'.ownBlock) :
 w3.heap[p]? = some (.cells #[.bool true,v,.int .i64 most,.int .i64 e] 107 (0,0)) ∧
 (kU B (w3.setCell ⟨p,1,none⟩ v') p v'.ownBlock l' most e∧zO w o v'.ownBlock∧Moved (qH p o) w (w3.setCell ⟨p,1,none⟩ v')):=by
 have hlt:p < w.heap.size:=(Array.getElem?_eq_some_iff.1 h1).1
 have hp3:w3.heap[p]? = some (.cells #[.bool true,v,.int .i64 most,.int .i64 e] 107 (0,0)):=(hgr.block p hlt (fun he=>h4 (by rw[← h3,← he]))).trans h1
 rw[h3] at hnx
 have hne:v'.ownBlock≠some p:=by
  intro hq
  rcases hnx p hq with hn|hn
  ·exact h4 hn
  ·omega
 have hm:Moved (fun k=>k=p) w3 (w3.setCell ⟨p,1,none⟩ v'):=Moved.setCell (p:=⟨p,1,none⟩) (Moved.refl (fun k=>k=p) w3) (fun _=>rfl) _
 refine⟨hp3,⟨hBp,v',(dH hp3 _).2,hm.owns j3 (fun k hk he=>hne (by rw[hk,he])),rfl,hne⟩,hnx,?_⟩
 refine (Moved.of_grown hgr).mono (T:=qH p o) (fun j _ hj=>.inr (by rw[hj,h3])) |>.trans hm (fun j _ hj=>.inl hj)
def ZL (l x:List UInt8) (most e:Int):List UInt8:=if e=0∧(x.length:Int)≤most - l.length then l++x else l
def QG (l x:List UInt8) (most e:Int):Int:=if e=0∧¬(x.length:Int)≤most - l.length then 5 else e
theorem put_any {B:Nat} {w:World} {p:Nat} {o:Option Nat} {l:List UInt8} {most e:Int} (sv:Value) (x:List UInt8) (h:kU B w p o l most e) (hB:B≤w.heap.size) (hm:l.length≤1048576) (hm0:0≤most) (hm1:most≤1048576) (hx:kB w sv x) (hxl:x.length≤9223372036854775807) :
 Calls Tryz.prog 94 #[jF p,sv] w fun r w'=>r=.returned (.tuple #[])∧∃o',kU B w' p o' (ZL l x most e) most (QG l x most e)∧zO w o o'∧Moved (qH p o) w w':=by
 have HB:=zh h
 have HX:=zh hx
 obtain⟨hBp,v,h1,h2,h3,h4⟩:=h
 obtain⟨c0,c1,c2,c3⟩:=y5 h1
 obtain⟨va,vc,rfl,_,_⟩:=ZJ h2
 obtain⟨xa,xc,rfl,_,_,_⟩:=hx
 have H1:=zh h1
 have H2:=zh h2
 have H3:=zh h3
 have H4:=zh h4
 have f1:=jE h1 1
 clear h1 h2 h3 h4
 go_enter Tryz.func94,Tryz.ntmps94
 go_wp2_with fail
 refine (qB HB.out).mono ?_
 rintro r w' ⟨rfl,rfl⟩
 by_cases he:e=0
 ·subst he
  go_wp2_with fail
  go_quiet (fail)
  have G:=(jA.refl w').drewN nq
  replace c0:=jA.cell G c0
  replace c1:=jA.cell G c1
  replace c2:=jA.cell G c2
  replace c3:=jA.cell G c3
  have HB2:=zh (HB.out.grew G)
  have HX2:=zh (HX.out.grew G)
  have H12:=zh (jA.heap G H1.out)
  have H22:=zh ((Moved.of_grew (S:=fun _=>False) G).owns H2.out (fun _ _ h=>h))
  replace f1:=jE H12.out 1
  have hB2:B≤(w'.drewN nq).heap.size:=Nat.le_trans hB (jA.size G)
  have HG:=zh G
  clear G H1 H2 HX hB
  generalize w'.drewN nq=w2 at *
  by_cases hlt:(x.length:Int)≤most - l.length
  ·go_wp2_with (at_builtin;refine ZK rfl _ _ rfl B (.slice va l.length vc) l rfl H22.out _ x rfl HX2.out (by omega) hB2 ?_;intro v' w3 j3 hgr hqq;obtain⟨va2,vc2,rfl,_,_⟩:=ZJ j3;have hd:=rK hBp H12.out H3.out H4.out j3 hgr hqq;have hp3:=hd.1;have HD:=zh hd.2;clear hd;obtain⟨d0,d1,d2,d3⟩:=y5 hp3;replace f1:=jE hp3 1;clear hp3 j3 hgr hqq c0 c1 c2 c3)
   go_wp2
   go_end0
   have HE:=HD.out
   rw[List.length_append] at HE
   replace HD:=zh HE
   clear HE
   refine⟨rfl,Value.ownBlock (.slice va2 (l.length+x.length) vc2),?_,?_,?_⟩
   ·rw[ZL,QG,if_pos ⟨rfl,hlt⟩,if_neg (fun h=>h.2 hlt)]
    exact HD.out.1
   ·exact HD.out.2.1.earlier (jA.size HG.out)
   ·exact (Moved.of_grew (S:=qH p o) HG.out).trans' HD.out.2.2
  ·go_wp2_with fail
   refine (gO 5 HB2.out).mono ?_
   rintro r w3 ⟨rfl,hb3,hm3⟩
   have HD:=zh (And.intro hb3 hm3)
   clear hb3 hm3
   go_wp2
   go_end0
   refine⟨rfl,o,?_,zO.refl _ _,(Moved.of_grew (S:=qH p o) HG.out).trans' HD.out.2⟩
   rw[ZL,QG,if_neg (fun h=>by have:=h.2;omega),if_pos ⟨rfl,by omega⟩]
   exact HD.out.1
 ·go_wp2
  go_end0
  refine⟨rfl,o,?_,zO.refl _ _,Moved.refl _ _⟩
  rw[ZL,QG,if_neg (fun h=>he h.1),if_neg (fun h=>he h.1)]
  exact HB.out
end Go.Proofs.YtjnpcddbgfmpcaaGreatDoor
