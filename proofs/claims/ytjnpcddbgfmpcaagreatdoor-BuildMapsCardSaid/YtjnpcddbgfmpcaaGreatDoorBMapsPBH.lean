/-
  Texts of the proof.
-/
import Derived.RangeFuncNested
import Derived.RangeFuncBound
import Derived.RangeFuncCalls
import Derived.RangeFuncLeaves
import Derived.Shelf.Abstract
import Derived.Shelf.RegionOpen
import Derived.OwnWalkIn
import Derived.TacticsInMore
import Derived.LoopNIn
import Derived.LoopIn
import Derived.Test.YtjnpcddbgfmpcaaGreatDoorBMapsPBG
set_option maxHeartbeats 16000000
set_option maxRecDepth 100000
namespace Go.Proofs.YtjnpcddbgfmpcaaGreatDoor.Ft
open Go.Proofs.Tryz
open Go Go.RowKit Go.Shelf
attribute [local go_sem] Oper.semAt_some
theorem jA.keeps {W W':World} (h:jA W W'):KeepsOthers W W':=⟨h.size,fun _ _ hk _=>jA.heap h hk⟩
theorem bI (W:World) (v:Value) (t:TypeId):(W.alloc (.cells #[v] t)).cell? ⟨W.heap.size,0,none⟩=some v∧(W.alloc (.cells #[v] t)).frozen? ⟨W.heap.size,0,none⟩=false:=
 ⟨by simp,by simp⟩
theorem fO {W:World} {a:Addr} {v:Value} (o:Obj) (h:W.cell? a=some v):(W.alloc o).cell? a=some v:=jA.cell ((jA.refl W).alloc o) h
abbrev Wid:={x:Int // isW x}
def wd1:Wid:=⟨1,.inl rfl⟩
def wd2:Wid:=⟨2,.inr (.inl rfl)⟩
def wd4:Wid:=⟨4,.inr (.inr (.inl rfl))⟩
def wd8:Wid:=⟨8,.inr (.inr (.inr rfl))⟩
theorem cW (w:World):SeqStopsK Fence.wide 9 prog 173 #[] (fun v:Wid=>#[Value.int .i64 v.1]) (fun _ _=>True) (fun xs=>xs=[wd1,wd2,wd4,wd8]) (fun pre=>pre <+: [wd1,wd2,wd4,wd8]) 4 w:=by
 intro l J Jx W _ _ _ hY h0
 refine callsIn_of_wp func173 rfl trivial ?_ rfl
 simp only[ntmps173,List.size_toArray,List.length_cons,List.length_nil,Nat.reduceAdd,Nat.reduceSub,Array.replicate_succ,Array.replicate_zero,List.push_toArray,List.append_toArray,List.nil_append,List.cons_append]
 gi_wp2
 gi_loopw [2] (fun v wr=>(v=.int .i64 1∧J [] wr)∨(v=.int .i64 2∧J [wd1] wr)∨(v=.int .i64 4∧J [wd1,wd2] wr)∨(v=.int .i64 8∧J [wd1,wd2,wd4] wr)∨(v=.int .i64 16∧J [wd1,wd2,wd4,wd8] wr)) (fun v _=>16 - (intOf v).toNat)
 case atStart=>exact .inl ⟨rfl,h0⟩
 case round=>
  rcases hrel with ⟨rfl,hJ⟩|⟨rfl,hJ⟩|⟨rfl,hJ⟩|⟨rfl,hJ⟩|⟨rfl,hJ⟩
  ·obtain⟨fn,tmps,assign,body,hy,hR⟩:=hY _ wd1 wr hJ (by simp)
   dsimp only [wd1] at hy
   gi_wp2
   refine hR.mono ?_
   rintro e W3 (⟨rfl,hJ3,_⟩|⟨rfl,hJx3⟩)
   ·gi_wp2
    go_roundw
    case rel=>exact .inr (.inl ⟨rfl,hJ3⟩)
    case measure=>simp[intOf]
   ·gi_wp2
    refine bodyPost_ret (results_none rfl _ _ _) rfl ?_
    exact⟨⟨_,rfl⟩,.inr ⟨_,⟨[wd2,wd4,wd8],rfl⟩,hJx3⟩⟩
  ·obtain⟨fn,tmps,assign,body,hy,hR⟩:=hY _ wd2 wr hJ (by simp)
   dsimp only [wd2] at hy
   gi_wp2
   refine hR.mono ?_
   rintro e W3 (⟨rfl,hJ3,_⟩|⟨rfl,hJx3⟩)
   ·gi_wp2
    go_roundw
    case rel=>exact .inr (.inr (.inl ⟨rfl,hJ3⟩))
    case measure=>simp[intOf]
   ·gi_wp2
    refine bodyPost_ret (results_none rfl _ _ _) rfl ?_
    exact⟨⟨_,rfl⟩,.inr ⟨_,⟨[wd4,wd8],rfl⟩,hJx3⟩⟩
  ·obtain⟨fn,tmps,assign,body,hy,hR⟩:=hY _ wd4 wr hJ (by simp)
   dsimp only [wd4] at hy
   gi_wp2
   refine hR.mono ?_
   rintro e W3 (⟨rfl,hJ3,_⟩|⟨rfl,hJx3⟩)
   ·gi_wp2
    go_roundw
    case rel=>exact .inr (.inr (.inr (.inl ⟨rfl,hJ3⟩)))
    case measure=>simp[intOf]
   ·gi_wp2
    refine bodyPost_ret (results_none rfl _ _ _) rfl ?_
    exact⟨⟨_,rfl⟩,.inr ⟨_,⟨[wd8],rfl⟩,hJx3⟩⟩
  ·obtain⟨fn,tmps,assign,body,hy,hR⟩:=hY _ wd8 wr hJ (by simp)
   dsimp only [wd8] at hy
   gi_wp2
   refine hR.mono ?_
   rintro e W3 (⟨rfl,hJ3,_⟩|⟨rfl,hJx3⟩)
   ·gi_wp2
    go_roundw
    case rel=>exact .inr (.inr (.inr (.inr ⟨rfl,hJ3⟩)))
    case measure=>simp[intOf]
   ·gi_wp2
    refine bodyPost_ret (results_none rfl _ _ _) rfl ?_
    exact⟨⟨_,rfl⟩,.inr ⟨_,⟨[],rfl⟩,hJx3⟩⟩
  ·gi_wp2
   go_end0
   exact⟨⟨_,rfl⟩,.inl ⟨_,rfl,hJ⟩⟩
theorem mM (w:World):Calls prog 125 #[] w fun e w'=>e=.returned (.func (.func 173) #[] #[])∧w=w':=by
 go_enter func125,ntmps125
 go_wp2
 go_ret
 exact⟨rfl,rfl⟩
def leastOf (p:Int→Bool):Int:=if p 1 then 1 else if p 2 then 2 else if p 4 then 4 else if p 8 then 8 else 0
def Answers (g:Nat) (lb:Array Value) (W0:World) (p:Int→Bool):Prop:=
 ∀v,isW v→∀W,jA W0 W→Calls prog g (#[.int .i64 v]++lb) W fun e W'=>e=.returned (.bool (p v))∧jA W W'
theorem JA (g:Nat) (lb:Array Value) (p:Int→Bool) (w:World) (he:∀args w,(callFunc g args).run prog w=.ok (.enter g args) w) (hp:Answers g lb w p) :
 Calls prog 88 #[.func (.func g) #[] lb] w fun e W'=>e=.returned (.int .i64 (leastOf p))∧jA w W':=by
 have HP:=zh hp
 clear hp
 refine (callsIn_wide (n:=10)).1 ?_
 refine callsIn_of_wp_marks func88 rfl trivial ?_ rfl
 simp only[ntmps88,List.size_toArray,List.length_cons,List.length_nil,Nat.reduceAdd,Nat.reduceSub,Array.replicate_succ,Array.replicate_zero,List.push_toArray,List.append_toArray,List.nil_append,List.cons_append]
 gi_wp2_with fail
 refine⟨trivial,(callsIn_wide.2 (mM _)).mono ?_⟩
 rintro e w' ⟨rfl,rfl⟩
 have c0:=bI w (.func (.func g) #[] lb) 87
 have c1:=bI (w.alloc (.cells #[.func (.func g) #[] lb] 87)) (.int .i64 0) 3
 simp only[World.size_alloc] at c1
 have hB0:Below w.heap.size w ((w.alloc (.cells #[.func (.func g) #[] lb] 87)).alloc (.cells #[.int .i64 0] 3)):=((Below.refl _ w).alloc (Nat.le_refl _) _).alloc (by simp) _
 gi_wp2_with fail
 refine wpIn_rangeFunc_ownF rfl (by omega) (gf:=173) (lb:=#[]) rfl trivial (enters_of func173 zk rfl)
  (cW _) (fun _ _=>trivial) (fun _ _ _ _ _ _ _ _=>trivial) (Below.refl _ _) (fun _=>rfl)
  (fun pre W=>((∀y∈pre,p y.1=false)∧W.cell? ⟨w.heap.size,0,none⟩=some (.func (.func g) #[] lb)∧W.cell? ⟨w.heap.size+1,0,none⟩=some (.int .i64 0)∧W.frozen? ⟨w.heap.size+1,0,none⟩=false)∧Below w.heap.size w W)
  (fun c pre W=>(c=.ret∧(∃x q,pre=q++[x]∧p x.1=true∧(∀y∈q,p y.1=false)∧W.cell? ⟨w.heap.size+1,0,none⟩=some (.int .i64 x.1)))∧Below w.heap.size w W)
  (OwnFrom.and (Own.from (fun s A B row hs hg hr=>⟨hs.1,cell_kept hs.2.1 hg hr,cell_kept hs.2.2.1 hg hr,(frozen_kept hs.2.2.1 hg hr).trans hs.2.2.2⟩) _) (ownFrom_below (Nat.le_refl _) (by simp;omega)))
  (fun c=>OwnFrom.and (Own.from (fun s A B row hs hg hr=>⟨hs.1,by obtain⟨x,q,h1,h2,h3,h4⟩:=hs.2;exact⟨x,q,h1,h2,h3,cell_kept h4 hg hr⟩⟩) _) (ownFrom_below (Nat.le_refl _) (by simp;omega)))
  ⟨⟨by simp,fO _ c0.1,c1.1,c1.2⟩,hB0⟩
  (fun x=>{tmps:=#[.func (.func g) #[] lb,.pointer (some ⟨w.heap.size,0,none⟩),.pointer (some ⟨w.heap.size+1,0,none⟩),.int .i64 x.1,.func (.func 173) #[] #[],.int .i64 x.1,undef,undef,undef,undef],defers:=[]}) ?assign ?body ?done ?stop
 case assign=>
  intro l x W K hK
  gi_wp2
  exact hK
 case body=>
  rintro l pre x W ⟨⟨hp,hcg,hcr,hfr⟩,hB⟩ j8
  gi_wp2_with fail
  refine⟨trivial,?_⟩
  refine (CallsIn.inRound l (callsIn_wide.2 (HP.out x.1 x.2 W hB))).mono ?_
  rintro e w1 ⟨rfl,hg⟩
  have hcr1:=hg.cell hcr
  have hfr1:=hg.frozen (yE hcr) hfr
  have hcg1:=hg.cell hcg
  have hB1:Below w.heap.size w w1:=jA.trans hB hg
  have hk:=jA.keeps hg
  clear hcr hcg hfr hg
  by_cases hpx:p x.1=true
  ·gi_wp2
   exact⟨hk.trans (KeepsOthers.setCell _ _ _),⟨rfl,x,pre,rfl,hpx,hp,World.cell?_setCell_same' _ _ _ (by rw[hcr1];rfl)⟩,hB1.setCell (p:=⟨w.heap.size+1,0,none⟩) (by simp) _⟩
  ·have hpx':p x.1=false:=by simpa using hpx
   clear hpx
   gi_wp2
   exact⟨hk,trivial,⟨fun y hy=>(List.mem_append.1 hy).elim (hp y) (fun e=>by simp at e;rw[e];exact hpx'),hcg1,hcr1,hfr1⟩,hB1⟩
 case done=>
  rintro D ys W hD rfl ⟨⟨hne,_,hcr,hfr⟩,hB⟩ hK
  gi_wp2
  have hK':=(KeepsOthers.setCell W ⟨w.heap.size+1,0,none⟩ (.int .i64 0)).same D _ hK rfl
  refine⟨by simp,.inl ⟨_,_,rfl,run_takeDeferred hK',?_⟩⟩
  have hc5:=cell_kept (World.cell?_setCell_same' W ⟨w.heap.size+1,0,none⟩ (.int .i64 0) (by rw[hcr];rfl)) (grownBy_putObj' _ D (.deferred none)) (fun r e=>by cases e;exact⟨_,hK',rfl⟩)
  have h1:=hne wd1 (by simp)
  have h2:=hne wd2 (by simp)
  have h4:=hne wd4 (by simp)
  have h8:=hne wd8 (by simp)
  dsimp only [wd1,wd2,wd4,wd8] at h1 h2 h4 h8
  refine⟨.int .i64 0,?_,by unfold leastOf;rw[h1,h2,h4,h8];rfl,(hB.setCell (p:=⟨w.heap.size+1,0,none⟩) (by simp) _).trans (belowK_b (w:=w) (Nat.le_refl _) _ D _ _ (by simp at hD;omega) hK' rfl rfl)⟩
  simp[results,f88,go_sem,hc5]
 case stop=>
  rintro D c pre W hD hpre ⟨⟨rfl,x,q,rfl,hpx,hq,hcr⟩,hB⟩ hK
  gi_wp2
  refine⟨by simp,.inl ⟨_,_,rfl,run_takeDeferred hK,?_⟩⟩
  have hc5:=cell_kept hcr (grownBy_putObj' _ D (.deferred none)) (fun r e=>by cases e;exact⟨_,hK,rfl⟩)
  have hl:leastOf p=x.1:=by
   unfold leastOf
   obtain⟨r,hr⟩:=hpre
   match q,hq,hr with
   | [],_,hr=>
    simp at hr
    obtain⟨rfl,_⟩:=hr
    dsimp only [wd1] at hpx⊢
    rw[hpx];rfl
   | [a],hq,hr=>
    simp at hr
    obtain⟨rfl,rfl,_⟩:=hr
    have h1:=hq wd1 (by simp)
    dsimp only [wd1,wd2] at h1 hpx⊢
    rw[h1,hpx];rfl
   | [a,b],hq,hr=>
    simp at hr
    obtain⟨rfl,rfl,rfl,_⟩:=hr
    have h1:=hq wd1 (by simp)
    have h2:=hq wd2 (by simp)
    dsimp only [wd1,wd2,wd4] at h1 h2 hpx⊢
    rw[h1,h2,hpx];rfl
   | [a,b,c],hq,hr=>
    simp at hr
    obtain⟨rfl,rfl,rfl,rfl,_⟩:=hr
    have h1:=hq wd1 (by simp)
    have h2:=hq wd2 (by simp)
    have h4:=hq wd4 (by simp)
    dsimp only [wd1,wd2,wd4,wd8] at h1 h2 h4 hpx⊢
    rw[h1,h2,h4,hpx];rfl
   | a::b::c::d::q,_,hr=>
    have:=congrArg List.length hr
    simp at this
  refine⟨.int .i64 x.1,?_,by rw[hl],hB.trans (belowK_b (w:=w) (Nat.le_refl _) W D _ _ (by simp at hD;omega) hK rfl rfl)⟩
  simp[results,f88,go_sem,hc5]
end Go.Proofs.YtjnpcddbgfmpcaaGreatDoor.Ft
namespace Go.Proofs.YtjnpcddbgfmpcaaGreatDoor.Ft
open Go.Proofs.Tryz
open Go Go.RowKit
theorem yG (n:Int) (w:World) :
 Calls prog 87 #[.int .i64 n] w fun e w'=>e=.returned (.bool (decide (0≤n) && decide (n≤1073741824)))∧w=w':=by
 go_enter func87,ntmps87
 go_wp2
 all_goals
  go_ret
  refine⟨ZI ?_,rfl⟩
  first | (simp_all;done) | (simp_all;omega)
def oneF (ty wd n at_ index:Int):Int:=
 if (0≤at_∧at_≤1073741824)∧0≤index∧index≤1073741824 then leastOf (fun v=>fitsF ty wd n at_ index v) else 0
theorem rX (ty wd n at_ index v:Int) (a b c:Nat) (w:World) (hv:isW v) (n0:0≤n) (n1:n≤18446744073709551615) (a0:0≤at_) (a1:at_≤1073741824) (i0:0≤index) (i1:index≤2147483648)
 (h1:w.cell? ⟨a,0,none⟩=some (.int .i64 ty)) (h2:w.cell? ⟨a,1,none⟩=some (.int .i64 wd)) (h3:w.cell? ⟨a,2,none⟩=some (.int .u64 n)) (h4:w.cell? ⟨b,0,none⟩=some (.int .i64 at_)) (h5:w.cell? ⟨c,0,none⟩=some (.int .i64 index)) :
 Calls prog 89 #[.int .i64 v,.pointer (some ⟨a,0,none⟩),.pointer (some ⟨b,0,none⟩),.pointer (some ⟨c,0,none⟩)] w fun e w'=>e=.returned (.bool (fitsF ty wd n at_ index v))∧jA w w':=by
 go_enter func89,ntmps89
 go_wp2_with fail
 refine (y9 _ _ _ _ _ _ _ hv n0 n1 a0 a1 i0 i1).mono ?_
 rintro e w1 ⟨rfl,hg⟩
 go_wp2
 go_ret
 exact⟨rfl,hg⟩
theorem one_any (ty wd n at_ index:Int) (w:World) (n0:0≤n) (n1:n≤18446744073709551615) :
 Calls prog 45 #[mL ty wd n,.int .i64 at_,.int .i64 index] w fun e w'=>e=.returned (.int .i64 (oneF ty wd n at_ index))∧jA w w':=by
 have hmf:∀(fn:Fn) (first cap:Array Value) (w:World),(Instr.makeFunc fn first cap).run prog w=.ok (.func fn first cap) w:=fun _ _ _ _=>rfl
 by_cases ha:0≤at_∧at_≤1073741824
 ·by_cases hi:0≤index∧index≤1073741824
  ·have hf:oneF ty wd n at_ index=leastOf (fun v=>fitsF ty wd n at_ index v):=by unfold oneF;rw[if_pos ⟨ha,hi⟩]
   have HF:=zh hf
   clear hf
   go_enter func45,ntmps45
   go_wp2_with fail
   refine (yG _ _).mono ?_
   rw[show (decide (0≤at_) && decide (at_≤1073741824))=true by simp[ha]]
   rintro e w1 ⟨rfl,rfl⟩
   go_wp2_with fail
   refine (yG _ _).mono ?_
   rw[show (decide (0≤index) && decide (index≤1073741824))=true by simp[hi]]
   rintro e w1 ⟨rfl,rfl⟩
   go_wp2_with fail
   refine (JA _ _ (fun v=>fitsF ty wd n at_ index v) _ (enters_of func89 zk rfl) ?_).mono ?_
   ·intro v hv W hW
    exact rX ty wd n at_ index v w.heap.size (w.heap.size+1) (w.heap.size+1+1) W hv n0 n1 ha.1 ha.2 hi.1 (by omega) (hW.cell (by go_simp)) (hW.cell (by go_simp)) (hW.cell (by go_simp)) (hW.cell (by go_simp)) (hW.cell (by go_simp))
   rintro e w1 ⟨rfl,hg⟩
   go_wp2
   go_ret
   exact⟨by rw[HF.out];rfl,((((jA.refl w).alloc _).alloc _).alloc _).trans hg⟩
  ·have hf:oneF ty wd n at_ index=0:=by unfold oneF;rw[if_neg (fun h=>hi h.2)]
   have HF:=zh hf
   have hb:(decide (0≤index) && decide (index≤1073741824))=false:=by simp;omega
   clear hf
   go_enter func45,ntmps45
   go_wp2_with fail
   refine (yG _ _).mono ?_
   rw[show (decide (0≤at_) && decide (at_≤1073741824))=true by simp[ha]]
   rintro e w1 ⟨rfl,rfl⟩
   go_wp2_with fail
   refine (yG _ _).mono ?_
   rw[hb]
   rintro e w1 ⟨rfl,rfl⟩
   go_wp2
   go_ret
   exact⟨by rw[HF.out];rfl,(((jA.refl w).alloc _).alloc _).alloc _⟩
 ·have hf:oneF ty wd n at_ index=0:=by unfold oneF;rw[if_neg (fun h=>ha h.1)]
  have HF:=zh hf
  have hb:(decide (0≤at_) && decide (at_≤1073741824))=false:=by simp;omega
  clear hf
  go_enter func45,ntmps45
  go_wp2_with fail
  refine (yG _ _).mono ?_
  rw[hb]
  rintro e w1 ⟨rfl,rfl⟩
  go_wp2
  go_ret
  exact⟨by rw[HF.out];rfl,(((jA.refl w).alloc _).alloc _).alloc _⟩
abbrev V3:=Int × Int × Int
def okV (x:V3):Prop:=0≤x.2.2∧x.2.2≤18446744073709551615
def fitsV (x:V3) (at_ i v:Int):Bool:=fitsF x.1 x.2.1 x.2.2 at_ i v
abbrev vV (x:V3):Value:=mL x.1 x.2.1 x.2.2
def ValsAt (w:World) (v:Value) (l:List V3):Prop:=
 ∃a0 cap,v=.slice a0 l.length cap∧∀i x,l[i]? = some x→∃b off,a0=some ⟨b,off,none⟩ ∧
  w.cell? ⟨b,off+i*3,none⟩=some (.int .i64 x.1)∧w.cell? ⟨b,off+i*3+1,none⟩=some (.int .i64 x.2.1)∧w.cell? ⟨b,off+i*3+2,none⟩=some (.int .u64 x.2.2)
theorem ValsAt.grew {w w':World} {v:Value} {l:List V3} (h:ValsAt w v l) (hg:jA w w'):ValsAt w' v l:=by
 obtain⟨a0,cap,h1,h3⟩:=h
 exact⟨a0,cap,h1,fun i x hx=>let ⟨b,off,e,p,q,r⟩:=h3 i x hx;⟨b,off,e,hg.cell p,hg.cell q,hg.cell r⟩⟩
def fitsL:List V3→Int→Int→Int→Bool
 | [],_,_,_=>true
 | x::r,at_,i,v=>fitsV x at_ i v && fitsL r at_ (i+1) v
def headF (n:Nat) (k:V3) (at_ ahead v:Int):Bool:=(decide (ahead≤0) || belowW n v) && (!(ahead == 3) || fitsV k at_ 0 v)
def allAt (l:List V3) (k:V3) (at_ ahead v:Int):Bool:=headF l.length k at_ ahead v && fitsL l at_ ahead v
theorem Y1 (l:List V3) (at_ i v:Int) (k:Nat) (x:V3) (h:l[k]? = some x):fitsL (l.drop k) at_ (i+k) v=(fitsV x at_ (i+k) v && fitsL (l.drop (k+1)) at_ (i+(k+1:Nat)) v):=by
 have hlt:k < l.length:=(List.getElem?_eq_some_iff.1 h).1
 rw[List.drop_eq_getElem_cons hlt]
 have:l[k]=x:=(List.getElem?_eq_some_iff.1 h).2
 rw[this]
 show (fitsV x at_ (i+k) v && fitsL (l.drop (k+1)) at_ (i+k+1) v)=_
 rw[show i+(k:Int)+1=i+((k+1:Nat):Int) by omega]
def isA (a:Int):Prop:=a=0∨a=1∨a=3
theorem bJ (l:List V3) (k1:V3) (at_ ahead v:Int) (sv:Value) (pa pl pk pt:Nat) (w:World) (hv:isW v) (ha:isA ahead) (hl:l.length≤1048576) (a0:0≤at_) (a1:at_≤1073741824)
 (hok:∀x∈l,okV x) (hokk:okV k1) (hs:ValsAt w sv l)
 (h1:w.cell? ⟨pa,0,none⟩=some (.int .i64 ahead)) (h2:w.cell? ⟨pl,0,none⟩=some sv) (h4:w.cell? ⟨pt,0,none⟩=some (.int .i64 at_))
 (q1:w.cell? ⟨pk,0,none⟩=some (.int .i64 k1.1)) (q2:w.cell? ⟨pk,1,none⟩=some (.int .i64 k1.2.1)) (q3:w.cell? ⟨pk,2,none⟩=some (.int .u64 k1.2.2)) :
 Calls prog 166 #[.int .i64 v,.pointer (some ⟨pa,0,none⟩),.pointer (some ⟨pl,0,none⟩),.pointer (some ⟨pk,0,none⟩),.pointer (some ⟨pt,0,none⟩)] w fun e w'=>e=.returned (.bool (allAt l k1 at_ ahead v))∧jA w w':=by
 obtain⟨sa,cap,rfl,hc⟩:=hs
 obtain⟨ky,kw,kn⟩:=k1
 have hv0:1≤v∧v≤8:=by rcases hv with rfl | rfl | rfl | rfl<;>omega
 rcases ha with rfl|rfl|rfl
 ·have hh:headF l.length (ky,kw,kn) at_ 0 v=true:=by simp[headF]
  go_enter func166,ntmps166
  go_wp2_with fail
  have hh':=zh hh
  clear hh
  go_loopw [7,8,32] (fun _ _ i wr=>jA w wr∧∃k:Nat,k≤l.length∧i=.int .i64 k∧Hid (fitsL l at_ 0 v=fitsL (l.drop k) at_ (0+k) v)) (fun _ _ i _=>l.length - (intOf i).toNat)
  case atStart=>exact⟨jA.refl _,0,by omega,rfl,by show _=_;simp⟩
  case round=>
   obtain⟨hg,k,hk,rfl,hrest⟩:=hrel
   by_cases hlt:k < l.length
   ·obtain⟨x,hx⟩:∃x,l[k]? = some x:=⟨_,List.getElem?_eq_getElem hlt⟩
    obtain⟨b,off,rfl,c1,c2,c3⟩:=hc k x hx
    have ho:=hok x (List.mem_of_getElem? hx)
    have d1:=hg.cell c1
    have d2:=hg.cell c2
    have d3:=hg.cell c3
    have e1:=hg.cell h1
    have e4:=hg.cell h4
    have b1:=yE e1
    have b4:=yE e4
    dsimp only at b1 b4
    have hd:=zh (Y1 l at_ 0 v k x hx)
    clear c1 c2 c3 hc
    obtain⟨x1,x2,x3⟩:=x
    by_cases hf:fitsF x1 x2 x3 at_ (↑k) v=true
    ·have HX:=zh hf
     go_wp2_with fail
     refine (y9 _ _ _ _ _ _ _ hv ho.1 ho.2 a0 a1 (by omega) (by omega)).mono ?_
     rintro e w1 ⟨rfl,hg1⟩
     go_wp2
     go_roundw
     case rel=>exact⟨(hg.trans ((jA.refl _).alloc _)).trans hg1,k+1,by omega,by go_num,by show _=_;rw[hrest.out,hd.out];unfold fitsV;rw[Int.zero_add];rw[HX.out];rfl⟩
     case measure=>simp[intOf];omega
    ·have hf':fitsF x1 x2 x3 at_ (↑k) v=false:=by simpa using hf
     have HX:=zh hf'
     clear hf
     go_wp2_with fail
     refine (y9 _ _ _ _ _ _ _ hv ho.1 ho.2 a0 a1 (by omega) (by omega)).mono ?_
     rintro e w1 ⟨rfl,hg1⟩
     go_wp2
     go_ret
     exact⟨by unfold allAt;rw[hh'.out,hrest.out,hd.out];unfold fitsV;rw[Int.zero_add];rw[HX.out];rfl,(hg.trans ((jA.refl _).alloc _)).trans hg1⟩
   ·obtain rfl:k=l.length:=by omega
    go_wp2
    go_ret
    exact⟨by unfold allAt;rw[hh'.out,hrest.out,List.drop_length];rfl,hg⟩
 ·by_cases hb:belowW l.length v=true
  ·have hh:headF l.length (ky,kw,kn) at_ 1 v=true:=by simp[headF,hb]
   have hb2:decide (v < widthOf l.length)=false:=by
    have:=JP (l.length:Int) v hv (by omega) (by omega)
    rw[hb,Int.toNat_natCast] at this
    simpa using this
   clear hb
   go_enter func166,ntmps166
   go_wp2_with fail
   refine (widthOf_any _ _ (by omega) (by omega)).mono ?_
   rw[Int.toNat_natCast]
   rintro e w2 ⟨rfl,rfl⟩
   go_wp2_with fail
   have hh':=zh hh
   clear hh
   go_loopw [7,8,32] (fun _ _ i wr=>jA w wr∧∃k:Nat,k≤l.length∧i=.int .i64 k∧Hid (fitsL l at_ 1 v=fitsL (l.drop k) at_ (1+k) v)) (fun _ _ i _=>l.length - (intOf i).toNat)
   case atStart=>exact⟨jA.refl _,0,by omega,rfl,by show _=_;simp⟩
   case round=>
    obtain⟨hg,k,hk,rfl,hrest⟩:=hrel
    by_cases hlt:k < l.length
    ·obtain⟨x,hx⟩:∃x,l[k]? = some x:=⟨_,List.getElem?_eq_getElem hlt⟩
     obtain⟨b,off,rfl,c1,c2,c3⟩:=hc k x hx
     have ho:=hok x (List.mem_of_getElem? hx)
     have d1:=hg.cell c1
     have d2:=hg.cell c2
     have d3:=hg.cell c3
     have e1:=hg.cell h1
     have e4:=hg.cell h4
     have b1:=yE e1
     have b4:=yE e4
     dsimp only at b1 b4
     have hd:=zh (Y1 l at_ 1 v k x hx)
     clear c1 c2 c3 hc
     obtain⟨x1,x2,x3⟩:=x
     by_cases hf:fitsF x1 x2 x3 at_ (1 + ↑k) v=true
     ·have HX:=zh hf
      go_wp2_with fail
      refine (y9 _ _ _ _ _ _ _ hv ho.1 ho.2 a0 a1 (by omega) (by omega)).mono ?_
      rintro e w1 ⟨rfl,hg1⟩
      go_wp2
      go_roundw
      case rel=>exact⟨(hg.trans ((jA.refl _).alloc _)).trans hg1,k+1,by omega,by go_num,by show _=_;rw[hrest.out,hd.out];unfold fitsV;rw[HX.out];rfl⟩
      case measure=>simp[intOf];omega
     ·have hf':fitsF x1 x2 x3 at_ (1 + ↑k) v=false:=by simpa using hf
      have HX:=zh hf'
      clear hf
      go_wp2_with fail
      refine (y9 _ _ _ _ _ _ _ hv ho.1 ho.2 a0 a1 (by omega) (by omega)).mono ?_
      rintro e w1 ⟨rfl,hg1⟩
      go_wp2
      go_ret
      exact⟨by unfold allAt;rw[hh'.out,hrest.out,hd.out];unfold fitsV;rw[HX.out];rfl,(hg.trans ((jA.refl _).alloc _)).trans hg1⟩
    ·obtain rfl:k=l.length:=by omega
     go_wp2
     go_ret
     exact⟨by unfold allAt;rw[hh'.out,hrest.out,List.drop_length];rfl,hg⟩
  ·have hh:headF l.length (ky,kw,kn) at_ 1 v=false:=by simp[headF,hb]
   have hb2:decide (v < widthOf l.length)=true:=by
    have:=JP (l.length:Int) v hv (by omega) (by omega)
    have hb':belowW l.length v=false:=by simpa using hb
    rw[hb',Int.toNat_natCast] at this
    simpa using this
   have hh':=zh hh
   clear hb hh
   go_enter func166,ntmps166
   go_wp2_with fail
   refine (widthOf_any _ _ (by omega) (by omega)).mono ?_
   rw[Int.toNat_natCast]
   rintro e w2 ⟨rfl,rfl⟩
   go_wp2
   go_ret
   exact⟨by unfold allAt;rw[hh'.out];rfl,jA.refl _⟩
 ·by_cases hb:belowW l.length v=true
  ·have hb2:decide (v < widthOf l.length)=false:=by
    have:=JP (l.length:Int) v hv (by omega) (by omega)
    rw[hb,Int.toNat_natCast] at this
    simpa using this
   by_cases hkf:fitsF ky kw kn at_ 0 v=true
   ·have hh:headF l.length (ky,kw,kn) at_ 3 v=true:=by simp[headF,hb,fitsV,hkf]
    clear hb
    go_enter func166,ntmps166
    go_wp2_with fail
    refine (widthOf_any _ _ (by omega) (by omega)).mono ?_
    rw[Int.toNat_natCast]
    rintro e w2 ⟨rfl,rfl⟩
    go_wp2_with fail
    refine (y9 _ _ _ _ _ _ _ hv hokk.1 hokk.2 a0 a1 (by omega) (by omega)).mono ?_
    rintro e w2 ⟨rfl,hg0⟩
    have h1:=hg0.cell h1
    have h2:=hg0.cell h2
    have h4:=hg0.cell h4
    replace hc:∀i x,l[i]? = some x→∃b off,sa=some ⟨b,off,none⟩∧w2.cell? ⟨b,off+i*3,none⟩=some (.int .i64 x.1)∧w2.cell? ⟨b,off+i*3+1,none⟩=some (.int .i64 x.2.1)∧w2.cell? ⟨b,off+i*3+2,none⟩=some (.int .u64 x.2.2):=
     fun i x hx=>let ⟨b,off,e,p,q,r⟩:=hc i x hx;⟨b,off,e,hg0.cell p,hg0.cell q,hg0.cell r⟩
    go_wp2_with fail
    have hh':=zh hh
    clear hh
    go_loopw [7,8,32] (fun _ _ i wr=>jA w2 wr∧∃k:Nat,k≤l.length∧i=.int .i64 k∧Hid (fitsL l at_ 3 v=fitsL (l.drop k) at_ (3+k) v)) (fun _ _ i _=>l.length - (intOf i).toNat)
    case atStart=>exact⟨jA.refl _,0,by omega,rfl,by show _=_;simp⟩
    case round=>
     obtain⟨hg,k,hk,rfl,hrest⟩:=hrel
     by_cases hlt:k < l.length
     ·obtain⟨x,hx⟩:∃x,l[k]? = some x:=⟨_,List.getElem?_eq_getElem hlt⟩
      obtain⟨b,off,rfl,c1,c2,c3⟩:=hc k x hx
      have ho:=hok x (List.mem_of_getElem? hx)
      have d1:=hg.cell c1
      have d2:=hg.cell c2
      have d3:=hg.cell c3
      have e1:=hg.cell h1
      have e4:=hg.cell h4
      have b1:=yE e1
      have b4:=yE e4
      dsimp only at b1 b4
      have hd:=zh (Y1 l at_ 3 v k x hx)
      clear c1 c2 c3 hc
      obtain⟨x1,x2,x3⟩:=x
      by_cases hf:fitsF x1 x2 x3 at_ (3 + ↑k) v=true
      ·have HX:=zh hf
       go_wp2_with fail
       refine (y9 _ _ _ _ _ _ _ hv ho.1 ho.2 a0 a1 (by omega) (by omega)).mono ?_
       rintro e w1 ⟨rfl,hg1⟩
       go_wp2
       go_roundw
       case rel=>exact⟨(hg.trans ((jA.refl _).alloc _)).trans hg1,k+1,by omega,by go_num,by show _=_;rw[hrest.out,hd.out];unfold fitsV;rw[HX.out];rfl⟩
       case measure=>simp[intOf];omega
      ·have hf':fitsF x1 x2 x3 at_ (3 + ↑k) v=false:=by simpa using hf
       have HX:=zh hf'
       clear hf
       go_wp2_with fail
       refine (y9 _ _ _ _ _ _ _ hv ho.1 ho.2 a0 a1 (by omega) (by omega)).mono ?_
       rintro e w1 ⟨rfl,hg1⟩
       go_wp2
       go_ret
       exact⟨by unfold allAt;rw[hh'.out,hrest.out,hd.out];unfold fitsV;rw[HX.out];rfl,hg0.trans ((hg.trans ((jA.refl _).alloc _)).trans hg1)⟩
     ·obtain rfl:k=l.length:=by omega
      go_wp2
      go_ret
      exact⟨by unfold allAt;rw[hh'.out,hrest.out,List.drop_length];rfl,hg0.trans hg⟩
   ·have hkf':fitsF ky kw kn at_ 0 v=false:=by simpa using hkf
    have hh:headF l.length (ky,kw,kn) at_ 3 v=false:=by simp[headF,hb,fitsV,hkf']
    have hh':=zh hh
    clear hb hkf hh
    go_enter func166,ntmps166
    go_wp2_with fail
    refine (widthOf_any _ _ (by omega) (by omega)).mono ?_
    rw[Int.toNat_natCast]
    rintro e w2 ⟨rfl,rfl⟩
    go_wp2_with fail
    refine (y9 _ _ _ _ _ _ _ hv hokk.1 hokk.2 a0 a1 (by omega) (by omega)).mono ?_
    rintro e w2 ⟨rfl,hg0⟩
    go_wp2
    go_ret
    exact⟨by unfold allAt;rw[hh'.out];rfl,hg0⟩
  ·have hh:headF l.length (ky,kw,kn) at_ 3 v=false:=by simp[headF,hb]
   have hb2:decide (v < widthOf l.length)=true:=by
    have:=JP (l.length:Int) v hv (by omega) (by omega)
    have hb':belowW l.length v=false:=by simpa using hb
    rw[hb',Int.toNat_natCast] at this
    simpa using this
   have hh':=zh hh
   clear hb hh
   go_enter func166,ntmps166
   go_wp2_with fail
   refine (widthOf_any _ _ (by omega) (by omega)).mono ?_
   rw[Int.toNat_natCast]
   rintro e w2 ⟨rfl,rfl⟩
   go_wp2
   go_ret
   exact⟨by unfold allAt;rw[hh'.out];rfl,jA.refl _⟩
instance (a:Int):Decidable (isA a):=by unfold isA;exact inferInstance
def allF (l:List V3) (k:V3) (at_ ahead:Int):Int:=
 if (0≤at_∧at_≤1073741824)∧isA ahead∧l.length≤1048576 then leastOf (fun v=>allAt l k at_ ahead v) else 0
theorem all_any (l:List V3) (k:V3) (at_ ahead:Int) (sv:Value) (w:World) (j8:l.length≤9223372036854775807) (hok:∀x∈l,okV x) (hokk:okV k) (hs:ValsAt w sv l) :
 Calls prog 119 #[.int .i64 at_,.int .i64 ahead,vV k,sv] w fun e w'=>e=.returned (.int .i64 (allF l k at_ ahead))∧jA w w':=by
 have hmf:∀(fn:Fn) (first cap:Array Value) (w:World),(Instr.makeFunc fn first cap).run prog w=.ok (.func fn first cap) w:=fun _ _ _ _=>rfl
 have HS:=zh hs
 obtain⟨sa,cap,rfl,_⟩:=hs
 obtain⟨ky,kw,kn⟩:=k
 by_cases ha:0≤at_∧at_≤1073741824
 ·have hw:(decide (0≤at_) && decide (at_≤1073741824))=true:=by simp[ha]
  have HW:=zh hw
  clear hw
  by_cases hi:isA ahead
  ·by_cases hl:l.length≤1048576
   ·have hf:allF l (ky,kw,kn) at_ ahead=leastOf (fun v=>allAt l (ky,kw,kn) at_ ahead v):=by unfold allF;rw[if_pos ⟨ha,hi,hl⟩]
    have HF:=zh hf
    have HI:=zh hi
    clear hf
    rcases hi with rfl|rfl|rfl
    ·go_enter func119,ntmps119
     go_wp2_with fail
     refine (yG _ _).mono ?_
     rw[HW.out]
     rintro e w1 ⟨rfl,rfl⟩
     go_wp2_with fail
     refine (JA _ _ (fun v=>allAt l (ky,kw,kn) at_ 0 v) _ (enters_of func166 zk rfl) ?_).mono ?_
     ·intro v hv W hW
      exact bJ l (ky,kw,kn) at_ 0 v (.slice sa l.length cap) (w.heap.size+1) (w.heap.size+1+1+1) (w.heap.size+1+1) w.heap.size W hv HI.out hl ha.1 ha.2 hok hokk ((HS.out.grew (((((jA.refl w).alloc _).alloc _).alloc _).alloc _)).grew hW) (hW.cell (by go_simp)) (hW.cell (by go_simp)) (hW.cell (by go_simp)) (hW.cell (by go_simp)) (hW.cell (by go_simp)) (hW.cell (by go_simp))
     rintro e w1 ⟨rfl,hg⟩
     go_wp2
     go_ret
     exact⟨by rw[HF.out];rfl,(((((jA.refl w).alloc _).alloc _).alloc _).alloc _).trans hg⟩
    ·go_enter func119,ntmps119
     go_wp2_with fail
     refine (yG _ _).mono ?_
     rw[HW.out]
     rintro e w1 ⟨rfl,rfl⟩
     go_wp2_with fail
     refine (JA _ _ (fun v=>allAt l (ky,kw,kn) at_ 1 v) _ (enters_of func166 zk rfl) ?_).mono ?_
     ·intro v hv W hW
      exact bJ l (ky,kw,kn) at_ 1 v (.slice sa l.length cap) (w.heap.size+1) (w.heap.size+1+1+1) (w.heap.size+1+1) w.heap.size W hv HI.out hl ha.1 ha.2 hok hokk ((HS.out.grew (((((jA.refl w).alloc _).alloc _).alloc _).alloc _)).grew hW) (hW.cell (by go_simp)) (hW.cell (by go_simp)) (hW.cell (by go_simp)) (hW.cell (by go_simp)) (hW.cell (by go_simp)) (hW.cell (by go_simp))
     rintro e w1 ⟨rfl,hg⟩
     go_wp2
     go_ret
     exact⟨by rw[HF.out];rfl,(((((jA.refl w).alloc _).alloc _).alloc _).alloc _).trans hg⟩
    ·go_enter func119,ntmps119
     go_wp2_with fail
     refine (yG _ _).mono ?_
     rw[HW.out]
     rintro e w1 ⟨rfl,rfl⟩
     go_wp2_with fail
     refine (JA _ _ (fun v=>allAt l (ky,kw,kn) at_ 3 v) _ (enters_of func166 zk rfl) ?_).mono ?_
     ·intro v hv W hW
      exact bJ l (ky,kw,kn) at_ 3 v (.slice sa l.length cap) (w.heap.size+1) (w.heap.size+1+1+1) (w.heap.size+1+1) w.heap.size W hv HI.out hl ha.1 ha.2 hok hokk ((HS.out.grew (((((jA.refl w).alloc _).alloc _).alloc _).alloc _)).grew hW) (hW.cell (by go_simp)) (hW.cell (by go_simp)) (hW.cell (by go_simp)) (hW.cell (by go_simp)) (hW.cell (by go_simp)) (hW.cell (by go_simp))
     rintro e w1 ⟨rfl,hg⟩
     go_wp2
     go_ret
     exact⟨by rw[HF.out];rfl,(((((jA.refl w).alloc _).alloc _).alloc _).alloc _).trans hg⟩
   ·have hf:allF l (ky,kw,kn) at_ ahead=0:=by unfold allF;rw[if_neg (fun h=>hl h.2.2)]
    have HF:=zh hf
    clear hf
    rcases hi with rfl|rfl|rfl
    all_goals
     go_enter func119,ntmps119
     go_wp2_with fail
     refine (yG _ _).mono ?_
     rw[HW.out]
     rintro e w1 ⟨rfl,rfl⟩
     go_wp2
     go_ret
     exact⟨by rw[HF.out];rfl,(((((jA.refl w).alloc _).alloc _).alloc _).alloc _)⟩
  ·have hf:allF l (ky,kw,kn) at_ ahead=0:=by unfold allF;rw[if_neg (fun h=>hi h.2.1)]
   have HF:=zh hf
   have n0:(ahead != 0)=true:=by rw[bne_iff_ne];intro h;exact hi (.inl h)
   have n1:(ahead != 1)=true:=by rw[bne_iff_ne];intro h;exact hi (.inr (.inl h))
   have n3:(ahead != 3)=true:=by rw[bne_iff_ne];intro h;exact hi (.inr (.inr h))
   clear hf hi
   go_enter func119,ntmps119
   go_wp2_with fail
   refine (yG _ _).mono ?_
   rw[HW.out]
   rintro e w1 ⟨rfl,rfl⟩
   go_wp2
   go_ret
   exact⟨by rw[HF.out];rfl,(((((jA.refl w).alloc _).alloc _).alloc _).alloc _)⟩
 ·have hf:allF l (ky,kw,kn) at_ ahead=0:=by unfold allF;rw[if_neg (fun h=>ha h.1)]
  have HF:=zh hf
  have hb:(decide (0≤at_) && decide (at_≤1073741824))=false:=by simp;omega
  clear hf
  go_enter func119,ntmps119
  go_wp2_with fail
  refine (yG _ _).mono ?_
  rw[hb]
  rintro e w1 ⟨rfl,rfl⟩
  go_wp2
  go_ret
  exact⟨by rw[HF.out];rfl,(((((jA.refl w).alloc _).alloc _).alloc _).alloc _)⟩
end Go.Proofs.YtjnpcddbgfmpcaaGreatDoor.Ft
