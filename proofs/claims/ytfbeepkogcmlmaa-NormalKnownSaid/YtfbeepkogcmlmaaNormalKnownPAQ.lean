/-
  Texts of the proof.
-/
import Derived.Test.YtfbeepkogcmlmaaNormalKnownPAP
import Derived.Test.YtfbeepkogcmlmaaNormalKnownPAN
set_option linter.unusedVariables false
set_option linter.unusedSimpArgs false
set_option maxHeartbeats 16000000
set_option maxRecDepth 100000
namespace Go.Proofs.Ytfbeepkogcmlmaa
open Go Go.ChangeShapes Go.WideShapes Go.ChangeAt Go.RowKit Go.Joins Go.Deep
def zO (k n u:Int) (s:ByteArray) (keys:List ByteArray) (l:List Tr):Tr:=
 if k=4∨k=9 then (if u < 9223372036854775808 then .mk 3 u 0 ⟨#[]⟩ [] [] else .mk 4 0 u ⟨#[]⟩ [] [])
 else if k=8 then .mk 3 n 0 ⟨#[]⟩ [] []
 else if k=5 then .mk 6 0 0 s [] []
 else if 11≤k∧k≤16 then .mk 10 0 0 ⟨#[]⟩ [] l
 else .mk k n u s keys l
mutual
def ofT:Tr→Tr | .mk k n u s keys l=>zO k n u s keys (ofL l)
def ofL:List Tr→List Tr | []=>[] | t::r=>ofT t::ofL r
end
theorem JM:∀l:List Tr,ofL l=l.map ofT
 | []=>rfl
 | t::r=>by simp[ofL,JM r]
def QM (f:Tr→Tr) (W B:Nat) (Sx:Nat→Prop) (gL n c q:Nat) (VV:List Value) (x:Tr) (y:Value) (w:World):Prop:=
 W < w.heap.size∧(∃Sy,jW w B (f x) y Sy∧∀g,Sy g→Sx g∨(W≤g∧g < w.heap.size))∧∃z,kK w B (.slice (some ⟨gL,0,none⟩) n c) (VV.set q z)
theorem QM.step {f:Tr→Tr} {W B:Nat} {Sx:Nat→Prop} {gL n c q:Nat} {VV:List Value} {x:Tr} {y:Value} (hq:q < VV.length) (hL:¬Sx gL∧gL < W) {i:Nat} (hi:i≠4) {w w':World} (ht:ZE W B Sx gL n c q i w w') (h:QM f W B Sx gL n c q VV x y w):QM f W B Sx gL n c q VV x y w':=by
 rcases ht with rfl|⟨e,_⟩|⟨_,hW,hsz,hm,u,hu,hst⟩
 ·exact h
 ·exact absurd e hi
 ·obtain⟨h1,⟨Sy,ho,hs⟩,z,hz⟩:=h
  refine⟨by omega,⟨Sy,ho.kept hm (fun g hg e=>?_),fun g hg=>(hs g hg).imp id fun h=>⟨h.1,by omega⟩⟩,u,?_⟩
  ·subst e
   rcases hs _ hg with h|h
   ·exact hL.1 h
   ·omega
  ·have:=hst _ (by rw[List.length_set];exact hq) hz
   rwa [List.set_set] at this
def LoopF (f:Tr→Tr) (wc wr:World) (B:Nat) (S':Nat→Prop) (lv:Value) (l:List Tr) (q:Nat):Prop:=
 ∃vs1 vs2 S1 S2,vs1.length=q∧kK wr B lv (vs1++vs2)∧j4 wr B ((l.take q).map f) vs1 S1∧j4 wr B (l.drop q) vs2 S2∧(∀g,S1 g→¬S2 g)∧(∀g,S1 g→S' g∨jX wc wr g)∧(∀g,S2 g→S' g) ∧
  Moved (fun g=>S' g∨lv.ownBlock=some g) wc wr
theorem ofL_len:∀l:List Tr,(ofL l).length=l.length:=fun l=>by rw[JM,List.length_map]
theorem of_end {w wc wr:World} {B N:Nat} {S S':Nat→Prop} {keys:List ByteArray} {l:List Tr} {kv lv:Value} (hN:w.heap.size=N) (hgw:jC w wc) (hkv:kD wc B kv keys) (hlvb:∀g,lv.ownBlock=some g→g < wc.heap.size)
 (hk3:∀g,kv.ownBlock=some g→(S g∨jX w wc g)∧¬S' g∧lv.ownBlock≠some g) (hl3:∀g,lv.ownBlock=some g→(S g∨jX w wc g)∧¬S' g∧g≠N∧g≠N+1)
 (hS':∀g,S' g→S g) (hSw:∀g,S g→g < w.heap.size) (hlN:N+1 < wc.heap.size) (hL:LoopF ofT wc wr B S' lv l l.length) :
 ∃S1 vs1,Moved S w wr∧kK wr B lv vs1∧j4 wr B (ofL l) vs1 S1∧(∀g,kv.ownBlock=some g→¬S1 g)∧(∀g,lv.ownBlock=some g→¬S1 g)∧(∀g,S1 g→(S g∨jX w wr g)∧g≠N+1)∧wc.heap.size≤wr.heap.size:=by
 obtain⟨vs1,vs2,S1,S2,hq1,jP,hk1,hk2,hdis,hs1,hs2,hm⟩:=hL
 rw[List.drop_length] at hk2
 simp only[j4] at hk2
 subst hk2
 rw[List.take_length,← JM] at hk1
 rw[List.append_nil] at jP
 have hsz1:=hgw.size
 have hsz2:=hm.size
 have hkb:∀g,kv.ownBlock=some g→g < wc.heap.size:=fun g hg=>(World.ownsRow.lt hkv g hg).2
 refine⟨S1,vs1,?_,jP,hk1,fun g hg h=>?_,fun g hg h=>?_,fun g h=>?_,hsz2⟩
 ·refine (Moved.of_grew hgw).trans hm (fun j hj h=>?_)
  rcases h with h|h
  ·exact hS' j h
  ·rcases (hl3 j h).1 with e|e
   ·exact e
   ·have:=e.1;omega
 ·rcases hs1 g h with e|e
  ·exact (hk3 g hg).2.1 e
  ·have:=hkb g hg;have:=e.1;omega
 ·rcases hs1 g h with e|e
  ·exact (hl3 g hg).2.1 e
  ·have:=hlvb g hg;have:=e.1;omega
 ·rcases hs1 g h with e|e
  ·exact⟨.inl (hS' g e),by have:=hSw g (hS' g e);omega⟩
  ·exact⟨.inr ⟨by have:=e.1;omega,e.2⟩,by have:=e.1;omega⟩
theorem J9 {w wr w5:World} {B N:Nat} {S S2:Nat→Prop} {T:Tr} {v:Value} {c0 c1 c2 c3 c4 c5:Value} (hN:w.heap.size=N) (hm:Moved S w wr) (hs:N+1 < wr.heap.size) (ho:jW wr B T v S2) (h2:∀g,S2 g→(S g∨jX w wr g)∧g≠N+1) (hg:jC wr w5) :
 ∃S3,jW (jH w5 (N+1) c0 c1 c2 c3 c4 c5) B T v S3∧Moved S w (jH w5 (N+1) c0 c1 c2 c3 c4 c5)∧w.heap.size < (jH w5 (N+1) c0 c1 c2 c3 c4 c5).heap.size∧∀g,S3 g→S g∨jX w (jH w5 (N+1) c0 c1 c2 c3 c4 c5) g:=by
 have hT:Moved (fun k=>k=N+1) w5 (jH w5 (N+1) c0 c1 c2 c3 c4 c5):=kC w5 (N+1) c0 c1 c2 c3 c4 c5
 generalize jH w5 (N+1) c0 c1 c2 c3 c4 c5=W at *
 have h5:=hg.size
 have h6:=hT.size
 refine⟨S2,(ho.grew hg).kept hT (fun g hg' e=>(h2 g hg').2 e),(hm.grew hg).trans hT (fun j hj h=>by omega),by omega,fun g hg'=>?_⟩
 exact (h2 g hg').1.imp id fun e=>⟨e.1,by have:=e.2;omega⟩
theorem JN {w:World} {B:Nat} {k n u:Int} {s:ByteArray} (h:jQ k∧jQ n∧j9 u∧jI s.size):jW w B (.mk k n u s [] []) (.agg #[.int .i64 k,.int .i64 n,.int .u64 u,.string s,.slice none 0 0,.slice none 0 0]) (fun _=>False):=
 ⟨⟨h.1,h.2.1,h.2.2.1,h.2.2.2,by simp⟩,_,_,[],fun _=>False,rfl,kD.nil _ _,kK.nil _ _,fun g h=>(by cases h),fun g h=>(by cases h),fun g h=>(by cases h),fun g h=>h,rfl⟩
theorem aK {k:Int} (h4:¬k=4) (h9:¬k=9) (h8:¬k=8) (h5:¬k=5) (h:¬(11≤k∧k≤16)):qQ k yO 0=none:=by
 simp only[yO,qQ]
 rw[if_neg h4,if_neg h9,if_neg h8,if_neg h5,if_neg (by omega),if_neg (by omega),if_neg (by omega),if_neg (by omega),if_neg (by omega),if_neg (by omega)]
theorem bH (w:World):(Op.equal 27 .nilFunc .nilFunc).run Try.prog w=.ok true w:=by
 have h:=Try.underlying27
 unfold Op.equal
 rw[show Op.maxDepth=9999+1 from rfl]
 unfold Op.equalIn
 simp only[Sem.run_bind,run_underlying h,Result.andThen]
 rfl
theorem eqfn_fn (f:Nat) (w:World):(Op.equal 27 (.func (.func f) #[] #[]) .nilFunc).run Try.prog w=.ok false w:=by
 have h:=Try.underlying27
 unfold Op.equal
 rw[show Op.maxDepth=9999+1 from rfl]
 unfold Op.equalIn
 simp only[Sem.run_bind,run_underlying h,Result.andThen]
 rfl
theorem ne_nil (w:World):(binOp .neq 27 .nilFunc .nilFunc).run Try.prog w=.ok (.bool false) w:=by
 have h:=bH w
 simp only[binOp,Sem.run_bind,h,Result.andThen_ok,Sem.run_pure]
 rfl
theorem QN (f:Nat) (w:World):(binOp .neq 27 (.func (.func f) #[] #[]) .nilFunc).run Try.prog w=.ok (.bool true) w:=by
 have h:=eqfn_fn f w
 simp only[binOp,Sem.run_bind,h,Result.andThen_ok,Sem.run_pure]
 rfl
theorem of_any:∀(m:Nat) (t:Tr),t.size≤m→Few t→∀(v:Value) (w:World) (B b:Nat) (S:Nat→Prop),jW w B t v S→B≤w.heap.size→(∀g,S g→g < w.heap.size)→KU w b yO→¬S b →
 Calls Try.prog 28 #[v,.map (some b)] w fun r w'=>∃v' S',r=.returned v'∧jW w' B (ofT t) v' S'∧Moved S w w'∧w.heap.size < w'.heap.size∧∀g,S' g→S g∨jX w w' g:=by
 intro m
 induction m with
 | zero=>intro t ht;have:=t.size_pos;omega
 | succ m ih=>
 intro t ht hok v w B b S kE hBw hSw hmap hSb
 obtain⟨k,n,u,s,keys,l⟩:=t
 simp only[jW] at kE
 obtain⟨hb,kv,lv,vs,S',rfl,hkv,hlv,d1,d2,d3,d4,kP⟩:=kE
 have hkl:vs.length=l.length:=kP.length
 simp only[Few] at hok
 obtain⟨hok2,hok3,hok4⟩:=hok
 have hsz:∀x∈l,x.size≤m:=fun x hx=>by have:=k9 hx;simp only[Tr.size] at ht;omega
 have HIH:=zh ih
 have HB:=zh hb
 have HOWN:=zh (And.intro hkv (And.intro hlv kP))
 have HD:=zh (And.intro d1 (And.intro d2 (And.intro d3 d4)))
 have HOK:=zh hok4
 have HSZ:=zh hsz
 have HBW:=zh hBw
 have HSW:=zh hSw
 have HMAP:=zh (And.intro hmap hSb)
 obtain⟨a4,c4,rfl,hx1,hx2,hx3⟩:=jT hkv
 obtain⟨a5,c5,rfl,hx4,hx5,hx6⟩:=jT hlv.1
 clear ih hb hkv hlv kP d1 d2 d3 d4 hok4 hsz hBw hSw hx1 hx2 hx3 hx4 hx5 hx6 ht hmap hSb
 rw[hkl] at HOWN HD⊢
 have HKL:=zh hkl
 clear hkl
 go_enter Try.func28,Try.ntmps28
 go_upto_block 0 with fail
 have hb1:=heap_alloc_new w (.cells #[.int .i64 k,.int .i64 n,.int .u64 u,.string s,.slice a4 keys.length c4,.slice a5 l.length c5] 26)
 have hg1:=(jC.refl w).alloc (.cells #[.int .i64 k,.int .i64 n,.int .u64 u,.string s,.slice a4 keys.length c4,.slice a5 l.length c5] 26)
 have hs1:(w.alloc (.cells #[.int .i64 k,.int .i64 n,.int .u64 u,.string s,.slice a4 keys.length c4,.slice a5 l.length c5] 26)).heap.size=w.heap.size+1:=World.size_alloc _ _
 generalize (w.alloc (.cells #[.int .i64 k,.int .i64 n,.int .u64 u,.string s,.slice a4 keys.length c4,.slice a5 l.length c5] 26))=w1 at *
 have hb2:=heap_alloc_new w1 (.cells #[.int .i64 0,.int .i64 0,.int .u64 0,.string ⟨#[]⟩,.slice none 0 0,.slice none 0 0] 26)
 have hg2:=(jC.refl w1).alloc (.cells #[.int .i64 0,.int .i64 0,.int .u64 0,.string ⟨#[]⟩,.slice none 0 0,.slice none 0 0] 26)
 rw[hs1] at hb2
 generalize (w1.alloc (.cells #[.int .i64 0,.int .i64 0,.int .u64 0,.string ⟨#[]⟩,.slice none 0 0,.slice none 0 0] 26))=wc at *
 replace hb1:=hg2.heap hb1
 have hG:=hg1.trans hg2
 obtain⟨N,hN⟩:∃N,w.heap.size=N:=⟨_,rfl⟩
 have HN:=zh hN
 rw[hN] at hb1 hb2⊢
 have HBN:=zh hb1
 have HBR:=zh hb2
 have HGW:=zh hG
 have HKV:=zh (HOWN.out.1.grew hG)
 have HLV:=zh (HOWN.out.2.1.grew hG)
 have HKD:=zh (HOWN.out.2.2.grew hG)
 have HK3:Hid (∀g,(Value.slice a4 keys.length c4).ownBlock=some g→(S g∨jX w wc g)∧¬S' g∧(Value.slice a5 l.length c5).ownBlock≠some g):=fun g hg=>⟨.inl (HD.out.1 g hg).1,(HD.out.1 g hg).2,HD.out.2.2.1 g hg⟩
 have HL3:Hid (∀g,(Value.slice a5 l.length c5).ownBlock=some g→(S g∨jX w wc g)∧¬S' g∧g≠N∧g≠N+1):=fun g hg=>⟨.inl (HD.out.2.1 g hg).1,(HD.out.2.1 g hg).2,by have:=HSW.out g (HD.out.2.1 g hg).1;omega,by have:=HSW.out g (HD.out.2.1 g hg).1;omega⟩
 clear hs1 hg1 hg2 hG hN hb1 hb2 hok2
 go_wp2_with fail
 go_loopw [11] (fun i wr=>∃q:Nat,q≤l.length∧i=.int .i64 q∧Hid (LoopF ofT wc wr B S' (.slice a5 l.length c5) l q)) (fun i _=>l.length - (intOf i).toNat)
 case atStart=>
  refine⟨0,Nat.zero_le _,rfl,?_⟩
  exact⟨[],vs,fun _=>False,S',rfl,HLV.out,by simp[j4],by simpa using HKD.out,fun _ h=>h.elim,fun _ h=>h.elim,fun _ h=>h,Moved.refl _ _⟩
 case round=>
  obtain⟨q,hq,rfl,HW⟩:=hrel
  have HWF:Hid (wr.heap[N]? = some (.cells #[.int .i64 k,.int .i64 n,.int .u64 u,.string s,.slice a4 keys.length c4,.slice a5 l.length c5] 26 (0,0))∧wr.heap[N+1]? = some (.cells #[.int .i64 0,.int .i64 0,.int .u64 0,.string ⟨#[]⟩,.slice none 0 0,.slice none 0 0] 26 (0,0))∧kD wr B (.slice a4 keys.length c4) keys):=by
   obtain⟨_,_,_,_,_,_,_,_,_,_,_,hm⟩:=HW.out
   have hS:=HSW.out
   have hS':=HD.out.2.2.2
   have hN:=HN.out
   refine⟨hm.heap HBN.out ?_,hm.heap HBR.out ?_,Moved.owns hm HKV.out ?_⟩
   ·rintro (h|h)
    ·have:=hS _ (hS' _ h);omega
    ·exact (HL3.out _ h).2.2.1 rfl
   ·rintro (h|h)
    ·have:=hS _ (hS' _ h);omega
    ·exact (HL3.out _ h).2.2.2 rfl
   ·rintro g hg (h|h)
    ·exact (HK3.out g hg).2.1 h
    ·exact (HK3.out g hg).2.2 h
  by_cases hlt:q < l.length
  ·obtain⟨vs1,vs2,S1,S2,hq1,jP,hk1,hk2,hdis,hs1,hs2,hm⟩:=HW.out
   obtain⟨x,hx⟩:∃x,l[q]? = some x:=⟨_,List.getElem?_eq_getElem hlt⟩
   obtain⟨hx0,hx1⟩:=List.getElem?_eq_some_iff.1 hx
   have hdrop:l.drop q=x::l.drop (q+1):=by rw[List.drop_eq_getElem_cons hlt,hx1]
   rw[hdrop] at hk2
   simp only[j4] at hk2
   obtain⟨xv,vr,Sx,Sr,rfl,hSx,hSr,hxr,hox,hkr⟩:=hk2
   have hxm:x∈l:=List.mem_of_getElem? hx
   obtain⟨gL,rfl⟩:∃g,a5=some ⟨g,0,none⟩:=by
    rcases jP.1.2 with ⟨e,hn⟩|⟨g,cap,cur,e,_⟩
    ·simp at hn
    ·injection e with e1 _ _;exact⟨g,e1⟩
   have hVl:(vs1++xv::vr).length=l.length:=by
    obtain⟨_,_,e,_⟩:=jT jP.1
    injection e with _ e2 _
    exact e2.symm
   have hVq:(vs1++xv::vr)[q]? = some xv:=by rw[List.getElem?_append_right (by omega),hq1,Nat.sub_self];rfl
   have h6:=hox.node6
   have hc6:=jP.at hVq
   have kJ:=zh jP
   have HQV:=zh (And.intro hq1 (And.intro hVl hVq))
   have HOX:=zh hox
   have HK12:=zh (And.intro hk1 hkr)
   have HSS:=zh (And.intro hdis (And.intro hs1 (And.intro hs2 (And.intro hSx (And.intro hSr hxr)))))
   have HM:=zh hm
   have HTK:Hid ((l.take (q+1)).map ofT=(l.take q).map ofT++[ofT x]):=by
    show _=_
    rw[List.take_add_one,hx,List.map_append];rfl
   have HXZ:=zh (And.intro (HSZ.out x hxm) (ZU.mem HOK.out hxm))
   clear hq1 hVl hVq jP hox hk1 hkr hdis hs1 hs2 hSx hSr hxr hm hx hx0 hx1 hdrop hxm HW
   obtain⟨yk,yn,yu,ys,ya4,yn4,yc4,ya5,yn5,yc5,rfl⟩:=h6
   obtain⟨e0,e1,e2,e3,e4,e5⟩:=hc6.get
   have d5:=jA HWF.out.1 5 _ rfl
   have yD:(q:Int) < l.length:=by omega
   clear hc6
   go_wp2_with fail
   have hbs:=heap_alloc_new wr (.cells #[.int .i64 yk,.int .i64 yn,.int .u64 yu,.string ys,.slice ya4 yn4 yc4,.slice ya5 yn5 yc5] 26)
   have hgs:=(jC.refl wr).alloc (.cells #[.int .i64 yk,.int .i64 yn,.int .u64 yu,.string ys,.slice ya4 yn4 yc4,.slice ya5 yn5 yc5] 26)
   generalize (wr.alloc (.cells #[.int .i64 yk,.int .i64 yn,.int .u64 yu,.string ys,.slice ya4 yn4 yc4,.slice ya5 yn5 yc5] 26))=ws at *
   replace d5:=hgs.cell d5
   obtain⟨NB,hNB⟩:∃NB,wr.heap.size=NB:=⟨_,rfl⟩
   rw[hNB] at hbs⊢
   have b0:=jA hbs 0 _ rfl
   have b1:=jA hbs 1 _ rfl
   have b2:=jA hbs 2 _ rfl
   have b3:=jA hbs 3 _ rfl
   have b4:=jA hbs 4 _ rfl
   have b5:=jA hbs 5 _ rfl
   have HGS:=zh (And.intro hgs (And.intro hNB hbs))
   have j8:=zh (kJ.out.grew hgs)
   have HOXS:=zh (HOX.out.grew hgs)
   obtain⟨VV,hVV⟩:∃VV,vs1++.agg #[.int .i64 yk,.int .i64 yn,.int .u64 yu,.string ys,.slice ya4 yn4 yc4,.slice ya5 yn5 yc5]::vr=VV:=⟨_,rfl⟩
   have HVV:=zh hVV
   rw[hVV] at j8
   have HQ2:Hid (q < VV.length∧VV[q]? = some (.agg #[.int .i64 yk,.int .i64 yn,.int .u64 yu,.string ys,.slice ya4 yn4 yc4,.slice ya5 yn5 yc5])):=by
    have:=HQV.out
    rw[hVV] at this
    exact⟨by omega,this.2.2⟩
   have HSB:Hid ((∀g,Sx g→g < wr.heap.size)∧¬Sx gL∧¬Sx N∧¬Sx NB∧gL≠N∧gL≠NB∧gL < wr.heap.size):=by
    have hS:=HSW.out
    have hS':=HD.out.2.2.2
    have hN:=HN.out
    have hL:=HL3.out gL rfl
    have hlt:=(World.ownsRow.lt kJ.out.1 gL rfl).2
    have hsx:∀g,Sx g→g < w.heap.size:=fun g h=>hS _ (hS' _ (HSS.out.2.2.1 _ (HSS.out.2.2.2.1 _ h)))
    have hNw:N < wr.heap.size:=(Array.getElem?_eq_some_iff.1 HWF.out.1).1
    refine⟨fun g h=>?_,fun h=>?_,fun h=>?_,fun h=>?_,hL.2.2.1,by omega,hlt⟩
    ·have:=hsx g h;omega
    ·exact hL.2.1 (HSS.out.2.2.1 _ (HSS.out.2.2.2.1 _ h))
    ·have:=hsx _ h;omega
    ·have:=hsx _ h;omega
   have HGWR:Hid (w.heap.size≤wr.heap.size):=Nat.le_trans HGW.out.size HM.out.size
   clear hVV hbs hgs hNB e0 e1 e2 e3 e4 e5
   have n1:¬(Sx N∨N=gL):=by have h:=HSB.out;rintro (e | e);exact h.2.2.1 e;exact h.2.2.2.2.1 e.symm
   have n2:¬(Sx NB∨NB=gL):=by have h:=HSB.out;rintro (e | e);exact h.2.2.2.1 e;exact h.2.2.2.2.2.1 e.symm
   have HMW:Hid (KU ws b yO∧¬(Sx b∨b=gL)):=by
    have hbw:b < w.heap.size:=(Array.getElem?_eq_some_iff.1 HMAP.out.1).1
    have hnS:∀g,S' g→g≠b:=fun g h e=>HMAP.out.2 (e ▸ HD.out.2.2.2 g h)
    have hnL:gL≠b:=fun e=>by
     rcases (HL3.out gL rfl).1 with h|h
     ·exact HMAP.out.2 (e ▸ h)
     ·have:=h.1;omega
    have h1:KU wc b yO:=HGW.out.heap HMAP.out.1
    have h2:KU wr b yO:=HM.out.heap h1 (fun h=>by
     rcases h with h|h
     ·exact hnS _ h rfl
     ·have:gL=b:=by simpa [Value.ownBlock] using h
      exact hnL this)
    refine⟨HGS.out.1.heap h2,fun h=>?_⟩
    rcases h with h|h
    ·exact hnS _ (HSS.out.2.2.1 _ (HSS.out.2.2.2.1 _ h)) rfl
    ·exact hnL h.symm
   refine qI (Moved (fun g=>Sx g∨g=gL)) 5 (fun w=>w.heap.size=ws.heap.size∧jW w B x (.agg #[.int .i64 yk,.int .i64 yn,.int .u64 yu,.string ys,.slice ya4 yn4 yc4,.slice ya5 yn5 yc5]) Sx∧kK w B (.slice (some ⟨gL,0,none⟩) l.length c5) VV) (fun i=>ZE ws.heap.size B Sx gL l.length c5 q (i - 1)) [[],[0],[],[],[],[3,4],[1,2],[5,6]] [[(18,2),(19,3),(20,4),(21,5),(22,6)],[(16,0),(18,2),(19,3),(20,4),(21,5)],[(16,0),(17,1),(19,3),(20,4),(21,5)],[(16,0),(17,1),(18,2),(20,4),(22,6)],[(16,0),(17,1),(18,2),(19,3),(22,6)],[(16,0),(17,1),(18,2),(19,3),(20,4),(22,6)],[(16,0),(17,1),(18,2),(19,3),(20,4),(21,5)],[(16,0),(17,1),(18,2),(19,3),(20,4),(21,5),(22,6)]] [(16,0),(17,1),(18,2),(19,3),(20,4),(21,5),(22,6)]
    [fun y v w=>v=.pointer (some ⟨N,5,none⟩),fun y v w=>v=.slice (some ⟨gL,0,none⟩) l.length c5,fun y v w=>v=.int .i64 q,fun y v w=>v=.agg #[.int .i64 yk,.int .i64 yn,.int .u64 yu,.string ys,.slice ya4 yn4 yc4,.slice ya5 yn5 yc5],fun y v w=>v=.map (some b),fun y v w=>QM ofT ws.heap.size B Sx gL l.length c5 q VV x v w,fun y v w=>v=.pointer (some ⟨gL,q*6,none⟩),fun y v w=>ws.heap.size < w.heap.size∧kK w B (.slice (some ⟨gL,0,none⟩) l.length c5) (VV.set q (y 5))]
    zk Moved.trans' (Moved.refl _) (fun i=>KM (i - 1)) (fun _ _=>.inl rfl) (fun i hi w w' ht h=>YB (by omega) ht h) ⟨rfl,HOXS.out.grew (jC.refl _).drew,j8.out.grew (jC.refl _).drew⟩ (Moved.of_grew (jC.refl _).drew) zk
    ⟨fun _ _ _ _ _ _ _ h=>h,fun _ _ _ _ _ _ _ h=>h,fun _ _ _ _ _ _ _ h=>h,fun _ _ _ _ _ _ _ h=>h,fun _ _ _ _ _ _ _ h=>h,fun i hi y v w w' ht h=>QM.step HQ2.out.1 ⟨HSB.out.2.1,Nat.lt_of_lt_of_le HSB.out.2.2.2.2.2.2 HGS.out.1.size⟩ (by omega) ht h,fun _ _ _ _ _ _ _ h=>h,fun i hi y v w w' ht h=>YA (by omega) ht h,trivial⟩
    ⟨fun _ _ _ _ _ h=>h,fun _ _ _ _ _ h=>h,fun _ _ _ _ _ h=>h,fun _ _ _ _ _ h=>h,fun _ _ _ _ _ h=>h,fun _ _ _ _ _ h=>h,fun _ _ _ _ _ h=>h,fun y y' v w e h=>by have h4:=e 5 (by decide);show ws.heap.size < w.heap.size∧kK w B (.slice (some ⟨gL,0,none⟩) l.length c5) (VV.set q (y' 5));rw[← h4];exact h,trivial⟩
    ⟨?_,?_,?_,?_,?_,?_,?_,?_,trivial⟩ rfl ?_
   ·intro y w2 hG hI hD K hK
    clear hI
    simp only[jD,Act.put,zq1,zq2,zq3,zq4,zq5] at hK⊢
    refine jF ?_
    go_simp
    exact hK _ _ _ rfl (.inl rfl) rfl
   ·intro y w2 hG hI hD K hK
    simp only[zB,zq4,zq5,and_true] at hD
    have h0:=hD
    clear hD
    clear hI
    simp only[jD,Act.put,zq1,zq2,zq3,zq4,zq5] at hK⊢
    rw[h0] at hK⊢
    clear h0
    refine jF ?_
    have dd:=hG.cell d5 n1
    go_simp
    exact hK _ _ _ rfl (.inl rfl) rfl
   ·intro y w2 hG hI hD K hK
    clear hI
    simp only[jD,Act.put,zq1,zq2,zq3,zq4,zq5] at hK⊢
    refine jF ?_
    go_simp
    exact hK _ _ _ rfl (.inl rfl) rfl
   ·intro y w2 hG hI hD K hK
    clear hI
    simp only[jD,Act.put,zq1,zq2,zq3,zq4,zq5] at hK⊢
    refine jF ?_
    have dd0:=hG.cell b0 n2
    have dd1:=hG.cell b1 n2
    have dd2:=hG.cell b2 n2
    have dd3:=hG.cell b3 n2
    have dd4:=hG.cell b4 n2
    have dd5:=hG.cell b5 n2
    go_simp
    exact hK _ _ _ rfl (.inl rfl) rfl
   ·intro y w2 hG hI hD K hK
    clear hI
    simp only[jD,Act.put,zq1,zq2,zq3,zq4,zq5] at hK⊢
    refine jF ?_
    go_simp
    exact hK _ _ _ rfl (.inl rfl) rfl
   ·intro y w2 hG hI hD K hK
    simp only[zB,zq4,zq5,and_true] at hD
    have h3:=hD.1
    have h4:=hD.2
    clear hD
    simp only[jD,Act.put,zq1,zq2,zq3,zq4,zq5] at hK⊢
    rw[h3,h4] at hK⊢
    clear h3 h4
    refine jF ?_
    have hI':=hI rfl
    have hmp:KU w2 b yO:=hG.heap HMW.out.1 HMW.out.2
    go_simp
    refine (HIH.out x HXZ.out.1 HXZ.out.2 _ w2 B b Sx hI'.2.1 (Nat.le_trans HBW.out (Nat.le_trans HGWR.out (Nat.le_trans HGS.out.1.size (Nat.le_of_eq hI'.1.symm)))) (fun g hg=>Nat.lt_of_lt_of_le (HSB.out.1 g hg) (Nat.le_trans HGS.out.1.size (Nat.le_of_eq hI'.1.symm))) hmp (fun h=>HMW.out.2 (.inl h))).mono ?_
    rintro r w3 ⟨yv,Sy,rfl,ho,hm,hgt,hf⟩
    have hrw:kK w3 B (.slice (some ⟨gL,0,none⟩) l.length c5) VV:=⟨Moved.owns hm hI'.2.2.1 (fun g hg e=>by simp[Value.ownBlock] at hg;subst hg;exact HSB.out.2.1 e),hI'.2.2.2⟩
    rw[← QF HQ2.out.2] at hrw
    exact hK _ _ _ rfl (.inr (.inl ⟨rfl,hI'.1,hm,hgt⟩)) ⟨by have:=hI'.1;omega,⟨Sy,ho,fun g hg=>(hf g hg).imp id fun h=>⟨by have:=hI'.1;have:=h.1;omega,h.2⟩⟩,_,hrw⟩
   ·intro y w2 hG hI hD K hK
    simp only[zB,zq4,zq5,and_true] at hD
    have h1:=hD.1
    have h2:=hD.2
    clear hD
    clear hI
    simp only[jD,Act.put,zq1,zq2,zq3,zq4,zq5] at hK⊢
    rw[h1,h2] at hK⊢
    clear h1 h2
    refine jF ?_
    go_simp
    exact hK _ _ _ rfl (.inl rfl) rfl
   ·intro y w2 hG hI hD K hK
    simp only[zB,zq4,zq5,and_true] at hD
    have h5:=hD.1
    have h6:=hD.2
    clear hD
    clear hI
    simp only[jD,Act.put,zq1,zq2,zq3,zq4,zq5] at hK⊢
    rw[h6] at hK⊢
    clear h6
    refine jF ?_
    have hd4:=h5
    obtain⟨hW,⟨Sy,ho,hs⟩,z,hz⟩:=hd4
    obtain⟨zk,zn,zu,zs,za4,zn4,zc4,za5,zn5,zc5,hy4⟩:=ho.node6
    rw[hy4] at hK ho⊢
    have hzl:q < (VV.set q z).length:=by rw[List.length_set];exact HQ2.out.1
    have hzq:(VV.set q z)[q]? = some z:=List.getElem?_set_self HQ2.out.1
    obtain⟨z0,z1,z2,z3,z4,z5,e6,cc0,cc1,cc2,cc3,cc4,cc5⟩:=hz.at hzq
    have ff0:=hz.frozen (q*6)
    have ff1:=hz.frozen (q*6+1)
    have ff2:=hz.frozen (q*6+2)
    have ff3:=hz.frozen (q*6+3)
    have ff4:=hz.frozen (q*6+4)
    have ff5:=hz.frozen (q*6+5)
    have hstep:∀vs,q < vs.length→kK w2 B (.slice (some ⟨gL,0,none⟩) l.length c5) vs→kK _ B (.slice (some ⟨gL,0,none⟩) l.length c5) (vs.set q _):=fun vs hv h=>kK.stored h hv (x:=.agg #[.int .i64 zk,.int .i64 zn,.int .u64 zu,.string zs,.slice za4 zn4 zc4,.slice za5 zn5 zc5]) ⟨_,_,_,_,_,_,_,_,_,_,rfl⟩ rfl
    have hst2:=hstep _ hzl hz
    rw[List.set_set] at hst2
    have hmv:=vM w2 gL (q*6) (.int .i64 zk) (.int .i64 zn) (.int .u64 zu) (.string zs) (.slice za4 zn4 zc4) (.slice za5 zn5 zc5)
    go_simp
    refine hK _ undef _ rfl (.inr (.inr ⟨rfl,hW,hmv.size,hmv,_,⟨_,_,_,_,_,_,_,_,_,_,rfl⟩,hstep⟩)) ⟨Nat.lt_of_lt_of_le hW hmv.size,?_⟩
    exact hst2
   ·intro y w2 hG hF
    simp only[qT,and_true,Nat.reduceAdd] at hF
    have h0:=hF.1
    have h1:=hF.2.1
    have h2:=hF.2.2.1
    have h3:=hF.2.2.2.1
    have h4:=hF.2.2.2.2.1
    have h5:=hF.2.2.2.2.2.1
    have h6:=hF.2.2.2.2.2.2.1
    have h7:=hF.2.2.2.2.2.2.2
    clear hF
    simp only[jD,Act.put,zq1,zq2,zq3,zq4,zq5]
    rw[h0,h1,h2,h3,h4,h6]
    clear h0 h1 h2 h3 h4 h6
    obtain⟨hW,⟨Sy,ho,hs⟩,_⟩:=h5
    have jP:=h7.2
    clear h7
    obtain⟨zk,zn,zu,zs,za4,zn4,zc4,za5,zn5,zc5,hy4⟩:=ho.node6
    rw[hy4] at ho jP⊢
    clear hy4
    have HNX:Hid (LoopF ofT wc w2 B S' (.slice (some ⟨gL,0,none⟩) l.length c5) l (q+1)):=by
     have hv:=HVV.out
     obtain⟨hq1,hVl,hVq⟩:=HQV.out
     obtain⟨hdis,hs1,hs2,hSx,hSr,hxr⟩:=HSS.out
     have hgs:=HGS.out.1
     have hmw:=HM.out
     have hgL:=HL3.out gL rfl
     have hm2:Moved (fun g=>Sx g∨g=gL) wr w2:=(Moved.of_grew hgs).trans' hG
     have hW':w.heap.size≤wr.heap.size:=HGWR.out
     have hwc:wc.heap.size≤wr.heap.size:=hmw.size
     have hS':∀g,S' g→g < wr.heap.size:=fun g h=>by have:=HSW.out _ (HD.out.2.2.2 _ h);omega
     have hS1:∀g,S1 g→g < wr.heap.size:=fun g h=>(hs1 g h).elim (hS' g) (fun h=>h.2)
     have hL1:¬S1 gL:=fun h=>(hs1 _ h).elim hgL.2.1 (fun h=>by have:=(World.ownsRow.lt HLV.out.1 gL rfl).2;have:=h.1;omega)
     have hL2:¬Sr gL:=fun h=>hgL.2.1 (hs2 _ (hSr _ h))
     refine⟨vs1++[.agg #[.int .i64 zk,.int .i64 zn,.int .u64 zu,.string zs,.slice za4 zn4 zc4,.slice za5 zn5 zc5]],vr,fun g=>S1 g∨Sy g,Sr,by rw[List.length_append];simp[hq1],?_,?_,?_,?_,?_,fun g h=>hs2 g (hSr g h),?_⟩
     ·rw[← hv,List.set_append_right _ _ (by omega),hq1,Nat.sub_self,zq2] at jP
      simpa using jP
     ·rw[HTK.out]
      refine j4.app (HK12.out.1.kept hm2 (fun g h e=>?_)) (j4.one ho) (fun g h1 h2=>?_)
      ·rcases e with e|e
       ·exact hdis g h (hSx g e)
       ·subst e;exact hL1 h
      ·rcases hs g h2 with e|e
       ·exact hdis g h1 (hSx g e)
       ·have:=hS1 g h1;have:=hgs.size;have:=e.1;omega
     ·refine HK12.out.2.kept hm2 (fun g h e=>?_)
      rcases e with e|e
      ·exact hxr g e h
      ·subst e;exact hL2 h
     ·rintro g (h|h) h2
      ·exact hdis g h (hSr g h2)
      ·rcases hs g h with e|e
       ·exact hxr g e h2
       ·have:=hS' g (hs2 g (hSr g h2));have:=hgs.size;have:=e.1;omega
     ·rintro g (h|h)
      ·exact (hs1 g h).imp id (fun h=>⟨h.1,Nat.lt_of_lt_of_le h.2 hm2.size⟩)
      ·rcases hs g h with e|e
       ·exact .inl (hs2 g (hSx g e))
       ·exact .inr ⟨by have:=hgs.size;have:=e.1;omega,e.2⟩
     ·refine hmw.trans' (hm2.mono (fun g _ h=>?_))
      rcases h with e|e
      ·exact .inl (hs2 g (hSx g e))
      ·exact .inr (by rw[e];rfl)
    clear hs ho jP hG b0 b1 b2 b3 b4 b5 d5 n1 n2
    go_wp2_with fail
    go_roundw
    case rel=>exact⟨q+1,by omega,by go_num,HNX⟩
    case measure=>simp[intOf];omega
  ·obtain rfl:q=l.length:=by omega
   have hlN:N+1 < wc.heap.size:=(Array.getElem?_eq_some_iff.1 HBR.out).1
   have hend:=of_end HN.out HGW.out HKV.out (fun g hg=>(World.ownsRow.lt HLV.out.1 g hg).2) HK3.out HL3.out HD.out.2.2.2 HSW.out hlN HW.out
   obtain⟨S1,vs1,hmv,jP,hkd,hk1,hl1,hs1,hszz⟩:=hend
   have HEND:=zh (And.intro hmv (And.intro jP (And.intro hkd (And.intro hk1 (And.intro hl1 (And.intro hs1 hszz))))))
   have HNR:Hid (N+1 < wr.heap.size):=by show _ < _;omega
   have hz:(zeroValue 27).run Try.prog wr=.ok .nilFunc wr:=by
    have h:(Try.prog.info? 27).map (fun i=>i.zero)=some (some .nilFunc):=by kernel_rfl
    cases hi:Try.prog.info? 27 with
    | none=>rw[hi] at h;cases h
    | some i=>rw[hi] at h;simp at h;simp[zeroValue,typeInfo,hi,h,Result.andThen]
   have hmapr:KU wr b yO:=hmv.heap HMAP.out.1 HMAP.out.2
   have hlk:=lookI wr Try.underlying48 Try.underlying3 hz b yO hmapr k
   have hrow':=HWF.out.1
   have jR:=HWF.out.2.1
   have d0:=jA hrow' 0 _ rfl
   have d1:=jA hrow' 1 _ rfl
   have d2:=jA hrow' 2 _ rfl
   have d3:=jA hrow' 3 _ rfl
   have d4:=jA hrow' 4 _ rfl
   have d5:=jA hrow' 5 _ rfl
   clear hz hmapr hmv jP hkd hk1 hl1 hs1 hszz hrow' HW hlN
   by_cases hno:k=4∨k=9∨k=8∨k=5∨(11≤k∧k≤16)
   rotate_left
   ·have hnn:=aK (k:=k) (fun h=>hno (.inl h)) (fun h=>hno (.inr (.inl h))) (fun h=>hno (.inr (.inr (.inl h)))) (fun h=>hno (.inr (.inr (.inr (.inl h))))) (fun h=>hno (.inr (.inr (.inr (.inr h)))))
    rw[hnn] at hlk
    have hne:=ne_nil
    have r0:=jB jR 0
    have r1:=jB jR 1
    have r2:=jB jR 2
    have r3:=jB jR 3
    have r4:=jB jR 4
    have r5:=jB jR 5
    have z0:=jA jR 0 _ rfl
    have z1:=jA jR 1 _ rfl
    have z2:=jA jR 2 _ rfl
    have z3:=jA jR 3 _ rfl
    have z4:=jA jR 4 _ rfl
    have z5:=jA jR 5 _ rfl
    have HFIN:Hid (∃S3,jW (jH wr (N+1) (.int .i64 k) (.int .i64 n) (.int .u64 u) (.string s) (.slice a4 keys.length c4) (.slice a5 l.length c5)) B (ofT (.mk k n u s keys l)) (.agg #[.int .i64 k,.int .i64 n,.int .u64 u,.string s,.slice a4 keys.length c4,.slice a5 l.length c5]) S3∧Moved S w (jH wr (N+1) (.int .i64 k) (.int .i64 n) (.int .u64 u) (.string s) (.slice a4 keys.length c4) (.slice a5 l.length c5))∧w.heap.size < (jH wr (N+1) (.int .i64 k) (.int .i64 n) (.int .u64 u) (.string s) (.slice a4 keys.length c4) (.slice a5 l.length c5)).heap.size∧∀g,S3 g→S g∨jX w (jH wr (N+1) (.int .i64 k) (.int .i64 n) (.int .u64 u) (.string s) (.slice a4 keys.length c4) (.slice a5 l.length c5)) g):=by
     have hT:ofT (.mk k n u s keys l)=.mk k n u s keys (ofL l):=by
      simp only[ofT,zO]
      rw[if_neg (fun h=>hno (h.elim .inl (fun h=>.inr (.inl h)))),if_neg (fun h=>hno (.inr (.inr (.inl h)))),if_neg (fun h=>hno (.inr (.inr (.inr (.inl h))))),if_neg (fun h=>hno (.inr (.inr (.inr (.inr h)))))]
     rw[hT]
     obtain⟨hmv,jP,hkd,hk1,hl1,hs1,hsz1⟩:=HEND.out
     have hwr:jC w wc:=HGW.out
     have hfr:∀g,(S g∨jX w wc g)→(S g∨jX w wr g):=fun g h=>h.imp id (fun e=>⟨e.1,Nat.lt_of_lt_of_le e.2 hsz1⟩)
     refine J9 (S2:=fun g=>(Value.slice a4 keys.length c4).ownBlock=some g∨(Value.slice a5 l.length c5).ownBlock=some g∨S1 g) HN.out hmv HNR.out ⟨HB.out,_,_,vs1,S1,rfl,HWF.out.2.2,jP,fun g hg=>⟨.inl hg,hk1 g hg⟩,fun g hg=>⟨.inr (.inl hg),hl1 g hg⟩,fun g hg=>(HK3.out g hg).2.2,fun g h=>.inr (.inr h),hkd⟩ (fun g hg=>?_) (jC.refl wr)
     rcases hg with hg|hg|hg
     ·refine⟨hfr g (HK3.out g hg).1,fun e=>?_⟩
      exact zM HWF.out.2.2 HWF.out.2.1 (by decide) (e ▸ hg)
     ·exact⟨hfr g (HL3.out g hg).1,(HL3.out g hg).2.2.2⟩
     ·exact hs1 g hg
    clear hno hnn jR
    go_wp2_with fail
    refine bodyPost_ret (v:=.agg #[.int .i64 k,.int .i64 n,.int .u64 u,.string s,.slice a4 keys.length c4,.slice a5 l.length c5]) (by simp[results,Try.results28,go_sem,z0,z1,z2,z3,z4,z5]) rfl ?_
    obtain⟨S3,hh⟩:=HFIN.out
    exact⟨_,rfl,S3,hh⟩
   ·by_cases hk:k=4∨k=9
    ·obtain⟨j,hfi⟩:∃j,qQ k yO 0=some (j,fF 44):=by
      rcases hk with e|e<;>(rw[e];exact⟨_,rfl⟩)
     by_cases hu:u < 9223372036854775808
     ·have numU_s:Y6 u=.agg #[.int .i64 3,.int .i64 u,.int .u64 0,.string ⟨#[]⟩,.slice none 0 0,.slice none 0 0]:=if_pos hu
      have hh:=Z3 k n u s a4 keys.length c4 a5 l.length c5 wr HB.out.2.2.1.1
      rw[numU_s] at hh
      have HH:=zh hh
      clear hh numU_s
      have hlk2:(Instr.lookup 48 (.map (some b)) (.int .i64 k) false).run Try.prog wr=.ok (.func (.func 44) #[] #[]) wr:=by rw[hlk,hfi];rfl
      clear hlk hfi
      have hne:=QN 44
      go_wp2_with fail
      refine (HH.out).mono ?_
      rintro r w5 ⟨rfl,hg5⟩
      have hres5:=hg5.heap jR
      have r0:=jB hres5 0
      have r1:=jB hres5 1
      have r2:=jB hres5 2
      have r3:=jB hres5 3
      have r4:=jB hres5 4
      have r5:=jB hres5 5
      have z0:=jA hres5 0 _ rfl
      have z1:=jA hres5 1 _ rfl
      have z2:=jA hres5 2 _ rfl
      have z3:=jA hres5 3 _ rfl
      have z4:=jA hres5 4 _ rfl
      have z5:=jA hres5 5 _ rfl
      have HFIN:Hid (∃S3,jW (jH w5 (N+1) (.int .i64 3) (.int .i64 u) (.int .u64 0) (.string ⟨#[]⟩) (.slice none 0 0) (.slice none 0 0)) B (ofT (.mk k n u s keys l)) (.agg #[.int .i64 3,.int .i64 u,.int .u64 0,.string ⟨#[]⟩,.slice none 0 0,.slice none 0 0]) S3∧Moved S w (jH w5 (N+1) (.int .i64 3) (.int .i64 u) (.int .u64 0) (.string ⟨#[]⟩) (.slice none 0 0) (.slice none 0 0))∧w.heap.size < (jH w5 (N+1) (.int .i64 3) (.int .i64 u) (.int .u64 0) (.string ⟨#[]⟩) (.slice none 0 0) (.slice none 0 0)).heap.size∧∀g,S3 g→S g∨jX w (jH w5 (N+1) (.int .i64 3) (.int .i64 u) (.int .u64 0) (.string ⟨#[]⟩) (.slice none 0 0) (.slice none 0 0)) g):=by
       have hT:ofT (.mk k n u s keys l)=(.mk 3 u 0 ⟨#[]⟩ [] []):=by
        simp only[ofT,zO]
        rw[if_pos hk,if_pos (by omega)]
       rw[hT]
       obtain⟨hmv,jP,hkd,hk1,hl1,hs1,hsz1⟩:=HEND.out
       exact J9 (S2:=fun _=>False) HN.out hmv HNR.out (JN ⟨(by unfold jQ;omega),(by have:=HB.out.2.2.1.1;unfold jQ;omega),(by unfold j9;omega),(by unfold jI;decide)⟩) (fun g h=>h.elim) hg5
      clear hg5 jR hres5 hno
      go_wp2_with fail
      refine bodyPost_ret (v:=.agg #[.int .i64 3,.int .i64 u,.int .u64 0,.string ⟨#[]⟩,.slice none 0 0,.slice none 0 0]) (by simp[results,Try.results28,go_sem,z0,z1,z2,z3,z4,z5]) rfl ?_
      obtain⟨S3,hh⟩:=HFIN.out
      first
       | exact⟨_,rfl,S3,hh⟩
       | exact⟨_,S3,rfl,hh⟩
     ·have numU_s:Y6 u=.agg #[.int .i64 4,.int .i64 0,.int .u64 u,.string ⟨#[]⟩,.slice none 0 0,.slice none 0 0]:=if_neg hu
      have hh:=Z3 k n u s a4 keys.length c4 a5 l.length c5 wr HB.out.2.2.1.1
      rw[numU_s] at hh
      have HH:=zh hh
      clear hh numU_s
      have hlk2:(Instr.lookup 48 (.map (some b)) (.int .i64 k) false).run Try.prog wr=.ok (.func (.func 44) #[] #[]) wr:=by rw[hlk,hfi];rfl
      clear hlk hfi
      have hne:=QN 44
      go_wp2_with fail
      refine (HH.out).mono ?_
      rintro r w5 ⟨rfl,hg5⟩
      have hres5:=hg5.heap jR
      have r0:=jB hres5 0
      have r1:=jB hres5 1
      have r2:=jB hres5 2
      have r3:=jB hres5 3
      have r4:=jB hres5 4
      have r5:=jB hres5 5
      have z0:=jA hres5 0 _ rfl
      have z1:=jA hres5 1 _ rfl
      have z2:=jA hres5 2 _ rfl
      have z3:=jA hres5 3 _ rfl
      have z4:=jA hres5 4 _ rfl
      have z5:=jA hres5 5 _ rfl
      have HFIN:Hid (∃S3,jW (jH w5 (N+1) (.int .i64 4) (.int .i64 0) (.int .u64 u) (.string ⟨#[]⟩) (.slice none 0 0) (.slice none 0 0)) B (ofT (.mk k n u s keys l)) (.agg #[.int .i64 4,.int .i64 0,.int .u64 u,.string ⟨#[]⟩,.slice none 0 0,.slice none 0 0]) S3∧Moved S w (jH w5 (N+1) (.int .i64 4) (.int .i64 0) (.int .u64 u) (.string ⟨#[]⟩) (.slice none 0 0) (.slice none 0 0))∧w.heap.size < (jH w5 (N+1) (.int .i64 4) (.int .i64 0) (.int .u64 u) (.string ⟨#[]⟩) (.slice none 0 0) (.slice none 0 0)).heap.size∧∀g,S3 g→S g∨jX w (jH w5 (N+1) (.int .i64 4) (.int .i64 0) (.int .u64 u) (.string ⟨#[]⟩) (.slice none 0 0) (.slice none 0 0)) g):=by
       have hT:ofT (.mk k n u s keys l)=(.mk 4 0 u ⟨#[]⟩ [] []):=by
        simp only[ofT,zO]
        rw[if_pos hk,if_neg (by omega)]
       rw[hT]
       obtain⟨hmv,jP,hkd,hk1,hl1,hs1,hsz1⟩:=HEND.out
       exact J9 (S2:=fun _=>False) HN.out hmv HNR.out (JN ⟨(by unfold jQ;omega),(by unfold jQ;omega),HB.out.2.2.1,(by unfold jI;decide)⟩) (fun g h=>h.elim) hg5
      clear hg5 jR hres5 hno
      go_wp2_with fail
      refine bodyPost_ret (v:=.agg #[.int .i64 4,.int .i64 0,.int .u64 u,.string ⟨#[]⟩,.slice none 0 0,.slice none 0 0]) (by simp[results,Try.results28,go_sem,z0,z1,z2,z3,z4,z5]) rfl ?_
      obtain⟨S3,hh⟩:=HFIN.out
      first
       | exact⟨_,rfl,S3,hh⟩
       | exact⟨_,S3,rfl,hh⟩
    by_cases hk:k=8
    ·obtain⟨j,hfi⟩:∃j,qQ k yO 0=some (j,fF 47):=by rw[hk];exact⟨_,rfl⟩
     have HKK:=zh hk
     clear hk
     have hlk2:(Instr.lookup 48 (.map (some b)) (.int .i64 k) false).run Try.prog wr=.ok (.func (.func 47) #[] #[]) wr:=by rw[hlk,hfi];rfl
     clear hlk hfi
     have hne:=QN 47
     go_wp2_with fail
     refine ((V7 k n u s a4 keys.length c4 a5 l.length c5 wr)).mono ?_
     rintro r w5 ⟨rfl,hg5⟩
     have hres5:=hg5.heap jR
     have r0:=jB hres5 0
     have r1:=jB hres5 1
     have r2:=jB hres5 2
     have r3:=jB hres5 3
     have r4:=jB hres5 4
     have r5:=jB hres5 5
     have z0:=jA hres5 0 _ rfl
     have z1:=jA hres5 1 _ rfl
     have z2:=jA hres5 2 _ rfl
     have z3:=jA hres5 3 _ rfl
     have z4:=jA hres5 4 _ rfl
     have z5:=jA hres5 5 _ rfl
     have HFIN:Hid (∃S3,jW (jH w5 (N+1) (.int .i64 3) (.int .i64 n) (.int .u64 0) (.string ⟨#[]⟩) (.slice none 0 0) (.slice none 0 0)) B (ofT (.mk k n u s keys l)) (.agg #[.int .i64 3,.int .i64 n,.int .u64 0,.string ⟨#[]⟩,.slice none 0 0,.slice none 0 0]) S3∧Moved S w (jH w5 (N+1) (.int .i64 3) (.int .i64 n) (.int .u64 0) (.string ⟨#[]⟩) (.slice none 0 0) (.slice none 0 0))∧w.heap.size < (jH w5 (N+1) (.int .i64 3) (.int .i64 n) (.int .u64 0) (.string ⟨#[]⟩) (.slice none 0 0) (.slice none 0 0)).heap.size∧∀g,S3 g→S g∨jX w (jH w5 (N+1) (.int .i64 3) (.int .i64 n) (.int .u64 0) (.string ⟨#[]⟩) (.slice none 0 0) (.slice none 0 0)) g):=by
      have hT:ofT (.mk k n u s keys l)=(.mk 3 n 0 ⟨#[]⟩ [] []):=by
       simp only[ofT,zO]
       rw[if_neg (by have:=HKK.out;omega),if_pos HKK.out]
      rw[hT]
      obtain⟨hmv,jP,hkd,hk1,hl1,hs1,hsz1⟩:=HEND.out
      exact J9 (S2:=fun _=>False) HN.out hmv HNR.out (JN ⟨(by unfold jQ;omega),HB.out.2.1,(by unfold j9;omega),(by unfold jI;decide)⟩) (fun g h=>h.elim) hg5
     clear hg5 jR hres5 hno
     go_wp2_with fail
     refine bodyPost_ret (v:=.agg #[.int .i64 3,.int .i64 n,.int .u64 0,.string ⟨#[]⟩,.slice none 0 0,.slice none 0 0]) (by simp[results,Try.results28,go_sem,z0,z1,z2,z3,z4,z5]) rfl ?_
     obtain⟨S3,hh⟩:=HFIN.out
     first
      | exact⟨_,rfl,S3,hh⟩
      | exact⟨_,S3,rfl,hh⟩
    by_cases hk:k=5
    ·obtain⟨j,hfi⟩:∃j,qQ k yO 0=some (j,fF 48):=by rw[hk];exact⟨_,rfl⟩
     have HKK:=zh hk
     clear hk
     have hlk2:(Instr.lookup 48 (.map (some b)) (.int .i64 k) false).run Try.prog wr=.ok (.func (.func 48) #[] #[]) wr:=by rw[hlk,hfi];rfl
     clear hlk hfi
     have hne:=QN 48
     go_wp2_with fail
     refine ((V6 k n u s a4 keys.length c4 a5 l.length c5 wr)).mono ?_
     rintro r w5 ⟨rfl,hg5⟩
     have hres5:=hg5.heap jR
     have r0:=jB hres5 0
     have r1:=jB hres5 1
     have r2:=jB hres5 2
     have r3:=jB hres5 3
     have r4:=jB hres5 4
     have r5:=jB hres5 5
     have z0:=jA hres5 0 _ rfl
     have z1:=jA hres5 1 _ rfl
     have z2:=jA hres5 2 _ rfl
     have z3:=jA hres5 3 _ rfl
     have z4:=jA hres5 4 _ rfl
     have z5:=jA hres5 5 _ rfl
     have HFIN:Hid (∃S3,jW (jH w5 (N+1) (.int .i64 6) (.int .i64 0) (.int .u64 0) (.string s) (.slice none 0 0) (.slice none 0 0)) B (ofT (.mk k n u s keys l)) (.agg #[.int .i64 6,.int .i64 0,.int .u64 0,.string s,.slice none 0 0,.slice none 0 0]) S3∧Moved S w (jH w5 (N+1) (.int .i64 6) (.int .i64 0) (.int .u64 0) (.string s) (.slice none 0 0) (.slice none 0 0))∧w.heap.size < (jH w5 (N+1) (.int .i64 6) (.int .i64 0) (.int .u64 0) (.string s) (.slice none 0 0) (.slice none 0 0)).heap.size∧∀g,S3 g→S g∨jX w (jH w5 (N+1) (.int .i64 6) (.int .i64 0) (.int .u64 0) (.string s) (.slice none 0 0) (.slice none 0 0)) g):=by
      have hT:ofT (.mk k n u s keys l)=(.mk 6 0 0 s [] []):=by
       simp only[ofT,zO]
       rw[if_neg (by have:=HKK.out;omega),if_neg (by have:=HKK.out;omega),if_pos HKK.out]
      rw[hT]
      obtain⟨hmv,jP,hkd,hk1,hl1,hs1,hsz1⟩:=HEND.out
      exact J9 (S2:=fun _=>False) HN.out hmv HNR.out (JN ⟨(by unfold jQ;omega),(by unfold jQ;omega),(by unfold j9;omega),HB.out.2.2.2.1⟩) (fun g h=>h.elim) hg5
     clear hg5 jR hres5 hno
     go_wp2_with fail
     refine bodyPost_ret (v:=.agg #[.int .i64 6,.int .i64 0,.int .u64 0,.string s,.slice none 0 0,.slice none 0 0]) (by simp[results,Try.results28,go_sem,z0,z1,z2,z3,z4,z5]) rfl ?_
     obtain⟨S3,hh⟩:=HFIN.out
     first
      | exact⟨_,rfl,S3,hh⟩
      | exact⟨_,S3,rfl,hh⟩
    ·have hk:11≤k∧k≤16:=by omega
     obtain⟨j,hfi⟩:∃j,qQ k yO 0=some (j,fF 46):=by
      have h6:k=11∨k=12∨k=13∨k=14∨k=15∨k=16:=by omega
      rcases h6 with e|e|e|e|e|e<;>(rw[e];exact⟨_,rfl⟩)
     have hlk2:(Instr.lookup 48 (.map (some b)) (.int .i64 k) false).run Try.prog wr=.ok (.func (.func 46) #[] #[]) wr:=by rw[hlk,hfi];rfl
     clear hlk hfi
     have hne:=QN 46
     go_wp2_with fail
     refine ((V5 k n u s a4 keys.length c4 a5 l.length c5 wr)).mono ?_
     rintro r w5 ⟨rfl,hg5⟩
     have hres5:=hg5.heap jR
     have r0:=jB hres5 0
     have r1:=jB hres5 1
     have r2:=jB hres5 2
     have r3:=jB hres5 3
     have r4:=jB hres5 4
     have r5:=jB hres5 5
     have z0:=jA hres5 0 _ rfl
     have z1:=jA hres5 1 _ rfl
     have z2:=jA hres5 2 _ rfl
     have z3:=jA hres5 3 _ rfl
     have z4:=jA hres5 4 _ rfl
     have z5:=jA hres5 5 _ rfl
     have HFIN:Hid (∃S3,jW (jH w5 (N+1) (.int .i64 10) (.int .i64 0) (.int .u64 0) (.string ⟨#[]⟩) (.slice none 0 0) (.slice a5 l.length c5)) B (ofT (.mk k n u s keys l)) (.agg #[.int .i64 10,.int .i64 0,.int .u64 0,.string ⟨#[]⟩,.slice none 0 0,.slice a5 l.length c5]) S3∧Moved S w (jH w5 (N+1) (.int .i64 10) (.int .i64 0) (.int .u64 0) (.string ⟨#[]⟩) (.slice none 0 0) (.slice a5 l.length c5))∧w.heap.size < (jH w5 (N+1) (.int .i64 10) (.int .i64 0) (.int .u64 0) (.string ⟨#[]⟩) (.slice none 0 0) (.slice a5 l.length c5)).heap.size∧∀g,S3 g→S g∨jX w (jH w5 (N+1) (.int .i64 10) (.int .i64 0) (.int .u64 0) (.string ⟨#[]⟩) (.slice none 0 0) (.slice a5 l.length c5)) g):=by
      have hT:ofT (.mk k n u s keys l)=(.mk 10 0 0 ⟨#[]⟩ [] (ofL l)):=by
       simp only[ofT,zO]
       rw[if_neg (by omega),if_neg (by omega),if_neg (by omega),if_pos hk]
      rw[hT]
      obtain⟨hmv,jP,hkd,hk1,hl1,hs1,hsz1⟩:=HEND.out
      exact J9 (S2:=fun g=>(Value.slice a5 l.length c5).ownBlock=some g∨S1 g) HN.out hmv HNR.out (⟨⟨(by unfold jQ;omega),(by unfold jQ;omega),(by unfold j9;omega),(by unfold jI;decide),by simp⟩,.slice none 0 0,.slice a5 l.length c5,vs1,S1,rfl,kD.nil _ _,jP,(fun g h=>by cases h),(fun g hg=>⟨.inl hg,hl1 g hg⟩),(fun g h=>by cases h),(fun g h=>.inr h),hkd⟩) (fun g hg=>hg.elim (fun hg=>⟨(HL3.out g hg).1.imp id (fun e=>⟨e.1,Nat.lt_of_lt_of_le e.2 hsz1⟩),(HL3.out g hg).2.2.2⟩) (fun hg=>hs1 g hg)) hg5
     clear hg5 jR hres5 hno
     go_wp2_with fail
     refine bodyPost_ret (v:=.agg #[.int .i64 10,.int .i64 0,.int .u64 0,.string ⟨#[]⟩,.slice none 0 0,.slice a5 l.length c5]) (by simp[results,Try.results28,go_sem,z0,z1,z2,z3,z4,z5]) rfl ?_
     obtain⟨S3,hh⟩:=HFIN.out
     first
      | exact⟨_,rfl,S3,hh⟩
      | exact⟨_,S3,rfl,hh⟩
/-! ### normal forms -/
theorem of_eq (k n u:Int) (s:ByteArray) (keys:List ByteArray) (l:List Tr):ofT (.mk k n u s keys l)=zO k n u s keys (l.map ofT):=by simp[ofT,JM]
theorem QO (f g:Tr→Tr):∀(keys:List ByteArray) (l:List Tr),(keys.zip (l.map g)).map (fun p=>(p.1,f p.2))=keys.zip (l.map fun t=>f (g t))
 | [],_=>rfl
 | k::r,[]=>rfl
 | k::r,t::q=>by simp only[List.map_cons,List.zip_cons_cons];rw[QO f g r q]
def z6 (t:Tr):Tr:=ofT (kB t)
theorem nor_eq (k n u:Int) (s:ByteArray) (keys:List ByteArray) (l:List Tr):z6 (.mk k n u s keys l) =
 if k=17 then .mk 17 n u s ((yC (keys.zip (l.map z6))).map Prod.fst) ((yC (keys.zip (l.map z6))).map Prod.snd) else zO k n u s keys (l.map z6):=by
 unfold z6
 simp only[kB]
 by_cases e:k=17
 ·rw[if_pos e,if_pos e,of_eq]
  subst e
  have hz:(keys.zip (zV l)).map (fun p=>(p.1,ofT p.2))=keys.zip (l.map fun t=>ofT (kB t)):=by
   rw[k7]
   exact QO ofT kB keys l
  rw[← hz,← vL]
  have hf:zO 17 n u s ((yC (keys.zip (zV l))).map Prod.fst) (((yC (keys.zip (zV l))).map Prod.snd).map ofT)=.mk 17 n u s ((yC (keys.zip (zV l))).map Prod.fst) (((yC (keys.zip (zV l))).map Prod.snd).map ofT):=by
   unfold zO
   rw[if_neg (by decide),if_neg (by decide),if_neg (by decide),if_neg (by decide)]
  rw[hf,List.map_map,List.map_map,List.map_map]
  rfl
 ·rw[if_neg e,if_neg e,of_eq,k7,List.map_map]
  rfl
def jO (k:Int):Bool:=decide (1≤k∧k≤9)
def jN:Tr→Bool | .mk k n u s keys l=>jJ (.mk k n u s keys l) && (!jO k || decide (l=[]))
mutual
def z7 (b:Nat):Tr→Int
 | .mk k n u s keys l=>if 64≤b then 61 else if jN (.mk k n u s keys l)=false then 60 else if kU (.mk k n u s keys l)≠0 then kU (.mk k n u s keys l) else yH (b+1) l
def yH (b:Nat):List Tr→Int
 | []=>0
 | t::r=>if z7 b t≠0 then z7 b t else yH b r
end
theorem chkRL_zero {b:Nat}:∀{l:List Tr},yH b l=0↔∀x∈l,z7 b x=0
 | []=>by simp[yH]
 | t::r=>by
  rw[yH]
  by_cases h:z7 b t=0
  ·rw[if_neg (fun h'=>h' h),chkRL_zero (l:=r)]
   simp[h]
  ·rw[if_pos h]
   simp[h]
theorem YI {k n u:Int} {s:ByteArray} {keys:List ByteArray} {l:List Tr} (h:jJ (.mk k n u s keys l)=true) (hl:jO k=true) (hk:∀x∈l,1≤x.kind):l=[]:=by
 unfold jO at hl
 simp only[decide_eq_true_eq] at hl
 have hp:kR k = -1:=by unfold kR;repeat' split<;>(try omega)
 cases l with
 | nil=>rfl
 | cons x r=>
  have hx:=hk x (by simp)
  simp only[jJ,Bool.and_eq_true] at h
  have h2:=h.2
  rw[hp] at h2
  have:jS (-1) x=true:=by
   unfold jS
   simp
   omega
  simp[this] at h2
theorem JB {t:Tr} (h:jJ t=true):1≤t.kind∧t.kind≤17:=by
 cases t
 simp only[jJ,Bool.and_eq_true,decide_eq_true_eq] at h
 exact h.1.1.1.1.1.1.1.1
theorem KA:∀(m:Nat) (t:Tr) (b:Nat),t.size≤m→(z7 b t=0↔qG b t):=by
 intro m
 induction m with
 | zero=>intro t b h;have:=t.size_pos;omega
 | succ m ih=>
  intro t b h
  obtain⟨k,n,u,s,keys,l⟩:=t
  have hl:∀x∈l,(z7 (b+1) x=0↔qG (b+1) x):=fun x hx=>ih x (b+1) (by have:=k9 hx;simp only[Tr.size] at h;omega)
  rw[z7,qG,valL_iff]
  by_cases hb:64≤b
  ·rw[if_pos hb]
   constructor
   ·intro h;exact absurd h (by decide)
   ·rintro ⟨h,_⟩;omega
  rw[if_neg hb]
  constructor
  ·intro h
   split at h
   ·exact absurd h (by decide)
   ·rename_i hs
    split at h
    ·rename_i hk;exact absurd h hk
    ·rename_i hk
     have hs':jN (.mk k n u s keys l)=true:=by simpa using hs
     unfold jN at hs'
     simp only[Bool.and_eq_true] at hs'
     have h3:=chkRL_zero.1 h
     exact⟨by omega,hs'.1,by simpa using hk,fun x hx=>(hl x hx).1 (h3 x hx)⟩
  ·rintro ⟨_,h1,h2,h3⟩
   have hs:jN (.mk k n u s keys l)=true:=by
    show (jJ (.mk k n u s keys l) && (!jO k || decide (l=[])))=true
    rw[h1,Bool.true_and]
    cases hlf:jO k
    ·rfl
    ·rw[YI h1 hlf fun x hx=>(JB (val_such (h3 x hx))).1];rfl
   rw[if_neg (by rw[hs];decide),if_neg (by simpa using h2),chkRL_zero]
   exact fun x hx=>(hl x hx).2 (h3 x hx)
where
 val_such {b:Nat} {x:Tr} (h:qG b x):jJ x=true:=by cases x;exact h.2.1
theorem JC {t:Tr} (hz:t.size≤4096):z7 0 t=0↔kL t=0:=by
 rw[KA t.size t 0 (Nat.le_refl _),check_val]
 exact⟨fun h=>⟨hz,h⟩,fun h=>h.2⟩
/-! ### trees beside a counter -/
section
variable {w w':World} {p:Nat} {n:Int} {T:TypeId}
end
theorem yI (x:Int) (w:World):Calls Try.prog 79 #[.int .i64 x] w fun r w'=>r=.returned (.int .i64 (kR x))∧w'=w:=by
 by_cases h10:x=10
 ·subst h10
  have HV:Hid (kR 10=0):=by show _=_;decide +kernel
  rw[HV.out]
  go_enter Try.func79,Try.ntmps79
  go_wp2_with fail
  go_ret
  exact⟨rfl,rfl⟩
 by_cases h17:x=17
 ·subst h17
  have HV:Hid (kR 17=0):=by show _=_;decide +kernel
  rw[HV.out]
  go_enter Try.func79,Try.ntmps79
  go_wp2_with fail
  go_ret
  exact⟨rfl,rfl⟩
 by_cases h11:x=11
 ·subst h11
  have HV:Hid (kR 11=3):=by show _=_;decide +kernel
  rw[HV.out]
  go_enter Try.func79,Try.ntmps79
  go_wp2_with fail
  go_ret
  exact⟨rfl,rfl⟩
 by_cases h15:x=15
 ·subst h15
  have HV:Hid (kR 15=3):=by show _=_;decide +kernel
  rw[HV.out]
  go_enter Try.func79,Try.ntmps79
  go_wp2_with fail
  go_ret
  exact⟨rfl,rfl⟩
 by_cases h12:x=12
 ·subst h12
  have HV:Hid (kR 12=4):=by show _=_;decide +kernel
  rw[HV.out]
  go_enter Try.func79,Try.ntmps79
  go_wp2_with fail
  go_ret
  exact⟨rfl,rfl⟩
 by_cases h16:x=16
 ·subst h16
  have HV:Hid (kR 16=4):=by show _=_;decide +kernel
  rw[HV.out]
  go_enter Try.func79,Try.ntmps79
  go_wp2_with fail
  go_ret
  exact⟨rfl,rfl⟩
 by_cases h13:x=13
 ·subst h13
  have HV:Hid (kR 13=5):=by show _=_;decide +kernel
  rw[HV.out]
  go_enter Try.func79,Try.ntmps79
  go_wp2_with fail
  go_ret
  exact⟨rfl,rfl⟩
 by_cases h14:x=14
 ·subst h14
  have HV:Hid (kR 14=2):=by show _=_;decide +kernel
  rw[HV.out]
  go_enter Try.func79,Try.ntmps79
  go_wp2_with fail
  go_ret
  exact⟨rfl,rfl⟩
 have HV:Hid (kR x = -1):=by show _=_;unfold kR;simp[h10,h17,h11,h15,h12,h16,h13,h14]
 rw[HV.out]
 have b10:(x == 10)=false:=by simpa using h10
 have b17:(x == 17)=false:=by simpa using h17
 have b11:(x == 11)=false:=by simpa using h11
 have b15:(x == 15)=false:=by simpa using h15
 have b12:(x == 12)=false:=by simpa using h12
 have b16:(x == 16)=false:=by simpa using h16
 have b13:(x == 13)=false:=by simpa using h13
 have b14:(x == 14)=false:=by simpa using h14
 clear h10 h17 h11 h15 h12 h16 h13 h14
 go_enter Try.func79,Try.ntmps79
 go_wp2_with fail
 go_ret
 exact⟨rfl,rfl⟩
theorem j5 (x:Int) (w:World):Calls Try.prog 52 #[.int .i64 x] w fun r w'=>r=.returned (.bool (jO x))∧w'=w:=by
 by_cases h1:1≤x
 rotate_left
 ·have HV:Hid (jO x=false):=by show _=_;simp[jO,h1]
  have hlt:x < 1:=by omega
  clear h1
  go_enter Try.func52,Try.ntmps52
  go_wp2_with fail
  go_ret
  exact⟨by rw[HV.out];rfl,rfl⟩
 by_cases h2:x≤9
 ·have HV:Hid (jO x=true):=by show _=_;simp[jO,h1,h2]
  go_enter Try.func52,Try.ntmps52
  go_wp2_with fail
  go_ret
  exact⟨by rw[HV.out];rfl,rfl⟩
 ·have HV:Hid (jO x=false):=by show _=_;simp[jO,h2]
  have hgt:9 < x:=by omega
  clear h2
  go_enter Try.func52,Try.ntmps52
  go_wp2_with fail
  go_ret
  refine⟨?_,rfl⟩
  rw[HV.out]
  show Ending.returned (.bool (decide (x≤9)))=_
  rw[show decide (x≤9)=false by simp;omega]
theorem y7 {p:Tr→Bool} {l:List Tr} {k:Nat} {x:Tr} (h:l[k]? = some x):(l.drop k).any p=(p x || (l.drop (k+1)).any p):=by
 have hlt:=(List.getElem?_eq_some_iff.1 h).1
 rw[List.drop_eq_getElem_cons hlt]
 have e:l[k]=x:=(List.getElem?_eq_some_iff.1 h).2
 rw[e];rfl
theorem rsuch_1 (n u:Int) (s:ByteArray) (keys:List ByteArray) (l:List Tr) (v:Value) (w:World) (hn:jL w (.mk 1 n u s keys l) v):Calls Try.prog 72 #[v] w fun r w'=>r=.returned (.bool (jN (.mk 1 n u s keys l)))∧jC w w':=by
 obtain⟨hb,kv,lv,vs,rfl,hks,hrl,hkd⟩:=hn
 have hkl:=hkd.length
 have HKD:=zh hkd
 obtain⟨a4,c4,rfl,hk1,hk2,hk3,_⟩:=hks
 have HRL:=zh hrl
 obtain⟨a5,c5,rfl,hl1,hl2,hl3,hl4⟩:=hrl
 rw[hkl] at HRL hl1⊢
 have kV:l.length≤9223372036854775807:=by unfold jI at hl2;omega
 have kZ:keys.length≤9223372036854775807:=by unfold jI at hk2;omega
 have hlc:(l.length:Int)≤c5:=by omega
 clear hb hk1 hk2 hk3 hl1 hl2 hl3 hl4 hkl hkd
 obtain⟨res,jR⟩:∃b,jN (.mk 1 n u s keys l)=b:=⟨_,rfl⟩
 rw[jR]
 have jY:=zh jR
 clear jR
 have hrt:=heap_alloc_new w (.cells #[.int .i64 1,.int .i64 n,.int .u64 u,.string s,.slice a4 keys.length c4,.slice a5 l.length c5] 26)
 have hga:=(jC.refl w).alloc (.cells #[.int .i64 1,.int .i64 n,.int .u64 u,.string s,.slice a4 keys.length c4,.slice a5 l.length c5] 26)
 go_enter Try.func72,Try.ntmps72
 go_upto_region 1 with fail
 obtain⟨pr,hpr⟩:∃N,w.heap.size=N:=⟨_,rfl⟩
 generalize (w.alloc (.cells #[.int .i64 1,.int .i64 n,.int .u64 u,.string s,.slice a4 keys.length c4,.slice a5 l.length c5] 26))=x1 at *
 rw[hpr] at hrt⊢
 have HRT:=zh hrt
 have HG:=zh hga
 clear hrt hga hpr
 have e0:=jA HRT.out 0 _ rfl
 have e1:=jA HRT.out 1 _ rfl
 have e2:=jA HRT.out 2 _ rfl
 have e3:=jA HRT.out 3 _ rfl
 have e4:=jA HRT.out 4 _ rfl
 have e5:=jA HRT.out 5 _ rfl
 by_cases hn0:n=0
 rotate_left
 ·have hbx:(n != 0)=true:=by simpa using hn0
  have HV:Hid (res=false):=by show _=_;rw[← jY.out];simp[jN,jJ,jK,jO,hn0]
  clear hn0
  go_wp2_with fail
  go_ret
  exact⟨by rw[HV.out];rfl,HG.out⟩
 have hbn:(n != 0)=false:=by simpa using hn0
 by_cases hu0:u=0
 rotate_left
 ·have hbx:(u != 0)=true:=by simpa using hu0
  have HV:Hid (res=false):=by show _=_;rw[← jY.out];simp[jN,jJ,jK,jO,hu0]
  clear hu0
  go_wp2_with fail
  go_ret
  exact⟨by rw[HV.out];rfl,HG.out⟩
 have hbu:(u != 0)=false:=by simpa using hu0
 by_cases hs0:s.toList=[]
 rotate_left
 ·have hbx:¬s.toList=[]:=hs0
  have HV:Hid (res=false):=by show _=_;rw[← jY.out];simp[jN,jJ,jK,jO,hs0]
  clear hs0
  go_wp2_with fail
  go_ret
  exact⟨by rw[HV.out];rfl,HG.out⟩
 by_cases hk0:keys=[]
 rotate_left
 ·have hbx:0 < keys.length:=List.length_pos_iff.2 hk0
  have HV:Hid (res=false):=by show _=_;rw[← jY.out];simp[jN,jJ,jK,jO,hk0]
  clear hk0
  go_wp2_with fail
  go_ret
  exact⟨by rw[HV.out];rfl,HG.out⟩
 subst hk0
 go_wp2_with fail
 refine (j5 1 x1).mono ?_
 rintro r wq ⟨rfl,e⟩
 rw[e]
 clear e wq
 rw[show jO 1=true from by decide +kernel]
 by_cases hl0:l=[]
 rotate_left
 ·have hbx:0 < l.length:=List.length_pos_iff.2 hl0
  have HV:Hid (res=false):=by show _=_;rw[← jY.out];simp[jN,jJ,jK,jO,hl0]
  clear hl0
  go_wp2_with fail
  go_ret
  exact⟨by rw[HV.out];rfl,HG.out⟩
 subst hl0
 have HV:Hid (res=true):=by show _=_;rw[← jY.out];simp[jN,jJ,jK,jO,hn0,hu0,hs0]
 go_wp2_with fail
 go_loop [6] (fun i=>i=.int .i64 0) (fun _=>0)
 case atStart=>exact rfl
 case round=>
  obtain rfl:=hrel
  go_wp2_with fail
  go_ret
  exact⟨by rw[HV.out];rfl,HG.out⟩
theorem rsuch_2 (n u:Int) (s:ByteArray) (keys:List ByteArray) (l:List Tr) (v:Value) (w:World) (hn:jL w (.mk 2 n u s keys l) v):Calls Try.prog 72 #[v] w fun r w'=>r=.returned (.bool (jN (.mk 2 n u s keys l)))∧jC w w':=by
 obtain⟨hb,kv,lv,vs,rfl,hks,hrl,hkd⟩:=hn
 have hkl:=hkd.length
 have HKD:=zh hkd
 obtain⟨a4,c4,rfl,hk1,hk2,hk3,_⟩:=hks
 have HRL:=zh hrl
 obtain⟨a5,c5,rfl,hl1,hl2,hl3,hl4⟩:=hrl
 rw[hkl] at HRL hl1⊢
 have kV:l.length≤9223372036854775807:=by unfold jI at hl2;omega
 have kZ:keys.length≤9223372036854775807:=by unfold jI at hk2;omega
 have hlc:(l.length:Int)≤c5:=by omega
 clear hb hk1 hk2 hk3 hl1 hl2 hl3 hl4 hkl hkd
 obtain⟨res,jR⟩:∃b,jN (.mk 2 n u s keys l)=b:=⟨_,rfl⟩
 rw[jR]
 have jY:=zh jR
 clear jR
 have hrt:=heap_alloc_new w (.cells #[.int .i64 2,.int .i64 n,.int .u64 u,.string s,.slice a4 keys.length c4,.slice a5 l.length c5] 26)
 have hga:=(jC.refl w).alloc (.cells #[.int .i64 2,.int .i64 n,.int .u64 u,.string s,.slice a4 keys.length c4,.slice a5 l.length c5] 26)
 go_enter Try.func72,Try.ntmps72
 go_upto_region 1 with fail
 obtain⟨pr,hpr⟩:∃N,w.heap.size=N:=⟨_,rfl⟩
 generalize (w.alloc (.cells #[.int .i64 2,.int .i64 n,.int .u64 u,.string s,.slice a4 keys.length c4,.slice a5 l.length c5] 26))=x1 at *
 rw[hpr] at hrt⊢
 have HRT:=zh hrt
 have HG:=zh hga
 clear hrt hga hpr
 have e0:=jA HRT.out 0 _ rfl
 have e1:=jA HRT.out 1 _ rfl
 have e2:=jA HRT.out 2 _ rfl
 have e3:=jA HRT.out 3 _ rfl
 have e4:=jA HRT.out 4 _ rfl
 have e5:=jA HRT.out 5 _ rfl
 by_cases hu0:u=0
 rotate_left
 ·have hbx:(u != 0)=true:=by simpa using hu0
  have HV:Hid (res=false):=by show _=_;rw[← jY.out];simp[jN,jJ,jK,jO,hu0]
  clear hu0
  go_wp2_with fail
  go_ret
  exact⟨by rw[HV.out];rfl,HG.out⟩
 have hbu:(u != 0)=false:=by simpa using hu0
 by_cases hs0:s.toList=[]
 rotate_left
 ·have hbx:¬s.toList=[]:=hs0
  have HV:Hid (res=false):=by show _=_;rw[← jY.out];simp[jN,jJ,jK,jO,hs0]
  clear hs0
  go_wp2_with fail
  go_ret
  exact⟨by rw[HV.out];rfl,HG.out⟩
 by_cases hk0:keys=[]
 rotate_left
 ·have hbx:0 < keys.length:=List.length_pos_iff.2 hk0
  have HV:Hid (res=false):=by show _=_;rw[← jY.out];simp[jN,jJ,jK,jO,hk0]
  clear hk0
  go_wp2_with fail
  go_ret
  exact⟨by rw[HV.out];rfl,HG.out⟩
 subst hk0
 go_wp2_with fail
 refine (j5 2 x1).mono ?_
 rintro r wq ⟨rfl,e⟩
 rw[e]
 clear e wq
 rw[show jO 2=true from by decide +kernel]
 by_cases hl0:l=[]
 rotate_left
 ·have hbx:0 < l.length:=List.length_pos_iff.2 hl0
  have HV:Hid (res=false):=by show _=_;rw[← jY.out];simp[jN,jJ,jK,jO,hl0]
  clear hl0
  go_wp2_with fail
  go_ret
  exact⟨by rw[HV.out];rfl,HG.out⟩
 subst hl0
 by_cases hn2:n=0∨n=1
 rotate_left
 ·have hb1:(n != 0)=true:=by simp;omega
  have hb2:(n != 1)=true:=by simp;omega
  have HV:Hid (res=false):=by show _=_;rw[← jY.out];simp[jN,jJ,jK,jO];omega
  clear hn2
  go_wp2_with fail
  go_ret
  exact⟨by rw[HV.out];rfl,HG.out⟩
 rcases hn2 with rfl|rfl
 ·have HV:Hid (res=true):=by show _=_;rw[← jY.out];simp[jN,jJ,jK,jO,hu0,hs0]
  go_wp2_with fail
  go_loop [6] (fun i=>i=.int .i64 0) (fun _=>0)
  case atStart=>exact rfl
  case round=>
   obtain rfl:=hrel
   go_wp2_with fail
   go_ret
   exact⟨by rw[HV.out];rfl,HG.out⟩
 ·have HV:Hid (res=true):=by show _=_;rw[← jY.out];simp[jN,jJ,jK,jO,hu0,hs0]
  go_wp2_with fail
  go_loop [6] (fun i=>i=.int .i64 0) (fun _=>0)
  case atStart=>exact rfl
  case round=>
   obtain rfl:=hrel
   go_wp2_with fail
   go_ret
   exact⟨by rw[HV.out];rfl,HG.out⟩
theorem rsuch_3 (n u:Int) (s:ByteArray) (keys:List ByteArray) (l:List Tr) (v:Value) (w:World) (hn:jL w (.mk 3 n u s keys l) v):Calls Try.prog 72 #[v] w fun r w'=>r=.returned (.bool (jN (.mk 3 n u s keys l)))∧jC w w':=by
 obtain⟨hb,kv,lv,vs,rfl,hks,hrl,hkd⟩:=hn
 have hkl:=hkd.length
 have HKD:=zh hkd
 obtain⟨a4,c4,rfl,hk1,hk2,hk3,_⟩:=hks
 have HRL:=zh hrl
 obtain⟨a5,c5,rfl,hl1,hl2,hl3,hl4⟩:=hrl
 rw[hkl] at HRL hl1⊢
 have kV:l.length≤9223372036854775807:=by unfold jI at hl2;omega
 have kZ:keys.length≤9223372036854775807:=by unfold jI at hk2;omega
 have hlc:(l.length:Int)≤c5:=by omega
 clear hb hk1 hk2 hk3 hl1 hl2 hl3 hl4 hkl hkd
 obtain⟨res,jR⟩:∃b,jN (.mk 3 n u s keys l)=b:=⟨_,rfl⟩
 rw[jR]
 have jY:=zh jR
 clear jR
 have hrt:=heap_alloc_new w (.cells #[.int .i64 3,.int .i64 n,.int .u64 u,.string s,.slice a4 keys.length c4,.slice a5 l.length c5] 26)
 have hga:=(jC.refl w).alloc (.cells #[.int .i64 3,.int .i64 n,.int .u64 u,.string s,.slice a4 keys.length c4,.slice a5 l.length c5] 26)
 go_enter Try.func72,Try.ntmps72
 go_upto_region 1 with fail
 obtain⟨pr,hpr⟩:∃N,w.heap.size=N:=⟨_,rfl⟩
 generalize (w.alloc (.cells #[.int .i64 3,.int .i64 n,.int .u64 u,.string s,.slice a4 keys.length c4,.slice a5 l.length c5] 26))=x1 at *
 rw[hpr] at hrt⊢
 have HRT:=zh hrt
 have HG:=zh hga
 clear hrt hga hpr
 have e0:=jA HRT.out 0 _ rfl
 have e1:=jA HRT.out 1 _ rfl
 have e2:=jA HRT.out 2 _ rfl
 have e3:=jA HRT.out 3 _ rfl
 have e4:=jA HRT.out 4 _ rfl
 have e5:=jA HRT.out 5 _ rfl
 by_cases hu0:u=0
 rotate_left
 ·have hbx:(u != 0)=true:=by simpa using hu0
  have HV:Hid (res=false):=by show _=_;rw[← jY.out];simp[jN,jJ,jK,jO,hu0]
  clear hu0
  go_wp2_with fail
  go_ret
  exact⟨by rw[HV.out];rfl,HG.out⟩
 have hbu:(u != 0)=false:=by simpa using hu0
 by_cases hs0:s.toList=[]
 rotate_left
 ·have hbx:¬s.toList=[]:=hs0
  have HV:Hid (res=false):=by show _=_;rw[← jY.out];simp[jN,jJ,jK,jO,hs0]
  clear hs0
  go_wp2_with fail
  go_ret
  exact⟨by rw[HV.out];rfl,HG.out⟩
 by_cases hk0:keys=[]
 rotate_left
 ·have hbx:0 < keys.length:=List.length_pos_iff.2 hk0
  have HV:Hid (res=false):=by show _=_;rw[← jY.out];simp[jN,jJ,jK,jO,hk0]
  clear hk0
  go_wp2_with fail
  go_ret
  exact⟨by rw[HV.out];rfl,HG.out⟩
 subst hk0
 go_wp2_with fail
 refine (j5 3 x1).mono ?_
 rintro r wq ⟨rfl,e⟩
 rw[e]
 clear e wq
 rw[show jO 3=true from by decide +kernel]
 by_cases hl0:l=[]
 rotate_left
 ·have hbx:0 < l.length:=List.length_pos_iff.2 hl0
  have HV:Hid (res=false):=by show _=_;rw[← jY.out];simp[jN,jJ,jK,jO,hl0]
  clear hl0
  go_wp2_with fail
  go_ret
  exact⟨by rw[HV.out];rfl,HG.out⟩
 subst hl0
 have HV:Hid (res=true):=by show _=_;rw[← jY.out];simp[jN,jJ,jK,jO,hu0,hs0]
 go_wp2_with fail
 go_loop [6] (fun i=>i=.int .i64 0) (fun _=>0)
 case atStart=>exact rfl
 case round=>
  obtain rfl:=hrel
  go_wp2_with fail
  go_ret
  exact⟨by rw[HV.out];rfl,HG.out⟩
theorem rsuch_4 (n u:Int) (s:ByteArray) (keys:List ByteArray) (l:List Tr) (v:Value) (w:World) (hn:jL w (.mk 4 n u s keys l) v):Calls Try.prog 72 #[v] w fun r w'=>r=.returned (.bool (jN (.mk 4 n u s keys l)))∧jC w w':=by
 obtain⟨hb,kv,lv,vs,rfl,hks,hrl,hkd⟩:=hn
 have hkl:=hkd.length
 have HKD:=zh hkd
 obtain⟨a4,c4,rfl,hk1,hk2,hk3,_⟩:=hks
 have HRL:=zh hrl
 obtain⟨a5,c5,rfl,hl1,hl2,hl3,hl4⟩:=hrl
 rw[hkl] at HRL hl1⊢
 have kV:l.length≤9223372036854775807:=by unfold jI at hl2;omega
 have kZ:keys.length≤9223372036854775807:=by unfold jI at hk2;omega
 have hlc:(l.length:Int)≤c5:=by omega
 clear hb hk1 hk2 hk3 hl1 hl2 hl3 hl4 hkl hkd
 obtain⟨res,jR⟩:∃b,jN (.mk 4 n u s keys l)=b:=⟨_,rfl⟩
 rw[jR]
 have jY:=zh jR
 clear jR
 have hrt:=heap_alloc_new w (.cells #[.int .i64 4,.int .i64 n,.int .u64 u,.string s,.slice a4 keys.length c4,.slice a5 l.length c5] 26)
 have hga:=(jC.refl w).alloc (.cells #[.int .i64 4,.int .i64 n,.int .u64 u,.string s,.slice a4 keys.length c4,.slice a5 l.length c5] 26)
 go_enter Try.func72,Try.ntmps72
 go_upto_region 1 with fail
 obtain⟨pr,hpr⟩:∃N,w.heap.size=N:=⟨_,rfl⟩
 generalize (w.alloc (.cells #[.int .i64 4,.int .i64 n,.int .u64 u,.string s,.slice a4 keys.length c4,.slice a5 l.length c5] 26))=x1 at *
 rw[hpr] at hrt⊢
 have HRT:=zh hrt
 have HG:=zh hga
 clear hrt hga hpr
 have e0:=jA HRT.out 0 _ rfl
 have e1:=jA HRT.out 1 _ rfl
 have e2:=jA HRT.out 2 _ rfl
 have e3:=jA HRT.out 3 _ rfl
 have e4:=jA HRT.out 4 _ rfl
 have e5:=jA HRT.out 5 _ rfl
 by_cases hn0:n=0
 rotate_left
 ·have hbx:(n != 0)=true:=by simpa using hn0
  have HV:Hid (res=false):=by show _=_;rw[← jY.out];simp[jN,jJ,jK,jO,hn0]
  clear hn0
  go_wp2_with fail
  go_ret
  exact⟨by rw[HV.out];rfl,HG.out⟩
 have hbn:(n != 0)=false:=by simpa using hn0
 by_cases hs0:s.toList=[]
 rotate_left
 ·have hbx:¬s.toList=[]:=hs0
  have HV:Hid (res=false):=by show _=_;rw[← jY.out];simp[jN,jJ,jK,jO,hs0]
  clear hs0
  go_wp2_with fail
  go_ret
  exact⟨by rw[HV.out];rfl,HG.out⟩
 by_cases hk0:keys=[]
 rotate_left
 ·have hbx:0 < keys.length:=List.length_pos_iff.2 hk0
  have HV:Hid (res=false):=by show _=_;rw[← jY.out];simp[jN,jJ,jK,jO,hk0]
  clear hk0
  go_wp2_with fail
  go_ret
  exact⟨by rw[HV.out];rfl,HG.out⟩
 subst hk0
 go_wp2_with fail
 refine (j5 4 x1).mono ?_
 rintro r wq ⟨rfl,e⟩
 rw[e]
 clear e wq
 rw[show jO 4=true from by decide +kernel]
 by_cases hl0:l=[]
 rotate_left
 ·have hbx:0 < l.length:=List.length_pos_iff.2 hl0
  have HV:Hid (res=false):=by show _=_;rw[← jY.out];simp[jN,jJ,jK,jO,hl0]
  clear hl0
  go_wp2_with fail
  go_ret
  exact⟨by rw[HV.out];rfl,HG.out⟩
 subst hl0
 have HV:Hid (res=true):=by show _=_;rw[← jY.out];simp[jN,jJ,jK,jO,hn0,hs0]
 go_wp2_with fail
 go_loop [6] (fun i=>i=.int .i64 0) (fun _=>0)
 case atStart=>exact rfl
 case round=>
  obtain rfl:=hrel
  go_wp2_with fail
  go_ret
  exact⟨by rw[HV.out];rfl,HG.out⟩
theorem rsuch_5 (n u:Int) (s:ByteArray) (keys:List ByteArray) (l:List Tr) (v:Value) (w:World) (hn:jL w (.mk 5 n u s keys l) v):Calls Try.prog 72 #[v] w fun r w'=>r=.returned (.bool (jN (.mk 5 n u s keys l)))∧jC w w':=by
 obtain⟨hb,kv,lv,vs,rfl,hks,hrl,hkd⟩:=hn
 have hkl:=hkd.length
 have HKD:=zh hkd
 obtain⟨a4,c4,rfl,hk1,hk2,hk3,_⟩:=hks
 have HRL:=zh hrl
 obtain⟨a5,c5,rfl,hl1,hl2,hl3,hl4⟩:=hrl
 rw[hkl] at HRL hl1⊢
 have kV:l.length≤9223372036854775807:=by unfold jI at hl2;omega
 have kZ:keys.length≤9223372036854775807:=by unfold jI at hk2;omega
 have hlc:(l.length:Int)≤c5:=by omega
 clear hb hk1 hk2 hk3 hl1 hl2 hl3 hl4 hkl hkd
 obtain⟨res,jR⟩:∃b,jN (.mk 5 n u s keys l)=b:=⟨_,rfl⟩
 rw[jR]
 have jY:=zh jR
 clear jR
 have hrt:=heap_alloc_new w (.cells #[.int .i64 5,.int .i64 n,.int .u64 u,.string s,.slice a4 keys.length c4,.slice a5 l.length c5] 26)
 have hga:=(jC.refl w).alloc (.cells #[.int .i64 5,.int .i64 n,.int .u64 u,.string s,.slice a4 keys.length c4,.slice a5 l.length c5] 26)
 go_enter Try.func72,Try.ntmps72
 go_upto_region 1 with fail
 obtain⟨pr,hpr⟩:∃N,w.heap.size=N:=⟨_,rfl⟩
 generalize (w.alloc (.cells #[.int .i64 5,.int .i64 n,.int .u64 u,.string s,.slice a4 keys.length c4,.slice a5 l.length c5] 26))=x1 at *
 rw[hpr] at hrt⊢
 have HRT:=zh hrt
 have HG:=zh hga
 clear hrt hga hpr
 have e0:=jA HRT.out 0 _ rfl
 have e1:=jA HRT.out 1 _ rfl
 have e2:=jA HRT.out 2 _ rfl
 have e3:=jA HRT.out 3 _ rfl
 have e4:=jA HRT.out 4 _ rfl
 have e5:=jA HRT.out 5 _ rfl
 by_cases hn0:n=0
 rotate_left
 ·have hbx:(n != 0)=true:=by simpa using hn0
  have HV:Hid (res=false):=by show _=_;rw[← jY.out];simp[jN,jJ,jK,jO,hn0]
  clear hn0
  go_wp2_with fail
  go_ret
  exact⟨by rw[HV.out];rfl,HG.out⟩
 have hbn:(n != 0)=false:=by simpa using hn0
 by_cases hu0:u=0
 rotate_left
 ·have hbx:(u != 0)=true:=by simpa using hu0
  have HV:Hid (res=false):=by show _=_;rw[← jY.out];simp[jN,jJ,jK,jO,hu0]
  clear hu0
  go_wp2_with fail
  go_ret
  exact⟨by rw[HV.out];rfl,HG.out⟩
 have hbu:(u != 0)=false:=by simpa using hu0
 by_cases hk0:keys=[]
 rotate_left
 ·have hbx:0 < keys.length:=List.length_pos_iff.2 hk0
  have HV:Hid (res=false):=by show _=_;rw[← jY.out];simp[jN,jJ,jK,jO,hk0]
  clear hk0
  go_wp2_with fail
  go_ret
  exact⟨by rw[HV.out];rfl,HG.out⟩
 subst hk0
 go_wp2_with fail
 refine (j5 5 x1).mono ?_
 rintro r wq ⟨rfl,e⟩
 rw[e]
 clear e wq
 rw[show jO 5=true from by decide +kernel]
 by_cases hl0:l=[]
 rotate_left
 ·have hbx:0 < l.length:=List.length_pos_iff.2 hl0
  have HV:Hid (res=false):=by show _=_;rw[← jY.out];simp[jN,jJ,jK,jO,hl0]
  clear hl0
  go_wp2_with fail
  go_ret
  exact⟨by rw[HV.out];rfl,HG.out⟩
 subst hl0
 have HV:Hid (res=true):=by show _=_;rw[← jY.out];simp[jN,jJ,jK,jO,hn0,hu0]
 go_wp2_with fail
 go_loop [6] (fun i=>i=.int .i64 0) (fun _=>0)
 case atStart=>exact rfl
 case round=>
  obtain rfl:=hrel
  go_wp2_with fail
  go_ret
  exact⟨by rw[HV.out];rfl,HG.out⟩
theorem rsuch_6 (n u:Int) (s:ByteArray) (keys:List ByteArray) (l:List Tr) (v:Value) (w:World) (hn:jL w (.mk 6 n u s keys l) v):Calls Try.prog 72 #[v] w fun r w'=>r=.returned (.bool (jN (.mk 6 n u s keys l)))∧jC w w':=by
 obtain⟨hb,kv,lv,vs,rfl,hks,hrl,hkd⟩:=hn
 have hkl:=hkd.length
 have HKD:=zh hkd
 obtain⟨a4,c4,rfl,hk1,hk2,hk3,_⟩:=hks
 have HRL:=zh hrl
 obtain⟨a5,c5,rfl,hl1,hl2,hl3,hl4⟩:=hrl
 rw[hkl] at HRL hl1⊢
 have kV:l.length≤9223372036854775807:=by unfold jI at hl2;omega
 have kZ:keys.length≤9223372036854775807:=by unfold jI at hk2;omega
 have hlc:(l.length:Int)≤c5:=by omega
 clear hb hk1 hk2 hk3 hl1 hl2 hl3 hl4 hkl hkd
 obtain⟨res,jR⟩:∃b,jN (.mk 6 n u s keys l)=b:=⟨_,rfl⟩
 rw[jR]
 have jY:=zh jR
 clear jR
 have hrt:=heap_alloc_new w (.cells #[.int .i64 6,.int .i64 n,.int .u64 u,.string s,.slice a4 keys.length c4,.slice a5 l.length c5] 26)
 have hga:=(jC.refl w).alloc (.cells #[.int .i64 6,.int .i64 n,.int .u64 u,.string s,.slice a4 keys.length c4,.slice a5 l.length c5] 26)
 go_enter Try.func72,Try.ntmps72
 go_upto_region 1 with fail
 obtain⟨pr,hpr⟩:∃N,w.heap.size=N:=⟨_,rfl⟩
 generalize (w.alloc (.cells #[.int .i64 6,.int .i64 n,.int .u64 u,.string s,.slice a4 keys.length c4,.slice a5 l.length c5] 26))=x1 at *
 rw[hpr] at hrt⊢
 have HRT:=zh hrt
 have HG:=zh hga
 clear hrt hga hpr
 have e0:=jA HRT.out 0 _ rfl
 have e1:=jA HRT.out 1 _ rfl
 have e2:=jA HRT.out 2 _ rfl
 have e3:=jA HRT.out 3 _ rfl
 have e4:=jA HRT.out 4 _ rfl
 have e5:=jA HRT.out 5 _ rfl
 by_cases hn0:n=0
 rotate_left
 ·have hbx:(n != 0)=true:=by simpa using hn0
  have HV:Hid (res=false):=by show _=_;rw[← jY.out];simp[jN,jJ,jK,jO,hn0]
  clear hn0
  go_wp2_with fail
  go_ret
  exact⟨by rw[HV.out];rfl,HG.out⟩
 have hbn:(n != 0)=false:=by simpa using hn0
 by_cases hu0:u=0
 rotate_left
 ·have hbx:(u != 0)=true:=by simpa using hu0
  have HV:Hid (res=false):=by show _=_;rw[← jY.out];simp[jN,jJ,jK,jO,hu0]
  clear hu0
  go_wp2_with fail
  go_ret
  exact⟨by rw[HV.out];rfl,HG.out⟩
 have hbu:(u != 0)=false:=by simpa using hu0
 by_cases hk0:keys=[]
 rotate_left
 ·have hbx:0 < keys.length:=List.length_pos_iff.2 hk0
  have HV:Hid (res=false):=by show _=_;rw[← jY.out];simp[jN,jJ,jK,jO,hk0]
  clear hk0
  go_wp2_with fail
  go_ret
  exact⟨by rw[HV.out];rfl,HG.out⟩
 subst hk0
 go_wp2_with fail
 refine (j5 6 x1).mono ?_
 rintro r wq ⟨rfl,e⟩
 rw[e]
 clear e wq
 rw[show jO 6=true from by decide +kernel]
 by_cases hl0:l=[]
 rotate_left
 ·have hbx:0 < l.length:=List.length_pos_iff.2 hl0
  have HV:Hid (res=false):=by show _=_;rw[← jY.out];simp[jN,jJ,jK,jO,hl0]
  clear hl0
  go_wp2_with fail
  go_ret
  exact⟨by rw[HV.out];rfl,HG.out⟩
 subst hl0
 have HV:Hid (res=true):=by show _=_;rw[← jY.out];simp[jN,jJ,jK,jO,hn0,hu0]
 go_wp2_with fail
 go_loop [6] (fun i=>i=.int .i64 0) (fun _=>0)
 case atStart=>exact rfl
 case round=>
  obtain rfl:=hrel
  go_wp2_with fail
  go_ret
  exact⟨by rw[HV.out];rfl,HG.out⟩
theorem rsuch_7 (n u:Int) (s:ByteArray) (keys:List ByteArray) (l:List Tr) (v:Value) (w:World) (hn:jL w (.mk 7 n u s keys l) v):Calls Try.prog 72 #[v] w fun r w'=>r=.returned (.bool (jN (.mk 7 n u s keys l)))∧jC w w':=by
 obtain⟨hb,kv,lv,vs,rfl,hks,hrl,hkd⟩:=hn
 have hkl:=hkd.length
 have HKD:=zh hkd
 obtain⟨a4,c4,rfl,hk1,hk2,hk3,_⟩:=hks
 have HRL:=zh hrl
 obtain⟨a5,c5,rfl,hl1,hl2,hl3,hl4⟩:=hrl
 rw[hkl] at HRL hl1⊢
 have kV:l.length≤9223372036854775807:=by unfold jI at hl2;omega
 have kZ:keys.length≤9223372036854775807:=by unfold jI at hk2;omega
 have hlc:(l.length:Int)≤c5:=by omega
 clear hb hk1 hk2 hk3 hl1 hl2 hl3 hl4 hkl hkd
 obtain⟨res,jR⟩:∃b,jN (.mk 7 n u s keys l)=b:=⟨_,rfl⟩
 rw[jR]
 have jY:=zh jR
 clear jR
 have hrt:=heap_alloc_new w (.cells #[.int .i64 7,.int .i64 n,.int .u64 u,.string s,.slice a4 keys.length c4,.slice a5 l.length c5] 26)
 have hga:=(jC.refl w).alloc (.cells #[.int .i64 7,.int .i64 n,.int .u64 u,.string s,.slice a4 keys.length c4,.slice a5 l.length c5] 26)
 go_enter Try.func72,Try.ntmps72
 go_upto_region 1 with fail
 obtain⟨pr,hpr⟩:∃N,w.heap.size=N:=⟨_,rfl⟩
 generalize (w.alloc (.cells #[.int .i64 7,.int .i64 n,.int .u64 u,.string s,.slice a4 keys.length c4,.slice a5 l.length c5] 26))=x1 at *
 rw[hpr] at hrt⊢
 have HRT:=zh hrt
 have HG:=zh hga
 clear hrt hga hpr
 have e0:=jA HRT.out 0 _ rfl
 have e1:=jA HRT.out 1 _ rfl
 have e2:=jA HRT.out 2 _ rfl
 have e3:=jA HRT.out 3 _ rfl
 have e4:=jA HRT.out 4 _ rfl
 have e5:=jA HRT.out 5 _ rfl
 by_cases hn0:n=0
 rotate_left
 ·have hbx:(n != 0)=true:=by simpa using hn0
  have HV:Hid (res=false):=by show _=_;rw[← jY.out];simp[jN,jJ,jK,jO,hn0]
  clear hn0
  go_wp2_with fail
  go_ret
  exact⟨by rw[HV.out];rfl,HG.out⟩
 have hbn:(n != 0)=false:=by simpa using hn0
 by_cases hu0:u=0
 rotate_left
 ·have hbx:(u != 0)=true:=by simpa using hu0
  have HV:Hid (res=false):=by show _=_;rw[← jY.out];simp[jN,jJ,jK,jO,hu0]
  clear hu0
  go_wp2_with fail
  go_ret
  exact⟨by rw[HV.out];rfl,HG.out⟩
 have hbu:(u != 0)=false:=by simpa using hu0
 by_cases hk0:keys=[]
 rotate_left
 ·have hbx:0 < keys.length:=List.length_pos_iff.2 hk0
  have HV:Hid (res=false):=by show _=_;rw[← jY.out];simp[jN,jJ,jK,jO,hk0]
  clear hk0
  go_wp2_with fail
  go_ret
  exact⟨by rw[HV.out];rfl,HG.out⟩
 subst hk0
 go_wp2_with fail
 refine (j5 7 x1).mono ?_
 rintro r wq ⟨rfl,e⟩
 rw[e]
 clear e wq
 rw[show jO 7=true from by decide +kernel]
 by_cases hl0:l=[]
 rotate_left
 ·have hbx:0 < l.length:=List.length_pos_iff.2 hl0
  have HV:Hid (res=false):=by show _=_;rw[← jY.out];simp[jN,jJ,jK,jO,hl0]
  clear hl0
  go_wp2_with fail
  go_ret
  exact⟨by rw[HV.out];rfl,HG.out⟩
 subst hl0
 have HV:Hid (res=true):=by show _=_;rw[← jY.out];simp[jN,jJ,jK,jO,hn0,hu0]
 go_wp2_with fail
 go_loop [6] (fun i=>i=.int .i64 0) (fun _=>0)
 case atStart=>exact rfl
 case round=>
  obtain rfl:=hrel
  go_wp2_with fail
  go_ret
  exact⟨by rw[HV.out];rfl,HG.out⟩
theorem rsuch_8 (n u:Int) (s:ByteArray) (keys:List ByteArray) (l:List Tr) (v:Value) (w:World) (hn:jL w (.mk 8 n u s keys l) v):Calls Try.prog 72 #[v] w fun r w'=>r=.returned (.bool (jN (.mk 8 n u s keys l)))∧jC w w':=by
 obtain⟨hb,kv,lv,vs,rfl,hks,hrl,hkd⟩:=hn
 have hkl:=hkd.length
 have HKD:=zh hkd
 obtain⟨a4,c4,rfl,hk1,hk2,hk3,_⟩:=hks
 have HRL:=zh hrl
 obtain⟨a5,c5,rfl,hl1,hl2,hl3,hl4⟩:=hrl
 rw[hkl] at HRL hl1⊢
 have kV:l.length≤9223372036854775807:=by unfold jI at hl2;omega
 have kZ:keys.length≤9223372036854775807:=by unfold jI at hk2;omega
 have hlc:(l.length:Int)≤c5:=by omega
 clear hb hk1 hk2 hk3 hl1 hl2 hl3 hl4 hkl hkd
 obtain⟨res,jR⟩:∃b,jN (.mk 8 n u s keys l)=b:=⟨_,rfl⟩
 rw[jR]
 have jY:=zh jR
 clear jR
 have hrt:=heap_alloc_new w (.cells #[.int .i64 8,.int .i64 n,.int .u64 u,.string s,.slice a4 keys.length c4,.slice a5 l.length c5] 26)
 have hga:=(jC.refl w).alloc (.cells #[.int .i64 8,.int .i64 n,.int .u64 u,.string s,.slice a4 keys.length c4,.slice a5 l.length c5] 26)
 go_enter Try.func72,Try.ntmps72
 go_upto_region 1 with fail
 obtain⟨pr,hpr⟩:∃N,w.heap.size=N:=⟨_,rfl⟩
 generalize (w.alloc (.cells #[.int .i64 8,.int .i64 n,.int .u64 u,.string s,.slice a4 keys.length c4,.slice a5 l.length c5] 26))=x1 at *
 rw[hpr] at hrt⊢
 have HRT:=zh hrt
 have HG:=zh hga
 clear hrt hga hpr
 have e0:=jA HRT.out 0 _ rfl
 have e1:=jA HRT.out 1 _ rfl
 have e2:=jA HRT.out 2 _ rfl
 have e3:=jA HRT.out 3 _ rfl
 have e4:=jA HRT.out 4 _ rfl
 have e5:=jA HRT.out 5 _ rfl
 by_cases hu0:u=0
 rotate_left
 ·have hbx:(u != 0)=true:=by simpa using hu0
  have HV:Hid (res=false):=by show _=_;rw[← jY.out];simp[jN,jJ,jK,jO,hu0]
  clear hu0
  go_wp2_with fail
  go_ret
  exact⟨by rw[HV.out];rfl,HG.out⟩
 have hbu:(u != 0)=false:=by simpa using hu0
 by_cases hs0:s.toList=[]
 rotate_left
 ·have hbx:¬s.toList=[]:=hs0
  have HV:Hid (res=false):=by show _=_;rw[← jY.out];simp[jN,jJ,jK,jO,hs0]
  clear hs0
  go_wp2_with fail
  go_ret
  exact⟨by rw[HV.out];rfl,HG.out⟩
 by_cases hk0:keys=[]
 rotate_left
 ·have hbx:0 < keys.length:=List.length_pos_iff.2 hk0
  have HV:Hid (res=false):=by show _=_;rw[← jY.out];simp[jN,jJ,jK,jO,hk0]
  clear hk0
  go_wp2_with fail
  go_ret
  exact⟨by rw[HV.out];rfl,HG.out⟩
 subst hk0
 go_wp2_with fail
 refine (j5 8 x1).mono ?_
 rintro r wq ⟨rfl,e⟩
 rw[e]
 clear e wq
 rw[show jO 8=true from by decide +kernel]
 by_cases hl0:l=[]
 rotate_left
 ·have hbx:0 < l.length:=List.length_pos_iff.2 hl0
  have HV:Hid (res=false):=by show _=_;rw[← jY.out];simp[jN,jJ,jK,jO,hl0]
  clear hl0
  go_wp2_with fail
  go_ret
  exact⟨by rw[HV.out];rfl,HG.out⟩
 subst hl0
 have HV:Hid (res=true):=by show _=_;rw[← jY.out];simp[jN,jJ,jK,jO,hu0,hs0]
 go_wp2_with fail
 go_loop [6] (fun i=>i=.int .i64 0) (fun _=>0)
 case atStart=>exact rfl
 case round=>
  obtain rfl:=hrel
  go_wp2_with fail
  go_ret
  exact⟨by rw[HV.out];rfl,HG.out⟩
theorem rsuch_9 (n u:Int) (s:ByteArray) (keys:List ByteArray) (l:List Tr) (v:Value) (w:World) (hn:jL w (.mk 9 n u s keys l) v):Calls Try.prog 72 #[v] w fun r w'=>r=.returned (.bool (jN (.mk 9 n u s keys l)))∧jC w w':=by
 obtain⟨hb,kv,lv,vs,rfl,hks,hrl,hkd⟩:=hn
 have hkl:=hkd.length
 have HKD:=zh hkd
 obtain⟨a4,c4,rfl,hk1,hk2,hk3,_⟩:=hks
 have HRL:=zh hrl
 obtain⟨a5,c5,rfl,hl1,hl2,hl3,hl4⟩:=hrl
 rw[hkl] at HRL hl1⊢
 have kV:l.length≤9223372036854775807:=by unfold jI at hl2;omega
 have kZ:keys.length≤9223372036854775807:=by unfold jI at hk2;omega
 have hlc:(l.length:Int)≤c5:=by omega
 clear hb hk1 hk2 hk3 hl1 hl2 hl3 hl4 hkl hkd
 obtain⟨res,jR⟩:∃b,jN (.mk 9 n u s keys l)=b:=⟨_,rfl⟩
 rw[jR]
 have jY:=zh jR
 clear jR
 have hrt:=heap_alloc_new w (.cells #[.int .i64 9,.int .i64 n,.int .u64 u,.string s,.slice a4 keys.length c4,.slice a5 l.length c5] 26)
 have hga:=(jC.refl w).alloc (.cells #[.int .i64 9,.int .i64 n,.int .u64 u,.string s,.slice a4 keys.length c4,.slice a5 l.length c5] 26)
 go_enter Try.func72,Try.ntmps72
 go_upto_region 1 with fail
 obtain⟨pr,hpr⟩:∃N,w.heap.size=N:=⟨_,rfl⟩
 generalize (w.alloc (.cells #[.int .i64 9,.int .i64 n,.int .u64 u,.string s,.slice a4 keys.length c4,.slice a5 l.length c5] 26))=x1 at *
 rw[hpr] at hrt⊢
 have HRT:=zh hrt
 have HG:=zh hga
 clear hrt hga hpr
 have e0:=jA HRT.out 0 _ rfl
 have e1:=jA HRT.out 1 _ rfl
 have e2:=jA HRT.out 2 _ rfl
 have e3:=jA HRT.out 3 _ rfl
 have e4:=jA HRT.out 4 _ rfl
 have e5:=jA HRT.out 5 _ rfl
 by_cases hn0:n=0
 rotate_left
 ·have hbx:(n != 0)=true:=by simpa using hn0
  have HV:Hid (res=false):=by show _=_;rw[← jY.out];simp[jN,jJ,jK,jO,hn0]
  clear hn0
  go_wp2_with fail
  go_ret
  exact⟨by rw[HV.out];rfl,HG.out⟩
 have hbn:(n != 0)=false:=by simpa using hn0
 by_cases hs0:s.toList=[]
 rotate_left
 ·have hbx:¬s.toList=[]:=hs0
  have HV:Hid (res=false):=by show _=_;rw[← jY.out];simp[jN,jJ,jK,jO,hs0]
  clear hs0
  go_wp2_with fail
  go_ret
  exact⟨by rw[HV.out];rfl,HG.out⟩
 by_cases hk0:keys=[]
 rotate_left
 ·have hbx:0 < keys.length:=List.length_pos_iff.2 hk0
  have HV:Hid (res=false):=by show _=_;rw[← jY.out];simp[jN,jJ,jK,jO,hk0]
  clear hk0
  go_wp2_with fail
  go_ret
  exact⟨by rw[HV.out];rfl,HG.out⟩
 subst hk0
 go_wp2_with fail
 refine (j5 9 x1).mono ?_
 rintro r wq ⟨rfl,e⟩
 rw[e]
 clear e wq
 rw[show jO 9=true from by decide +kernel]
 by_cases hl0:l=[]
 rotate_left
 ·have hbx:0 < l.length:=List.length_pos_iff.2 hl0
  have HV:Hid (res=false):=by show _=_;rw[← jY.out];simp[jN,jJ,jK,jO,hl0]
  clear hl0
  go_wp2_with fail
  go_ret
  exact⟨by rw[HV.out];rfl,HG.out⟩
 subst hl0
 have HV:Hid (res=true):=by show _=_;rw[← jY.out];simp[jN,jJ,jK,jO,hn0,hs0]
 go_wp2_with fail
 go_loop [6] (fun i=>i=.int .i64 0) (fun _=>0)
 case atStart=>exact rfl
 case round=>
  obtain rfl:=hrel
  go_wp2_with fail
  go_ret
  exact⟨by rw[HV.out];rfl,HG.out⟩
theorem bI (n u:Int) (s:ByteArray) (keys:List ByteArray) (l:List Tr) (v:Value) (w:World) (hn:jL w (.mk 10 n u s keys l) v):Calls Try.prog 72 #[v] w fun r w'=>r=.returned (.bool (jN (.mk 10 n u s keys l)))∧jC w w':=by
 obtain⟨hb,kv,lv,vs,rfl,hks,hrl,hkd⟩:=hn
 have hkl:=hkd.length
 have HKD:=zh hkd
 obtain⟨a4,c4,rfl,hk1,hk2,hk3,_⟩:=hks
 have HRL:=zh hrl
 obtain⟨a5,c5,rfl,hl1,hl2,hl3,hl4⟩:=hrl
 rw[hkl] at HRL hl1⊢
 have kV:l.length≤9223372036854775807:=by unfold jI at hl2;omega
 have kZ:keys.length≤9223372036854775807:=by unfold jI at hk2;omega
 have hlc:(l.length:Int)≤c5:=by omega
 clear hb hk1 hk2 hk3 hl1 hl2 hl3 hl4 hkl hkd
 obtain⟨res,jR⟩:∃b,jN (.mk 10 n u s keys l)=b:=⟨_,rfl⟩
 rw[jR]
 have jY:=zh jR
 clear jR
 have hrt:=heap_alloc_new w (.cells #[.int .i64 10,.int .i64 n,.int .u64 u,.string s,.slice a4 keys.length c4,.slice a5 l.length c5] 26)
 have hga:=(jC.refl w).alloc (.cells #[.int .i64 10,.int .i64 n,.int .u64 u,.string s,.slice a4 keys.length c4,.slice a5 l.length c5] 26)
 go_enter Try.func72,Try.ntmps72
 go_upto_region 1 with fail
 obtain⟨pr,hpr⟩:∃N,w.heap.size=N:=⟨_,rfl⟩
 generalize (w.alloc (.cells #[.int .i64 10,.int .i64 n,.int .u64 u,.string s,.slice a4 keys.length c4,.slice a5 l.length c5] 26))=x1 at *
 rw[hpr] at hrt⊢
 have HRT:=zh hrt
 have HG:=zh hga
 clear hrt hga hpr
 have e0:=jA HRT.out 0 _ rfl
 have e1:=jA HRT.out 1 _ rfl
 have e2:=jA HRT.out 2 _ rfl
 have e3:=jA HRT.out 3 _ rfl
 have e4:=jA HRT.out 4 _ rfl
 have e5:=jA HRT.out 5 _ rfl
 by_cases hn0:n=0
 rotate_left
 ·have hbx:(n != 0)=true:=by simpa using hn0
  have HV:Hid (res=false):=by show _=_;rw[← jY.out];simp[jN,jJ,jK,jO,hn0]
  clear hn0
  go_wp2_with fail
  go_ret
  exact⟨by rw[HV.out];rfl,HG.out⟩
 have hbn:(n != 0)=false:=by simpa using hn0
 by_cases hu0:u=0
 rotate_left
 ·have hbx:(u != 0)=true:=by simpa using hu0
  have HV:Hid (res=false):=by show _=_;rw[← jY.out];simp[jN,jJ,jK,jO,hu0]
  clear hu0
  go_wp2_with fail
  go_ret
  exact⟨by rw[HV.out];rfl,HG.out⟩
 have hbu:(u != 0)=false:=by simpa using hu0
 by_cases hs0:s.toList=[]
 rotate_left
 ·have hbx:¬s.toList=[]:=hs0
  have HV:Hid (res=false):=by show _=_;rw[← jY.out];simp[jN,jJ,jK,jO,hs0]
  clear hs0
  go_wp2_with fail
  go_ret
  exact⟨by rw[HV.out];rfl,HG.out⟩
 by_cases hk0:keys=[]
 rotate_left
 ·have hbx:0 < keys.length:=List.length_pos_iff.2 hk0
  have HV:Hid (res=false):=by show _=_;rw[← jY.out];simp[jN,jJ,jK,jO,hk0]
  clear hk0
  go_wp2_with fail
  go_ret
  exact⟨by rw[HV.out];rfl,HG.out⟩
 subst hk0
 go_wp2_with fail
 refine (j5 10 x1).mono ?_
 rintro r wq ⟨rfl,e⟩
 rw[e]
 clear e wq
 rw[show jO 10=false from by decide +kernel]
 have HRS:Hid (res = !(l.any (jS 0))):=by show _=_;rw[← jY.out];simp[jN,jJ,jK,jO,kR,hn0,hu0,hs0]
 go_wp2_with fail
 go_loop [6] (fun i=>∃kk:Nat,kk≤l.length∧i=.int .i64 kk∧Hid (l.any (jS 0)=(l.drop kk).any (jS 0))) (fun i=>l.length - (intOf i).toNat)
 case atStart=>exact⟨0,Nat.zero_le _,rfl,by show _=_;rw[List.drop_zero]⟩
 case round=>
  obtain⟨kk,hkk,rfl,HL⟩:=hrel
  by_cases hlt:kk < l.length
  rotate_left
  ·have ek:kk=l.length:=by omega
   have HV:Hid (res=true):=by show _=_;rw[HRS.out,HL.out,ek,List.drop_length];rfl
   subst ek
   clear hlt
   go_wp2_with fail
   go_ret
   exact⟨by rw[HV.out];rfl,HG.out⟩
  obtain⟨x,hx⟩:∃x,l[kk]? = some x:=⟨_,List.getElem?_eq_getElem hlt⟩
  have HX:=zh (y7 (p:=jS 0) hx)
  have yD:(kk:Int) < l.length:=by omega
  have HO:Hid (jS 0 x=false):=by show _=_;rfl
  clear hx
  go_wp2_with fail
  refine (yI 10 x1).mono ?_
  rintro r wq ⟨rfl,e⟩
  rw[e]
  clear e wq
  rw[show kR 10=0 from by decide +kernel]
  go_wp2_with fail
  go_round
  case rel=>exact⟨kk+1,by omega,by go_num,by show _=_;rw[HL.out,HX.out,HO.out];rfl⟩
  case measure=>simp[intOf];omega
theorem bJ (n u:Int) (s:ByteArray) (keys:List ByteArray) (l:List Tr) (v:Value) (w:World) (hn:jL w (.mk 11 n u s keys l) v):Calls Try.prog 72 #[v] w fun r w'=>r=.returned (.bool (jN (.mk 11 n u s keys l)))∧jC w w':=by
 obtain⟨hb,kv,lv,vs,rfl,hks,hrl,hkd⟩:=hn
 have hkl:=hkd.length
 have HKD:=zh hkd
 obtain⟨a4,c4,rfl,hk1,hk2,hk3,_⟩:=hks
 have HRL:=zh hrl
 obtain⟨a5,c5,rfl,hl1,hl2,hl3,hl4⟩:=hrl
 rw[hkl] at HRL hl1⊢
 have kV:l.length≤9223372036854775807:=by unfold jI at hl2;omega
 have kZ:keys.length≤9223372036854775807:=by unfold jI at hk2;omega
 have hlc:(l.length:Int)≤c5:=by omega
 clear hb hk1 hk2 hk3 hl1 hl2 hl3 hl4 hkl hkd
 obtain⟨res,jR⟩:∃b,jN (.mk 11 n u s keys l)=b:=⟨_,rfl⟩
 rw[jR]
 have jY:=zh jR
 clear jR
 have hrt:=heap_alloc_new w (.cells #[.int .i64 11,.int .i64 n,.int .u64 u,.string s,.slice a4 keys.length c4,.slice a5 l.length c5] 26)
 have hga:=(jC.refl w).alloc (.cells #[.int .i64 11,.int .i64 n,.int .u64 u,.string s,.slice a4 keys.length c4,.slice a5 l.length c5] 26)
 go_enter Try.func72,Try.ntmps72
 go_upto_region 1 with fail
 obtain⟨pr,hpr⟩:∃N,w.heap.size=N:=⟨_,rfl⟩
 generalize (w.alloc (.cells #[.int .i64 11,.int .i64 n,.int .u64 u,.string s,.slice a4 keys.length c4,.slice a5 l.length c5] 26))=x1 at *
 rw[hpr] at hrt⊢
 have HRT:=zh hrt
 have HG:=zh hga
 clear hrt hga hpr
 have e0:=jA HRT.out 0 _ rfl
 have e1:=jA HRT.out 1 _ rfl
 have e2:=jA HRT.out 2 _ rfl
 have e3:=jA HRT.out 3 _ rfl
 have e4:=jA HRT.out 4 _ rfl
 have e5:=jA HRT.out 5 _ rfl
 by_cases hn0:n=0
 rotate_left
 ·have hbx:(n != 0)=true:=by simpa using hn0
  have HV:Hid (res=false):=by show _=_;rw[← jY.out];simp[jN,jJ,jK,jO,hn0]
  clear hn0
  go_wp2_with fail
  go_ret
  exact⟨by rw[HV.out];rfl,HG.out⟩
 have hbn:(n != 0)=false:=by simpa using hn0
 by_cases hu0:u=0
 rotate_left
 ·have hbx:(u != 0)=true:=by simpa using hu0
  have HV:Hid (res=false):=by show _=_;rw[← jY.out];simp[jN,jJ,jK,jO,hu0]
  clear hu0
  go_wp2_with fail
  go_ret
  exact⟨by rw[HV.out];rfl,HG.out⟩
 have hbu:(u != 0)=false:=by simpa using hu0
 by_cases hs0:s.toList=[]
 rotate_left
 ·have hbx:¬s.toList=[]:=hs0
  have HV:Hid (res=false):=by show _=_;rw[← jY.out];simp[jN,jJ,jK,jO,hs0]
  clear hs0
  go_wp2_with fail
  go_ret
  exact⟨by rw[HV.out];rfl,HG.out⟩
 by_cases hk0:keys=[]
 rotate_left
 ·have hbx:0 < keys.length:=List.length_pos_iff.2 hk0
  have HV:Hid (res=false):=by show _=_;rw[← jY.out];simp[jN,jJ,jK,jO,hk0]
  clear hk0
  go_wp2_with fail
  go_ret
  exact⟨by rw[HV.out];rfl,HG.out⟩
 subst hk0
 go_wp2_with fail
 refine (j5 11 x1).mono ?_
 rintro r wq ⟨rfl,e⟩
 rw[e]
 clear e wq
 rw[show jO 11=false from by decide +kernel]
 have HRS:Hid (res = !(l.any (jS 3))):=by show _=_;rw[← jY.out];simp[jN,jJ,jK,jO,kR,hn0,hu0,hs0]
 go_wp2_with fail
 go_loop [6] (fun i=>∃kk:Nat,kk≤l.length∧i=.int .i64 kk∧Hid (l.any (jS 3)=(l.drop kk).any (jS 3))) (fun i=>l.length - (intOf i).toNat)
 case atStart=>exact⟨0,Nat.zero_le _,rfl,by show _=_;rw[List.drop_zero]⟩
 case round=>
  obtain⟨kk,hkk,rfl,HL⟩:=hrel
  by_cases hlt:kk < l.length
  rotate_left
  ·have ek:kk=l.length:=by omega
   have HV:Hid (res=true):=by show _=_;rw[HRS.out,HL.out,ek,List.drop_length];rfl
   subst ek
   clear hlt
   go_wp2_with fail
   go_ret
   exact⟨by rw[HV.out];rfl,HG.out⟩
  obtain⟨x,hx⟩:∃x,l[kk]? = some x:=⟨_,List.getElem?_eq_getElem hlt⟩
  have HX:=zh (y7 (p:=jS 3) hx)
  have yD:(kk:Int) < l.length:=by omega
  obtain⟨xv,hxv,hnx⟩:=HKD.out.get hx
  obtain⟨b,off,rfl,hc6⟩:∃b off,a5=some ⟨b,off,none⟩∧kQ x1 b (off+kk*6) xv:=by
   obtain⟨a,c,e,_,_,_,h⟩:=HRL.out
   injection e with e1 e2 e3
   subst e1
   obtain⟨b,off,e,h6⟩:=h kk xv hxv
   exact⟨b,off,e,h6.grew HG.out⟩
  obtain⟨xk,xn,xu,xs,xa4,xn4,xc4,xa5,xn5,xc5,rfl⟩:=hnx.node6
  have HKX:=zh (yW hnx)
  obtain⟨f0,f1,f2,f3,f4,f5⟩:=hc6.get
  clear hx hxv hnx hc6
  go_wp2_with fail
  refine (yI 11 x1).mono ?_
  rintro r wq ⟨rfl,e⟩
  rw[e]
  clear e wq
  rw[show kR 11=3 from by decide +kernel]
  by_cases hk:xk=3
  ·have HO:Hid (jS 3 x=false):=by show _=_;unfold jS;rw[← HKX.out,hk];rfl
   have hbx:(xk != 3)=false:=by simpa using hk
   clear hk
   go_wp2_with fail
   go_round
   case rel=>exact⟨kk+1,by omega,by go_num,by show _=_;rw[HL.out,HX.out,HO.out];rfl⟩
   case measure=>simp[intOf];omega
  ·have HO:Hid (jS 3 x=true):=by show _=_;unfold jS;rw[← HKX.out];simp[hk]
   have hbx:(xk != 3)=true:=by simpa using hk
   have HV:Hid (res=false):=by show _=_;rw[HRS.out,HL.out,HX.out,HO.out];rfl
   clear hk
   go_wp2_with fail
   go_ret
   exact⟨by rw[HV.out];rfl,HG.out⟩
theorem bK (n u:Int) (s:ByteArray) (keys:List ByteArray) (l:List Tr) (v:Value) (w:World) (hn:jL w (.mk 12 n u s keys l) v):Calls Try.prog 72 #[v] w fun r w'=>r=.returned (.bool (jN (.mk 12 n u s keys l)))∧jC w w':=by
 obtain⟨hb,kv,lv,vs,rfl,hks,hrl,hkd⟩:=hn
 have hkl:=hkd.length
 have HKD:=zh hkd
 obtain⟨a4,c4,rfl,hk1,hk2,hk3,_⟩:=hks
 have HRL:=zh hrl
 obtain⟨a5,c5,rfl,hl1,hl2,hl3,hl4⟩:=hrl
 rw[hkl] at HRL hl1⊢
 have kV:l.length≤9223372036854775807:=by unfold jI at hl2;omega
 have kZ:keys.length≤9223372036854775807:=by unfold jI at hk2;omega
 have hlc:(l.length:Int)≤c5:=by omega
 clear hb hk1 hk2 hk3 hl1 hl2 hl3 hl4 hkl hkd
 obtain⟨res,jR⟩:∃b,jN (.mk 12 n u s keys l)=b:=⟨_,rfl⟩
 rw[jR]
 have jY:=zh jR
 clear jR
 have hrt:=heap_alloc_new w (.cells #[.int .i64 12,.int .i64 n,.int .u64 u,.string s,.slice a4 keys.length c4,.slice a5 l.length c5] 26)
 have hga:=(jC.refl w).alloc (.cells #[.int .i64 12,.int .i64 n,.int .u64 u,.string s,.slice a4 keys.length c4,.slice a5 l.length c5] 26)
 go_enter Try.func72,Try.ntmps72
 go_upto_region 1 with fail
 obtain⟨pr,hpr⟩:∃N,w.heap.size=N:=⟨_,rfl⟩
 generalize (w.alloc (.cells #[.int .i64 12,.int .i64 n,.int .u64 u,.string s,.slice a4 keys.length c4,.slice a5 l.length c5] 26))=x1 at *
 rw[hpr] at hrt⊢
 have HRT:=zh hrt
 have HG:=zh hga
 clear hrt hga hpr
 have e0:=jA HRT.out 0 _ rfl
 have e1:=jA HRT.out 1 _ rfl
 have e2:=jA HRT.out 2 _ rfl
 have e3:=jA HRT.out 3 _ rfl
 have e4:=jA HRT.out 4 _ rfl
 have e5:=jA HRT.out 5 _ rfl
 by_cases hn0:n=0
 rotate_left
 ·have hbx:(n != 0)=true:=by simpa using hn0
  have HV:Hid (res=false):=by show _=_;rw[← jY.out];simp[jN,jJ,jK,jO,hn0]
  clear hn0
  go_wp2_with fail
  go_ret
  exact⟨by rw[HV.out];rfl,HG.out⟩
 have hbn:(n != 0)=false:=by simpa using hn0
 by_cases hu0:u=0
 rotate_left
 ·have hbx:(u != 0)=true:=by simpa using hu0
  have HV:Hid (res=false):=by show _=_;rw[← jY.out];simp[jN,jJ,jK,jO,hu0]
  clear hu0
  go_wp2_with fail
  go_ret
  exact⟨by rw[HV.out];rfl,HG.out⟩
 have hbu:(u != 0)=false:=by simpa using hu0
 by_cases hs0:s.toList=[]
 rotate_left
 ·have hbx:¬s.toList=[]:=hs0
  have HV:Hid (res=false):=by show _=_;rw[← jY.out];simp[jN,jJ,jK,jO,hs0]
  clear hs0
  go_wp2_with fail
  go_ret
  exact⟨by rw[HV.out];rfl,HG.out⟩
 by_cases hk0:keys=[]
 rotate_left
 ·have hbx:0 < keys.length:=List.length_pos_iff.2 hk0
  have HV:Hid (res=false):=by show _=_;rw[← jY.out];simp[jN,jJ,jK,jO,hk0]
  clear hk0
  go_wp2_with fail
  go_ret
  exact⟨by rw[HV.out];rfl,HG.out⟩
 subst hk0
 go_wp2_with fail
 refine (j5 12 x1).mono ?_
 rintro r wq ⟨rfl,e⟩
 rw[e]
 clear e wq
 rw[show jO 12=false from by decide +kernel]
 have HRS:Hid (res = !(l.any (jS 4))):=by show _=_;rw[← jY.out];simp[jN,jJ,jK,jO,kR,hn0,hu0,hs0]
 go_wp2_with fail
 go_loop [6] (fun i=>∃kk:Nat,kk≤l.length∧i=.int .i64 kk∧Hid (l.any (jS 4)=(l.drop kk).any (jS 4))) (fun i=>l.length - (intOf i).toNat)
 case atStart=>exact⟨0,Nat.zero_le _,rfl,by show _=_;rw[List.drop_zero]⟩
 case round=>
  obtain⟨kk,hkk,rfl,HL⟩:=hrel
  by_cases hlt:kk < l.length
  rotate_left
  ·have ek:kk=l.length:=by omega
   have HV:Hid (res=true):=by show _=_;rw[HRS.out,HL.out,ek,List.drop_length];rfl
   subst ek
   clear hlt
   go_wp2_with fail
   go_ret
   exact⟨by rw[HV.out];rfl,HG.out⟩
  obtain⟨x,hx⟩:∃x,l[kk]? = some x:=⟨_,List.getElem?_eq_getElem hlt⟩
  have HX:=zh (y7 (p:=jS 4) hx)
  have yD:(kk:Int) < l.length:=by omega
  obtain⟨xv,hxv,hnx⟩:=HKD.out.get hx
  obtain⟨b,off,rfl,hc6⟩:∃b off,a5=some ⟨b,off,none⟩∧kQ x1 b (off+kk*6) xv:=by
   obtain⟨a,c,e,_,_,_,h⟩:=HRL.out
   injection e with e1 e2 e3
   subst e1
   obtain⟨b,off,e,h6⟩:=h kk xv hxv
   exact⟨b,off,e,h6.grew HG.out⟩
  obtain⟨xk,xn,xu,xs,xa4,xn4,xc4,xa5,xn5,xc5,rfl⟩:=hnx.node6
  have HKX:=zh (yW hnx)
  obtain⟨f0,f1,f2,f3,f4,f5⟩:=hc6.get
  clear hx hxv hnx hc6
  go_wp2_with fail
  refine (yI 12 x1).mono ?_
  rintro r wq ⟨rfl,e⟩
  rw[e]
  clear e wq
  rw[show kR 12=4 from by decide +kernel]
  by_cases hk:xk=4
  ·have HO:Hid (jS 4 x=false):=by show _=_;unfold jS;rw[← HKX.out,hk];rfl
   have hbx:(xk != 4)=false:=by simpa using hk
   clear hk
   go_wp2_with fail
   go_round
   case rel=>exact⟨kk+1,by omega,by go_num,by show _=_;rw[HL.out,HX.out,HO.out];rfl⟩
   case measure=>simp[intOf];omega
  ·have HO:Hid (jS 4 x=true):=by show _=_;unfold jS;rw[← HKX.out];simp[hk]
   have hbx:(xk != 4)=true:=by simpa using hk
   have HV:Hid (res=false):=by show _=_;rw[HRS.out,HL.out,HX.out,HO.out];rfl
   clear hk
   go_wp2_with fail
   go_ret
   exact⟨by rw[HV.out];rfl,HG.out⟩
theorem bL (n u:Int) (s:ByteArray) (keys:List ByteArray) (l:List Tr) (v:Value) (w:World) (hn:jL w (.mk 13 n u s keys l) v):Calls Try.prog 72 #[v] w fun r w'=>r=.returned (.bool (jN (.mk 13 n u s keys l)))∧jC w w':=by
 obtain⟨hb,kv,lv,vs,rfl,hks,hrl,hkd⟩:=hn
 have hkl:=hkd.length
 have HKD:=zh hkd
 obtain⟨a4,c4,rfl,hk1,hk2,hk3,_⟩:=hks
 have HRL:=zh hrl
 obtain⟨a5,c5,rfl,hl1,hl2,hl3,hl4⟩:=hrl
 rw[hkl] at HRL hl1⊢
 have kV:l.length≤9223372036854775807:=by unfold jI at hl2;omega
 have kZ:keys.length≤9223372036854775807:=by unfold jI at hk2;omega
 have hlc:(l.length:Int)≤c5:=by omega
 clear hb hk1 hk2 hk3 hl1 hl2 hl3 hl4 hkl hkd
 obtain⟨res,jR⟩:∃b,jN (.mk 13 n u s keys l)=b:=⟨_,rfl⟩
 rw[jR]
 have jY:=zh jR
 clear jR
 have hrt:=heap_alloc_new w (.cells #[.int .i64 13,.int .i64 n,.int .u64 u,.string s,.slice a4 keys.length c4,.slice a5 l.length c5] 26)
 have hga:=(jC.refl w).alloc (.cells #[.int .i64 13,.int .i64 n,.int .u64 u,.string s,.slice a4 keys.length c4,.slice a5 l.length c5] 26)
 go_enter Try.func72,Try.ntmps72
 go_upto_region 1 with fail
 obtain⟨pr,hpr⟩:∃N,w.heap.size=N:=⟨_,rfl⟩
 generalize (w.alloc (.cells #[.int .i64 13,.int .i64 n,.int .u64 u,.string s,.slice a4 keys.length c4,.slice a5 l.length c5] 26))=x1 at *
 rw[hpr] at hrt⊢
 have HRT:=zh hrt
 have HG:=zh hga
 clear hrt hga hpr
 have e0:=jA HRT.out 0 _ rfl
 have e1:=jA HRT.out 1 _ rfl
 have e2:=jA HRT.out 2 _ rfl
 have e3:=jA HRT.out 3 _ rfl
 have e4:=jA HRT.out 4 _ rfl
 have e5:=jA HRT.out 5 _ rfl
 by_cases hn0:n=0
 rotate_left
 ·have hbx:(n != 0)=true:=by simpa using hn0
  have HV:Hid (res=false):=by show _=_;rw[← jY.out];simp[jN,jJ,jK,jO,hn0]
  clear hn0
  go_wp2_with fail
  go_ret
  exact⟨by rw[HV.out];rfl,HG.out⟩
 have hbn:(n != 0)=false:=by simpa using hn0
 by_cases hu0:u=0
 rotate_left
 ·have hbx:(u != 0)=true:=by simpa using hu0
  have HV:Hid (res=false):=by show _=_;rw[← jY.out];simp[jN,jJ,jK,jO,hu0]
  clear hu0
  go_wp2_with fail
  go_ret
  exact⟨by rw[HV.out];rfl,HG.out⟩
 have hbu:(u != 0)=false:=by simpa using hu0
 by_cases hs0:s.toList=[]
 rotate_left
 ·have hbx:¬s.toList=[]:=hs0
  have HV:Hid (res=false):=by show _=_;rw[← jY.out];simp[jN,jJ,jK,jO,hs0]
  clear hs0
  go_wp2_with fail
  go_ret
  exact⟨by rw[HV.out];rfl,HG.out⟩
 by_cases hk0:keys=[]
 rotate_left
 ·have hbx:0 < keys.length:=List.length_pos_iff.2 hk0
  have HV:Hid (res=false):=by show _=_;rw[← jY.out];simp[jN,jJ,jK,jO,hk0]
  clear hk0
  go_wp2_with fail
  go_ret
  exact⟨by rw[HV.out];rfl,HG.out⟩
 subst hk0
 go_wp2_with fail
 refine (j5 13 x1).mono ?_
 rintro r wq ⟨rfl,e⟩
 rw[e]
 clear e wq
 rw[show jO 13=false from by decide +kernel]
 have HRS:Hid (res = !(l.any (jS 5))):=by show _=_;rw[← jY.out];simp[jN,jJ,jK,jO,kR,hn0,hu0,hs0]
 go_wp2_with fail
 go_loop [6] (fun i=>∃kk:Nat,kk≤l.length∧i=.int .i64 kk∧Hid (l.any (jS 5)=(l.drop kk).any (jS 5))) (fun i=>l.length - (intOf i).toNat)
 case atStart=>exact⟨0,Nat.zero_le _,rfl,by show _=_;rw[List.drop_zero]⟩
 case round=>
  obtain⟨kk,hkk,rfl,HL⟩:=hrel
  by_cases hlt:kk < l.length
  rotate_left
  ·have ek:kk=l.length:=by omega
   have HV:Hid (res=true):=by show _=_;rw[HRS.out,HL.out,ek,List.drop_length];rfl
   subst ek
   clear hlt
   go_wp2_with fail
   go_ret
   exact⟨by rw[HV.out];rfl,HG.out⟩
  obtain⟨x,hx⟩:∃x,l[kk]? = some x:=⟨_,List.getElem?_eq_getElem hlt⟩
  have HX:=zh (y7 (p:=jS 5) hx)
  have yD:(kk:Int) < l.length:=by omega
  obtain⟨xv,hxv,hnx⟩:=HKD.out.get hx
  obtain⟨b,off,rfl,hc6⟩:∃b off,a5=some ⟨b,off,none⟩∧kQ x1 b (off+kk*6) xv:=by
   obtain⟨a,c,e,_,_,_,h⟩:=HRL.out
   injection e with e1 e2 e3
   subst e1
   obtain⟨b,off,e,h6⟩:=h kk xv hxv
   exact⟨b,off,e,h6.grew HG.out⟩
  obtain⟨xk,xn,xu,xs,xa4,xn4,xc4,xa5,xn5,xc5,rfl⟩:=hnx.node6
  have HKX:=zh (yW hnx)
  obtain⟨f0,f1,f2,f3,f4,f5⟩:=hc6.get
  clear hx hxv hnx hc6
  go_wp2_with fail
  refine (yI 13 x1).mono ?_
  rintro r wq ⟨rfl,e⟩
  rw[e]
  clear e wq
  rw[show kR 13=5 from by decide +kernel]
  by_cases hk:xk=5
  ·have HO:Hid (jS 5 x=false):=by show _=_;unfold jS;rw[← HKX.out,hk];rfl
   have hbx:(xk != 5)=false:=by simpa using hk
   clear hk
   go_wp2_with fail
   go_round
   case rel=>exact⟨kk+1,by omega,by go_num,by show _=_;rw[HL.out,HX.out,HO.out];rfl⟩
   case measure=>simp[intOf];omega
  ·have HO:Hid (jS 5 x=true):=by show _=_;unfold jS;rw[← HKX.out];simp[hk]
   have hbx:(xk != 5)=true:=by simpa using hk
   have HV:Hid (res=false):=by show _=_;rw[HRS.out,HL.out,HX.out,HO.out];rfl
   clear hk
   go_wp2_with fail
   go_ret
   exact⟨by rw[HV.out];rfl,HG.out⟩
theorem bM (n u:Int) (s:ByteArray) (keys:List ByteArray) (l:List Tr) (v:Value) (w:World) (hn:jL w (.mk 14 n u s keys l) v):Calls Try.prog 72 #[v] w fun r w'=>r=.returned (.bool (jN (.mk 14 n u s keys l)))∧jC w w':=by
 obtain⟨hb,kv,lv,vs,rfl,hks,hrl,hkd⟩:=hn
 have hkl:=hkd.length
 have HKD:=zh hkd
 obtain⟨a4,c4,rfl,hk1,hk2,hk3,_⟩:=hks
 have HRL:=zh hrl
 obtain⟨a5,c5,rfl,hl1,hl2,hl3,hl4⟩:=hrl
 rw[hkl] at HRL hl1⊢
 have kV:l.length≤9223372036854775807:=by unfold jI at hl2;omega
 have kZ:keys.length≤9223372036854775807:=by unfold jI at hk2;omega
 have hlc:(l.length:Int)≤c5:=by omega
 clear hb hk1 hk2 hk3 hl1 hl2 hl3 hl4 hkl hkd
 obtain⟨res,jR⟩:∃b,jN (.mk 14 n u s keys l)=b:=⟨_,rfl⟩
 rw[jR]
 have jY:=zh jR
 clear jR
 have hrt:=heap_alloc_new w (.cells #[.int .i64 14,.int .i64 n,.int .u64 u,.string s,.slice a4 keys.length c4,.slice a5 l.length c5] 26)
 have hga:=(jC.refl w).alloc (.cells #[.int .i64 14,.int .i64 n,.int .u64 u,.string s,.slice a4 keys.length c4,.slice a5 l.length c5] 26)
 go_enter Try.func72,Try.ntmps72
 go_upto_region 1 with fail
 obtain⟨pr,hpr⟩:∃N,w.heap.size=N:=⟨_,rfl⟩
 generalize (w.alloc (.cells #[.int .i64 14,.int .i64 n,.int .u64 u,.string s,.slice a4 keys.length c4,.slice a5 l.length c5] 26))=x1 at *
 rw[hpr] at hrt⊢
 have HRT:=zh hrt
 have HG:=zh hga
 clear hrt hga hpr
 have e0:=jA HRT.out 0 _ rfl
 have e1:=jA HRT.out 1 _ rfl
 have e2:=jA HRT.out 2 _ rfl
 have e3:=jA HRT.out 3 _ rfl
 have e4:=jA HRT.out 4 _ rfl
 have e5:=jA HRT.out 5 _ rfl
 by_cases hn0:n=0
 rotate_left
 ·have hbx:(n != 0)=true:=by simpa using hn0
  have HV:Hid (res=false):=by show _=_;rw[← jY.out];simp[jN,jJ,jK,jO,hn0]
  clear hn0
  go_wp2_with fail
  go_ret
  exact⟨by rw[HV.out];rfl,HG.out⟩
 have hbn:(n != 0)=false:=by simpa using hn0
 by_cases hu0:u=0
 rotate_left
 ·have hbx:(u != 0)=true:=by simpa using hu0
  have HV:Hid (res=false):=by show _=_;rw[← jY.out];simp[jN,jJ,jK,jO,hu0]
  clear hu0
  go_wp2_with fail
  go_ret
  exact⟨by rw[HV.out];rfl,HG.out⟩
 have hbu:(u != 0)=false:=by simpa using hu0
 by_cases hs0:s.toList=[]
 rotate_left
 ·have hbx:¬s.toList=[]:=hs0
  have HV:Hid (res=false):=by show _=_;rw[← jY.out];simp[jN,jJ,jK,jO,hs0]
  clear hs0
  go_wp2_with fail
  go_ret
  exact⟨by rw[HV.out];rfl,HG.out⟩
 by_cases hk0:keys=[]
 rotate_left
 ·have hbx:0 < keys.length:=List.length_pos_iff.2 hk0
  have HV:Hid (res=false):=by show _=_;rw[← jY.out];simp[jN,jJ,jK,jO,hk0]
  clear hk0
  go_wp2_with fail
  go_ret
  exact⟨by rw[HV.out];rfl,HG.out⟩
 subst hk0
 go_wp2_with fail
 refine (j5 14 x1).mono ?_
 rintro r wq ⟨rfl,e⟩
 rw[e]
 clear e wq
 rw[show jO 14=false from by decide +kernel]
 have HRS:Hid (res = !(l.any (jS 2))):=by show _=_;rw[← jY.out];simp[jN,jJ,jK,jO,kR,hn0,hu0,hs0]
 go_wp2_with fail
 go_loop [6] (fun i=>∃kk:Nat,kk≤l.length∧i=.int .i64 kk∧Hid (l.any (jS 2)=(l.drop kk).any (jS 2))) (fun i=>l.length - (intOf i).toNat)
 case atStart=>exact⟨0,Nat.zero_le _,rfl,by show _=_;rw[List.drop_zero]⟩
 case round=>
  obtain⟨kk,hkk,rfl,HL⟩:=hrel
  by_cases hlt:kk < l.length
  rotate_left
  ·have ek:kk=l.length:=by omega
   have HV:Hid (res=true):=by show _=_;rw[HRS.out,HL.out,ek,List.drop_length];rfl
   subst ek
   clear hlt
   go_wp2_with fail
   go_ret
   exact⟨by rw[HV.out];rfl,HG.out⟩
  obtain⟨x,hx⟩:∃x,l[kk]? = some x:=⟨_,List.getElem?_eq_getElem hlt⟩
  have HX:=zh (y7 (p:=jS 2) hx)
  have yD:(kk:Int) < l.length:=by omega
  obtain⟨xv,hxv,hnx⟩:=HKD.out.get hx
  obtain⟨b,off,rfl,hc6⟩:∃b off,a5=some ⟨b,off,none⟩∧kQ x1 b (off+kk*6) xv:=by
   obtain⟨a,c,e,_,_,_,h⟩:=HRL.out
   injection e with e1 e2 e3
   subst e1
   obtain⟨b,off,e,h6⟩:=h kk xv hxv
   exact⟨b,off,e,h6.grew HG.out⟩
  obtain⟨xk,xn,xu,xs,xa4,xn4,xc4,xa5,xn5,xc5,rfl⟩:=hnx.node6
  have HKX:=zh (yW hnx)
  obtain⟨f0,f1,f2,f3,f4,f5⟩:=hc6.get
  clear hx hxv hnx hc6
  go_wp2_with fail
  refine (yI 14 x1).mono ?_
  rintro r wq ⟨rfl,e⟩
  rw[e]
  clear e wq
  rw[show kR 14=2 from by decide +kernel]
  by_cases hk:xk=2
  ·have HO:Hid (jS 2 x=false):=by show _=_;unfold jS;rw[← HKX.out,hk];rfl
   have hbx:(xk != 2)=false:=by simpa using hk
   clear hk
   go_wp2_with fail
   go_round
   case rel=>exact⟨kk+1,by omega,by go_num,by show _=_;rw[HL.out,HX.out,HO.out];rfl⟩
   case measure=>simp[intOf];omega
  ·have HO:Hid (jS 2 x=true):=by show _=_;unfold jS;rw[← HKX.out];simp[hk]
   have hbx:(xk != 2)=true:=by simpa using hk
   have HV:Hid (res=false):=by show _=_;rw[HRS.out,HL.out,HX.out,HO.out];rfl
   clear hk
   go_wp2_with fail
   go_ret
   exact⟨by rw[HV.out];rfl,HG.out⟩
theorem bN (n u:Int) (s:ByteArray) (keys:List ByteArray) (l:List Tr) (v:Value) (w:World) (hn:jL w (.mk 15 n u s keys l) v):Calls Try.prog 72 #[v] w fun r w'=>r=.returned (.bool (jN (.mk 15 n u s keys l)))∧jC w w':=by
 obtain⟨hb,kv,lv,vs,rfl,hks,hrl,hkd⟩:=hn
 have hkl:=hkd.length
 have HKD:=zh hkd
 obtain⟨a4,c4,rfl,hk1,hk2,hk3,_⟩:=hks
 have HRL:=zh hrl
 obtain⟨a5,c5,rfl,hl1,hl2,hl3,hl4⟩:=hrl
 rw[hkl] at HRL hl1⊢
 have kV:l.length≤9223372036854775807:=by unfold jI at hl2;omega
 have kZ:keys.length≤9223372036854775807:=by unfold jI at hk2;omega
 have hlc:(l.length:Int)≤c5:=by omega
 clear hb hk1 hk2 hk3 hl1 hl2 hl3 hl4 hkl hkd
 obtain⟨res,jR⟩:∃b,jN (.mk 15 n u s keys l)=b:=⟨_,rfl⟩
 rw[jR]
 have jY:=zh jR
 clear jR
 have hrt:=heap_alloc_new w (.cells #[.int .i64 15,.int .i64 n,.int .u64 u,.string s,.slice a4 keys.length c4,.slice a5 l.length c5] 26)
 have hga:=(jC.refl w).alloc (.cells #[.int .i64 15,.int .i64 n,.int .u64 u,.string s,.slice a4 keys.length c4,.slice a5 l.length c5] 26)
 go_enter Try.func72,Try.ntmps72
 go_upto_region 1 with fail
 obtain⟨pr,hpr⟩:∃N,w.heap.size=N:=⟨_,rfl⟩
 generalize (w.alloc (.cells #[.int .i64 15,.int .i64 n,.int .u64 u,.string s,.slice a4 keys.length c4,.slice a5 l.length c5] 26))=x1 at *
 rw[hpr] at hrt⊢
 have HRT:=zh hrt
 have HG:=zh hga
 clear hrt hga hpr
 have e0:=jA HRT.out 0 _ rfl
 have e1:=jA HRT.out 1 _ rfl
 have e2:=jA HRT.out 2 _ rfl
 have e3:=jA HRT.out 3 _ rfl
 have e4:=jA HRT.out 4 _ rfl
 have e5:=jA HRT.out 5 _ rfl
 by_cases hn0:n=0
 rotate_left
 ·have hbx:(n != 0)=true:=by simpa using hn0
  have HV:Hid (res=false):=by show _=_;rw[← jY.out];simp[jN,jJ,jK,jO,hn0]
  clear hn0
  go_wp2_with fail
  go_ret
  exact⟨by rw[HV.out];rfl,HG.out⟩
 have hbn:(n != 0)=false:=by simpa using hn0
 by_cases hu0:u=0
 rotate_left
 ·have hbx:(u != 0)=true:=by simpa using hu0
  have HV:Hid (res=false):=by show _=_;rw[← jY.out];simp[jN,jJ,jK,jO,hu0]
  clear hu0
  go_wp2_with fail
  go_ret
  exact⟨by rw[HV.out];rfl,HG.out⟩
 have hbu:(u != 0)=false:=by simpa using hu0
 by_cases hs0:s.toList=[]
 rotate_left
 ·have hbx:¬s.toList=[]:=hs0
  have HV:Hid (res=false):=by show _=_;rw[← jY.out];simp[jN,jJ,jK,jO,hs0]
  clear hs0
  go_wp2_with fail
  go_ret
  exact⟨by rw[HV.out];rfl,HG.out⟩
 by_cases hk0:keys=[]
 rotate_left
 ·have hbx:0 < keys.length:=List.length_pos_iff.2 hk0
  have HV:Hid (res=false):=by show _=_;rw[← jY.out];simp[jN,jJ,jK,jO,hk0]
  clear hk0
  go_wp2_with fail
  go_ret
  exact⟨by rw[HV.out];rfl,HG.out⟩
 subst hk0
 go_wp2_with fail
 refine (j5 15 x1).mono ?_
 rintro r wq ⟨rfl,e⟩
 rw[e]
 clear e wq
 rw[show jO 15=false from by decide +kernel]
 by_cases h2:2≤l.length
 rotate_left
 ·have hbx:(l.length:Int) < 2:=by omega
  have HV:Hid (res=false):=by show _=_;rw[← jY.out];simp[jN,jJ,jK,jO,h2]
  clear h2
  go_wp2_with fail
  go_ret
  exact⟨by rw[HV.out];rfl,HG.out⟩
 by_cases h4:l.length≤4
 rotate_left
 ·have hbx:(4:Int) < l.length:=by omega
  have HV:Hid (res=false):=by show _=_;rw[← jY.out];simp[jN,jJ,jK,jO,h4]
  clear h4
  go_wp2_with fail
  go_ret
  exact⟨by rw[HV.out];rfl,HG.out⟩
 have HRS:Hid (res = !(l.any (jS 3))):=by show _=_;rw[← jY.out];simp[jN,jJ,jK,jO,kR,hn0,hu0,hs0,h2,h4]
 go_wp2_with fail
 go_loop [6] (fun i=>∃kk:Nat,kk≤l.length∧i=.int .i64 kk∧Hid (l.any (jS 3)=(l.drop kk).any (jS 3))) (fun i=>l.length - (intOf i).toNat)
 case atStart=>exact⟨0,Nat.zero_le _,rfl,by show _=_;rw[List.drop_zero]⟩
 case round=>
  obtain⟨kk,hkk,rfl,HL⟩:=hrel
  by_cases hlt:kk < l.length
  rotate_left
  ·have ek:kk=l.length:=by omega
   have HV:Hid (res=true):=by show _=_;rw[HRS.out,HL.out,ek,List.drop_length];rfl
   subst ek
   clear hlt
   go_wp2_with fail
   go_ret
   exact⟨by rw[HV.out];rfl,HG.out⟩
  obtain⟨x,hx⟩:∃x,l[kk]? = some x:=⟨_,List.getElem?_eq_getElem hlt⟩
  have HX:=zh (y7 (p:=jS 3) hx)
  have yD:(kk:Int) < l.length:=by omega
  obtain⟨xv,hxv,hnx⟩:=HKD.out.get hx
  obtain⟨b,off,rfl,hc6⟩:∃b off,a5=some ⟨b,off,none⟩∧kQ x1 b (off+kk*6) xv:=by
   obtain⟨a,c,e,_,_,_,h⟩:=HRL.out
   injection e with e1 e2 e3
   subst e1
   obtain⟨b,off,e,h6⟩:=h kk xv hxv
   exact⟨b,off,e,h6.grew HG.out⟩
  obtain⟨xk,xn,xu,xs,xa4,xn4,xc4,xa5,xn5,xc5,rfl⟩:=hnx.node6
  have HKX:=zh (yW hnx)
  obtain⟨f0,f1,f2,f3,f4,f5⟩:=hc6.get
  clear hx hxv hnx hc6
  go_wp2_with fail
  refine (yI 15 x1).mono ?_
  rintro r wq ⟨rfl,e⟩
  rw[e]
  clear e wq
  rw[show kR 15=3 from by decide +kernel]
  by_cases hk:xk=3
  ·have HO:Hid (jS 3 x=false):=by show _=_;unfold jS;rw[← HKX.out,hk];rfl
   have hbx:(xk != 3)=false:=by simpa using hk
   clear hk
   go_wp2_with fail
   go_round
   case rel=>exact⟨kk+1,by omega,by go_num,by show _=_;rw[HL.out,HX.out,HO.out];rfl⟩
   case measure=>simp[intOf];omega
  ·have HO:Hid (jS 3 x=true):=by show _=_;unfold jS;rw[← HKX.out];simp[hk]
   have hbx:(xk != 3)=true:=by simpa using hk
   have HV:Hid (res=false):=by show _=_;rw[HRS.out,HL.out,HX.out,HO.out];rfl
   clear hk
   go_wp2_with fail
   go_ret
   exact⟨by rw[HV.out];rfl,HG.out⟩
theorem bO (n u:Int) (s:ByteArray) (keys:List ByteArray) (l:List Tr) (v:Value) (w:World) (hn:jL w (.mk 16 n u s keys l) v):Calls Try.prog 72 #[v] w fun r w'=>r=.returned (.bool (jN (.mk 16 n u s keys l)))∧jC w w':=by
 obtain⟨hb,kv,lv,vs,rfl,hks,hrl,hkd⟩:=hn
 have hkl:=hkd.length
 have HKD:=zh hkd
 obtain⟨a4,c4,rfl,hk1,hk2,hk3,_⟩:=hks
 have HRL:=zh hrl
 obtain⟨a5,c5,rfl,hl1,hl2,hl3,hl4⟩:=hrl
 rw[hkl] at HRL hl1⊢
 have kV:l.length≤9223372036854775807:=by unfold jI at hl2;omega
 have kZ:keys.length≤9223372036854775807:=by unfold jI at hk2;omega
 have hlc:(l.length:Int)≤c5:=by omega
 clear hb hk1 hk2 hk3 hl1 hl2 hl3 hl4 hkl hkd
 obtain⟨res,jR⟩:∃b,jN (.mk 16 n u s keys l)=b:=⟨_,rfl⟩
 rw[jR]
 have jY:=zh jR
 clear jR
 have hrt:=heap_alloc_new w (.cells #[.int .i64 16,.int .i64 n,.int .u64 u,.string s,.slice a4 keys.length c4,.slice a5 l.length c5] 26)
 have hga:=(jC.refl w).alloc (.cells #[.int .i64 16,.int .i64 n,.int .u64 u,.string s,.slice a4 keys.length c4,.slice a5 l.length c5] 26)
 go_enter Try.func72,Try.ntmps72
 go_upto_region 1 with fail
 obtain⟨pr,hpr⟩:∃N,w.heap.size=N:=⟨_,rfl⟩
 generalize (w.alloc (.cells #[.int .i64 16,.int .i64 n,.int .u64 u,.string s,.slice a4 keys.length c4,.slice a5 l.length c5] 26))=x1 at *
 rw[hpr] at hrt⊢
 have HRT:=zh hrt
 have HG:=zh hga
 clear hrt hga hpr
 have e0:=jA HRT.out 0 _ rfl
 have e1:=jA HRT.out 1 _ rfl
 have e2:=jA HRT.out 2 _ rfl
 have e3:=jA HRT.out 3 _ rfl
 have e4:=jA HRT.out 4 _ rfl
 have e5:=jA HRT.out 5 _ rfl
 by_cases hn0:n=0
 rotate_left
 ·have hbx:(n != 0)=true:=by simpa using hn0
  have HV:Hid (res=false):=by show _=_;rw[← jY.out];simp[jN,jJ,jK,jO,hn0]
  clear hn0
  go_wp2_with fail
  go_ret
  exact⟨by rw[HV.out];rfl,HG.out⟩
 have hbn:(n != 0)=false:=by simpa using hn0
 by_cases hu0:u=0
 rotate_left
 ·have hbx:(u != 0)=true:=by simpa using hu0
  have HV:Hid (res=false):=by show _=_;rw[← jY.out];simp[jN,jJ,jK,jO,hu0]
  clear hu0
  go_wp2_with fail
  go_ret
  exact⟨by rw[HV.out];rfl,HG.out⟩
 have hbu:(u != 0)=false:=by simpa using hu0
 by_cases hs0:s.toList=[]
 rotate_left
 ·have hbx:¬s.toList=[]:=hs0
  have HV:Hid (res=false):=by show _=_;rw[← jY.out];simp[jN,jJ,jK,jO,hs0]
  clear hs0
  go_wp2_with fail
  go_ret
  exact⟨by rw[HV.out];rfl,HG.out⟩
 by_cases hk0:keys=[]
 rotate_left
 ·have hbx:0 < keys.length:=List.length_pos_iff.2 hk0
  have HV:Hid (res=false):=by show _=_;rw[← jY.out];simp[jN,jJ,jK,jO,hk0]
  clear hk0
  go_wp2_with fail
  go_ret
  exact⟨by rw[HV.out];rfl,HG.out⟩
 subst hk0
 go_wp2_with fail
 refine (j5 16 x1).mono ?_
 rintro r wq ⟨rfl,e⟩
 rw[e]
 clear e wq
 rw[show jO 16=false from by decide +kernel]
 by_cases h2:2≤l.length
 rotate_left
 ·have hbx:(l.length:Int) < 2:=by omega
  have HV:Hid (res=false):=by show _=_;rw[← jY.out];simp[jN,jJ,jK,jO,h2]
  clear h2
  go_wp2_with fail
  go_ret
  exact⟨by rw[HV.out];rfl,HG.out⟩
 by_cases h4:l.length≤4
 rotate_left
 ·have hbx:(4:Int) < l.length:=by omega
  have HV:Hid (res=false):=by show _=_;rw[← jY.out];simp[jN,jJ,jK,jO,h4]
  clear h4
  go_wp2_with fail
  go_ret
  exact⟨by rw[HV.out];rfl,HG.out⟩
 have HRS:Hid (res = !(l.any (jS 4))):=by show _=_;rw[← jY.out];simp[jN,jJ,jK,jO,kR,hn0,hu0,hs0,h2,h4]
 go_wp2_with fail
 go_loop [6] (fun i=>∃kk:Nat,kk≤l.length∧i=.int .i64 kk∧Hid (l.any (jS 4)=(l.drop kk).any (jS 4))) (fun i=>l.length - (intOf i).toNat)
 case atStart=>exact⟨0,Nat.zero_le _,rfl,by show _=_;rw[List.drop_zero]⟩
 case round=>
  obtain⟨kk,hkk,rfl,HL⟩:=hrel
  by_cases hlt:kk < l.length
  rotate_left
  ·have ek:kk=l.length:=by omega
   have HV:Hid (res=true):=by show _=_;rw[HRS.out,HL.out,ek,List.drop_length];rfl
   subst ek
   clear hlt
   go_wp2_with fail
   go_ret
   exact⟨by rw[HV.out];rfl,HG.out⟩
  obtain⟨x,hx⟩:∃x,l[kk]? = some x:=⟨_,List.getElem?_eq_getElem hlt⟩
  have HX:=zh (y7 (p:=jS 4) hx)
  have yD:(kk:Int) < l.length:=by omega
  obtain⟨xv,hxv,hnx⟩:=HKD.out.get hx
  obtain⟨b,off,rfl,hc6⟩:∃b off,a5=some ⟨b,off,none⟩∧kQ x1 b (off+kk*6) xv:=by
   obtain⟨a,c,e,_,_,_,h⟩:=HRL.out
   injection e with e1 e2 e3
   subst e1
   obtain⟨b,off,e,h6⟩:=h kk xv hxv
   exact⟨b,off,e,h6.grew HG.out⟩
  obtain⟨xk,xn,xu,xs,xa4,xn4,xc4,xa5,xn5,xc5,rfl⟩:=hnx.node6
  have HKX:=zh (yW hnx)
  obtain⟨f0,f1,f2,f3,f4,f5⟩:=hc6.get
  clear hx hxv hnx hc6
  go_wp2_with fail
  refine (yI 16 x1).mono ?_
  rintro r wq ⟨rfl,e⟩
  rw[e]
  clear e wq
  rw[show kR 16=4 from by decide +kernel]
  by_cases hk:xk=4
  ·have HO:Hid (jS 4 x=false):=by show _=_;unfold jS;rw[← HKX.out,hk];rfl
   have hbx:(xk != 4)=false:=by simpa using hk
   clear hk
   go_wp2_with fail
   go_round
   case rel=>exact⟨kk+1,by omega,by go_num,by show _=_;rw[HL.out,HX.out,HO.out];rfl⟩
   case measure=>simp[intOf];omega
  ·have HO:Hid (jS 4 x=true):=by show _=_;unfold jS;rw[← HKX.out];simp[hk]
   have hbx:(xk != 4)=true:=by simpa using hk
   have HV:Hid (res=false):=by show _=_;rw[HRS.out,HL.out,HX.out,HO.out];rfl
   clear hk
   go_wp2_with fail
   go_ret
   exact⟨by rw[HV.out];rfl,HG.out⟩
theorem bP (n u:Int) (s:ByteArray) (keys:List ByteArray) (l:List Tr) (v:Value) (w:World) (hn:jL w (.mk 17 n u s keys l) v):Calls Try.prog 72 #[v] w fun r w'=>r=.returned (.bool (jN (.mk 17 n u s keys l)))∧jC w w':=by
 obtain⟨hb,kv,lv,vs,rfl,hks,hrl,hkd⟩:=hn
 have hkl:=hkd.length
 have HKD:=zh hkd
 obtain⟨a4,c4,rfl,hk1,hk2,hk3,_⟩:=hks
 have HRL:=zh hrl
 obtain⟨a5,c5,rfl,hl1,hl2,hl3,hl4⟩:=hrl
 rw[hkl] at HRL hl1⊢
 have kV:l.length≤9223372036854775807:=by unfold jI at hl2;omega
 have kZ:keys.length≤9223372036854775807:=by unfold jI at hk2;omega
 have hlc:(l.length:Int)≤c5:=by omega
 clear hb hk1 hk2 hk3 hl1 hl2 hl3 hl4 hkl hkd
 obtain⟨res,jR⟩:∃b,jN (.mk 17 n u s keys l)=b:=⟨_,rfl⟩
 rw[jR]
 have jY:=zh jR
 clear jR
 have hrt:=heap_alloc_new w (.cells #[.int .i64 17,.int .i64 n,.int .u64 u,.string s,.slice a4 keys.length c4,.slice a5 l.length c5] 26)
 have hga:=(jC.refl w).alloc (.cells #[.int .i64 17,.int .i64 n,.int .u64 u,.string s,.slice a4 keys.length c4,.slice a5 l.length c5] 26)
 go_enter Try.func72,Try.ntmps72
 go_upto_region 1 with fail
 obtain⟨pr,hpr⟩:∃N,w.heap.size=N:=⟨_,rfl⟩
 generalize (w.alloc (.cells #[.int .i64 17,.int .i64 n,.int .u64 u,.string s,.slice a4 keys.length c4,.slice a5 l.length c5] 26))=x1 at *
 rw[hpr] at hrt⊢
 have HRT:=zh hrt
 have HG:=zh hga
 clear hrt hga hpr
 have e0:=jA HRT.out 0 _ rfl
 have e1:=jA HRT.out 1 _ rfl
 have e2:=jA HRT.out 2 _ rfl
 have e3:=jA HRT.out 3 _ rfl
 have e4:=jA HRT.out 4 _ rfl
 have e5:=jA HRT.out 5 _ rfl
 by_cases hn0:n=0
 rotate_left
 ·have hbx:(n != 0)=true:=by simpa using hn0
  have HV:Hid (res=false):=by show _=_;rw[← jY.out];simp[jN,jJ,jK,jO,hn0]
  clear hn0
  go_wp2_with fail
  go_ret
  exact⟨by rw[HV.out];rfl,HG.out⟩
 have hbn:(n != 0)=false:=by simpa using hn0
 by_cases hu0:u=0
 rotate_left
 ·have hbx:(u != 0)=true:=by simpa using hu0
  have HV:Hid (res=false):=by show _=_;rw[← jY.out];simp[jN,jJ,jK,jO,hu0]
  clear hu0
  go_wp2_with fail
  go_ret
  exact⟨by rw[HV.out];rfl,HG.out⟩
 have hbu:(u != 0)=false:=by simpa using hu0
 by_cases hs0:s.toList=[]
 rotate_left
 ·have hbx:¬s.toList=[]:=hs0
  have HV:Hid (res=false):=by show _=_;rw[← jY.out];simp[jN,jJ,jK,jO,hs0]
  clear hs0
  go_wp2_with fail
  go_ret
  exact⟨by rw[HV.out];rfl,HG.out⟩
 go_wp2_with fail
 refine (j5 17 x1).mono ?_
 rintro r wq ⟨rfl,e⟩
 rw[e]
 clear e wq
 rw[show jO 17=false from by decide +kernel]
 by_cases hk0:keys.length=l.length
 rotate_left
 ·have hbx:((keys.length:Int) != (l.length:Int))=true:=by simp;omega
  have HV:Hid (res=false):=by show _=_;rw[← jY.out];simp[jN,jJ,jK,jO,hk0]
  clear hk0
  go_wp2_with fail
  go_ret
  exact⟨by rw[HV.out];rfl,HG.out⟩
 have hbk:((keys.length:Int) != (l.length:Int))=false:=by simp;omega
 have HRS:Hid (res = !(l.any (jS 0))):=by show _=_;rw[← jY.out];simp[jN,jJ,jK,jO,kR,hn0,hu0,hs0,hk0]
 go_wp2_with fail
 go_loop [6] (fun i=>∃kk:Nat,kk≤l.length∧i=.int .i64 kk∧Hid (l.any (jS 0)=(l.drop kk).any (jS 0))) (fun i=>l.length - (intOf i).toNat)
 case atStart=>exact⟨0,Nat.zero_le _,rfl,by show _=_;rw[List.drop_zero]⟩
 case round=>
  obtain⟨kk,hkk,rfl,HL⟩:=hrel
  by_cases hlt:kk < l.length
  rotate_left
  ·have ek:kk=l.length:=by omega
   have HV:Hid (res=true):=by show _=_;rw[HRS.out,HL.out,ek,List.drop_length];rfl
   subst ek
   clear hlt
   go_wp2_with fail
   go_ret
   exact⟨by rw[HV.out];rfl,HG.out⟩
  obtain⟨x,hx⟩:∃x,l[kk]? = some x:=⟨_,List.getElem?_eq_getElem hlt⟩
  have HX:=zh (y7 (p:=jS 0) hx)
  have yD:(kk:Int) < l.length:=by omega
  have HO:Hid (jS 0 x=false):=by show _=_;rfl
  clear hx
  go_wp2_with fail
  refine (yI 17 x1).mono ?_
  rintro r wq ⟨rfl,e⟩
  rw[e]
  clear e wq
  rw[show kR 17=0 from by decide +kernel]
  go_wp2_with fail
  go_round
  case rel=>exact⟨kk+1,by omega,by go_num,by show _=_;rw[HL.out,HX.out,HO.out];rfl⟩
  case measure=>simp[intOf];omega
theorem aL (t:Tr) (v:Value) (w:World) (hn:jL w t v):Calls Try.prog 72 #[v] w fun r w'=>r=.returned (.bool (jN t))∧jC w w':=by
 obtain⟨k,n,u,s,keys,l⟩:=t
 by_cases h1:1≤k
 rotate_left
 ·have HV:Hid (jN (.mk k n u s keys l)=false):=by show _=_;simp[jN,jJ,h1]
  rw[HV.out]
  have hkk:k < 1:=by omega
  clear h1
  obtain⟨hb,kv,lv,vs,rfl,hks,hrl,hkd⟩:=hn
  obtain⟨a4,c4,rfl,_⟩:=hks
  obtain⟨a5,c5,rfl,_⟩:=hrl
  go_enter Try.func72,Try.ntmps72
  go_wp2_with fail
  go_ret
  exact⟨rfl,(jC.refl w).alloc _⟩
 by_cases h2:k≤17
 rotate_left
 ·have HV:Hid (jN (.mk k n u s keys l)=false):=by show _=_;simp[jN,jJ,h2]
  rw[HV.out]
  have hkk:17 < k:=by omega
  clear h2
  obtain⟨hb,kv,lv,vs,rfl,hks,hrl,hkd⟩:=hn
  obtain⟨a4,c4,rfl,_⟩:=hks
  obtain⟨a5,c5,rfl,_⟩:=hrl
  go_enter Try.func72,Try.ntmps72
  go_wp2_with fail
  go_ret
  exact⟨rfl,(jC.refl w).alloc _⟩
 rcases Y5 k h1 h2 with rfl|rfl|rfl|rfl|rfl|rfl|rfl|rfl|rfl|rfl|rfl|rfl|rfl|rfl|rfl|rfl|rfl
 ·exact rsuch_1 n u s keys l v w hn
 ·exact rsuch_2 n u s keys l v w hn
 ·exact rsuch_3 n u s keys l v w hn
 ·exact rsuch_4 n u s keys l v w hn
 ·exact rsuch_5 n u s keys l v w hn
 ·exact rsuch_6 n u s keys l v w hn
 ·exact rsuch_7 n u s keys l v w hn
 ·exact rsuch_8 n u s keys l v w hn
 ·exact rsuch_9 n u s keys l v w hn
 ·exact bI n u s keys l v w hn
 ·exact bJ n u s keys l v w hn
 ·exact bK n u s keys l v w hn
 ·exact bL n u s keys l v w hn
 ·exact bM n u s keys l v w hn
 ·exact bN n u s keys l v w hn
 ·exact bO n u s keys l v w hn
 ·exact bP n u s keys l v w hn
def ZJ (n:Int):Obj:=.cells #[.int .i64 n] 76 (0,0)
theorem aM {w:World} {rb:Nat} {n:Int} (h:w.heap[rb]? = some (ZJ n)) (p:Int):(w.setCell ⟨rb,0,none⟩ (.int .i64 p)).heap[rb]? = some (ZJ p):=by
 have:=heap_setCell_same w rb 0 _ _ (.int .i64 p) h
 simpa [ZJ] using this
theorem ZK {keys:List ByteArray} {k:Nat} {q:ByteArray} (h:keys[k]? = some q):kH (keys.take k) (keys.drop k)=if zF q=true then 70 else if zZ q (keys.take k)=true then 71 else kH (keys.take (k+1)) (keys.drop (k+1)):=by
 have hlt:=(List.getElem?_eq_some_iff.1 h).1
 have e:keys[k]=q:=(List.getElem?_eq_some_iff.1 h).2
 rw[List.drop_eq_getElem_cons hlt,e]
 show (if zF q=true then (70:Int) else if zZ q (keys.take k)=true then 71 else kH (keys.take k++[q]) (keys.drop (k+1)))=_
 rw[show keys.take k++[q]=keys.take (k+1) by rw[List.take_add_one,h];rfl]
theorem ZL {keys:List ByteArray} {k:Nat} {q y:ByteArray} (h:keys[k]? = some y):zZ q (keys.take (k+1))=(zZ q (keys.take k) || decide (y=q)):=by
 rw[List.take_add_one,h]
 simp[zZ]
theorem ZM {keys:List ByteArray} {k j:Nat} {q:ByteArray} (h:keys[j]? = some q) (hj:j < k):zZ q (keys.take k)=true:=by
 rw[vI]
 have:(keys.take k)[j]? = some q:=by rw[List.getElem?_take,if_pos hj,h]
 exact List.mem_of_getElem? this
theorem ZN {b:Nat} {l:List Tr} {k:Nat} {x:Tr} (h:l[k]? = some x):yH b (l.drop k)=if z7 b x≠0 then z7 b x else yH b (l.drop (k+1)):=by
 have hlt:=(List.getElem?_eq_some_iff.1 h).1
 have e:l[k]=x:=(List.getElem?_eq_some_iff.1 h).2
 rw[List.drop_eq_getElem_cons hlt,e,yH]
theorem ZO {l:List Tr} {k:Nat} {x:Tr} (h:l[k]? = some x):kI (l.take (k+1))=kI (l.take k)+x.size∧kI (l.take (k+1))≤kI l:=by
 constructor
 ·rw[List.take_add_one,h,qA]
  simp[kI]
 ·have:kI (l.take (k+1)++l.drop (k+1))=kI l:=by rw[List.take_append_drop]
  rw[qA] at this
  omega
theorem bQ (W:World) (rb:Nat) (hWrb:W.heap.size≤rb):∀(m:Nat) (t:Tr),t.size≤m→∀(v:Value) (w:World) (N:Int) (b:Nat),0≤N→N+t.size≤4096→b≤64→jL W t v→jC W w→w.heap[rb]? = some (ZJ N) →
 Calls Try.prog 65 #[.pointer (some ⟨rb,0,none⟩),v,.int .i64 b] w fun r w'=>r=.returned (.int .i64 (z7 b t))∧Moved (fun g=>g=rb) w w'∧∃N',w'.heap[rb]? = some (ZJ N')∧N≤N'∧N'≤N+t.size:=by
 intro m
 induction m with
 | zero=>intro t ht;have:=t.size_pos;omega
 | succ m ih=>
  intro t hm v w N b hN0 hN1 hb64 hn hW jP
  obtain⟨k,n,u,s,keys,l⟩:=t
  obtain⟨hb,kv,lv,vs,rfl,hks,hrl,hkd⟩:=hn
  have hnode:jL W (.mk k n u s keys l) (.agg #[.int .i64 k,.int .i64 n,.int .u64 u,.string s,kv,lv]):=⟨hb,kv,lv,vs,rfl,hks,hrl,hkd⟩
  have hkl:=hkd.length
  have HKD:=zh hkd
  have HKS:=zh hks
  obtain⟨a4,c4,rfl,hk1,hk2,hk3,_⟩:=hks
  have HRL:=zh hrl
  obtain⟨a5,c5,rfl,hl1,hl2,hl3,hl4⟩:=hrl
  rw[hkl] at HRL hl1 hnode⊢
  have HND:=zh hnode
  have HIH:=zh ih
  have hsl:jI s.size:=hb.2.2.2
  have kV:l.length≤9223372036854775807:=by unfold jI at hl2;omega
  have kZ:keys.length≤9223372036854775807:=by unfold jI at hk2;omega
  have hlc:(l.length:Int)≤c5:=by omega
  have hkc:(keys.length:Int)≤c4:=by omega
  have HSZ:Hid (∀x∈l,x.size≤m):=fun x hx=>by have:=k9 hx;simp only[Tr.size] at hm;omega
  have hszt:(Tr.mk k n u s keys l).size=1+kI l:=by simp only[Tr.size];omega
  rw[hszt] at hN1
  have HSZT:=zh hszt
  have HN1:=zh hN1
  clear hb hk1 hk2 hk3 hl1 hl2 hl3 hl4 hkl hkd hnode ih hm hszt
  obtain⟨res,jR⟩:∃e,z7 b (.mk k n u s keys l)=e:=⟨_,rfl⟩
  rw[jR]
  rw[z7] at jR
  have jY:=zh jR
  clear jR
  have hrt:=heap_alloc_new w (.cells #[.int .i64 k,.int .i64 n,.int .u64 u,.string s,.slice a4 keys.length c4,.slice a5 l.length c5] 26)
  have hga:=(jC.refl w).alloc (.cells #[.int .i64 k,.int .i64 n,.int .u64 u,.string s,.slice a4 keys.length c4,.slice a5 l.length c5] 26)
  have hrb1:=hga.heap jP
  have hne:rb≠w.heap.size:=by have:=(Array.getElem?_eq_some_iff.1 jP).1;omega
  go_enter Try.func65,Try.ntmps65
  go_upto_region 1 with fail
  obtain⟨pr,hpr⟩:∃N,w.heap.size=N:=⟨_,rfl⟩
  generalize (w.alloc (.cells #[.int .i64 k,.int .i64 n,.int .u64 u,.string s,.slice a4 keys.length c4,.slice a5 l.length c5] 26))=x1 at *
  rw[hpr] at hrt hne⊢
  have r0:=jA hrb1 0 _ rfl
  have q0:=jB hrb1 0
  have hwn:IntKind.i64.wrap (N+1)=N+1:=by rw[IntKind.wrap_i64];omega
  have hrb2:=aM hrb1 (N+1)
  have hm2:Moved (fun g=>g=rb) x1 (x1.setCell ⟨rb,0,none⟩ (.int .i64 (N+1))):=Moved.setCell (S:=fun g=>g=rb) (p:=⟨rb,0,none⟩) (Moved.refl _ x1) (fun _=>rfl) _
  have hrt2:=hm2.heap hrt (fun e=>hne e.symm)
  have hmm:Moved (fun g=>g=rb) w (x1.setCell ⟨rb,0,none⟩ (.int .i64 (N+1))):=(Moved.of_grew hga).trans hm2 (fun _ _ h=>h)
  have hgg:jC W (x1.setCell ⟨rb,0,none⟩ (.int .i64 (N+1))):=Moved.fresh hW hmm (fun g e=>by subst e;exact hWrb)
  go_upto_region 2 with fail
  generalize (x1.setCell ⟨rb,0,none⟩ (.int .i64 (N+1)))=x2 at *
  have HRT:=zh hrt2
  have HRB:=zh hrb2
  have HM:=zh hmm
  have HG:=zh hgg
  clear hrt hrb1 hrt2 hrb2 hmm hgg hm2 hga r0 q0 hpr jP hW
  have r0:=jA HRB.out 0 _ rfl
  have e0:=jA HRT.out 0 _ rfl
  have e1:=jA HRT.out 1 _ rfl
  have e2:=jA HRT.out 2 _ rfl
  have e3:=jA HRT.out 3 _ rfl
  have e4:=jA HRT.out 4 _ rfl
  have e5:=jA HRT.out 5 _ rfl
  have hnl:¬(4096:Int) < N+1:=by have:=HN1.out;omega
  by_cases hb:64≤b
  ·have hbi:(64:Int)≤(b:Int):=by omega
   have HV:Hid (res=61):=by show _=_;rw[← jY.out,if_pos hb]
   clear hb
   go_wp2_with fail
   go_ret
   exact⟨by rw[HV.out];rfl,HM.out,_,HRB.out,by omega,by have:=HSZT.out;omega⟩
  have hbi:¬(64:Int)≤(b:Int):=by omega
  rw[if_neg hb] at jY
  go_wp2_with fail
  obtain⟨sb,hsb⟩:∃q,jN (.mk k n u s keys l)=q:=⟨_,rfl⟩
  have hh:=aL _ _ x2 (HND.out.grew HG.out)
  rw[hsb] at hh jY
  clear hsb
  refine hh.mono ?_
  clear hh
  rintro r x3 ⟨rfl,hgc⟩
  clear r0 e0 e1 e2 e3 e4 e5
  replace HRT:=zh (hgc.heap HRT.out)
  replace HRB:=zh (hgc.heap HRB.out)
  replace HM:=zh (HM.out.trans (Moved.of_grew hgc) (fun _ _ h=>h))
  replace HG:=zh (HG.out.trans hgc)
  clear hgc
  have e0:=jA HRT.out 0 _ rfl
  have e1:=jA HRT.out 1 _ rfl
  have e2:=jA HRT.out 2 _ rfl
  have e3:=jA HRT.out 3 _ rfl
  have e4:=jA HRT.out 4 _ rfl
  have e5:=jA HRT.out 5 _ rfl
  cases sb
  ·have HV:Hid (res=60):=by show _=_;rw[← jY.out,if_pos rfl]
   go_wp2_with fail
   go_ret
   exact⟨by rw[HV.out];rfl,HM.out,_,HRB.out,by omega,by have:=HSZT.out;omega⟩
  rw[if_neg (by decide)] at jY
  by_cases hk5:k=5
  ·subst hk5
   go_wp2_with fail
   obtain⟨zs,hzs⟩:∃z,zF s=z:=⟨_,rfl⟩
   have hh:=J6 s x3 hsl
   rw[hzs] at hh
   refine hh.mono ?_
   clear hh
   rintro r wq ⟨rfl,e⟩
   rw[e]
   clear e wq
   have hke:kU (.mk 5 n u s keys l)=if zs=true then 70 else kH [] keys:=by show (if (5:Int)=5∧zF s=true then 70 else kH [] keys)=_;rw[hzs];simp
   rw[hke] at jY
   clear hke hzs
   cases zs
   rotate_left
   ·have HV:Hid (res=70):=by show _=_;rw[← jY.out];rfl
    go_wp2_with fail
    go_ret
    exact⟨by rw[HV.out];rfl,HM.out,_,HRB.out,by omega,by have:=HSZT.out;omega⟩
   simp only[Bool.false_eq_true,if_false] at jY
   have HKV:Hid (kH [] keys≠0→res=kH [] keys):=fun h=>by rw[← jY.out,if_pos h]
   have HKN:Hid (kH [] keys=0→res=yH (b+1) l):=fun h=>by rw[← jY.out,if_neg (fun h'=>h' h)]
   go_wp2_with fail
   go_loopw [7] (fun i x4=>∃kk:Nat,kk≤keys.length∧i=.int .i64 kk∧Hid (jC x3 x4∧kH [] keys=kH (keys.take kk) (keys.drop kk))) (fun i _=>keys.length - (intOf i).toNat)
   case atStart=>exact⟨0,Nat.zero_le _,rfl,by show _∧_;exact⟨jC.refl _,by simp⟩⟩
   case round=>
    generalize wr=x4 at *
    obtain⟨kk,hkk,rfl,HL0⟩:=hrel
    have HXG:=zh HL0.out.1
    have HL:=zh HL0.out.2
    clear HL0 e0 e1 e2 e3 e4 e5
    replace HG:=zh (HG.out.trans HXG.out)
    replace HM:=zh (HM.out.trans (Moved.of_grew HXG.out) (fun _ _ h=>h))
    replace HRT:=zh (HXG.out.heap HRT.out)
    replace HRB:=zh (HXG.out.heap HRB.out)
    have e0:=jA HRT.out 0 _ rfl
    have e1:=jA HRT.out 1 _ rfl
    have e2:=jA HRT.out 2 _ rfl
    have e3:=jA HRT.out 3 _ rfl
    have e4:=jA HRT.out 4 _ rfl
    have e5:=jA HRT.out 5 _ rfl
    by_cases hlt:kk < keys.length
    ·obtain⟨q,hq⟩:∃q,keys[kk]? = some q:=⟨_,List.getElem?_eq_getElem hlt⟩
     have HST:=zh (ZK hq)
     have HQ:=zh hq
     obtain⟨_,_,ee,_,_,_,zG⟩:=HKS.out
     cases ee
     obtain⟨hqz,kb,ko,rfl,hc⟩:=zG kk q hq
     have HCELL:=zh zG
     have cq:=HG.out.cell hc
     have yD:(kk:Int) < keys.length:=by omega
     have hdd:decide ((kk:Int) < (keys.length:Int))=true:=decide_eq_true yD
     have hdn:decide (kk < keys.length)=true:=decide_eq_true hlt
     clear hc hq zG
     go_wp2_with fail
     obtain⟨zb,hzb⟩:∃z,zF q=z:=⟨_,rfl⟩
     have hh:=J6 q x4 hqz
     rw[hzb] at hh HST
     clear hzb
     refine hh.mono ?_
     clear hh
     rintro r wq ⟨rfl,e⟩
     rw[e]
     clear e wq
     cases zb
     rotate_left
     ·have h70:kH [] keys=70:=by rw[HL.out,HST.out,if_pos rfl]
      have HV:Hid (res=70):=by show _=_;rw[HKV.out (by rw[h70];decide),h70]
      clear h70
      go_wp2_with fail
      go_ret
      exact⟨by rw[HV.out];rfl,HM.out,_,HRB.out,by omega,by have:=HSZT.out;omega⟩
     rw[if_neg (by decide)] at HST
     go_wp2_with fail
     go_loopw [8] (fun i x5=>∃jj:Nat,jj≤kk∧i=.int .i64 jj∧Hid (jC x4 x5∧zZ q (keys.take jj)=false)) (fun i _=>kk - (intOf i).toNat)
     case atStart=>exact⟨0,Nat.zero_le _,rfl,by show _∧_;exact⟨jC.refl _,by simp[zZ]⟩⟩
     case round=>
      generalize wr=x5 at *
      obtain⟨jj,hjj,rfl,HJ0⟩:=hrel
      have HX5:=zh HJ0.out.1
      have HJ:=zh HJ0.out.2
      have HXG2:=zh (HXG.out.trans HX5.out)
      have cq5:=HX5.out.cell cq
      clear HJ0 cq e0 e1 e2 e3 e4 e5
      replace HG:=zh (HG.out.trans HX5.out)
      replace HM:=zh (HM.out.trans (Moved.of_grew HX5.out) (fun _ _ h=>h))
      replace HRT:=zh (HX5.out.heap HRT.out)
      replace HRB:=zh (HX5.out.heap HRB.out)
      have e0:=jA HRT.out 0 _ rfl
      have e1:=jA HRT.out 1 _ rfl
      have e2:=jA HRT.out 2 _ rfl
      have e3:=jA HRT.out 3 _ rfl
      have e4:=jA HRT.out 4 _ rfl
      have e5:=jA HRT.out 5 _ rfl
      by_cases hjk:jj < kk
      ·obtain⟨y,hy⟩:∃y,keys[jj]? = some y:=⟨_,List.getElem?_eq_getElem (by omega)⟩
       obtain⟨hyz,kb2,ko2,e2,hc2⟩:=HCELL.out jj y hy
       cases e2
       have cy:=HG.out.cell hc2
       have hjki:(jj:Int) < (kk:Int):=by omega
       have hjl:(jj:Int) < keys.length:=by omega
       have HSS:=zh (ZL (q:=q) hy)
       have HY:=zh hy
       have hse:=qL y q
       clear hc2 hy
       by_cases hyq:y=q
       ·have hbq:(y.toList == q.toList)=true:=by rw[hse];exact decide_eq_true hyq
        have h71:kH [] keys=71:=by rw[HL.out,HST.out,if_pos (ZM (j:=jj) (by rw[HY.out,hyq]) hjk)]
        have HV:Hid (res=71):=by show _=_;rw[HKV.out (by rw[h71];decide),h71]
        clear h71
        clear hse hyq
        go_wp2_with fail
        go_quiet (fail)
        go_wp2_with fail
        go_ret
        exact⟨by rw[HV.out];rfl,HM.out.trans (Moved.of_grew ((jC.refl _).drewN _)) (fun _ _ h=>h),_,((jC.refl _).drewN _).heap HRB.out,by omega,by have:=HSZT.out;omega⟩
       ·have hbq:(y.toList == q.toList)=false:=by rw[hse];exact decide_eq_false hyq
        have HN2:Hid (zZ q (keys.take (jj+1))=false):=by show _=_;rw[HSS.out,HJ.out,decide_eq_false hyq];rfl
        clear hse hyq
        go_wp2_with fail
        go_quiet (fail)
        go_wp2_with fail
        go_roundw
        case rel=>exact⟨jj+1,by omega,by go_num,by show _∧_;exact⟨HX5.out.drewN _,HN2.out⟩⟩
        case measure=>simp[intOf];omega
      ·have ej:jj=kk:=by omega
       subst ej
       have HNS:Hid (kH [] keys=kH (keys.take (jj+1)) (keys.drop (jj+1))):=by show _=_;rw[HL.out,HST.out,if_neg (by rw[HJ.out];decide)]
       clear hjk
       go_wp2_with fail
       go_roundw
       case rel=>exact⟨jj+1,by omega,by go_num,by show _∧_;exact⟨HXG2.out,HNS.out⟩⟩
       case measure=>simp[intOf];omega
    ·have ek:kk=keys.length:=by omega
     have HKZ:Hid (kH [] keys=0):=by show _=_;rw[HL.out,ek,List.drop_length];rfl
     subst ek
     clear hlt
     have HRL2:Hid (res=yH (b+1) l):=by show _=_;rw[HKN.out HKZ.out]
     have HRT0:=HRT
     have HRB0:=HRB
     go_wp2_with fail
     clear e0 e1 e2 e3 e4 e5
     go_loopw [9] (fun i wr=>∃kk:Nat,kk≤l.length∧i=.int .i64 kk∧Hid (Moved (fun g=>g=rb) x4 wr∧yH (b+1) l=yH (b+1) (l.drop kk)∧∃N',wr.heap[rb]? = some (ZJ N')∧N+1≤N'∧N'≤N+1+kI (l.take kk))) (fun i _=>l.length - (intOf i).toNat)
     case atStart=>exact⟨0,Nat.zero_le _,rfl,by show _∧_∧_;exact⟨Moved.refl _ _,by rw[List.drop_zero],N+1,HRB0.out,by omega,by simp[kI]⟩⟩
     case round=>
      obtain⟨kk,hkk,rfl,HQ⟩:=hrel
      have HMW:=zh (HM.out.trans HQ.out.1 (fun _ _ h=>h))
      have HGW:=zh (Moved.fresh HG.out HQ.out.1 (fun g e=>by subst e;exact hWrb))
      have HRTW:=zh (HQ.out.1.heap HRT0.out (fun e=>hne e.symm))
      obtain⟨N2,hN2,hN3,hN4⟩:=HQ.out.2.2
      have HRBW:=zh hN2
      clear hN2
      by_cases hlt:kk < l.length
      rotate_left
      ·have ek:kk=l.length:=by omega
       have HV:Hid (res=0):=by show _=_;rw[HRL2.out,HQ.out.2.1,ek,List.drop_length];rfl
       subst ek
       rw[List.take_length] at hN4
       clear hlt
       have e5:=jA HRTW.out 5 _ rfl
       go_wp2_with fail
       go_ret
       exact⟨by rw[HV.out];rfl,HMW.out,_,HRBW.out,by omega,by have:=HSZT.out;omega⟩
      obtain⟨x,hx⟩:∃x,l[kk]? = some x:=⟨_,List.getElem?_eq_getElem hlt⟩
      have HSTX:=zh (ZN (b:=b+1) hx)
      have hst:=ZO hx
      have HSTS:=zh hst
      obtain⟨xv,hxv,hnx⟩:=HKD.out.get hx
      have hxm:x∈l:=List.mem_of_getElem? hx
      have HXS:=zh (HSZ.out x hxm)
      obtain⟨kb,ko,rfl,hc6⟩:∃b off,a5=some ⟨b,off,none⟩∧kQ wr b (off+kk*6) xv:=by
       obtain⟨a,c,e,_,_,_,h⟩:=HRL.out
       injection e with e1 e2 e3
       subst e1
       obtain⟨b,off,e,h6⟩:=h kk xv hxv
       exact⟨b,off,e,h6.grew HGW.out⟩
      obtain⟨xk,xn,xu,xs,xa4,xn4,xc4,xa5,xn5,xc5,rfl⟩:=hnx.node6
      obtain⟨f0,f1,f2,f3,f4,f5⟩:=hc6.get
      have HNX:=zh hnx
      have yD:(kk:Int) < l.length:=by omega
      have hwb:IntKind.i64.wrap ((b:Int)+1)=((b+1:Nat):Int):=by rw[IntKind.wrap_i64];omega
      clear hc6 hx hxv hnx hxm hst
      have e5:=jA HRTW.out 5 _ rfl
      have zX:=HIH.out x HXS.out _ wr N2 (b+1) (by omega) (by have h1:=HSTS.out;have h2:=HN1.out;omega) (by omega) HNX.out HGW.out HRBW.out
      obtain⟨er,her⟩:∃e,z7 (b+1) x=e:=⟨_,rfl⟩
      rw[her] at zX HSTX
      have kA:=zh zX
      clear zX her
      go_wp2_with fail
      refine kA.out.mono ?_
      rintro r y5 ⟨rfl,hm5,N3,hr5,hN5,hN6⟩
      have HM5:=zh hm5
      have HR5:=zh hr5
      clear hm5 hr5 f0 f1 f2 f3 f4 f5 e5
      by_cases he:er=0
      ·have HNX2:Hid (yH (b+1) l=yH (b+1) (l.drop (kk+1))):=by show _=_;rw[HQ.out.2.1,HSTX.out,if_neg (fun h=>h he)]
       subst he
       go_wp2_with fail
       go_roundw
       case rel=>exact⟨kk+1,by omega,by go_num,by
        show _∧_∧_
        exact⟨HQ.out.1.trans HM5.out (fun _ _ h=>h),HNX2.out,N3,HR5.out,by omega,by have:=HSTS.out;omega⟩⟩
       case measure=>simp[intOf];omega
      ·have HV:Hid (res=er):=by show _=_;rw[HRL2.out,HQ.out.2.1,HSTX.out,if_pos he]
       have hbe:(er != 0)=true:=by simpa using he
       clear he
       go_wp2_with fail
       go_ret
       exact⟨by rw[HV.out];rfl,HMW.out.trans HM5.out (fun _ _ h=>h),_,HR5.out,by omega,by have h1:=HSTS.out;have h2:=HSZT.out;omega⟩
  ·have hbk:(k == 5)=false:=by simpa using hk5
   have hke:kU (.mk k n u s keys l)=kH [] keys:=by show (if k=5∧zF s=true then 70 else kH [] keys)=_;rw[if_neg (fun h=>hk5 h.1)]
   rw[hke] at jY
   clear hke hk5
   have HKV:Hid (kH [] keys≠0→res=kH [] keys):=fun h=>by rw[← jY.out,if_pos h]
   have HKN:Hid (kH [] keys=0→res=yH (b+1) l):=fun h=>by rw[← jY.out,if_neg (fun h'=>h' h)]
   go_wp2_with fail
   go_loopw [7] (fun i x4=>∃kk:Nat,kk≤keys.length∧i=.int .i64 kk∧Hid (jC x3 x4∧kH [] keys=kH (keys.take kk) (keys.drop kk))) (fun i _=>keys.length - (intOf i).toNat)
   case atStart=>exact⟨0,Nat.zero_le _,rfl,by show _∧_;exact⟨jC.refl _,by simp⟩⟩
   case round=>
    generalize wr=x4 at *
    obtain⟨kk,hkk,rfl,HL0⟩:=hrel
    have HXG:=zh HL0.out.1
    have HL:=zh HL0.out.2
    clear HL0 e0 e1 e2 e3 e4 e5
    replace HG:=zh (HG.out.trans HXG.out)
    replace HM:=zh (HM.out.trans (Moved.of_grew HXG.out) (fun _ _ h=>h))
    replace HRT:=zh (HXG.out.heap HRT.out)
    replace HRB:=zh (HXG.out.heap HRB.out)
    have e0:=jA HRT.out 0 _ rfl
    have e1:=jA HRT.out 1 _ rfl
    have e2:=jA HRT.out 2 _ rfl
    have e3:=jA HRT.out 3 _ rfl
    have e4:=jA HRT.out 4 _ rfl
    have e5:=jA HRT.out 5 _ rfl
    by_cases hlt:kk < keys.length
    ·obtain⟨q,hq⟩:∃q,keys[kk]? = some q:=⟨_,List.getElem?_eq_getElem hlt⟩
     have HST:=zh (ZK hq)
     have HQ:=zh hq
     obtain⟨_,_,ee,_,_,_,zG⟩:=HKS.out
     cases ee
     obtain⟨hqz,kb,ko,rfl,hc⟩:=zG kk q hq
     have HCELL:=zh zG
     have cq:=HG.out.cell hc
     have yD:(kk:Int) < keys.length:=by omega
     have hdd:decide ((kk:Int) < (keys.length:Int))=true:=decide_eq_true yD
     have hdn:decide (kk < keys.length)=true:=decide_eq_true hlt
     clear hc hq zG
     go_wp2_with fail
     obtain⟨zb,hzb⟩:∃z,zF q=z:=⟨_,rfl⟩
     have hh:=J6 q x4 hqz
     rw[hzb] at hh HST
     clear hzb
     refine hh.mono ?_
     clear hh
     rintro r wq ⟨rfl,e⟩
     rw[e]
     clear e wq
     cases zb
     rotate_left
     ·have h70:kH [] keys=70:=by rw[HL.out,HST.out,if_pos rfl]
      have HV:Hid (res=70):=by show _=_;rw[HKV.out (by rw[h70];decide),h70]
      clear h70
      go_wp2_with fail
      go_ret
      exact⟨by rw[HV.out];rfl,HM.out,_,HRB.out,by omega,by have:=HSZT.out;omega⟩
     rw[if_neg (by decide)] at HST
     go_wp2_with fail
     go_loopw [8] (fun i x5=>∃jj:Nat,jj≤kk∧i=.int .i64 jj∧Hid (jC x4 x5∧zZ q (keys.take jj)=false)) (fun i _=>kk - (intOf i).toNat)
     case atStart=>exact⟨0,Nat.zero_le _,rfl,by show _∧_;exact⟨jC.refl _,by simp[zZ]⟩⟩
     case round=>
      generalize wr=x5 at *
      obtain⟨jj,hjj,rfl,HJ0⟩:=hrel
      have HX5:=zh HJ0.out.1
      have HJ:=zh HJ0.out.2
      have HXG2:=zh (HXG.out.trans HX5.out)
      have cq5:=HX5.out.cell cq
      clear HJ0 cq e0 e1 e2 e3 e4 e5
      replace HG:=zh (HG.out.trans HX5.out)
      replace HM:=zh (HM.out.trans (Moved.of_grew HX5.out) (fun _ _ h=>h))
      replace HRT:=zh (HX5.out.heap HRT.out)
      replace HRB:=zh (HX5.out.heap HRB.out)
      have e0:=jA HRT.out 0 _ rfl
      have e1:=jA HRT.out 1 _ rfl
      have e2:=jA HRT.out 2 _ rfl
      have e3:=jA HRT.out 3 _ rfl
      have e4:=jA HRT.out 4 _ rfl
      have e5:=jA HRT.out 5 _ rfl
      by_cases hjk:jj < kk
      ·obtain⟨y,hy⟩:∃y,keys[jj]? = some y:=⟨_,List.getElem?_eq_getElem (by omega)⟩
       obtain⟨hyz,kb2,ko2,e2,hc2⟩:=HCELL.out jj y hy
       cases e2
       have cy:=HG.out.cell hc2
       have hjki:(jj:Int) < (kk:Int):=by omega
       have hjl:(jj:Int) < keys.length:=by omega
       have HSS:=zh (ZL (q:=q) hy)
       have HY:=zh hy
       have hse:=qL y q
       clear hc2 hy
       by_cases hyq:y=q
       ·have hbq:(y.toList == q.toList)=true:=by rw[hse];exact decide_eq_true hyq
        have h71:kH [] keys=71:=by rw[HL.out,HST.out,if_pos (ZM (j:=jj) (by rw[HY.out,hyq]) hjk)]
        have HV:Hid (res=71):=by show _=_;rw[HKV.out (by rw[h71];decide),h71]
        clear h71
        clear hse hyq
        go_wp2_with fail
        go_quiet (fail)
        go_wp2_with fail
        go_ret
        exact⟨by rw[HV.out];rfl,HM.out.trans (Moved.of_grew ((jC.refl _).drewN _)) (fun _ _ h=>h),_,((jC.refl _).drewN _).heap HRB.out,by omega,by have:=HSZT.out;omega⟩
       ·have hbq:(y.toList == q.toList)=false:=by rw[hse];exact decide_eq_false hyq
        have HN2:Hid (zZ q (keys.take (jj+1))=false):=by show _=_;rw[HSS.out,HJ.out,decide_eq_false hyq];rfl
        clear hse hyq
        go_wp2_with fail
        go_quiet (fail)
        go_wp2_with fail
        go_roundw
        case rel=>exact⟨jj+1,by omega,by go_num,by show _∧_;exact⟨HX5.out.drewN _,HN2.out⟩⟩
        case measure=>simp[intOf];omega
      ·have ej:jj=kk:=by omega
       subst ej
       have HNS:Hid (kH [] keys=kH (keys.take (jj+1)) (keys.drop (jj+1))):=by show _=_;rw[HL.out,HST.out,if_neg (by rw[HJ.out];decide)]
       clear hjk
       go_wp2_with fail
       go_roundw
       case rel=>exact⟨jj+1,by omega,by go_num,by show _∧_;exact⟨HXG2.out,HNS.out⟩⟩
       case measure=>simp[intOf];omega
    ·have ek:kk=keys.length:=by omega
     have HKZ:Hid (kH [] keys=0):=by show _=_;rw[HL.out,ek,List.drop_length];rfl
     subst ek
     clear hlt
     have HRL2:Hid (res=yH (b+1) l):=by show _=_;rw[HKN.out HKZ.out]
     have HRT0:=HRT
     have HRB0:=HRB
     go_wp2_with fail
     clear e0 e1 e2 e3 e4 e5
     go_loopw [9] (fun i wr=>∃kk:Nat,kk≤l.length∧i=.int .i64 kk∧Hid (Moved (fun g=>g=rb) x4 wr∧yH (b+1) l=yH (b+1) (l.drop kk)∧∃N',wr.heap[rb]? = some (ZJ N')∧N+1≤N'∧N'≤N+1+kI (l.take kk))) (fun i _=>l.length - (intOf i).toNat)
     case atStart=>exact⟨0,Nat.zero_le _,rfl,by show _∧_∧_;exact⟨Moved.refl _ _,by rw[List.drop_zero],N+1,HRB0.out,by omega,by simp[kI]⟩⟩
     case round=>
      obtain⟨kk,hkk,rfl,HQ⟩:=hrel
      have HMW:=zh (HM.out.trans HQ.out.1 (fun _ _ h=>h))
      have HGW:=zh (Moved.fresh HG.out HQ.out.1 (fun g e=>by subst e;exact hWrb))
      have HRTW:=zh (HQ.out.1.heap HRT0.out (fun e=>hne e.symm))
      obtain⟨N2,hN2,hN3,hN4⟩:=HQ.out.2.2
      have HRBW:=zh hN2
      clear hN2
      by_cases hlt:kk < l.length
      rotate_left
      ·have ek:kk=l.length:=by omega
       have HV:Hid (res=0):=by show _=_;rw[HRL2.out,HQ.out.2.1,ek,List.drop_length];rfl
       subst ek
       rw[List.take_length] at hN4
       clear hlt
       have e5:=jA HRTW.out 5 _ rfl
       go_wp2_with fail
       go_ret
       exact⟨by rw[HV.out];rfl,HMW.out,_,HRBW.out,by omega,by have:=HSZT.out;omega⟩
      obtain⟨x,hx⟩:∃x,l[kk]? = some x:=⟨_,List.getElem?_eq_getElem hlt⟩
      have HSTX:=zh (ZN (b:=b+1) hx)
      have hst:=ZO hx
      have HSTS:=zh hst
      obtain⟨xv,hxv,hnx⟩:=HKD.out.get hx
      have hxm:x∈l:=List.mem_of_getElem? hx
      have HXS:=zh (HSZ.out x hxm)
      obtain⟨kb,ko,rfl,hc6⟩:∃b off,a5=some ⟨b,off,none⟩∧kQ wr b (off+kk*6) xv:=by
       obtain⟨a,c,e,_,_,_,h⟩:=HRL.out
       injection e with e1 e2 e3
       subst e1
       obtain⟨b,off,e,h6⟩:=h kk xv hxv
       exact⟨b,off,e,h6.grew HGW.out⟩
      obtain⟨xk,xn,xu,xs,xa4,xn4,xc4,xa5,xn5,xc5,rfl⟩:=hnx.node6
      obtain⟨f0,f1,f2,f3,f4,f5⟩:=hc6.get
      have HNX:=zh hnx
      have yD:(kk:Int) < l.length:=by omega
      have hwb:IntKind.i64.wrap ((b:Int)+1)=((b+1:Nat):Int):=by rw[IntKind.wrap_i64];omega
      clear hc6 hx hxv hnx hxm hst
      have e5:=jA HRTW.out 5 _ rfl
      have zX:=HIH.out x HXS.out _ wr N2 (b+1) (by omega) (by have h1:=HSTS.out;have h2:=HN1.out;omega) (by omega) HNX.out HGW.out HRBW.out
      obtain⟨er,her⟩:∃e,z7 (b+1) x=e:=⟨_,rfl⟩
      rw[her] at zX HSTX
      have kA:=zh zX
      clear zX her
      go_wp2_with fail
      refine kA.out.mono ?_
      rintro r y5 ⟨rfl,hm5,N3,hr5,hN5,hN6⟩
      have HM5:=zh hm5
      have HR5:=zh hr5
      clear hm5 hr5 f0 f1 f2 f3 f4 f5 e5
      by_cases he:er=0
      ·have HNX2:Hid (yH (b+1) l=yH (b+1) (l.drop (kk+1))):=by show _=_;rw[HQ.out.2.1,HSTX.out,if_neg (fun h=>h he)]
       subst he
       go_wp2_with fail
       go_roundw
       case rel=>exact⟨kk+1,by omega,by go_num,by
        show _∧_∧_
        exact⟨HQ.out.1.trans HM5.out (fun _ _ h=>h),HNX2.out,N3,HR5.out,by omega,by have:=HSTS.out;omega⟩⟩
       case measure=>simp[intOf];omega
      ·have HV:Hid (res=er):=by show _=_;rw[HRL2.out,HQ.out.2.1,HSTX.out,if_pos he]
       have hbe:(er != 0)=true:=by simpa using he
       clear he
       go_wp2_with fail
       go_ret
       exact⟨by rw[HV.out];rfl,HMW.out.trans HM5.out (fun _ _ h=>h),_,HR5.out,by omega,by have h1:=HSTS.out;have h2:=HSZT.out;omega⟩
theorem ZP {b:Nat} {k n u:Int} {s:ByteArray} {keys:List ByteArray} {l:List Tr} (h:qG b (.mk k n u s keys l)) :
 (1≤k∧k≤17)∧(¬(k=2∨k=3∨k=8)→n=0)∧(¬(k=4∨k=9)→u=0)∧(¬(k=5∨k=6∨k=7)→s=⟨#[]⟩)∧(k≠17→keys=[])∧(k≤9→l=[])∧(k=17→keys.length=l.length):=by
 have hs:jJ (.mk k n u s keys l)=true:=h.2.1
 have hk:=JB hs
 have hl:∀x∈l,1≤x.kind:=fun x hx=>by
  have hx2:=valL_iff.1 h.2.2.2 x hx
  have:jJ x=true:=by cases x;exact hx2.2.1
  exact (JB this).1
 have h2:=hs
 simp only[jJ,Bool.and_eq_true,Bool.or_eq_true,decide_eq_true_eq] at h2
 obtain⟨⟨⟨⟨⟨⟨⟨⟨h1,hn⟩,hu⟩,hst⟩,hky⟩,_⟩,hmp⟩,_⟩,_⟩:=h2
 simp only[Tr.kind] at hk
 refine⟨hk,fun hh=>?_,fun hh=>?_,fun hh=>?_,fun hh=>?_,fun hh=>YI hs (by unfold jO;exact decide_eq_true ⟨hk.1,hh⟩) hl,fun hh=>by simpa [hh] using hmp⟩
 ·refine hn.resolve_left fun e=>?_
  unfold jK at e
  split at e
  ·exact hh (by assumption)
  ·repeat' split at e
   all_goals omega
 ·refine hu.resolve_left fun e=>?_
  unfold jK at e
  repeat' split at e
  all_goals first | omega | exact hh (by assumption)
 ·refine YF (hst.resolve_left fun e=>?_)
  unfold jK at e
  repeat' split at e
  all_goals first | omega | exact hh (by assumption)
 ·refine List.eq_nil_of_length_eq_zero (hky.resolve_left fun e=>?_)
  unfold jK at e
  repeat' split at e
  all_goals first | omega | exact hh (by assumption)
theorem k0 {w x1 wr:World} {N:Nat} {t:Tr} {v:Value} (hN:w.heap.size=N) (hx:N+2≤x1.heap.size) (h:jW wr x1.heap.size t v (jX x1 wr)) (hg:jC w wr) (a b c d e f:Value) :
 ∃v',Ending.returned v=.returned v'∧jW (jH wr (N+1) a b c d e f) w.heap.size t v' (jX w (jH wr (N+1) a b c d e f))∧jC w (jH wr (N+1) a b c d e f):=by
 have hT:Moved (fun k=>k=N+1) wr (jH wr (N+1) a b c d e f):=kC wr (N+1) a b c d e f
 have hs:=hT.size
 have hw:w.heap.size≤x1.heap.size:=by omega
 exact⟨v,rfl,((h.kept hT (fun g hS e=>by have:=hS.1;omega)).base hw).mono (fun g hS=>⟨by have:=hS.1;omega,by have:=hS.2;omega⟩),Moved.fresh hg hT (fun g e=>by omega)⟩
theorem own_map {w0 W w w':World} {ga:Option Addr} {m gc:Nat} {kv:Value} {ts:List Tr} {keys:List ByteArray} (h:zI (fun _=>False) W w (.slice ga m gc) ts) (hk:kD w' w.heap.size kv keys) (hg:jC w w') (hz:∀q∈keys,jI q.size) (h0:w0.heap.size≤W.heap.size) :
 jW w' w0.heap.size (.mk 17 0 0 ⟨#[]⟩ keys ts) (.agg #[.int .i64 17,.int .i64 0,.int .u64 0,.string ⟨#[]⟩,kv,.slice ga m gc]) (jX w0 w'):=by
 obtain⟨vs,S,h1,h2,h3,h4⟩:=h
 have hs:=h4.size
 have hs2:=hg.size
 simp only[jW]
 refine⟨⟨by unfold jQ;omega,by unfold jQ;omega,by unfold j9;omega,by unfold jI;decide,hz⟩,kv,_,vs,S,rfl,kX hk (by omega),⟨kX (h1.grew hg).1 h0,h1.2⟩,fun g hg'=>⟨?_,fun hs'=>?_⟩,fun g hg'=>⟨?_,fun hs'=>(h3 g hs').2.2 hg'⟩,fun g hg' hg2=>?_,fun g hg'=>?_,(h2.grew hg).base h0⟩
 ·have:=World.ownsRow.lt hk g hg';exact⟨by omega,this.2⟩
 ·have:=World.ownsRow.lt hk g hg';have:=h3 g hs';omega
 ·have:=World.ownsRow.lt h1.1 g hg';exact⟨by omega,by omega⟩
 ·have h5:=World.ownsRow.lt hk g hg';have h6:=World.ownsRow.lt h1.1 g hg2;omega
 ·have:=h3 g hg';exact⟨by omega,by omega⟩
theorem rof_any:∀(m:Nat) (t:Tr),t.size≤m→∀(b:Nat),qG b t→t.size≤4096→∀(v:Value) (w:World),jL w t v→Calls Try.prog 31 #[v] w fun r w'=>∃v',r=.returned v'∧jW w' w.heap.size (ofT t) v' (jX w w')∧jC w w':=by
 intro m
 induction m with
 | zero=>intro t ht;have:=t.size_pos;omega
 | succ m ih=>
  intro t hm b hv hfew v w hn
  obtain⟨k,n,u,s,keys,l⟩:=t
  have hvf:=ZP hv
  have hvl:=valL_iff.1 hv.2.2.2
  have HVL:=zh hvl
  obtain⟨hb,kv,lv,vs,rfl,hks,hrl,hkd⟩:=hn
  have hkl:=hkd.length
  have HKD:=zh hkd
  have HKS:=zh hks
  obtain⟨a4,c4,rfl,hk1,hk2,hk3,hkz⟩:=hks
  have HRL:=zh hrl
  obtain⟨a5,c5,rfl,hl1,hl2,hl3,hl4⟩:=hrl
  rw[hkl] at HRL hl1⊢
  have kV:l.length≤4096:=by have:=yM l;have:=hfew;simp only[Tr.size] at this;omega
  have HKL:Hid (k=17→keys.length≤1099511627776):=fun h=>by rw[hvf.2.2.2.2.2.2 h];omega
  have hlenk:keys.length≤9223372036854775807:=by unfold jI at hk2;omega
  have hlc:(l.length:Int)≤c5:=by omega
  have HSZ:Hid (∀x∈l,x.size≤m∧x.size≤4096):=fun x hx=>by have:=k9 hx;simp only[Tr.size] at hm hfew;omega
  have HVF:=zh hvf
  have HB:=zh hb
  have HKZ:Hid (∀q∈keys,jI q.size):=fun q hq=>by
   obtain⟨i,hi⟩:=List.getElem?_of_mem hq
   exact (hkz i q hi).1
  clear hk1 hk2 hk3 hkz hl1 hl2 hl3 hl4 hkl hkd hv hvl hvf hb hm hfew
  obtain⟨hk1,hk17⟩:=HVF.out.1
  have hrt:=heap_alloc_new w (.cells #[.int .i64 k,.int .i64 n,.int .u64 u,.string s,.slice a4 keys.length c4,.slice a5 l.length c5] 26)
  have hga:=(jC.refl w).alloc (.cells #[.int .i64 k,.int .i64 n,.int .u64 u,.string s,.slice a4 keys.length c4,.slice a5 l.length c5] 26)
  have hz1:(w.alloc (.cells #[.int .i64 k,.int .i64 n,.int .u64 u,.string s,.slice a4 keys.length c4,.slice a5 l.length c5] 26)).heap.size=w.heap.size+1:=World.size_alloc _ _
  go_enter Try.func31,Try.ntmps31
  go_upto_region 1 with fail
  obtain⟨pr,hpr⟩:∃N,w.heap.size=N:=⟨_,rfl⟩
  generalize (w.alloc (.cells #[.int .i64 k,.int .i64 n,.int .u64 u,.string s,.slice a4 keys.length c4,.slice a5 l.length c5] 26))=x0 at *
  rw[hpr] at hrt hz1
  try rw[hpr]
  have HPR:=zh hpr
  have hro:=heap_alloc_new x0 (.cells #[.int .i64 0,.int .i64 0,.int .u64 0,.string ⟨#[]⟩,.slice none 0 0,.slice none 0 0] 26)
  have hgb:=(jC.refl x0).alloc (.cells #[.int .i64 0,.int .i64 0,.int .u64 0,.string ⟨#[]⟩,.slice none 0 0,.slice none 0 0] 26)
  have hz2:(x0.alloc (.cells #[.int .i64 0,.int .i64 0,.int .u64 0,.string ⟨#[]⟩,.slice none 0 0,.slice none 0 0] 26)).heap.size=pr+2:=by rw[World.size_alloc,hz1]
  rw[hz1] at hro
  generalize (x0.alloc (.cells #[.int .i64 0,.int .i64 0,.int .u64 0,.string ⟨#[]⟩,.slice none 0 0,.slice none 0 0] 26))=x1 at *
  try rw[hz1]
  have HRT:=zh (hgb.heap hrt)
  have HRO:=zh hro
  have HG:=zh (hga.trans hgb)
  have HZ2:Hid (pr+2≤x1.heap.size):=Nat.le_of_eq hz2.symm
  clear hrt hro hga hgb hz1 hz2 hpr
  go_wp2_with fail
  go_loopw [3,4] (fun v i wr=>∃kk:Nat,kk≤l.length∧i=.int .i64 kk∧Hid (zI (fun _=>False) x1 wr v ((l.take kk).map ofT))) (fun _ i _=>l.length - (intOf i).toNat)
  case atStart=>exact⟨0,Nat.zero_le _,rfl,by show zI _ _ _ _ _;exact zI.start _ _⟩
  case round=>
   obtain⟨kk,hkk,rfl,HW⟩:=hrel
   have hgw:jC x1 wr:=by obtain⟨_,_,_,_,_,hm⟩:=HW.out;exact Moved.fresh (jC.refl _) hm (fun g h=>h.elim)
   have HGW:=zh hgw
   have HRTW:=zh (hgw.heap HRT.out)
   have kJ:=zh (hgw.heap HRO.out)
   clear hgw
   have HGA:=zh (HG.out.trans HGW.out)
   by_cases hlt:kk < l.length
   ·obtain⟨x,hx⟩:∃x,l[kk]? = some x:=⟨_,List.getElem?_eq_getElem hlt⟩
    obtain⟨xv,hxv,hnx⟩:=HKD.out.get hx
    have hxm:x∈l:=List.mem_of_getElem? hx
    have HX:=zh (show (l.take kk).map ofT++[ofT x]=(l.take (kk+1)).map ofT by rw[List.take_add_one,hx];simp)
    have HXS:=zh (HSZ.out x hxm)
    have HXV:=zh (HVL.out x hxm)
    obtain⟨kb,ko,rfl,hc6⟩:∃b off,a5=some ⟨b,off,none⟩∧kQ wr b (off+kk*6) xv:=by
     obtain⟨a,c,e,_,_,_,h⟩:=HRL.out
     injection e with e1 e2 e3
     subst e1
     obtain⟨b,off,e,h6⟩:=h kk xv hxv
     exact⟨b,off,e,h6.grew HGA.out⟩
    obtain⟨xk,xn,xu,xs,xa4,xn4,xc4,xa5,xn5,xc5,rfl⟩:=hnx.node6
    obtain⟨f0,f1,f2,f3,f4,f5⟩:=hc6.get
    have HNX:=zh (hnx.grew HGA.out)
    have e5:=jA HRTW.out 5 _ rfl
    have yD:(kk:Int) < l.length:=by omega
    clear hc6 hx hxv hnx hxm
    go_wp2_with fail
    refine (ih x HXS.out.1 _ HXV.out HXS.out.2 _ wr HNX.out).mono ?_
    rintro r w4 ⟨xv,rfl,hox,hg4⟩
    clear f0 f1 f2 f3 f4 f5 e5
    obtain⟨yk,yn,yu,ys,ya4,yn4,yc4,ya5,yn5,yc5,rfl⟩:=hox.node6
    have HOX:=zh hox
    have HG4:=zh hg4
    obtain⟨vs4,S4,q1,q2,q3,q4⟩:=HW.out
    obtain⟨ga,gc,rfl,hz1,hz2,hz3⟩:=HW.out.form
    have HV4:Hid (vs4.length≤4096):=by show _≤_;rw[q2.length,List.length_map,List.length_take];omega
    have HQ1:=zh q1
    have HQ2:=zh q2
    have HQ3:=zh q3
    have HQ4:=zh q4
    have HON:Hid (∀o,kK (w4.alloc o) x1.heap.size (.slice ga ((l.take kk).map ofT).length gc) vs4):=fun o=>(q1.grew hg4).grew ((jC.refl _).alloc o)
    have HSZ4:Hid (∀o,x1.heap.size≤(w4.alloc o).heap.size):=fun o=>Nat.le_trans (Nat.le_trans HGW.out.size hg4.size) ((jC.refl w4).alloc o).size
    clear q1 q2 q3 q4 hz1 hz2 hz3 hox hg4 HW
    generalize (l.take kk).map ofT=L at *
    go_wp2_with (at_builtin;refine zL rfl _ _ rfl x1.heap.size _ vs4 rfl (HON.out _) _ _ (.agg #[.int .i64 yk,.int .i64 yn,.int .u64 yu,.string ys,.slice ya4 yn4 yc4,.slice ya5 yn5 yc5]) rfl (heap_alloc_new _ _) ⟨_,_,_,_,_,_,_,_,_,_,rfl⟩ (by have:=HV4.out;omega) (HSZ4.out _) ?_;intro v' w5 kE hgr hnx;obtain⟨va2,vc2,rfl,hz1,hz2,hz3⟩:=jT kE.1;have HG5:=zh (zI.step (R:=fun _=>False) (fun g h=>h.elim) vs4 S4 HQ2.out HQ1.out HQ3.out HQ4.out HOX.out (Moved.of_grew HG4.out) _ kE hgr hnx);clear kE hgr hnx hz1 hz2 hz3)
    go_roundw
    case rel=>
     refine⟨kk+1,by omega,by go_num,?_⟩
     show zI _ _ _ _ _
     rw[← HX.out]
     have hh:=HG5.out
     rw[List.length_append] at hh
     exact hh
    case measure=>simp[intOf];omega
   ·have ek:kk=l.length:=by omega
    subst ek
    have hw:=HW.out
    rw[List.take_length,← JM] at hw
    have HE:=zh hw
    obtain⟨ga,gc,rfl,hz1,hz2,hz3⟩:=HE.out.form
    rw[ofL_len] at HE⊢
    clear hw HW hz1 hz2 hz3 hlt
    have d0:=jA HRTW.out 0 _ rfl
    have d1:=jA HRTW.out 1 _ rfl
    have d2:=jA HRTW.out 2 _ rfl
    have d3:=jA HRTW.out 3 _ rfl
    have d4:=jA HRTW.out 4 _ rfl
    have d5:=jA HRTW.out 5 _ rfl
    clear HRTW
    have HTREE:Hid (∀(k2 n2 u2:Int) (s2:ByteArray),jQ k2∧jQ n2∧j9 u2∧jI s2.size→jW wr x1.heap.size (.mk k2 n2 u2 s2 [] (ofL l)) (.agg #[.int .i64 k2,.int .i64 n2,.int .u64 u2,.string s2,.slice none 0 0,.slice ga l.length gc]) (jX x1 wr)):=fun k2 n2 u2 s2 hb=>HE.out.tree ⟨hb.1,hb.2.1,hb.2.2.1,hb.2.2.2,fun _ h=>by cases h⟩ (Nat.le_refl _) (kD.nil _ _) (fun g h=>by cases h)
    have HLEAF:Hid (∀(k2 n2 u2:Int) (s2:ByteArray),jQ k2∧jQ n2∧j9 u2∧jI s2.size→jW wr x1.heap.size (.mk k2 n2 u2 s2 [] []) (.agg #[.int .i64 k2,.int .i64 n2,.int .u64 u2,.string s2,.slice none 0 0,.slice none 0 0]) (jX x1 wr)):=fun k2 n2 u2 s2 hb=>jW.mono (S:=fun _=>False) ⟨⟨hb.1,hb.2.1,hb.2.2.1,hb.2.2.2,fun _ h=>by cases h⟩,_,_,[],fun _=>False,rfl,kD.nil _ _,kK.nil _ _,fun g h=>(by cases h),fun g h=>(by cases h),fun g h=>(by cases h),fun g h=>h,rfl⟩ (fun _ h=>h.elim)
    have z0:=jA kJ.out 0 _ rfl
    have z1:=jA kJ.out 1 _ rfl
    have z2:=jA kJ.out 2 _ rfl
    have z3:=jA kJ.out 3 _ rfl
    have z4:=jA kJ.out 4 _ rfl
    have z5:=jA kJ.out 5 _ rfl
    have q0:=jB kJ.out 0
    have q1:=jB kJ.out 1
    have q2:=jB kJ.out 2
    have q3:=jB kJ.out 3
    have q4:=jB kJ.out 4
    have q5:=jB kJ.out 5
    obtain⟨hbk,hbn,hbu,hbs⟩:=HB.out
    have HBN:=zh hbn
    have HBU:=zh hbu
    have HBS:=zh hbs
    have hu0:0≤u∧u≤18446744073709551615:=hbu
    clear hbk hbn hbu hbs
    obtain⟨_,hn0,hu00,hs0,hky0,hl0,hkl0⟩:=HVF.out
    have HF:=zh (And.intro hn0 (And.intro hu00 (And.intro hs0 (And.intro hky0 hl0))))
    clear hn0 hu00 hs0 hky0 hl0 hkl0
    rcases Y5 k hk1 hk17 with rfl|rfl|rfl|rfl|rfl|rfl|rfl|rfl|rfl|rfl|rfl|rfl|rfl|rfl|rfl|rfl|rfl
    ·have hl0:l=[]:=HF.out.2.2.2.2 (by omega)
     have hk0:keys=[]:=HF.out.2.2.2.1 (by decide)
     have hn0:n=0:=HF.out.1 (by decide)
     have hu00:u=0:=HF.out.2.1 (by decide)
     have hs0:s=⟨#[]⟩:=HF.out.2.2.1 (by decide)
     subst hn0
     subst hs0
     go_wp2_with fail
     refine (j5 1 _).mono ?_
     rw[show jO 1=true by decide]
     rintro r w9 ⟨rfl,hw9⟩
     obtain rfl:wr=w9:=hw9.symm
     have HT:Hid (ofT (.mk 1 0 u ⟨#[]⟩ keys l)=.mk 1 0 0 ⟨#[]⟩ [] []):=by show _=_;rw[hl0,hk0,hu00];rfl
     clear hl0 hk0 hu00
     have HFN:Hid (∃v',Ending.returned (.agg #[.int .i64 1,.int .i64 0,.int .u64 0,.string ⟨#[]⟩,.slice none 0 0,.slice none 0 0])=.returned v'∧jW (jH wr (pr+1) (.int .i64 1) (.int .i64 0) (.int .u64 0) (.string ⟨#[]⟩) (.slice none 0 0) (.slice none 0 0)) w.heap.size (ofT (.mk 1 0 u ⟨#[]⟩ keys l)) v' (jX w (jH wr (pr+1) (.int .i64 1) (.int .i64 0) (.int .u64 0) (.string ⟨#[]⟩) (.slice none 0 0) (.slice none 0 0)))∧jC w (jH wr (pr+1) (.int .i64 1) (.int .i64 0) (.int .u64 0) (.string ⟨#[]⟩) (.slice none 0 0) (.slice none 0 0))):=by rw[HT.out];exact k0 HPR.out HZ2.out (HLEAF.out 1 (0) 0 (⟨#[]⟩) ⟨by unfold jQ;omega,by unfold jQ;omega,by unfold j9;omega,by unfold jI;decide⟩) HGA.out _ _ _ _ _ _
     go_wp2_with fail
     refine bodyPost_ret (v:=.agg #[.int .i64 1,.int .i64 0,.int .u64 0,.string ⟨#[]⟩,.slice none 0 0,.slice none 0 0]) (by simp[results,Try.results31,go_sem,z0,z1,z2,z3,z4,z5]) rfl ?_
     exact HFN.out
    ·have hl0:l=[]:=HF.out.2.2.2.2 (by omega)
     have hk0:keys=[]:=HF.out.2.2.2.1 (by decide)
     have hu00:u=0:=HF.out.2.1 (by decide)
     have hs0:s=⟨#[]⟩:=HF.out.2.2.1 (by decide)
     subst hs0
     go_wp2_with fail
     refine (j5 2 _).mono ?_
     rw[show jO 2=true by decide]
     rintro r w9 ⟨rfl,hw9⟩
     obtain rfl:wr=w9:=hw9.symm
     have HT:Hid (ofT (.mk 2 n u ⟨#[]⟩ keys l)=.mk 2 n 0 ⟨#[]⟩ [] []):=by show _=_;rw[hl0,hk0,hu00];rfl
     clear hl0 hk0 hu00
     have HFN:Hid (∃v',Ending.returned (.agg #[.int .i64 2,.int .i64 n,.int .u64 0,.string ⟨#[]⟩,.slice none 0 0,.slice none 0 0])=.returned v'∧jW (jH wr (pr+1) (.int .i64 2) (.int .i64 n) (.int .u64 0) (.string ⟨#[]⟩) (.slice none 0 0) (.slice none 0 0)) w.heap.size (ofT (.mk 2 n u ⟨#[]⟩ keys l)) v' (jX w (jH wr (pr+1) (.int .i64 2) (.int .i64 n) (.int .u64 0) (.string ⟨#[]⟩) (.slice none 0 0) (.slice none 0 0)))∧jC w (jH wr (pr+1) (.int .i64 2) (.int .i64 n) (.int .u64 0) (.string ⟨#[]⟩) (.slice none 0 0) (.slice none 0 0))):=by rw[HT.out];exact k0 HPR.out HZ2.out (HLEAF.out 2 (n) 0 (⟨#[]⟩) ⟨by unfold jQ;omega,HBN.out,by unfold j9;omega,by unfold jI;decide⟩) HGA.out _ _ _ _ _ _
     go_wp2_with fail
     refine bodyPost_ret (v:=.agg #[.int .i64 2,.int .i64 n,.int .u64 0,.string ⟨#[]⟩,.slice none 0 0,.slice none 0 0]) (by simp[results,Try.results31,go_sem,z0,z1,z2,z3,z4,z5]) rfl ?_
     exact HFN.out
    ·have hl0:l=[]:=HF.out.2.2.2.2 (by omega)
     have hk0:keys=[]:=HF.out.2.2.2.1 (by decide)
     have hu00:u=0:=HF.out.2.1 (by decide)
     have hs0:s=⟨#[]⟩:=HF.out.2.2.1 (by decide)
     subst hs0
     go_wp2_with fail
     refine (j5 3 _).mono ?_
     rw[show jO 3=true by decide]
     rintro r w9 ⟨rfl,hw9⟩
     obtain rfl:wr=w9:=hw9.symm
     have HT:Hid (ofT (.mk 3 n u ⟨#[]⟩ keys l)=.mk 3 n 0 ⟨#[]⟩ [] []):=by show _=_;rw[hl0,hk0,hu00];rfl
     clear hl0 hk0 hu00
     have HFN:Hid (∃v',Ending.returned (.agg #[.int .i64 3,.int .i64 n,.int .u64 0,.string ⟨#[]⟩,.slice none 0 0,.slice none 0 0])=.returned v'∧jW (jH wr (pr+1) (.int .i64 3) (.int .i64 n) (.int .u64 0) (.string ⟨#[]⟩) (.slice none 0 0) (.slice none 0 0)) w.heap.size (ofT (.mk 3 n u ⟨#[]⟩ keys l)) v' (jX w (jH wr (pr+1) (.int .i64 3) (.int .i64 n) (.int .u64 0) (.string ⟨#[]⟩) (.slice none 0 0) (.slice none 0 0)))∧jC w (jH wr (pr+1) (.int .i64 3) (.int .i64 n) (.int .u64 0) (.string ⟨#[]⟩) (.slice none 0 0) (.slice none 0 0))):=by rw[HT.out];exact k0 HPR.out HZ2.out (HLEAF.out 3 (n) 0 (⟨#[]⟩) ⟨by unfold jQ;omega,HBN.out,by unfold j9;omega,by unfold jI;decide⟩) HGA.out _ _ _ _ _ _
     go_wp2_with fail
     refine bodyPost_ret (v:=.agg #[.int .i64 3,.int .i64 n,.int .u64 0,.string ⟨#[]⟩,.slice none 0 0,.slice none 0 0]) (by simp[results,Try.results31,go_sem,z0,z1,z2,z3,z4,z5]) rfl ?_
     exact HFN.out
    ·by_cases hlt:u < 9223372036854775808
     ·have hl0:l=[]:=HF.out.2.2.2.2 (by omega)
      have hk0:keys=[]:=HF.out.2.2.2.1 (by decide)
      have hn0:n=0:=HF.out.1 (by decide)
      have hs0:s=⟨#[]⟩:=HF.out.2.2.1 (by decide)
      have HT:Hid (ofT (.mk 4 n u s keys l)=.mk 3 u 0 ⟨#[]⟩ [] []):=by show _=_;simp[ofT,zO,hlt]
      clear hl0 hk0 hn0 hs0
      have hwu:IntKind.i64.wrap u=u:=by rw[IntKind.wrap_i64];omega
      have HFN:Hid (∃v',Ending.returned (.agg #[.int .i64 3,.int .i64 u,.int .u64 0,.string ⟨#[]⟩,.slice none 0 0,.slice none 0 0])=.returned v'∧jW (jH wr (pr+1) (.int .i64 3) (.int .i64 u) (.int .u64 0) (.string ⟨#[]⟩) (.slice none 0 0) (.slice none 0 0)) w.heap.size (ofT (.mk 4 n u s keys l)) v' (jX w (jH wr (pr+1) (.int .i64 3) (.int .i64 u) (.int .u64 0) (.string ⟨#[]⟩) (.slice none 0 0) (.slice none 0 0)))∧jC w (jH wr (pr+1) (.int .i64 3) (.int .i64 u) (.int .u64 0) (.string ⟨#[]⟩) (.slice none 0 0) (.slice none 0 0))):=by rw[HT.out];exact k0 HPR.out HZ2.out (HLEAF.out 3 u 0 ⟨#[]⟩ ⟨by unfold jQ;omega,by unfold jQ;omega,by unfold j9;omega,by unfold jI;decide⟩) HGA.out _ _ _ _ _ _
      go_wp2_with fail
      refine bodyPost_ret (v:=.agg #[.int .i64 3,.int .i64 u,.int .u64 0,.string ⟨#[]⟩,.slice none 0 0,.slice none 0 0]) (by simp[results,Try.results31,go_sem,z0,z1,z2,z3,z4,z5]) rfl ?_
      exact HFN.out
     ·have hl0:l=[]:=HF.out.2.2.2.2 (by omega)
      have hk0:keys=[]:=HF.out.2.2.2.1 (by decide)
      have hn0:n=0:=HF.out.1 (by decide)
      have hs0:s=⟨#[]⟩:=HF.out.2.2.1 (by decide)
      have HT:Hid (ofT (.mk 4 n u s keys l)=.mk 4 0 u ⟨#[]⟩ [] []):=by show _=_;simp[ofT,zO,hlt]
      clear hl0 hk0 hn0 hs0
      have HFN:Hid (∃v',Ending.returned (.agg #[.int .i64 4,.int .i64 0,.int .u64 u,.string ⟨#[]⟩,.slice none 0 0,.slice none 0 0])=.returned v'∧jW (jH wr (pr+1) (.int .i64 4) (.int .i64 0) (.int .u64 u) (.string ⟨#[]⟩) (.slice none 0 0) (.slice none 0 0)) w.heap.size (ofT (.mk 4 n u s keys l)) v' (jX w (jH wr (pr+1) (.int .i64 4) (.int .i64 0) (.int .u64 u) (.string ⟨#[]⟩) (.slice none 0 0) (.slice none 0 0)))∧jC w (jH wr (pr+1) (.int .i64 4) (.int .i64 0) (.int .u64 u) (.string ⟨#[]⟩) (.slice none 0 0) (.slice none 0 0))):=by rw[HT.out];exact k0 HPR.out HZ2.out (HLEAF.out 4 0 u ⟨#[]⟩ ⟨by unfold jQ;omega,by unfold jQ;omega,HBU.out,by unfold jI;decide⟩) HGA.out _ _ _ _ _ _
      go_wp2_with fail
      refine bodyPost_ret (v:=.agg #[.int .i64 4,.int .i64 0,.int .u64 u,.string ⟨#[]⟩,.slice none 0 0,.slice none 0 0]) (by simp[results,Try.results31,go_sem,z0,z1,z2,z3,z4,z5]) rfl ?_
      exact HFN.out
    ·have hl0:l=[]:=HF.out.2.2.2.2 (by omega)
     have hk0:keys=[]:=HF.out.2.2.2.1 (by decide)
     have hn0:n=0:=HF.out.1 (by decide)
     have hu00:u=0:=HF.out.2.1 (by decide)
     subst hn0
     have HT:Hid (ofT (.mk 5 0 u s keys l)=.mk 6 0 0 s [] []):=by show _=_;rw[hl0,hk0,hu00];rfl
     clear hl0 hk0 hu00
     have HFN:Hid (∃v',Ending.returned (.agg #[.int .i64 6,.int .i64 0,.int .u64 0,.string s,.slice none 0 0,.slice none 0 0])=.returned v'∧jW (jH wr (pr+1) (.int .i64 6) (.int .i64 0) (.int .u64 0) (.string s) (.slice none 0 0) (.slice none 0 0)) w.heap.size (ofT (.mk 5 0 u s keys l)) v' (jX w (jH wr (pr+1) (.int .i64 6) (.int .i64 0) (.int .u64 0) (.string s) (.slice none 0 0) (.slice none 0 0)))∧jC w (jH wr (pr+1) (.int .i64 6) (.int .i64 0) (.int .u64 0) (.string s) (.slice none 0 0) (.slice none 0 0))):=by rw[HT.out];exact k0 HPR.out HZ2.out (HLEAF.out 6 (0) 0 (s) ⟨by unfold jQ;omega,by unfold jQ;omega,by unfold j9;omega,HBS.out⟩) HGA.out _ _ _ _ _ _
     go_wp2_with fail
     refine bodyPost_ret (v:=.agg #[.int .i64 6,.int .i64 0,.int .u64 0,.string s,.slice none 0 0,.slice none 0 0]) (by simp[results,Try.results31,go_sem,z0,z1,z2,z3,z4,z5]) rfl ?_
     exact HFN.out
    ·have hl0:l=[]:=HF.out.2.2.2.2 (by omega)
     have hk0:keys=[]:=HF.out.2.2.2.1 (by decide)
     have hn0:n=0:=HF.out.1 (by decide)
     have hu00:u=0:=HF.out.2.1 (by decide)
     subst hn0
     go_wp2_with fail
     refine (j5 6 _).mono ?_
     rw[show jO 6=true by decide]
     rintro r w9 ⟨rfl,hw9⟩
     obtain rfl:wr=w9:=hw9.symm
     have HT:Hid (ofT (.mk 6 0 u s keys l)=.mk 6 0 0 s [] []):=by show _=_;rw[hl0,hk0,hu00];rfl
     clear hl0 hk0 hu00
     have HFN:Hid (∃v',Ending.returned (.agg #[.int .i64 6,.int .i64 0,.int .u64 0,.string s,.slice none 0 0,.slice none 0 0])=.returned v'∧jW (jH wr (pr+1) (.int .i64 6) (.int .i64 0) (.int .u64 0) (.string s) (.slice none 0 0) (.slice none 0 0)) w.heap.size (ofT (.mk 6 0 u s keys l)) v' (jX w (jH wr (pr+1) (.int .i64 6) (.int .i64 0) (.int .u64 0) (.string s) (.slice none 0 0) (.slice none 0 0)))∧jC w (jH wr (pr+1) (.int .i64 6) (.int .i64 0) (.int .u64 0) (.string s) (.slice none 0 0) (.slice none 0 0))):=by rw[HT.out];exact k0 HPR.out HZ2.out (HLEAF.out 6 (0) 0 (s) ⟨by unfold jQ;omega,by unfold jQ;omega,by unfold j9;omega,HBS.out⟩) HGA.out _ _ _ _ _ _
     go_wp2_with fail
     refine bodyPost_ret (v:=.agg #[.int .i64 6,.int .i64 0,.int .u64 0,.string s,.slice none 0 0,.slice none 0 0]) (by simp[results,Try.results31,go_sem,z0,z1,z2,z3,z4,z5]) rfl ?_
     exact HFN.out
    ·have hl0:l=[]:=HF.out.2.2.2.2 (by omega)
     have hk0:keys=[]:=HF.out.2.2.2.1 (by decide)
     have hn0:n=0:=HF.out.1 (by decide)
     have hu00:u=0:=HF.out.2.1 (by decide)
     subst hn0
     go_wp2_with fail
     refine (j5 7 _).mono ?_
     rw[show jO 7=true by decide]
     rintro r w9 ⟨rfl,hw9⟩
     obtain rfl:wr=w9:=hw9.symm
     have HT:Hid (ofT (.mk 7 0 u s keys l)=.mk 7 0 0 s [] []):=by show _=_;rw[hl0,hk0,hu00];rfl
     clear hl0 hk0 hu00
     have HFN:Hid (∃v',Ending.returned (.agg #[.int .i64 7,.int .i64 0,.int .u64 0,.string s,.slice none 0 0,.slice none 0 0])=.returned v'∧jW (jH wr (pr+1) (.int .i64 7) (.int .i64 0) (.int .u64 0) (.string s) (.slice none 0 0) (.slice none 0 0)) w.heap.size (ofT (.mk 7 0 u s keys l)) v' (jX w (jH wr (pr+1) (.int .i64 7) (.int .i64 0) (.int .u64 0) (.string s) (.slice none 0 0) (.slice none 0 0)))∧jC w (jH wr (pr+1) (.int .i64 7) (.int .i64 0) (.int .u64 0) (.string s) (.slice none 0 0) (.slice none 0 0))):=by rw[HT.out];exact k0 HPR.out HZ2.out (HLEAF.out 7 (0) 0 (s) ⟨by unfold jQ;omega,by unfold jQ;omega,by unfold j9;omega,HBS.out⟩) HGA.out _ _ _ _ _ _
     go_wp2_with fail
     refine bodyPost_ret (v:=.agg #[.int .i64 7,.int .i64 0,.int .u64 0,.string s,.slice none 0 0,.slice none 0 0]) (by simp[results,Try.results31,go_sem,z0,z1,z2,z3,z4,z5]) rfl ?_
     exact HFN.out
    ·have hl0:l=[]:=HF.out.2.2.2.2 (by omega)
     have hk0:keys=[]:=HF.out.2.2.2.1 (by decide)
     have hu00:u=0:=HF.out.2.1 (by decide)
     have hs0:s=⟨#[]⟩:=HF.out.2.2.1 (by decide)
     subst hs0
     have HT:Hid (ofT (.mk 8 n u ⟨#[]⟩ keys l)=.mk 3 n 0 ⟨#[]⟩ [] []):=by show _=_;rw[hl0,hk0,hu00];rfl
     clear hl0 hk0 hu00
     have HFN:Hid (∃v',Ending.returned (.agg #[.int .i64 3,.int .i64 n,.int .u64 0,.string ⟨#[]⟩,.slice none 0 0,.slice none 0 0])=.returned v'∧jW (jH wr (pr+1) (.int .i64 3) (.int .i64 n) (.int .u64 0) (.string ⟨#[]⟩) (.slice none 0 0) (.slice none 0 0)) w.heap.size (ofT (.mk 8 n u ⟨#[]⟩ keys l)) v' (jX w (jH wr (pr+1) (.int .i64 3) (.int .i64 n) (.int .u64 0) (.string ⟨#[]⟩) (.slice none 0 0) (.slice none 0 0)))∧jC w (jH wr (pr+1) (.int .i64 3) (.int .i64 n) (.int .u64 0) (.string ⟨#[]⟩) (.slice none 0 0) (.slice none 0 0))):=by rw[HT.out];exact k0 HPR.out HZ2.out (HLEAF.out 3 (n) 0 (⟨#[]⟩) ⟨by unfold jQ;omega,HBN.out,by unfold j9;omega,by unfold jI;decide⟩) HGA.out _ _ _ _ _ _
     go_wp2_with fail
     refine bodyPost_ret (v:=.agg #[.int .i64 3,.int .i64 n,.int .u64 0,.string ⟨#[]⟩,.slice none 0 0,.slice none 0 0]) (by simp[results,Try.results31,go_sem,z0,z1,z2,z3,z4,z5]) rfl ?_
     exact HFN.out
    ·by_cases hlt:u < 9223372036854775808
     ·have hl0:l=[]:=HF.out.2.2.2.2 (by omega)
      have hk0:keys=[]:=HF.out.2.2.2.1 (by decide)
      have hn0:n=0:=HF.out.1 (by decide)
      have hs0:s=⟨#[]⟩:=HF.out.2.2.1 (by decide)
      have HT:Hid (ofT (.mk 9 n u s keys l)=.mk 3 u 0 ⟨#[]⟩ [] []):=by show _=_;simp[ofT,zO,hlt]
      clear hl0 hk0 hn0 hs0
      have hwu:IntKind.i64.wrap u=u:=by rw[IntKind.wrap_i64];omega
      have HFN:Hid (∃v',Ending.returned (.agg #[.int .i64 3,.int .i64 u,.int .u64 0,.string ⟨#[]⟩,.slice none 0 0,.slice none 0 0])=.returned v'∧jW (jH wr (pr+1) (.int .i64 3) (.int .i64 u) (.int .u64 0) (.string ⟨#[]⟩) (.slice none 0 0) (.slice none 0 0)) w.heap.size (ofT (.mk 9 n u s keys l)) v' (jX w (jH wr (pr+1) (.int .i64 3) (.int .i64 u) (.int .u64 0) (.string ⟨#[]⟩) (.slice none 0 0) (.slice none 0 0)))∧jC w (jH wr (pr+1) (.int .i64 3) (.int .i64 u) (.int .u64 0) (.string ⟨#[]⟩) (.slice none 0 0) (.slice none 0 0))):=by rw[HT.out];exact k0 HPR.out HZ2.out (HLEAF.out 3 u 0 ⟨#[]⟩ ⟨by unfold jQ;omega,by unfold jQ;omega,by unfold j9;omega,by unfold jI;decide⟩) HGA.out _ _ _ _ _ _
      go_wp2_with fail
      refine bodyPost_ret (v:=.agg #[.int .i64 3,.int .i64 u,.int .u64 0,.string ⟨#[]⟩,.slice none 0 0,.slice none 0 0]) (by simp[results,Try.results31,go_sem,z0,z1,z2,z3,z4,z5]) rfl ?_
      exact HFN.out
     ·have hl0:l=[]:=HF.out.2.2.2.2 (by omega)
      have hk0:keys=[]:=HF.out.2.2.2.1 (by decide)
      have hn0:n=0:=HF.out.1 (by decide)
      have hs0:s=⟨#[]⟩:=HF.out.2.2.1 (by decide)
      have HT:Hid (ofT (.mk 9 n u s keys l)=.mk 4 0 u ⟨#[]⟩ [] []):=by show _=_;simp[ofT,zO,hlt]
      clear hl0 hk0 hn0 hs0
      have HFN:Hid (∃v',Ending.returned (.agg #[.int .i64 4,.int .i64 0,.int .u64 u,.string ⟨#[]⟩,.slice none 0 0,.slice none 0 0])=.returned v'∧jW (jH wr (pr+1) (.int .i64 4) (.int .i64 0) (.int .u64 u) (.string ⟨#[]⟩) (.slice none 0 0) (.slice none 0 0)) w.heap.size (ofT (.mk 9 n u s keys l)) v' (jX w (jH wr (pr+1) (.int .i64 4) (.int .i64 0) (.int .u64 u) (.string ⟨#[]⟩) (.slice none 0 0) (.slice none 0 0)))∧jC w (jH wr (pr+1) (.int .i64 4) (.int .i64 0) (.int .u64 u) (.string ⟨#[]⟩) (.slice none 0 0) (.slice none 0 0))):=by rw[HT.out];exact k0 HPR.out HZ2.out (HLEAF.out 4 0 u ⟨#[]⟩ ⟨by unfold jQ;omega,by unfold jQ;omega,HBU.out,by unfold jI;decide⟩) HGA.out _ _ _ _ _ _
      go_wp2_with fail
      refine bodyPost_ret (v:=.agg #[.int .i64 4,.int .i64 0,.int .u64 u,.string ⟨#[]⟩,.slice none 0 0,.slice none 0 0]) (by simp[results,Try.results31,go_sem,z0,z1,z2,z3,z4,z5]) rfl ?_
      exact HFN.out
    ·have hk0:keys=[]:=HF.out.2.2.2.1 (by decide)
     have hn0:n=0:=HF.out.1 (by decide)
     have hu00:u=0:=HF.out.2.1 (by decide)
     have hs0:s=⟨#[]⟩:=HF.out.2.2.1 (by decide)
     have HT:Hid (ofT (.mk 10 n u s keys l)=.mk 10 0 0 ⟨#[]⟩ [] (ofL l)):=by show _=_;rw[hk0,hn0,hu00,hs0];simp[ofT,zO]
     clear hk0 hn0 hu00 hs0
     go_wp2_with fail
     refine (j5 10 _).mono ?_
     rw[show jO 10=false by decide]
     rintro r w9 ⟨rfl,hw9⟩
     obtain rfl:wr=w9:=hw9.symm
     have HFN:Hid (∃v',Ending.returned (.agg #[.int .i64 10,.int .i64 0,.int .u64 0,.string ⟨#[]⟩,.slice none 0 0,.slice ga l.length gc])=.returned v'∧jW (jH wr (pr+1) (.int .i64 10) (.int .i64 0) (.int .u64 0) (.string ⟨#[]⟩) (.slice none 0 0) (.slice ga l.length gc)) w.heap.size (ofT (.mk 10 n u s keys l)) v' (jX w (jH wr (pr+1) (.int .i64 10) (.int .i64 0) (.int .u64 0) (.string ⟨#[]⟩) (.slice none 0 0) (.slice ga l.length gc)))∧jC w (jH wr (pr+1) (.int .i64 10) (.int .i64 0) (.int .u64 0) (.string ⟨#[]⟩) (.slice none 0 0) (.slice ga l.length gc))):=by rw[HT.out];exact k0 HPR.out HZ2.out (HTREE.out 10 0 0 ⟨#[]⟩ ⟨by unfold jQ;omega,by unfold jQ;omega,by unfold j9;omega,by unfold jI;decide⟩) HGA.out _ _ _ _ _ _
     go_wp2_with fail
     refine bodyPost_ret (v:=.agg #[.int .i64 10,.int .i64 0,.int .u64 0,.string ⟨#[]⟩,.slice none 0 0,.slice ga l.length gc]) (by simp[results,Try.results31,go_sem,z0,z1,z2,z3,z4,z5]) rfl ?_
     exact HFN.out
    ·have hk0:keys=[]:=HF.out.2.2.2.1 (by decide)
     have hn0:n=0:=HF.out.1 (by decide)
     have hu00:u=0:=HF.out.2.1 (by decide)
     have hs0:s=⟨#[]⟩:=HF.out.2.2.1 (by decide)
     have HT:Hid (ofT (.mk 11 n u s keys l)=.mk 10 0 0 ⟨#[]⟩ [] (ofL l)):=by show _=_;rw[hk0,hn0,hu00,hs0];simp[ofT,zO]
     clear hk0 hn0 hu00 hs0
     go_wp2_with fail
     refine (j5 11 _).mono ?_
     rw[show jO 11=false by decide]
     rintro r w9 ⟨rfl,hw9⟩
     obtain rfl:wr=w9:=hw9.symm
     have HFN:Hid (∃v',Ending.returned (.agg #[.int .i64 10,.int .i64 0,.int .u64 0,.string ⟨#[]⟩,.slice none 0 0,.slice ga l.length gc])=.returned v'∧jW (jH wr (pr+1) (.int .i64 10) (.int .i64 0) (.int .u64 0) (.string ⟨#[]⟩) (.slice none 0 0) (.slice ga l.length gc)) w.heap.size (ofT (.mk 11 n u s keys l)) v' (jX w (jH wr (pr+1) (.int .i64 10) (.int .i64 0) (.int .u64 0) (.string ⟨#[]⟩) (.slice none 0 0) (.slice ga l.length gc)))∧jC w (jH wr (pr+1) (.int .i64 10) (.int .i64 0) (.int .u64 0) (.string ⟨#[]⟩) (.slice none 0 0) (.slice ga l.length gc))):=by rw[HT.out];exact k0 HPR.out HZ2.out (HTREE.out 10 0 0 ⟨#[]⟩ ⟨by unfold jQ;omega,by unfold jQ;omega,by unfold j9;omega,by unfold jI;decide⟩) HGA.out _ _ _ _ _ _
     go_wp2_with fail
     refine bodyPost_ret (v:=.agg #[.int .i64 10,.int .i64 0,.int .u64 0,.string ⟨#[]⟩,.slice none 0 0,.slice ga l.length gc]) (by simp[results,Try.results31,go_sem,z0,z1,z2,z3,z4,z5]) rfl ?_
     exact HFN.out
    ·have hk0:keys=[]:=HF.out.2.2.2.1 (by decide)
     have hn0:n=0:=HF.out.1 (by decide)
     have hu00:u=0:=HF.out.2.1 (by decide)
     have hs0:s=⟨#[]⟩:=HF.out.2.2.1 (by decide)
     have HT:Hid (ofT (.mk 12 n u s keys l)=.mk 10 0 0 ⟨#[]⟩ [] (ofL l)):=by show _=_;rw[hk0,hn0,hu00,hs0];simp[ofT,zO]
     clear hk0 hn0 hu00 hs0
     go_wp2_with fail
     refine (j5 12 _).mono ?_
     rw[show jO 12=false by decide]
     rintro r w9 ⟨rfl,hw9⟩
     obtain rfl:wr=w9:=hw9.symm
     have HFN:Hid (∃v',Ending.returned (.agg #[.int .i64 10,.int .i64 0,.int .u64 0,.string ⟨#[]⟩,.slice none 0 0,.slice ga l.length gc])=.returned v'∧jW (jH wr (pr+1) (.int .i64 10) (.int .i64 0) (.int .u64 0) (.string ⟨#[]⟩) (.slice none 0 0) (.slice ga l.length gc)) w.heap.size (ofT (.mk 12 n u s keys l)) v' (jX w (jH wr (pr+1) (.int .i64 10) (.int .i64 0) (.int .u64 0) (.string ⟨#[]⟩) (.slice none 0 0) (.slice ga l.length gc)))∧jC w (jH wr (pr+1) (.int .i64 10) (.int .i64 0) (.int .u64 0) (.string ⟨#[]⟩) (.slice none 0 0) (.slice ga l.length gc))):=by rw[HT.out];exact k0 HPR.out HZ2.out (HTREE.out 10 0 0 ⟨#[]⟩ ⟨by unfold jQ;omega,by unfold jQ;omega,by unfold j9;omega,by unfold jI;decide⟩) HGA.out _ _ _ _ _ _
     go_wp2_with fail
     refine bodyPost_ret (v:=.agg #[.int .i64 10,.int .i64 0,.int .u64 0,.string ⟨#[]⟩,.slice none 0 0,.slice ga l.length gc]) (by simp[results,Try.results31,go_sem,z0,z1,z2,z3,z4,z5]) rfl ?_
     exact HFN.out
    ·have hk0:keys=[]:=HF.out.2.2.2.1 (by decide)
     have hn0:n=0:=HF.out.1 (by decide)
     have hu00:u=0:=HF.out.2.1 (by decide)
     have hs0:s=⟨#[]⟩:=HF.out.2.2.1 (by decide)
     have HT:Hid (ofT (.mk 13 n u s keys l)=.mk 10 0 0 ⟨#[]⟩ [] (ofL l)):=by show _=_;rw[hk0,hn0,hu00,hs0];simp[ofT,zO]
     clear hk0 hn0 hu00 hs0
     go_wp2_with fail
     refine (j5 13 _).mono ?_
     rw[show jO 13=false by decide]
     rintro r w9 ⟨rfl,hw9⟩
     obtain rfl:wr=w9:=hw9.symm
     have HFN:Hid (∃v',Ending.returned (.agg #[.int .i64 10,.int .i64 0,.int .u64 0,.string ⟨#[]⟩,.slice none 0 0,.slice ga l.length gc])=.returned v'∧jW (jH wr (pr+1) (.int .i64 10) (.int .i64 0) (.int .u64 0) (.string ⟨#[]⟩) (.slice none 0 0) (.slice ga l.length gc)) w.heap.size (ofT (.mk 13 n u s keys l)) v' (jX w (jH wr (pr+1) (.int .i64 10) (.int .i64 0) (.int .u64 0) (.string ⟨#[]⟩) (.slice none 0 0) (.slice ga l.length gc)))∧jC w (jH wr (pr+1) (.int .i64 10) (.int .i64 0) (.int .u64 0) (.string ⟨#[]⟩) (.slice none 0 0) (.slice ga l.length gc))):=by rw[HT.out];exact k0 HPR.out HZ2.out (HTREE.out 10 0 0 ⟨#[]⟩ ⟨by unfold jQ;omega,by unfold jQ;omega,by unfold j9;omega,by unfold jI;decide⟩) HGA.out _ _ _ _ _ _
     go_wp2_with fail
     refine bodyPost_ret (v:=.agg #[.int .i64 10,.int .i64 0,.int .u64 0,.string ⟨#[]⟩,.slice none 0 0,.slice ga l.length gc]) (by simp[results,Try.results31,go_sem,z0,z1,z2,z3,z4,z5]) rfl ?_
     exact HFN.out
    ·have hk0:keys=[]:=HF.out.2.2.2.1 (by decide)
     have hn0:n=0:=HF.out.1 (by decide)
     have hu00:u=0:=HF.out.2.1 (by decide)
     have hs0:s=⟨#[]⟩:=HF.out.2.2.1 (by decide)
     have HT:Hid (ofT (.mk 14 n u s keys l)=.mk 10 0 0 ⟨#[]⟩ [] (ofL l)):=by show _=_;rw[hk0,hn0,hu00,hs0];simp[ofT,zO]
     clear hk0 hn0 hu00 hs0
     go_wp2_with fail
     refine (j5 14 _).mono ?_
     rw[show jO 14=false by decide]
     rintro r w9 ⟨rfl,hw9⟩
     obtain rfl:wr=w9:=hw9.symm
     have HFN:Hid (∃v',Ending.returned (.agg #[.int .i64 10,.int .i64 0,.int .u64 0,.string ⟨#[]⟩,.slice none 0 0,.slice ga l.length gc])=.returned v'∧jW (jH wr (pr+1) (.int .i64 10) (.int .i64 0) (.int .u64 0) (.string ⟨#[]⟩) (.slice none 0 0) (.slice ga l.length gc)) w.heap.size (ofT (.mk 14 n u s keys l)) v' (jX w (jH wr (pr+1) (.int .i64 10) (.int .i64 0) (.int .u64 0) (.string ⟨#[]⟩) (.slice none 0 0) (.slice ga l.length gc)))∧jC w (jH wr (pr+1) (.int .i64 10) (.int .i64 0) (.int .u64 0) (.string ⟨#[]⟩) (.slice none 0 0) (.slice ga l.length gc))):=by rw[HT.out];exact k0 HPR.out HZ2.out (HTREE.out 10 0 0 ⟨#[]⟩ ⟨by unfold jQ;omega,by unfold jQ;omega,by unfold j9;omega,by unfold jI;decide⟩) HGA.out _ _ _ _ _ _
     go_wp2_with fail
     refine bodyPost_ret (v:=.agg #[.int .i64 10,.int .i64 0,.int .u64 0,.string ⟨#[]⟩,.slice none 0 0,.slice ga l.length gc]) (by simp[results,Try.results31,go_sem,z0,z1,z2,z3,z4,z5]) rfl ?_
     exact HFN.out
    ·have hk0:keys=[]:=HF.out.2.2.2.1 (by decide)
     have hn0:n=0:=HF.out.1 (by decide)
     have hu00:u=0:=HF.out.2.1 (by decide)
     have hs0:s=⟨#[]⟩:=HF.out.2.2.1 (by decide)
     have HT:Hid (ofT (.mk 15 n u s keys l)=.mk 10 0 0 ⟨#[]⟩ [] (ofL l)):=by show _=_;rw[hk0,hn0,hu00,hs0];simp[ofT,zO]
     clear hk0 hn0 hu00 hs0
     go_wp2_with fail
     refine (j5 15 _).mono ?_
     rw[show jO 15=false by decide]
     rintro r w9 ⟨rfl,hw9⟩
     obtain rfl:wr=w9:=hw9.symm
     have HFN:Hid (∃v',Ending.returned (.agg #[.int .i64 10,.int .i64 0,.int .u64 0,.string ⟨#[]⟩,.slice none 0 0,.slice ga l.length gc])=.returned v'∧jW (jH wr (pr+1) (.int .i64 10) (.int .i64 0) (.int .u64 0) (.string ⟨#[]⟩) (.slice none 0 0) (.slice ga l.length gc)) w.heap.size (ofT (.mk 15 n u s keys l)) v' (jX w (jH wr (pr+1) (.int .i64 10) (.int .i64 0) (.int .u64 0) (.string ⟨#[]⟩) (.slice none 0 0) (.slice ga l.length gc)))∧jC w (jH wr (pr+1) (.int .i64 10) (.int .i64 0) (.int .u64 0) (.string ⟨#[]⟩) (.slice none 0 0) (.slice ga l.length gc))):=by rw[HT.out];exact k0 HPR.out HZ2.out (HTREE.out 10 0 0 ⟨#[]⟩ ⟨by unfold jQ;omega,by unfold jQ;omega,by unfold j9;omega,by unfold jI;decide⟩) HGA.out _ _ _ _ _ _
     go_wp2_with fail
     refine bodyPost_ret (v:=.agg #[.int .i64 10,.int .i64 0,.int .u64 0,.string ⟨#[]⟩,.slice none 0 0,.slice ga l.length gc]) (by simp[results,Try.results31,go_sem,z0,z1,z2,z3,z4,z5]) rfl ?_
     exact HFN.out
    ·have hk0:keys=[]:=HF.out.2.2.2.1 (by decide)
     have hn0:n=0:=HF.out.1 (by decide)
     have hu00:u=0:=HF.out.2.1 (by decide)
     have hs0:s=⟨#[]⟩:=HF.out.2.2.1 (by decide)
     have HT:Hid (ofT (.mk 16 n u s keys l)=.mk 10 0 0 ⟨#[]⟩ [] (ofL l)):=by show _=_;rw[hk0,hn0,hu00,hs0];simp[ofT,zO]
     clear hk0 hn0 hu00 hs0
     go_wp2_with fail
     refine (j5 16 _).mono ?_
     rw[show jO 16=false by decide]
     rintro r w9 ⟨rfl,hw9⟩
     obtain rfl:wr=w9:=hw9.symm
     have HFN:Hid (∃v',Ending.returned (.agg #[.int .i64 10,.int .i64 0,.int .u64 0,.string ⟨#[]⟩,.slice none 0 0,.slice ga l.length gc])=.returned v'∧jW (jH wr (pr+1) (.int .i64 10) (.int .i64 0) (.int .u64 0) (.string ⟨#[]⟩) (.slice none 0 0) (.slice ga l.length gc)) w.heap.size (ofT (.mk 16 n u s keys l)) v' (jX w (jH wr (pr+1) (.int .i64 10) (.int .i64 0) (.int .u64 0) (.string ⟨#[]⟩) (.slice none 0 0) (.slice ga l.length gc)))∧jC w (jH wr (pr+1) (.int .i64 10) (.int .i64 0) (.int .u64 0) (.string ⟨#[]⟩) (.slice none 0 0) (.slice ga l.length gc))):=by rw[HT.out];exact k0 HPR.out HZ2.out (HTREE.out 10 0 0 ⟨#[]⟩ ⟨by unfold jQ;omega,by unfold jQ;omega,by unfold j9;omega,by unfold jI;decide⟩) HGA.out _ _ _ _ _ _
     go_wp2_with fail
     refine bodyPost_ret (v:=.agg #[.int .i64 10,.int .i64 0,.int .u64 0,.string ⟨#[]⟩,.slice none 0 0,.slice ga l.length gc]) (by simp[results,Try.results31,go_sem,z0,z1,z2,z3,z4,z5]) rfl ?_
     exact HFN.out
    ·have hn0:n=0:=HF.out.1 (by decide)
     have hu00:u=0:=HF.out.2.1 (by decide)
     have hs0:s=⟨#[]⟩:=HF.out.2.2.1 (by decide)
     subst hn0
     subst hu00
     subst hs0
     have HT:Hid (ofT (.mk 17 0 0 ⟨#[]⟩ keys l)=.mk 17 0 0 ⟨#[]⟩ keys (ofL l)):=by show _=_;simp[ofT,zO]
     go_wp2_with fail
     refine (j5 17 _).mono ?_
     rw[show jO 17=false by decide]
     rintro r w9 ⟨rfl,hw9⟩
     obtain rfl:wr=w9:=hw9.symm
     go_wp2_with fail
     refine (vP wr _ keys (HKS.out.grew HGA.out) (HKL.out (by trivial))).mono ?_
     rintro r w6 ⟨kv',rfl,hkv,hg6⟩
     obtain⟨ka,kc,rfl,_,_,_⟩:=jT hkv
     have HFIN:Hid (jW w6 x1.heap.size (.mk 17 0 0 ⟨#[]⟩ keys (ofL l)) (.agg #[.int .i64 17,.int .i64 0,.int .u64 0,.string ⟨#[]⟩,.slice ka keys.length kc,.slice ga l.length gc]) (jX x1 w6)):=own_map HE.out hkv hg6 HKZ.out (Nat.le_refl _)
     have HG6:=zh (HGA.out.trans hg6)
     replace kJ:=zh (hg6.heap kJ.out)
     clear hkv hg6 z0 z1 z2 z3 z4 z5 q0 q1 q2 q3 q4 q5
     have z0:=jA kJ.out 0 _ rfl
     have z1:=jA kJ.out 1 _ rfl
     have z2:=jA kJ.out 2 _ rfl
     have z3:=jA kJ.out 3 _ rfl
     have z4:=jA kJ.out 4 _ rfl
     have z5:=jA kJ.out 5 _ rfl
     have q0:=jB kJ.out 0
     have q1:=jB kJ.out 1
     have q2:=jB kJ.out 2
     have q3:=jB kJ.out 3
     have q4:=jB kJ.out 4
     have q5:=jB kJ.out 5
     have HFN:Hid (∃v',Ending.returned (.agg #[.int .i64 17,.int .i64 0,.int .u64 0,.string ⟨#[]⟩,.slice ka keys.length kc,.slice ga l.length gc])=.returned v'∧jW (jH w6 (pr+1) (.int .i64 17) (.int .i64 0) (.int .u64 0) (.string ⟨#[]⟩) (.slice ka keys.length kc) (.slice ga l.length gc)) w.heap.size (ofT (.mk 17 0 0 ⟨#[]⟩ keys l)) v' (jX w (jH w6 (pr+1) (.int .i64 17) (.int .i64 0) (.int .u64 0) (.string ⟨#[]⟩) (.slice ka keys.length kc) (.slice ga l.length gc)))∧jC w (jH w6 (pr+1) (.int .i64 17) (.int .i64 0) (.int .u64 0) (.string ⟨#[]⟩) (.slice ka keys.length kc) (.slice ga l.length gc))):=by rw[HT.out];exact k0 HPR.out HZ2.out (HFIN.out) HG6.out _ _ _ _ _ _
     go_wp2_with fail
     refine bodyPost_ret (v:=.agg #[.int .i64 17,.int .i64 0,.int .u64 0,.string ⟨#[]⟩,.slice ka keys.length kc,.slice ga l.length gc]) (by simp[results,Try.results31,go_sem,z0,z1,z2,z3,z4,z5]) rfl ?_
     exact HFN.out
end Go.Proofs.Ytfbeepkogcmlmaa
