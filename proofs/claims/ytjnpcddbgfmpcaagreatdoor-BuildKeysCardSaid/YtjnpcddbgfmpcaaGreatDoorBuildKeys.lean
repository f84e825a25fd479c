/-
  BuildKeys: under the flag every distinct key is stored exactly once.
-/
import Derived.Test.YtjnpcddbgfmpcaaGreatDoorBKeysPAA
import Derived.Test.YtjnpcddbgfmpcaaGreatDoorCards
import Derived.Test.YtjnpcddbgfmpcaaGreatDoorTie
import Derived.SevenTiedAt
import Derived.Test.YtjnpcddbgfmpcaaGreatDoorBKeysPBZ
import Derived.Shelf.Vars
set_option linter.unusedVariables false
set_option linter.unusedSimpArgs false
set_option maxHeartbeats 16000000
set_option maxRecDepth 100000
namespace Go.Proofs.YtjnpcddbgfmpcaaGreatDoor
open Go.Proofs.Tryz
open Go.ChangeMaps (open_string shut_string)
open Go Go.ChangeShapes Go.WideShapes Go.ChangeAt Go.RowKit Go.Joins
open Go.Deep
open Go.Proofs.YtjnpcddbgfmpcaaGreatDoor.Ft (V3 vV okV ValsAt inlineB legalB packF codeF typedF allF)
theorem buildKeys_any (fl mx:Int) (lv:Value) (l:List ByteArray) (w:World) (h:kE w lv l) (hm:w.cell? ⟨0,0,none⟩=some (.int .i64 mx)) :
 Calls prog 5 #[lv,.int .i64 fl] w fun r w'=>r=.returned (.bool true)∧Below w.heap.size w w':=by
 obtain⟨ad,c,rfl,hlc,hcm,_,j2⟩:=h
 have HC:=zh j2
 have HM:=zh hm
 have hl:l.length≤9223372036854775807:=by unfold kU at hcm;omega
 clear j2 hcm hm hlc
 go_enter func5,ntmps5
 go_wp2_with fail
 go_loopw [5,6,7] (fun v s i wr=>∃k:Nat,k≤l.length∧k≤40∧i=.int .i64 k∧s=.string (ZZ (wantB [] (JL (l.take k) 40)))∧Hid (yP wr w.heap.size v (JL (l.take k) 40)∧jA w wr)) (fun _ _ i _=>l.length - (intOf i).toNat)
 case atStart=>exact⟨0,Nat.zero_le _,by omega,rfl,by simp[JL,wantB,ZZ],by
  show _∧_
  exact⟨by simpa [JL] using yP.nil _ _,jA.refl _⟩⟩
 case round=>
  generalize wr=wo at *
  obtain⟨k,hk,hk40,rfl,rfl,HW⟩:=hrel
  have HO:=zh HW.out.1
  have HG:=zh HW.out.2
  obtain⟨va,vc,rfl,_,_,_⟩:=j3 HO.out
  have HLK:Hid (∀q∈JL (l.take k) 40,qA q=0∧q.size≤40∧(0:UInt8)∉q.data.toList):=fun q hq=>sJ hq
  have hLL:(JL (l.take k) 40).length≤40:=by rw[iZ,List.length_take];omega
  clear HW
  by_cases hlt:k < l.length∧k < 40
  ·obtain⟨hlt,hk4⟩:=hlt
   obtain⟨x,hx⟩:∃x,l[k]? = some x:=⟨_,List.getElem?_eq_getElem hlt⟩
   have HSN:=zh (pD hx 40)
   obtain⟨hz,b,off,rfl,c0⟩:=HC.out k x hx
   have HZ:=zh hz
   have d0:=HG.out.cell c0
   have HR:Hid (∀W,jA w W→Calls prog 6 #[.string (yH x 40),.string ⟨#[0]⟩,.string ⟨#[45]⟩] W fun r w'=>r=.returned (.string (KU (yH x 40)))∧jA W w'):=fun W hg=>sM _ mx W (by rw[qJ];omega) (hg.cell HM.out)
   have hXs:(KU (yH x 40)).size≤40:=by rw[b6,qJ];omega
   have HWN:=zh (eG (JL (l.take k) 40) [] (KU (yH x 40)))
   have hws:(wantB [] (JL (l.take k) 40)).length≤1640:=by
    have h1:=Q9 (JL (l.take k) 40) []
    have h2:=b9 (n:=40) (JL (l.take k) 40) (fun q hq=>(HLK.out q hq).2.1)
    omega
   clear hx hz c0
   have hki:(k:Int) < l.length:=by omega
   have hki4:(k:Int) < 40:=by omega
   go_wp2_with fail
   refine (YE _ x 40 HZ.out (by decide)).mono ?_
   rintro r w2 ⟨rfl,rfl⟩
   go_wp2_with fail
   refine (HR.out _ HG.out).mono ?_
   rintro r w3 ⟨rfl,hg⟩
   replace HO:=zh (HO.out.grew hg)
   replace HG:=zh (HG.out.trans hg)
   clear hg d0 HR HZ
   generalize KU (yH x 40)=X at *
   generalize JL (l.take k) 40=L at *
   generalize hWB:wantB [] L=wb at *
   have HT:=zh (HO.out.strs (fun q hq=>by have:=(HLK.out q hq).2.1;unfold kU;omega))
   go_wp2_with fail
   go_loopw [9,10] (fun hv jv wr=>∃j:Nat,j≤L.length∧jv=.int .i64 j∧hv=.bool (cJ (L.take j) X)∧Hid (jA w3 wr)) (fun _ jv _=>L.length - (intOf jv).toNat)
   case atStart=>exact⟨0,Nat.zero_le _,rfl,by simp[cJ],jA.refl _⟩
   case round=>
    generalize wr=w4 at *
    obtain⟨j,hj,rfl,rfl,HI⟩:=hrel
    by_cases hjl:j < L.length
    ·obtain⟨y,hy⟩:∃y,L[j]? = some y:=⟨_,List.getElem?_eq_getElem hjl⟩
     have HST:=zh (sK X hy)
     obtain⟨_,_,ee,_,_,_,hcl⟩:=HT.out
     cases ee
     obtain⟨_,b2,off2,rfl,c2⟩:=hcl j y hy
     have d2:=HI.out.cell c2
     have hji:(j:Int) < L.length:=by omega
     clear c2 hcl hy
     obtain⟨hb,hhb⟩:∃hb,cJ (L.take j) X=hb:=⟨_,rfl⟩
     rw[hhb] at HST⊢
     cases hb
     ·rw[Bool.false_or] at HST
      go_wp2_with fail
      go_roundw
      case rel=>exact⟨j+1,by omega,by go_num,by rw[← HST.out],HI.out⟩
      case measure=>simp[intOf];omega
     ·rw[Bool.true_or] at HST
      go_wp2_with fail
      go_roundw
      case rel=>exact⟨j+1,by omega,by go_num,by rw[← HST.out],HI.out⟩
      case measure=>simp[intOf];omega
    ·have ej:j=L.length:=by omega
     subst ej
     rw[List.take_length]
     have hcat1:=fun W=>run_string_add (P:=prog) (w:=W) (ZZ wb) X (by rw[Q8];omega) (by omega)
     have hcat2:=fun W=>run_string_add (P:=prog) (w:=W) (ZZ wb++X) ⟨#[0]⟩ (by rw[ByteArray.size_append,Q8];omega) (by decide)
     clear hjl
     replace HO:=zh (HO.out.grew HI.out)
     replace HG:=zh (HG.out.trans HI.out)
     have HLN:Hid (L.length≤40):=hLL
     have HO2:Hid (∀o,yP (w4.alloc o) w.heap.size (.slice va L.length vc) L):=fun o=>HO.out.grew ((jA.refl _).alloc o)
     have hXz:Hid (kU X.size):=by show kU _;unfold kU;omega
     obtain⟨hd,hhd⟩:∃hd,cJ L X=hd:=⟨_,rfl⟩
     have HWE:Hid (ZZ (wantB [] (L++[X]))=if hd then ZZ wb else ZZ wb++X++⟨#[0]⟩):=by
      show _=_
      rw[HWN.out,List.nil_append]
      cases hd
      ·rw[if_neg (had_no.1 hhd),if_neg (by decide),sL]
      ·rw[if_pos (had_iff.1 hhd),if_pos rfl,List.append_nil]
     rw[hhd]
     clear hhd HWN hWB
     cases hd
     ·rw[if_neg (by decide)] at HWE
      go_wp2_with (at_builtin;refine qS rfl _ _ rfl w.heap.size (.slice va L.length vc) L rfl (HO2.out _) _ [X] rfl (YW _ _ hXz.out) (by have:=HLN.out;simp;omega) (Nat.le_trans HG.out.size (by simp)) ?_;intro v' w5 jZ hgr hqq;obtain⟨va2,vc2,rfl,_,_,_⟩:=j3 jZ;have HG3:=zh (And.intro jZ (aH (HO2.out _) (HG.out.alloc _) hgr));clear jZ hgr hqq)
      go_roundw
      case rel=>
       refine⟨k+1,by omega,by omega,by go_num,by rw[HSN.out,HWE.out],?_⟩
       show _∧_
       rw[HSN.out]
       have hh:=HG3.out
       rw[List.length_append] at hh
       exact hh
      case measure=>simp[intOf];omega
     ·rw[if_pos rfl] at HWE
      go_wp2_with (at_builtin;refine qS rfl _ _ rfl w.heap.size (.slice va L.length vc) L rfl (HO2.out _) _ [X] rfl (YW _ _ hXz.out) (by have:=HLN.out;simp;omega) (Nat.le_trans HG.out.size (by simp)) ?_;intro v' w5 jZ hgr hqq;obtain⟨va2,vc2,rfl,_,_,_⟩:=j3 jZ;have HG3:=zh (And.intro jZ (aH (HO2.out _) (HG.out.alloc _) hgr));clear jZ hgr hqq)
      go_roundw
      case rel=>
       refine⟨k+1,by omega,by omega,by go_num,by rw[HSN.out,HWE.out],?_⟩
       show _∧_
       rw[HSN.out]
       have hh:=HG3.out
       rw[List.length_append] at hh
       exact hh
      case measure=>simp[intOf];omega
  ·have hkc:vS (JL (l.take k) 40)≤1640:=by
    have h2:=b9 (n:=40) (JL (l.take k) 40) (fun q hq=>(HLK.out q hq).2.1)
    omega
   have hkc2:(wantB [] (JL (l.take k) 40)).length≤1640:=Nat.le_trans (Q9 _ _) hkc
   obtain⟨dx,tl,X,p,hfin,hd,hX,hlo,hhi,⟨m,ww,T,off,hr,ho⟩,hread⟩:=sH (l:=JL (l.take k) 40) (fun q hq=>(HLK.out q hq).1) (by omega) hLL
   have HFIN:=zh hfin
   have HD:=zh hd
   have HR:=zh hr
   have HRD:=zh hread
   clear hfin hd hr hread hkc
   generalize JL (l.take k) 40=L at *
   generalize wantB [] L=wb at *
   obtain⟨Y,hY⟩:∃Y,BS.new.keyVec 1048576 true L=Y:=⟨_,rfl⟩
   rw[hY] at HFIN
   have HKV:Hid (∀(q1:kD) κ w1,jA wo w1→Bd wo.heap.size q1 1048576 (bits .or .i64 fl 1) κ BS.new w1→Calls prog 20 #[jF q1.p,.slice va L.length vc] w1 fun r w'=>r=.returned (.tuple #[])∧j1 wo.heap.size q1 1048576 (bits .or .i64 fl 1) κ Y w1 w'):=fun q1 κ w1 hg hb=>by
    have h:=dY va vc L (yO (HO.out.grew hg)) (fun ad n c2 e=>by
     have hlt:=(vG HO.out ad n c2 e).2
     exact⟨Nat.lt_of_lt_of_le hlt hg.size,Decidable.byContradiction fun hk=>by have h1:=(hb.lt _ hk).1;omega⟩) (fun q hq=>by have:=(HLK.out q hq).2.1;omega) (by omega) BS.Good.new hb
    rw[sI,hY] at h
    exact h
   rcases (show (¬(k:Int) < l.length)∨((k:Int) < l.length∧¬(k:Int) < 40) by omega) with eki|⟨eki,e40⟩
   all_goals
    clear hlt
    go_wp2_with fail
    refine ((Lv.nil wo).new (bits .or .i64 fl 1) 1048576).mono ?_
    rintro r w1 ⟨q1,rfl,hl⟩
    rw[show yY 1048576=1048576 from rfl] at hl
    have HL:Hid (Lv wo [⟨q1,1048576,bits .or .i64 fl 1,BS.new⟩] [] w1):=hl
    clear hl
    go_wp2_with fail
    refine (HL.out.call (P:=fun r=>r=.returned (.tuple #[])) (x':=Y) 0 rfl fun κ hb _=>HKV.out q1 κ w1 HL.out.below hb).mono ?_
    rintro r w2 ⟨rfl,hl⟩
    have HL':Hid (Lv wo [⟨q1,1048576,bits .or .i64 fl 1,Y⟩] [] w2):=hl
    clear hl HL HKV
    go_wp2_with fail
    refine (HL'.out.fin 0 rfl).mono ?_
    dsimp only
    rw[HFIN.out]
    rintro r w3 ⟨ax,cx,K1,rfl,hl,_,hb⟩
    have HBel:=zh hl.below
    have HBX:=zh (hb w3 hl.held)
    clear hl HL' hb HFIN hY
    go_wp2_with fail
    refine (root_ok HBX.out HR.out).mono ?_
    rw[ho]
    rintro r w4 ⟨rfl,hg⟩
    have HG4:=zh hg
    clear hg
    have hst:=zZ (HBX.out.grew HG4.out)
    have hpre:=Tryz.strings_HasPrefix ⟨dx.toArray⟩ (ZZ wb) w4
    have hp1:Lib.hasPrefix dx (ZZ wb).data.toList=true:=by rw[pE,HD.out];exact i2 _ _
    have hsb:=Q8 wb
    have hXp:=zF hX
    have HIX:=zh hX
    have HDL:=zh (show dx.length≤1073741824 by have h1:=HR.out.len;have h2:=HR.out.small;omega)
    clear HD hX
    generalize ZZ wb=sb at *
    go_wp2_with fail
    first | rw[hp1] at hpre | rw[show (⟨dx.toArray⟩:ByteArray).data.toList=dx by simp,hp1] at hpre
    refine hpre.mono ?_
    rintro r w5 ⟨rfl,ee⟩
    subst ee
    clear hpre hst hp1
    go_wp2_with fail
    have HT:=zh (kE.grew (HO.out.strs (fun q hq=>by have:=(HLK.out q hq).2.1;unfold kU;omega)) HBel.out)
    go_loopw [18] (fun iv wr=>∃i:Nat,i≤L.length∧iv=.int .i64 i∧Hid (jA w3 wr)) (fun iv _=>L.length - (intOf iv).toNat)
    case atStart=>exact⟨0,Nat.zero_le _,rfl,HG4.out⟩
    case round=>
     generalize wr=w6 at *
     obtain⟨i,hi,rfl,HI⟩:=hrel
     by_cases hil:i < L.length
     ·obtain⟨y,hy⟩:∃y,L[i]? = some y:=⟨_,List.getElem?_eq_getElem hil⟩
      have HKA:=zh (pF (HBX.out.grew HI.out) (HRD.out i y hy) (HLK.out y (List.mem_of_getElem? hy)).2.2 HDL.out HIX.out (by omega) (by omega) (by omega))
      obtain⟨_,_,ee,_,_,_,hcl⟩:=HT.out
      cases ee
      obtain⟨_,b2,off2,rfl,c2⟩:=hcl i y hy
      have d2:=HI.out.cell c2
      have hii:(i:Int) < L.length:=by omega
      clear c2 hcl hy
      go_wp2_with fail
      refine HKA.out.mono ?_
      rintro r w7 ⟨rfl,hg⟩
      have HI2:=zh (HI.out.trans hg)
      have d3:=hg.cell d2
      clear hg d2 HKA
      have hyy:(y.toList == y.toList)=true:=by rw[beq_iff_eq]
      go_wp2_with fail
      go_roundw
      case rel=>exact⟨i+1,by omega,by go_num,HI2.out⟩
      case measure=>simp[intOf];omega
     ·have ei:i=L.length:=by omega
      subst ei
      go_wp2_with fail
      refine (iY _).mono ?_
      rintro r w8 ⟨rfl,hb⟩
      have HB:=zh (HI.out.trans hb)
      clear hb
      go_wp2
      go_ret
      exact⟨rfl,(HG.out.trans HBel.out).trans HB.out⟩
theorem buildKeys_laid (os:Os) (args:Array Value):laidMet prog Rows.buildKeysRow.laid ((laidWorld os).forCall (fun _ _=>0) ⟨#[],args,[]⟩).memory:=by
 rw[show Rows.buildKeysRow.laid=[("unicode/utf8.acceptRanges",Lib.acceptData),("unicode/utf8.first",Lib.firstData)] by kernel_rfl]
 exact (LaidIn.of_run (l:=[("unicode/utf8.acceptRanges",Lib.acceptData),("unicode/utf8.first",Lib.firstData)]) [2,1] 8 zk zk zk zk).met
theorem buildKeys_door (os:Os) (args:Array Value):laidMetH prog Rows.buildKeysRow.laid ((laidWorld os).forCall (fun _ _=>0) ⟨#[],args,[]⟩).memory:=by
 rw[MakeChecks.laidMetH_plain _ _ _ zk]
 exact buildKeys_laid os args
theorem buildKeys_row {H:Type} (enc:TypeId × Value→H) (W:World) (base:Nat) (hL:laidMetH prog Rows.buildKeysRow.laid W) (hS:W.ShapedOpen prog) (v0:Value) (d0:DataW H) (p0:List MemPlace) (o0:Value.okWide prog W .any base 22 v0) (k0:DataW.Trod enc prog W 0 (fun _=>true) true 22 v0 d0 p0) (v1:Value) (d1:DataW H) (p1:List MemPlace) (o1:Value.okWide prog W .any base 3 v1) (k1:DataW.Trod enc prog W 0 (fun _=>true) true 3 v1 d1 p1) :
 Calls prog 5 #[v0,v1] W fun e w'=>e=.returned (.bool true)∧Below W.heap.size W w':=by
 obtain⟨l,hl⟩:=lG o0 k0
 obtain⟨fl,rfl,_,_,_⟩:=open_int underlying3 o1 k1
 obtain⟨mx,hmx⟩:∃m,W.cell? ⟨0,0,none⟩=some (.int .i64 m):=cell_of_shapedOpen_int (g:=0) (t:=3) (zero:=#[.int .i64 0]) hS (of_decide_eq_true zk) zk rfl zk zk zk
 exact buildKeys_any fl mx v0 l W hl hmx
theorem buildKeys_own:ownKnob Tryz.prog.godebug=none:=by kernel_rfl
theorem buildKeys_laidOut:laidOutB prog=true:=by kernel_rfl
theorem buildKeys_lifted (os:Os) (started:os.Started) (H:Type) (enc:TypeId × Value→H) :
 ReturnsInHanded {} checked os 5 .any (fun w args=>(Rows.buildKeysSpec.pre enc prog Tryz.f5 Rows.buildKeysRow.domain false w args∧laidMetH prog Rows.buildKeysRow.laid w)∧sizedMet enc prog Tryz.f5 (OpenSpec.ofChange Rows.buildKeysSpec) false w args) (Rows.buildKeysSpec.post enc prog Tryz.f5 false true false false):=by
 refine YA (C:=checked) (X:=fun w _=>laidMetH prog Rows.buildKeysRow.laid w) (fun _ _ _ hh h=>h.of_heap hh) buildKeys_own started zk func5
  (ChangeSpec.witness_shaped (enc:=enc) (C:=checked) (os:=os) (X:=fun w _=>laidMetH prog Rows.buildKeysRow.laid w) false (laidWorld os) #[.slice none 0 0,.int .i64 0] 8 rfl (World.shaped_of_RefB zk zk) zk zk zk (buildKeys_door os _)) ?_
 intro W base args ds gs before hval0 hW hL hS
 have hval:∀(j:Nat) t v,Tryz.f5.params[j]? = some t→args[j]? = some v→Value.okWide prog W .any base t v:=hval0
 have hW':=hW
 obtain⟨p,q,hA0,hV,rfl,hfz,hnd⟩:=hW
 have hA:DataW.TrodAll enc prog W 0 (fun _=>true) true Tryz.f5.params.toList args.toList ds p:=hA0
 rw[params5] at hA hval
 obtain⟨v0,vs0,d0,ds0,p0,q0,hargs,rfl,rfl,h0,r0⟩:=trodAll_cons hA
 obtain⟨v1,vs1,d1,ds1,p1,q1,rfl,rfl,rfl,h1,r1⟩:=trodAll_cons r0
 obtain⟨rfl,rfl,rfl⟩:=trodAll_nil r1
 obtain rfl:args=#[v0,v1]:=by cases args;simp_all
 obtain⟨rfl,rfl⟩:=trodVars_none hV
 have lt0:∀x∈p0,x.block < W.heap.size:=by obtain⟨m,hm⟩:=h0;exact DataW.trod_lt m _ _ _ hm
 have lt1:∀x∈p1,x.block < W.heap.size:=by obtain⟨m,hm⟩:=h1;exact DataW.trod_lt m _ _ _ hm
 have hw:=buildKeys_row enc W base hL hS v0 d0 p0 (hval 0 22 v0 rfl rfl) h0 v1 d1 p1 (hval 1 3 v1 rfl rfl) h1
 clear hA0 hval0
 refine hw.mono fun e W' ⟨he,bel⟩=>?_
 subst he
 exact⟨_,rfl,_,_,_,[],_,[],hW',trodAll_mk1 (shut_bool underlying4 _),(trodAll_cons_mk (Below.trod buildKeys_laidOut zk (of_decide_eq_true zk) h0 bel lt0) (trodAll_cons_mk (Below.trod buildKeys_laidOut zk (of_decide_eq_true zk) h1 bel lt1) trodAll_mk0)),rfl,Below.frame bel _,fun h=>by cases h⟩
/-- The statement. -/
theorem buildKeys_holds:Rows.BuildKeysSaid:=
 OpenClaim.holds_of_wide 5 Tryz.f5 rfl rfl rfl rfl rfl rfl rfl ⟨rfl,rfl,rfl,rfl,rfl⟩ rfl rfl rfl rfl rfl zk func5 zk
  (of_decide_eq_true zk) (by unfold Func.isWrapper;first | (rw[if_pos (by decide +kernel)];kernel_rfl) | (rw[if_neg (by decide +kernel)];exact⟨rfl,rfl⟩))
  (fun os started H enc _=>buildKeys_lifted os started H enc)
/-- The tied card. -/
theorem buildKeysCard_holds:Rows.BuildKeysCardSaid:=
 Claim7.holds_tied_plain_at .later [] [.data,.pinned] true (true,"d81d32618a3a4e4822f4d76c9ec7165dbf69d5538a2618c826381d2c86183b9d") false
  buildKeys_holds (fun _ h=>by cases h) zk (fun _ h=>by cases h) buildKeys_row_tie rfl ⟨rfl,rfl⟩ zk rfl
  (fun f fn hf hfn=>by
   obtain rfl:f=5:=Option.some.inj ((show Tryz.prog.funcNamed "accordion/accordionlaw19.BuildKeys" = some 5 by kernel_rfl).symm.trans hf) |>.symm
   obtain rfl:fn=Tryz.f5:=(Option.some.inj (Tryz.func5.symm.trans hfn)).symm
   exact⟨by kernel_rfl,fun j t ht=>by
    rw[params5] at ht
    have hm:t∈[22,3]:=by simpa using Array.mem_of_getElem? ht
    have JM:([22,3].all fun u=>!Tryz.prog.wantsStandIn u)=true:=by kernel_rfl
    exact (show Tryz.prog.wantsStandIn t=false by simpa using List.all_eq_true.1 JM t hm)⟩)
  zk
end Go.Proofs.YtjnpcddbgfmpcaaGreatDoor
