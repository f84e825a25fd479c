/-Texts-/
import Derived.Test.YtdjoffgkndncfaaGreatDOtherPBM
set_option linter.unusedVariables false
set_option linter.unusedSimpArgs false
set_option maxHeartbeats 32000000
set_option maxRecDepth 100000
namespace Go.Proofs.YtdjoffgkndncfaaGreat
open Go.Proofs.Tryz
open Go Go.ChangeShapes Go.WideShapes Go.ChangeAt Go.RowKit Go.Joins Go.Deep
open Ft (V3 vV okV ValsAt inlineB legalB packF codeF typedF allF)
variable {jB jD kind e0 elem many:Int} {sh len jX:Bool} {k:V3} {B:Nat} {q:zR} {κ κ1:Nat→Nat} {w w':World} {v:Value} {T:V3→Int} {l:List V3} {s:St} {Kp:List (Nat × Obj)}
theorem BS.put_ok {x:BS} {k:ByteArray} (h:x.Ok jB):okV (x.put jB sh k).1:=by
 have hl:=h.len;have hm:=h.m1;have hk:=iW (k:=k) h.okK;unfold BS.put;dsimp only;split
 ·exact ok0
 split
 ·show (0:Int)≤_∧_≤(18446744073709551615:Int);dsimp only;omega
 show (0:Int)≤_∧_≤(18446744073709551615:Int);dsimp only;omega
theorem MF {x:BS} (n1 n2:Nat) (k:ByteArray) (hk:k.size≤1048576) (hg:x.Good) (hx:x.e=0) (he:Env B q jB jD w κ [(n2,Obj.cells #[.string k] 9 (0,0)),(n1,Obj.cells #[jI q.p] 70 (0,0))] x w):Calls prog 137 #[.pointer (some ⟨n1,0,none⟩),.pointer (some ⟨n2,0,none⟩)] w λr w'=>r=.returned (.tuple #[])∧kL B q jB jD κ (x.key jB (onF jD 1) k) w w':=by
 have HE:=zh he;clear he;have HM2:Hid ((n2,Obj.cells #[.string k] 9 (0,0))∈([(n2,Obj.cells #[.string k] 9 (0,0)),(n1,Obj.cells #[jI q.p] 70 (0,0))]:List (Nat × Obj))):=zx;have HM1:Hid ((n1,Obj.cells #[jI q.p] 70 (0,0))∈([(n2,Obj.cells #[.string k] 9 (0,0)),(n1,Obj.cells #[jI q.p] 70 (0,0))]:List (Nat × Obj))):=zj _ (zx);have HPC:Hid (∀κ1 w2,Bd B q jB jD κ1 x w2→Calls prog 131 #[jI q.p,.string k] w2 λr w'=>r=.returned (vV (x.put jB (onF jD 1) k).1)∧kL B q jB jD κ1 (x.put jB (onF jD 1) k).2 w2 w'):=λκ1 w2 hb=>xQ k hk hg hb;have HVO:Hid (okV (x.put jB (onF jD 1) k).1):=BS.put_ok HE.ok;have HY:Hid (x.key jB (onF jD 1) k=(x.put jB (onF jD 1) k).2.push (x.put jB (onF jD 1) k).1):=by show _=_;unfold BS.key;rw[zl hx]
 clear hk hg hx;generalize (x.put jB (onF jD 1) k)=P at *;obtain⟨⟨ty,wd,n⟩,y⟩:=P;go_enter func137,ntmps137;go_wp2_with fail;refine jQ [5,6] (vR B q jB jD w κ [(n2,Obj.cells #[.string k] 9 (0,0)),(n1,Obj.cells #[jI q.p] 70 (0,0))] [x,y] (y.push (ty,wd,n))) (λ_ w w'=>jC w w') ((λp (_:Nat→Value)=>(λ_ _ _=>True) p)) [[],[0],[0,1],[],[],[3,4],[0,1,2,3,4,5]] [(2,0),(3,1),(4,2),(5,3),(6,4),(7,5),(8,6)]
  [IsP (jI q.p),IsP (jI q.p),IsP (jI q.p),IsP (jI q.p),IsP (.string k),IsP (.agg #[.int .i64 ty,.int .i64 wd,.int .u64 n]),IsP (.tuple #[])]
  sqc zk (vR.grew) (HE.grew (jC.refl _).drew) zk zk ⟨jG,jG,jG,jG,jG,jG,jG,trivial⟩ rfl ?_ ?_
 ·intro y w2 hW hF;simp only[yR,IsP,Nat.reduceAdd,zz,qg] at hF hW;simp only[jF,Act.put,zq];simp only[hF];clear hF;go_wp2;go_end0;exact⟨rfl,by rw[HY];exact Env.turn hW⟩
 constructor
 ·refine jP 0 1 ?_;intro y w2 p hlo hhi hW hD K hK;have d10:=Env.cell hW HM1.out 0 _ rfl;exact zqr
 refine⟨zqd,zqd,?_⟩;constructor
 ·exact zb64
 constructor
 ·exact zb65
 constructor
 ·refine jZ 0 rfl ?_;intro y w2 hW hD K hK;simp only[kV,zq4,zq5,IsP] at hD;generalize hAA:jF y _ _=AA at hK⊢;simp only[jF,Act.put,zq,IsP] at hAA;subst hAA;simp only[zq4,zq5,IsP] at hK;simp only[hD] at hK⊢;clear hD;refine jN ?_;go_simp;refine (Env.call hW λκ1 hb hz=>HPC.out κ1 w2 hb).mono ?_;rintro r w3 ⟨rfl,he⟩;exact hK _ _ _ rfl trivial he rfl
 constructor
 ·refine jZ 1 rfl ?_;intro y w2 hW hD K hK;simp only[kV,zq4,zq5,IsP] at hD;generalize hAA:jF y _ _=AA at hK⊢;simp only[jF,Act.put,zq,IsP] at hAA;subst hAA;simp only[zq4,zq5,IsP] at hK;simp only[hD] at hK⊢;clear hD;refine jN ?_;go_simp;refine (Env.call hW λκ1 hb hz=>ZV (ty,wd,n) HVO.out hb).mono ?_;rintro r w3 ⟨rfl,he⟩;exact hK _ _ _ rfl trivial he rfl
 trivial
theorem xR {x:BS} (k:ByteArray) (hk:k.size≤1048576) (hg:x.Good) (h:Bd B q jB jD κ x w):Calls prog 91 #[jI q.p,.string k] w λr w'=>r=.returned (.tuple #[])∧kL B q jB jD κ (x.key jB (onF jD 1) k) w w':=by
 have HH:=zh (qa hk hg)
 have HE:Hid (Env B q jB jD w κ [(w.heap.size+1,Obj.cells #[.string k] 9 (0,0)),(w.heap.size,Obj.cells #[jI q.p] 70 (0,0))] x ((w.alloc (.cells #[jI q.p] 70)).alloc (.cells #[.string k] 9))):=by
  have hh:=((Env.start h).add (.cells #[jI q.p] 70)).add (.cells #[.string k] 9);simp only[zm,Nat.add_assoc,Nat.reduceAdd] at hh;exact hh
 clear h hk hg;go_enter func91,ntmps91;go_wp2_with fail;refine (HE.call' λκ1 hb he=>yV hb _ _ (x.key jB (onF jD 1) k) (λhx=>by unfold BS.key;rw[ze hx]) (λ_=>enters_of func137 zk rfl _ _) (λhx=>MF _ _ k HH.1 HH.2 hx he)).mono ?_;rintro r w5 ⟨rfl,he⟩;have HT:=zh he;clear he;go_wp2;go_end0;exact⟨rfl,HT.turn⟩
theorem fW {x:BS} (t:Int) (k z:ByteArray) (hk:k.size≤1048576) (hz:z.size≤1000) (ht:x.texts.length≤1048576) (h:Bd B q jB jD κ x w):Calls prog 197 #[jI q.p,.int .i64 t,.string k,.string z] w λr w'=>r=.returned (.tuple #[])∧kL B q jB jD κ (x.text jB t k z) w w':=by
 have HE:=zh (Env.start h);have HWO:Hid (∀w,Calls prog 182 #[.int .u64 (k.size:Int)] w λr w'=>r=.returned (.int .i64 (Ft.widthOf k.size))∧w=w'):=λw=>by have h:=Ft.widthOf_any (k.size:Int) w zo zo;rw[Int.toNat_natCast] at h;exact h
 have HIW:Hid (isW (Ft.widthOf k.size)=true):=JE k.size;obtain⟨wd,hwd⟩:∃u,Ft.widthOf k.size=u:=⟨_,rfl⟩;rw[hwd] at HWO HIW;have HLN:Hid ((j9 jB wd k.size (jL jB wd x.s)).1.length≤1048576):=by have h1:=qV (x:=wd) (u:=(k.size:Int)) (z8 (x:=wd) h.ok.len);have h2:=h.ok.m1;show _≤_;omega
 have HVT:Hid (okV (t,wd,((j9 jB wd k.size (jL jB wd x.s)).1.length:Int))):=by have h:=HLN.out;show (0:Int)≤((j9 jB wd k.size (jL jB wd x.s)).1.length:Int)∧((j9 jB wd k.size (jL jB wd x.s)).1.length:Int)≤18446744073709551615;omega
 have hwa:=VS _ HLN.out;have hwk:=VS _ hk;have HSS:Hid (yY [k,z]≤1073741824):=by show _≤_;simp[yY];omega
 have HTL:=zh ht;have HY:Hid (x.text jB t k z=(({x with s:=kQ jB (jS [k,z]) (j9 jB wd k.size (jL jB wd x.s)),texts:=if t=5 then qD k ((j9 jB wd k.size (jL jB wd x.s)).1.length:Int) x.texts else x.texts}:BS).push (t,wd,((j9 jB wd k.size (jL jB wd x.s)).1.length:Int)))):=by show _=_;unfold BS.text;rw[hwd]
 clear h hwd ht hz;have c0:=HE.at0;go_enter func197,ntmps197;go_wp2_with fail;refine (HWO.out w).mono ?_;rintro r w1 ⟨rfl,hw1⟩;obtain rfl:w=w1:=hw1;go_wp2_with fail;refine (HE.call λκ1 hb hz=>hb.buf_calls (z8 hb.ok.len) (λo ho _=>ZS x.s wd ho (Nat.zero_le _) hb.ok.len hb.ok.m1)).mono ?_;rintro r w2 ⟨rfl,he⟩;have HE1:=zh he;clear he c0;have c0:=HE1.at0;go_wp2_with fail;refine (HE1.call λκ1 hb hz=>hb.buf_calls (x:={x with s:=jL jB wd x.s}) (qV hb.ok.len) (λo ho _=>JF (jL jB wd x.s) wd (k.size:Int) ho (Nat.zero_le _) hb.ok.len hb.ok.m1 zo zo)).mono ?_;rintro r w3 ⟨rfl,he⟩;have HE2:=zh he;clear he c0;have c0:=HE2.at0;go_wp2_with fail;refine HE2.buflen.mono ?_;rintro r w9 ⟨rfl,hw9⟩;obtain rfl:w3=w9:=hw9.symm;go_wp2_with fail;refine (HE2.text2 k z HSS.out).mono ?_;rintro r w4 ⟨rfl,he⟩;have HE3:=zh he;clear he c0;have c5:=HE3.at5;by_cases h5:t=5
 ·have HY5:Hid (x.text jB t k z=({x with s:=kQ jB (jS [k,z]) (j9 jB wd k.size (jL jB wd x.s)),texts:=qD k ((j9 jB wd k.size (jL jB wd x.s)).1.length:Int) x.texts}:BS).push (t,wd,((j9 jB wd k.size (jL jB wd x.s)).1.length:Int))):=by show _=_;rw[HY,zl h5]
  subst h5;go_wp2_with fail;refine (HE3.textsPut k ((j9 jB wd k.size (jL jB wd x.s)).1.length:Int) (show ({x with s:=kQ jB (jS [k,z]) (j9 jB wd k.size (jL jB wd x.s))}:BS).texts.length≤1048576 from HTL.out)).mono ?_;rintro r w5 ⟨rfl,he⟩;have HE4:=zh he;clear he c5;go_wp2_with fail;refine (HE4.call λκ1 hb hz=>ZV (5,wd,((j9 jB wd k.size (jL jB wd x.s)).1.length:Int)) HVT.out hb).mono ?_;rintro r w6 ⟨rfl,he⟩;have HE5:=zh he;clear he;go_wp2;go_end0;exact⟨rfl,by rw[HY5];exact HE5.turn⟩
 have HY5:Hid (x.text jB t k z=({x with s:=kQ jB (jS [k,z]) (j9 jB wd k.size (jL jB wd x.s))}:BS).push (t,wd,((j9 jB wd k.size (jL jB wd x.s)).1.length:Int))):=by show _=_;rw[HY,ze h5]
 go_wp2_with fail;refine (HE3.call λκ1 hb hz=>ZV (t,wd,((j9 jB wd k.size (jL jB wd x.s)).1.length:Int)) HVT.out hb).mono ?_;rintro r w6 ⟨rfl,he⟩;have HE5:=zh he;clear he;go_wp2;go_end0;exact⟨rfl,by rw[HY5];exact HE5.turn⟩
theorem FQ {x:BS} (n1 n2:Nat) (k:ByteArray) (hk:k.size≤1048576) (hg:x.Good) (hx:x.e=0) (he:Env B q jB jD w κ [(n2,Obj.cells #[.string k] 9 (0,0)),(n1,Obj.cells #[jI q.p] 70 (0,0))] x w):Calls prog 198 #[.pointer (some ⟨n1,0,none⟩),.pointer (some ⟨n2,0,none⟩)] w λr w'=>r=.returned (.tuple #[])∧kL B q jB jD κ (x.blob jB k) w w':=by
 have HY:Hid (x.blob jB k=x.text jB 25 k ByteArray.empty):=by show _=_;unfold BS.blob;rw[zl hx]
 have HTL:Hid (x.texts.length≤1048576):=zf (hg.ts hx) he.len;have HE:=zh he;have HM2:Hid ((n2,Obj.cells #[.string k] 9 (0,0))∈([(n2,Obj.cells #[.string k] 9 (0,0)),(n1,Obj.cells #[jI q.p] 70 (0,0))]:List (Nat × Obj))):=zx;have HM1:Hid ((n1,Obj.cells #[jI q.p] 70 (0,0))∈([(n2,Obj.cells #[.string k] 9 (0,0)),(n1,Obj.cells #[jI q.p] 70 (0,0))]:List (Nat × Obj))):=zj _ (zx);have cb:=Env.cell he HM1.out 0 _ rfl;have ck:=Env.cell he HM2.out 0 _ rfl;clear he hx hg;go_enter func198,ntmps198;go_wp2_with fail;refine (HE.call λκ1 hb hz=>fW 25 k ByteArray.empty hk zd HTL.out hb).mono ?_;rintro r w6 ⟨rfl,he⟩;have HE5:=zh he;clear he;go_wp2;go_end0;exact⟨rfl,by rw[HY];exact HE5.turn⟩
theorem FR {x:BS} (k:ByteArray) (hk:k.size≤1048576) (hg:x.Good) (h:Bd B q jB jD κ x w):Calls prog 150 #[jI q.p,.string k] w λr w'=>r=.returned (.tuple #[])∧kL B q jB jD κ (x.blob jB k) w w':=by
 have HH:=zh (qa hk hg)
 have HE:Hid (Env B q jB jD w κ [(w.heap.size+1,Obj.cells #[.string k] 9 (0,0)),(w.heap.size,Obj.cells #[jI q.p] 70 (0,0))] x ((w.alloc (.cells #[jI q.p] 70)).alloc (.cells #[.string k] 9))):=by
  have hh:=((Env.start h).add (.cells #[jI q.p] 70)).add (.cells #[.string k] 9);simp only[zm,Nat.add_assoc,Nat.reduceAdd] at hh;exact hh
 clear h hk hg;go_enter func150,ntmps150;go_wp2_with fail;refine (HE.call' λκ1 hb he=>yV hb _ _ (x.blob jB k) (λhx=>by unfold BS.blob;rw[ze hx]) (λ_=>enters_of func198 zk rfl _ _) (λhx=>FQ _ _ k HH.1 HH.2 hx he)).mono ?_;rintro r w5 ⟨rfl,he⟩;have HT:=zh he;clear he;go_wp2;go_end0;exact⟨rfl,HT.turn⟩
theorem MG {x:BS} (n1 n2:Nat) (k:ByteArray) (hk:k.size≤1048576) (hg:x.Good) (hx:x.e=0) (he:Env B q jB jD w κ [(n2,Obj.cells #[.string k] 9 (0,0)),(n1,Obj.cells #[jI q.p] 70 (0,0))] x w):Calls prog 196 #[.pointer (some ⟨n1,0,none⟩),.pointer (some ⟨n2,0,none⟩)] w λr w'=>r=.returned (.tuple #[])∧kL B q jB jD κ (x.str jB (onF jD 2) k) w w':=by
 have HE:=zh he;have HTL:Hid (x.texts.length≤1048576):=zf (hg.ts hx) he.len;have HGO:=zh (iW (k:=k) he.ok.okT);have HM2:Hid ((n2,Obj.cells #[.string k] 9 (0,0))∈([(n2,Obj.cells #[.string k] 9 (0,0)),(n1,Obj.cells #[jI q.p] 70 (0,0))]:List (Nat × Obj))):=zx;have HM1:Hid ((n1,Obj.cells #[jI q.p] 70 (0,0))∈([(n2,Obj.cells #[.string k] 9 (0,0)),(n1,Obj.cells #[jI q.p] 70 (0,0))]:List (Nat × Obj))):=zj _ (zx);have HPB:Hid (x.str jB (onF jD 2) k=if (qN x.texts k).2 && onF jD 2 then x.push (5,Ft.widthOf k.size,(qN x.texts k).1) else x.text jB 5 k ⟨#[0]⟩):=by show _=_;unfold BS.str;rw[zl hx]
 have HGE:Hid (∀w2,Env B q jB jD w κ [(n2,Obj.cells #[.string k] 9 (0,0)),(n1,Obj.cells #[jI q.p] 70 (0,0))] x w2→Calls prog 185 #[jI q.t,.string k] w2 λr w'=>r=.returned (.tuple #[.int .i64 (qN x.texts k).1,.bool (qN x.texts k).2])∧jC w2 w'):=λw2 h=>h.textsGet k;generalize qN x.texts k=g at HPB HGE HGO;obtain⟨ga,gb⟩:=g;clear he hx hg;have hwk:=VS _ hk;have HWO:Hid (∀w,Calls prog 182 #[.int .u64 (k.size:Int)] w λr w'=>r=.returned (.int .i64 (Ft.widthOf k.size))∧w=w'):=λw=>by have h:=Ft.widthOf_any (k.size:Int) w zo zo;rw[Int.toNat_natCast] at h;exact h
 have hwa:IntKind.u64.wrap ga=ga:=by have h:=HGO.out;simp[IntKind.wrap,IntKind.bits,IntKind.signed];omega
 have HVT:Hid (okV (5,Ft.widthOf k.size,ga)):=by have h:=HGO.out;show (0:Int)≤ga∧ga≤18446744073709551615;omega
 go_enter func196,ntmps196;go_wp2_with fail;refine jQ [] (vR B q jB jD w κ [(n2,Obj.cells #[.string k] 9 (0,0)),(n1,Obj.cells #[jI q.p] 70 (0,0))] [x] (x)) (λ_ w w'=>jC w w') ((λp (_:Nat→Value)=>(λ_ _ _=>True) p)) [[],[0],[0,1],[0,1,2],[0,1,2,3],[],[0,1,2,3,4,5],[0,1,2,3,4,5,6],[0,1,2,3,4,5,6,7],[0,1,2,3,4,5,6,7],[0,1,2,3,4,5,6,7,8],[0,1,2,3,4,5,6,7,8,9,10]] [(5,0),(6,1),(7,2),(8,3),(9,4),(10,5),(11,6),(4,7),(12,8),(13,9),(2,10),(3,11)]
  [IsP (jI q.p),IsP (jI q.p),IsP (.pointer (some ⟨q.p,3,none⟩)),IsP (.pointer (some ⟨q.p,5,none⟩)),IsP (jI q.t),IsP (.string k),IsP (.tuple #[.int .i64 ga,.bool gb]),IsP (.tuple #[.int .i64 ga,.bool gb]),IsP (.int .i64 ga),IsP (.bool gb),IsP (.int .i64 ga),IsP (.bool gb)]
  sqc zk (vR.grew) (HE.grew (jC.refl _).drew) zk zk ⟨jG,jG,jG,jG,jG,jG,jG,jG,jG,jG,jG,jG,trivial⟩ rfl ?_ ?_
 ·intro y w2 hW hF;simp only[yR,IsP,Nat.reduceAdd,zz,qg] at hF hW;simp only[jF,Act.put,zq];simp only[hF];clear hF;have HE1:Hid (Env B q jB jD w κ [(n2,Obj.cells #[.string k] 9 (0,0)),(n1,Obj.cells #[jI q.p] 70 (0,0))] x w2):=hW
  cases gb with
  | false=>
   have HP:Hid (x.str jB (onF jD 2) k=x.text jB 5 k ⟨#[0]⟩):=(by have h:=HPB.out;show _=_;simpa using h);have cb:=Env.cell HE1.out HM1.out 0 _ rfl;have ck:=Env.cell HE1.out HM2.out 0 _ rfl;go_wp2_with fail;refine (HE1.call λκ1 hb hz=>fW 5 k ⟨#[0]⟩ hk zd HTL.out hb).mono ?_;rintro r w6 ⟨rfl,he⟩;have HE5:=zh he;clear he;go_wp2;go_end0;exact⟨rfl,by rw[HP];exact HE5.turn⟩
  | true=>
   cases ho:onF jD 2 with
   | false=>
    have HO:=zh ho;have HPZ:=zh (show (x.str jB (onF jD 2) k=x.text jB 5 k ⟨#[0]⟩) by have h:=HPB.out;show _=_;rw[ho] at h;rw[ho];simpa using h);clear ho;have cb:=Env.cell HE1.out HM1.out 0 _ rfl;go_wp2_with fail;refine (HE1.onE 2).mono ?_;rw[HO];rintro r w9 ⟨rfl,hw9⟩;obtain rfl:w2=w9:=hw9.symm;clear cb;have HP:Hid (x.str jB (onF jD 2) k=x.text jB 5 k ⟨#[0]⟩):=HPZ.out;have cb:=Env.cell HE1.out HM1.out 0 _ rfl;have ck:=Env.cell HE1.out HM2.out 0 _ rfl;go_wp2_with fail;refine (HE1.call λκ1 hb hz=>fW 5 k ⟨#[0]⟩ hk zd HTL.out hb).mono ?_;rintro r w6 ⟨rfl,he⟩;have HE5:=zh he;clear he;go_wp2;go_end0;exact⟨rfl,by rw[HP];exact HE5.turn⟩
   | true=>
    have HO:=zh ho;have HP:Hid (x.str jB (onF jD 2) k=x.push (5,Ft.widthOf k.size,ga)):=(by have h:=HPB.out;show _=_;rw[ho] at h;rw[ho];simpa using h);clear ho;have cb:=Env.cell HE1.out HM1.out 0 _ rfl;go_wp2_with fail;refine (HE1.onE 2).mono ?_;rw[HO];rintro r w9 ⟨rfl,hw9⟩;obtain rfl:w2=w9:=hw9.symm;clear cb;go_wp2_with fail;refine jQ [10] (vR B q jB jD w κ [(n2,Obj.cells #[.string k] 9 (0,0)),(n1,Obj.cells #[jI q.p] 70 (0,0))] [x] (x.push (5,Ft.widthOf k.size,ga))) (λ_ w w'=>jC w w') ((λp (_:Nat→Value)=>(λ_ _ _=>True) p)) [[],[0],[0,1],[],[3],[3,4],[3,4,5],[],[7],[3,4,5,6,7,8],[0,1,2,3,4,5,6,7,8,9]] [(21,0),(22,1),(23,2),(24,3),(25,4),(26,5),(27,6),(28,7),(29,8),(30,9),(31,10)]
     [IsP (jI q.p),IsP (jI q.p),IsP (jI q.p),IsP (.string k),IsP (.int .i64 k.size),IsP (.int .u64 k.size),IsP (.int .i64 (Ft.widthOf k.size)),IsP (.int .i64 ga),IsP (.int .u64 ga),IsP (.agg #[.int .i64 5,.int .i64 (Ft.widthOf k.size),.int .u64 ga]),IsP (.tuple #[])]
     sqc zk (vR.grew) (HE1.grew (jC.refl _).drew) zk zk ⟨jG,jG,jG,jG,jG,jG,jG,jG,jG,jG,jG,trivial⟩ rfl ?_ ?_
    ·intro y w2 hW hF;simp only[yR,IsP,Nat.reduceAdd,zz,qg] at hF hW;simp only[jF,Act.put,zq];simp only[hF];clear hF;go_wp2;refine bodyPost_ret (results_none rfl _ _ _) rfl ?_;exact⟨rfl,by rw[HP];exact Env.turn hW⟩
    constructor
    ·exact zb64
    refine⟨zqd,zqd,?_⟩;constructor
    ·exact zb65
    refine⟨zqd,zqd,?_⟩;constructor
    ·refine jP 0 0 ?_;intro y w2 p hlo hhi hW hD K hK;simp only[kV,zq4,zq5,IsP] at hD;generalize hAA:jF y _ _=AA at hK⊢;simp only[jF,Act.put,zq,IsP] at hAA;subst hAA;simp only[zq4,zq5,IsP] at hK;simp only[hD] at hK⊢;clear hD;refine jN ?_;go_simp;refine (HWO.out w2).mono ?_;rintro r w3 ⟨rfl,hw3⟩;exact hK _ _ _ rfl (by rw[← hw3];exact jC.refl _) rfl
    refine⟨zqd,zqd,zqd,?_⟩;constructor
    ·refine jZ 0 rfl ?_;intro y w2 hW hD K hK;simp only[kV,zq4,zq5,IsP] at hD;generalize hAA:jF y _ _=AA at hK⊢;simp only[jF,Act.put,zq,IsP] at hAA;subst hAA;simp only[zq4,zq5,IsP] at hK;simp only[hD] at hK⊢;clear hD;refine jN ?_;go_simp;refine (Env.call hW λκ1 hb hz=>ZV (5,Ft.widthOf k.size,ga) HVT.out hb).mono ?_;rintro r w3 ⟨rfl,he⟩;exact hK _ _ _ rfl trivial he rfl
    trivial
 constructor
 ·exact zb64
 refine⟨zqd,zqd,zqd,?_⟩;constructor
 ·refine jP 0 0 ?_;intro y w2 p hlo hhi hW hD K hK;have dd:=Env.at5 hW;exact zqr
 constructor
 ·exact zb65
 constructor
 ·refine jP 0 0 ?_;intro y w2 p hlo hhi hW hD K hK;simp only[kV,zq4,zq5,IsP] at hD;generalize hAA:jF y _ _=AA at hK⊢;simp only[jF,Act.put,zq,IsP] at hAA;subst hAA;simp only[zq4,zq5,IsP] at hK;simp only[hD] at hK⊢;clear hD;refine jN ?_;go_simp;obtain rfl:p=0:=by omega
  refine (HGE.out w2 hW).mono ?_;rintro r w3 ⟨rfl,hg3⟩;exact hK _ _ _ rfl hg3 rfl
 refine⟨zqd,zqd,zqd,zqd,zqd,?_⟩;trivial
theorem MH {x:BS} (k:ByteArray) (hk:k.size≤1048576) (hg:x.Good) (h:Bd B q jB jD κ x w):Calls prog 149 #[jI q.p,.string k] w λr w'=>r=.returned (.tuple #[])∧kL B q jB jD κ (x.str jB (onF jD 2) k) w w':=by
 have HH:=zh (qa hk hg)
 have HE:Hid (Env B q jB jD w κ [(w.heap.size+1,Obj.cells #[.string k] 9 (0,0)),(w.heap.size,Obj.cells #[jI q.p] 70 (0,0))] x ((w.alloc (.cells #[jI q.p] 70)).alloc (.cells #[.string k] 9))):=by
  have hh:=((Env.start h).add (.cells #[jI q.p] 70)).add (.cells #[.string k] 9);simp only[zm,Nat.add_assoc,Nat.reduceAdd] at hh;exact hh
 clear h hk hg;go_enter func149,ntmps149;go_wp2_with fail;refine (HE.call' λκ1 hb he=>yV hb _ _ (x.str jB (onF jD 2) k) (λhx=>by unfold BS.str;rw[ze hx]) (λ_=>enters_of func196 zk rfl _ _) (λhx=>MG _ _ k HH.1 HH.2 hx he)).mono ?_;rintro r w5 ⟨rfl,he⟩;have HT:=zh he;clear he;go_wp2;go_end0;exact⟨rfl,HT.turn⟩
def yE {α:Type} (f:α→Value) (w:World) (v:Value) (l:List α):Prop:=
 ∃a c,v=.slice a l.length c∧∀(i:Nat) (x:α),l[i]? = some x→∃b off,a=some ⟨b,off,none⟩∧w.cell? ⟨b,off+i,none⟩=some (f x)
theorem yE.grew {α:Type} {f:α→Value} {l:List α} (h:yE f w v l) (hg:jC w w'):yE f w' v l:=by
 obtain⟨a,c,h1,h2⟩:=h;refine⟨a,c,h1,λi x hx=>?_⟩;obtain⟨b,off,h3,h4⟩:=h2 i x hx;exact⟨b,off,h3,hg.cell h4⟩
theorem xS (l:List Int) (lv:Value) (w:World) (hp:yE (λx=>.int .i64 x) w lv l) (hb:∀x∈l,-9223372036854775808≤x∧x≤9223372036854775807) (hl:l.length≤1048576):Calls prog 122 #[.func (.func 123) #[] #[],lv] w λr w'=>∃v',r=.returned v'∧jU w' w.heap.size v' (l.map vE)∧jC w w':=by
 obtain⟨ad,c,rfl,kM⟩:=hp;have HC:=zh kM;have HB:=zh hb;have HL:=zh hl;clear kM hb;have hll:l.length≤9223372036854775807:=by omega
 go_enter func122,ntmps122;go_wp2_with fail
 go_loopw [4,9] (λv i wr=>∃k:Nat,k≤l.length∧i=.int .i64 k∧Hid (jU wr w.heap.size v ((l.take k).map vE)∧jC w wr)) (λ_ i _=>l.length - (intOf i).toNat)
 case atStart=>exact⟨0,Nat.zero_le _,rfl,by
  show _∧_
  exact⟨World.ownsRow_nil _ _ _ _,jC.refl _⟩⟩
 case round=>
  obtain⟨k,hk,rfl,HW⟩:=hrel;by_cases hlt:k < l.length
  ·obtain⟨x,hx⟩:∃x,l[k]? = some x:=⟨_,za hlt⟩;have HSN:Hid ((l.take (k+1)).map vE=(l.take k).map vE++[vE x]):=by show _=_;rw[qo,hx];simp
   have HX:=zh (HB.out x (qd hx));obtain⟨b,off,rfl,c0⟩:=HC.out k x hx;clear hx;have d0:=HW.2.cell c0;clear c0;go_wp2_with fail;refine (mX x wr HX.1 HX.2).mono ?_;rintro r w2 ⟨rfl,hg⟩;have HO:=zh (show jU w2 w.heap.size u4 ((l.take k).map vE) from JM HW.1 hg);have HG:=zh (HW.2.trans hg);obtain⟨va,vc,rfl,hvc⟩:=zI HO.out;have HLN:Hid (((l.take k).map vE).length < l.length):=by show _ < _;rw[qb,qr];omega
   generalize (l.take k).map vE=L at *;generalize vE x=X at *;obtain⟨X0,X1,X2⟩:=X;clear hg HW;have HO2:Hid (∀o,jU (w2.alloc o) w.heap.size (.slice va L.length vc) L):=λo=>JM HO.out ((jC.refl _).alloc o);go_wp2_with (at_builtin;refine qJ rfl _ _ rfl w.heap.size (.slice va L.length vc) L rfl (HO2.out _) _ [(X0,X1,X2)] rfl (Y2 _ _) (λc h=>by cases h) zp29 (zf HG.size zp2) ?_;intro v' w3 j5 hgr hqq;obtain⟨va2,vc2,rfl,_⟩:=zI j5;have HG3:=zh (qa j5 (aL (HO2.out _) (HG.alloc _) hgr));clear j5 hgr hqq);go_roundw
   case rel=>
    refine⟨k+1,by omega,by go_num,?_⟩;show _∧_;rw[HSN];have hh:=HG3.out;rw[zb] at hh;exact hh
   case measure=>simp[intOf];omega
  have ek:k=l.length:=by omega
  subst ek;have hw:=HW.out
  have HE:Hid (jU wr w.heap.size u4 (l.map vE)∧jC w wr):=by
   show _∧_;rw[qn] at hw;exact hw
  clear hw HW;go_wp2;go_ret;exact⟨_,rfl,HE.out⟩
theorem xT (l:List Int) (lv:Value) (w:World) (hp:yE (λx=>.int .u64 x) w lv l) (hb:∀x∈l,0≤x∧x≤18446744073709551615) (hl:l.length≤1048576):Calls prog 124 #[.func (.func 125) #[] #[],lv] w λr w'=>∃v',r=.returned v'∧jU w' w.heap.size v' (l.map vF)∧jC w w':=by
 obtain⟨ad,c,rfl,kM⟩:=hp;have HC:=zh kM;have HB:=zh hb;have HL:=zh hl;clear kM hb;have hll:l.length≤9223372036854775807:=by omega
 go_enter func124,ntmps124;go_wp2_with fail
 go_loopw [4,9] (λv i wr=>∃k:Nat,k≤l.length∧i=.int .i64 k∧Hid (jU wr w.heap.size v ((l.take k).map vF)∧jC w wr)) (λ_ i _=>l.length - (intOf i).toNat)
 case atStart=>exact⟨0,Nat.zero_le _,rfl,by
  show _∧_
  exact⟨World.ownsRow_nil _ _ _ _,jC.refl _⟩⟩
 case round=>
  obtain⟨k,hk,rfl,HW⟩:=hrel;by_cases hlt:k < l.length
  ·obtain⟨x,hx⟩:∃x,l[k]? = some x:=⟨_,za hlt⟩;have HSN:Hid ((l.take (k+1)).map vF=(l.take k).map vF++[vF x]):=by show _=_;rw[qo,hx];simp
   have HX:=zh (HB.out x (qd hx));obtain⟨b,off,rfl,c0⟩:=HC.out k x hx;clear hx;have d0:=HW.2.cell c0;clear c0;go_wp2_with fail;refine (mY x wr HX.1 HX.2).mono ?_;rintro r w2 ⟨rfl,hg⟩;have HO:=zh (show jU w2 w.heap.size u4 ((l.take k).map vF) from JM HW.1 hg);have HG:=zh (HW.2.trans hg);obtain⟨va,vc,rfl,hvc⟩:=zI HO.out;have HLN:Hid (((l.take k).map vF).length < l.length):=by show _ < _;rw[qb,qr];omega
   generalize (l.take k).map vF=L at *;generalize vF x=X at *;obtain⟨X0,X1,X2⟩:=X;clear hg HW;have HO2:Hid (∀o,jU (w2.alloc o) w.heap.size (.slice va L.length vc) L):=λo=>JM HO.out ((jC.refl _).alloc o);go_wp2_with (at_builtin;refine qJ rfl _ _ rfl w.heap.size (.slice va L.length vc) L rfl (HO2.out _) _ [(X0,X1,X2)] rfl (Y2 _ _) (λc h=>by cases h) zp29 (zf HG.size zp2) ?_;intro v' w3 j5 hgr hqq;obtain⟨va2,vc2,rfl,_⟩:=zI j5;have HG3:=zh (qa j5 (aL (HO2.out _) (HG.alloc _) hgr));clear j5 hgr hqq);go_roundw
   case rel=>
    refine⟨k+1,by omega,by go_num,?_⟩;show _∧_;rw[HSN];have hh:=HG3.out;rw[zb] at hh;exact hh
   case measure=>simp[intOf];omega
  have ek:k=l.length:=by omega
  subst ek;have hw:=HW.out
  have HE:Hid (jU wr w.heap.size u4 (l.map vF)∧jC w wr):=by
   show _∧_;rw[qn] at hw;exact hw
  clear hw HW;go_wp2;go_ret;exact⟨_,rfl,HE.out⟩
theorem MI (l:List Bool) (lv:Value) (w:World) (hp:yE (λx=>.bool x) w lv l) (hb:∀x∈l,True) (hl:l.length≤1048576):Calls prog 126 #[.func (.func 127) #[] #[],lv] w λr w'=>∃v',r=.returned v'∧jU w' w.heap.size v' (l.map y6)∧jC w w':=by
 obtain⟨ad,c,rfl,kM⟩:=hp;have HC:=zh kM;have HB:=zh hb;have HL:=zh hl;clear kM hb;have hll:l.length≤9223372036854775807:=by omega
 go_enter func126,ntmps126;go_wp2_with fail
 go_loopw [4,9] (λv i wr=>∃k:Nat,k≤l.length∧i=.int .i64 k∧Hid (jU wr w.heap.size v ((l.take k).map y6)∧jC w wr)) (λ_ i _=>l.length - (intOf i).toNat)
 case atStart=>exact⟨0,Nat.zero_le _,rfl,by
  show _∧_
  exact⟨World.ownsRow_nil _ _ _ _,jC.refl _⟩⟩
 case round=>
  obtain⟨k,hk,rfl,HW⟩:=hrel;by_cases hlt:k < l.length
  ·obtain⟨x,hx⟩:∃x,l[k]? = some x:=⟨_,za hlt⟩;have HSN:Hid ((l.take (k+1)).map y6=(l.take k).map y6++[y6 x]):=by show _=_;rw[qo,hx];simp
   have HX:=zh (HB.out x (qd hx));obtain⟨b,off,rfl,c0⟩:=HC.out k x hx;clear hx;have d0:=HW.2.cell c0;clear c0;go_wp2_with fail;refine (mZ x wr).mono ?_;rintro r w2 ⟨rfl,hg⟩;have HO:=zh (show jU w2 w.heap.size u4 ((l.take k).map y6) from JM HW.1 hg);have HG:=zh (HW.2.trans hg);obtain⟨va,vc,rfl,hvc⟩:=zI HO.out;have HLN:Hid (((l.take k).map y6).length < l.length):=by show _ < _;rw[qb,qr];omega
   generalize (l.take k).map y6=L at *;generalize y6 x=X at *;obtain⟨X0,X1,X2⟩:=X;clear hg HW;have HO2:Hid (∀o,jU (w2.alloc o) w.heap.size (.slice va L.length vc) L):=λo=>JM HO.out ((jC.refl _).alloc o);go_wp2_with (at_builtin;refine qJ rfl _ _ rfl w.heap.size (.slice va L.length vc) L rfl (HO2.out _) _ [(X0,X1,X2)] rfl (Y2 _ _) (λc h=>by cases h) zp29 (zf HG.size zp2) ?_;intro v' w3 j5 hgr hqq;obtain⟨va2,vc2,rfl,_⟩:=zI j5;have HG3:=zh (qa j5 (aL (HO2.out _) (HG.alloc _) hgr));clear j5 hgr hqq);go_roundw
   case rel=>
    refine⟨k+1,by omega,by go_num,?_⟩;show _∧_;rw[HSN];have hh:=HG3.out;rw[zb] at hh;exact hh
   case measure=>simp[intOf];omega
  have ek:k=l.length:=by omega
  subst ek;have hw:=HW.out
  have HE:Hid (jU wr w.heap.size u4 (l.map y6)∧jC w wr):=by
   show _∧_;rw[qn] at hw;exact hw
  clear hw HW;go_wp2;go_ret;exact⟨_,rfl,HE.out⟩
def xU (elem many:Int) (l:List V3):Prop:=(elem = -1∧many=0)∨(elem≠-1∧many=0∧(typedF elem 0).2=true)∨(elem≠-1∧many=(l.length:Int)∧0 < l.length∧(typedF elem (l.length:Int)).2=true)
def qL (κ:Nat→Nat) (w:World) (lv:Value):Prop:=∀ad n c,lv=.slice (some ad) n c→ad.block < w.heap.size∧κ ad.block=0
theorem DU (h:(s.1.length:Int)≤jB):((yS jB T len jX kind e0 l s).2.1.length:Int)≤jB:=by
 unfold yS;dsimp only;have h1:∀x,((jL jB x s).1.length:Int)≤jB:=λx=>z8 h
 have h2:∀x,(((if len then j9 jB x l.length (jL jB x s) else jL jB x s)).1.length:Int)≤jB:=λx=>by
  split
  ·exact qV (h1 x)
  exact h1 x
 have h3:=λx=>KX (x:=x) l (h2 x)
 have h4:∀x,(((if jX then z6 jB x l (jY jB x l (if len then j9 jB x l.length (jL jB x s) else jL jB x s)) else jY jB x l (if len then j9 jB x l.length (jL jB x s) else jL jB x s))).1.length:Int)≤jB:=λx=>by
  split
  ·exact aJ l (h3 x)
  exact h3 x
 by_cases ha:yK T e0 l≠0
 ·rw[zl ha];exact h
 rw[ze ha];generalize allF l (0,0,0) s.1.length (if len=true then 1 else 0)=X;by_cases hb:X=0
 ·rw[zl hb];exact h
 rw[ze hb];have h5:=h4 X;generalize (if jX=true then z6 jB X l (jY jB X l (if len=true then j9 jB X l.length (jL jB X s) else jL jB X s)) else jY jB X l (if len=true then j9 jB X l.length (jL jB X s) else jL jB X s))=s4 at h5⊢;by_cases hc:s4.2≠0
 ·rw[zl hc];exact h5
 rw[ze hc];exact h5
theorem xV (h:(s.1.length:Int)≤jB) (hm:jB≤1048576):okV (yS jB T len jX kind e0 l s).1.1:=by
 unfold yS;dsimp only;have h1:∀x,((jL jB x s).1.length:Int)≤jB:=λx=>z8 h
 have h2:∀x,(((if len then j9 jB x l.length (jL jB x s) else jL jB x s)).1.length:Int)≤jB:=λx=>by
  split
  ·exact qV (h1 x)
  exact h1 x
 by_cases ha:yK T e0 l≠0
 ·rw[zl ha];exact ok0
 rw[ze ha];generalize allF l (0,0,0) s.1.length (if len=true then 1 else 0)=X;by_cases hb:X=0
 ·rw[zl hb];exact ok0
 rw[ze hb];have h5:=h2 X;generalize (if jX=true then z6 jB X l (jY jB X l (if len=true then j9 jB X l.length (jL jB X s) else jL jB X s)) else jY jB X l (if len=true then j9 jB X l.length (jL jB X s) else jL jB X s))=s4;by_cases hc:s4.2≠0
 ·rw[zl hc];exact ok0
 rw[ze hc];refine⟨Int.natCast_nonneg _,?_⟩;show (List.length _:Int)≤_;omega
theorem MJ (h:(s.1.length:Int)≤jB):((yH jB elem many l s).2.1.length:Int)≤jB:=by
 unfold yH;split
 ·exact DU h
 exact DU h
theorem rD (h:(s.1.length:Int)≤jB) (hm:jB≤1048576):okV (yH jB elem many l s).1.1:=by
 unfold yH;split
 ·exact xV h hm
 exact xV h hm
section
variable {B:Nat} {q:zR} {jB jD:Int} {κ κ0:Nat→Nat} {x y:BS} {w w' w0:World} {Kp:List (Nat × Obj)}
theorem yA.own_one {w:World} {p:Nat} {o o':Option Nat} {l l':List UInt8} {m m' e e':Int} (h:yA 0 w p o l m e) (k:yA 0 w p o' l' m' e'):o'=o:=by
 obtain⟨_,v,h1,_,h3,_⟩:=h;obtain⟨_,v',k1,_,k3,_⟩:=k;rw[h1] at k1;injection k1 with k1;injection k1 with k1;have:v=v':=Option.some.inj (by exact ql (λa:Array Value=>a[1]?) k1);subst this;exact k3.symm.trans h3
theorem Bd.buf_callsA (h:Bd B q jB jD κ x w) {f:Nat} {args:Array Value} {R:Ending→Prop} {s':St} (hl:(s'.1.length:Int)≤jB)
 (hc:∀o,yA 0 w q.b o x.s.1 jB x.s.2→(∀k,KL q.b o k→κ k=2)→Calls prog f args w λr w'=>R r∧kO 0 w w' q.b o jB s') :
 Calls prog f args w λr w'=>R r∧∀κ1,Bd B q jB jD κ1 x w→kL B q jB jD κ1 {x with s:=s'} w w':=by
 obtain⟨h0,o,h1,h2⟩:=h.buf;refine (hc o h1 (λk hk=>hk.elim (λe=>e ▸ h0) (λe=>h2 k e.symm))).mono λr w' hr=>⟨hr.1,λκ1 g=>?_⟩;obtain⟨g0,o1,g1,g2⟩:=g.buf;obtain rfl:=h1.own_one g1;obtain⟨S',k1,k2,k3⟩:=fU.turn (S:=λk=>κ1 k=2) g0 g1 g2 hr.2;exact g.buf_step hl k1 k2 k3
theorem MK {elem many:Int} {lv:Value} {l:List V3} (h:Bd B q jB jD κ x w) (hF:xU elem many l) (hv:ValsAt w lv l) (ha:qL κ w lv) (kE:l.length≤1048576) (hok:∀v∈l,okV v) (hs:x.s.2=0) :
 Calls prog 180 #[jI q.b,.int .i64 elem,.int .i64 many,lv] w λr w'=>r=.returned (J3 (yH jB elem many l x.s).1)∧∀κ1,Bd B q jB jD κ1 x w→kL B q jB jD κ1 {x with s:=(yH jB elem many l x.s).2} w w':=by
 refine h.buf_callsA (MJ h.ok.len) λo ho hκ=>?_;have hap:∀ad n c,lv=.slice (some ad) n c→ad.block < w.heap.size∧¬KL q.b o ad.block:=λad n c e=>⟨(ha ad n c e).1,λhk=>by have h1:=hκ _ hk;have h2:=(ha ad n c e).2;omega⟩;unfold yH;rcases hF with ⟨rfl,rfl⟩|⟨hne,rfl,ht⟩|⟨hne,rfl,hpos,ht⟩
 ·rw[zl rfl];exact put_un x.s lv l ho (Nat.zero_le _) h.ok.len h.ok.m1 hv kE hok hap hs
 ·rw[ze hne];exact put_ty0 elem _ (Prod.ext rfl ht) hne x.s lv l ho (Nat.zero_le _) h.ok.len h.ok.m1 hv kE hok hap hs
 rw[ze hne,decide_eq_false zo];exact put_fix elem _ x.s lv l (Prod.ext rfl ht) hpos ho (Nat.zero_le _) h.ok.len h.ok.m1 hv kE hok hap hs
def xW (B:Nat) (q:zR) (jB jD:Int) (w0:World) (κ0:Nat→Nat) (x y:BS) (w w':World):Prop:=∀Kp,Env B q jB jD w0 κ0 Kp x w→Env B q jB jD w0 κ0 Kp y w'
theorem DV (h:∀κ1,Bd B q jB jD κ1 x w→kL B q jB jD κ1 y w w'):xW B q jB jD w0 κ0 x y w w':=by
 rintro Kp ⟨κ,h1,h2,h3⟩;obtain⟨κ1,k1,k2⟩:=h κ h1;exact⟨κ1,k1,h2.trans k2,λz hz=>⟨k2.1.heap (h3 z hz).1 (λe=>e (h3 z hz).2),(k2.2 z.1 (zc.1 (h3 z hz).1).1).trans (h3 z hz).2⟩⟩
theorem Env.vput {elem many:Int} {lv:Value} {l:List V3} (h:Env B q jB jD w0 κ0 Kp x w) (hF:xU elem many l) (hv:ValsAt w0 lv l) (ha:qL κ0 w0 lv) (kE:l.length≤1048576) (hok:∀v∈l,okV v) (hs:x.s.2=0) :
 Calls prog 180 #[jI q.b,.int .i64 elem,.int .i64 many,lv] w λr w'=>r=.returned (J3 (yH jB elem many l x.s).1)∧xW B q jB jD w0 κ0 x {x with s:=(yH jB elem many l x.s).2} w w':=by
 obtain⟨κ,h1,h2,h3⟩:=h;have hv2:ValsAt w lv l:=Y1 hv h2.1 (λad n c e hk=>hk (ha ad n c e).2);have ha2:qL κ w lv:=λad n c e=>⟨qk (ha ad n c e).1 h2.1.size,(h2.2 _ (ha ad n c e).1).trans (ha ad n c e).2⟩;exact (MK h1 hF hv2 ha2 kE hok hs).mono λr w' hr=>⟨hr.1,DV hr.2⟩
def dD (E0 E1 E2:Nat→World→Prop):Nat→Value→World→Prop
 | 0,v,w=>∃n,v=.pointer (some ⟨n,0,none⟩)∧E0 n w
 | 1,v,w=>∃n,v=.pointer (some ⟨n,0,none⟩)∧E1 n w
 | _+2,v,w=>∃n,v=.pointer (some ⟨n,0,none⟩)∧E2 n w
def NewT (j:Nat) (E0 E1 E2:Nat→World→Prop):Nat→(Nat→Value)→World→World→Prop
 | 0,_,w,w'=>∀n,E0 n w→E1 n w'
 | 1,y,w,w'=>∀n,y j=.pointer (some ⟨n,0,none⟩)→E1 n w→E2 n w'
 | _+2,_,w,w'=>∀n,E2 n w→E2 n w'
theorem dD.st {j:Nat} {E0 E1 E2:Nat→World→Prop} (g0:∀n w w',jC w w'→E0 n w→E0 n w') (g1:∀n w w',jC w w'→E1 n w→E1 n w') (g2:∀n w w',jC w w'→E2 n w→E2 n w') :
 (∀p v w w',(λ(_:Nat) w w'=>jC w w') p w w'→dD E0 E1 E2 p v w→dD E0 E1 E2 p v w')∧∀p v w w',(∃y:Nat→Value,y j=v∧NewT j E0 E1 E2 p y w w')→dD E0 E1 E2 p v w→dD E0 E1 E2 (p+1) v w':=by
 refine⟨λp v w w' hg h=>?_,λp v w w' ⟨y,hy,hT⟩ h=>?_⟩
 ·match p,h with
  | 0,⟨n,e,h⟩=>exact⟨n,e,g0 n _ _ hg h⟩
  | 1,⟨n,e,h⟩=>exact⟨n,e,g1 n _ _ hg h⟩
  | _+2,⟨n,e,h⟩=>exact⟨n,e,g2 n _ _ hg h⟩
 match p,h,hT with
 | 0,⟨n,e,h⟩,hT=>exact⟨n,e,hT n h⟩
 | 1,⟨n,e,h⟩,hT=>exact⟨n,e,hT n (hy.trans e) h⟩
 | _+2,⟨n,e,h⟩,hT=>exact⟨n,e,hT n h⟩
theorem Env.callT {f:Nat} {args:Array Value} {R:Ending→Prop} (h:Env B q jB jD w0 κ0 Kp x w) (hc:∀κ,Bd B q jB jD κ x w→Tn κ0 κ w0 w→Env B q jB jD w κ Kp x w→Calls prog f args w λr w'=>R r∧kL B q jB jD κ y w w') :
 Calls prog f args w λr w'=>R r∧Env B q jB jD w0 κ0 Kp y w':=by
 obtain⟨κ,h1,h2,h3⟩:=h;refine (hc κ h1 h2 ⟨κ,h1,Tn.refl _ _,h3⟩).mono λr w' hr=>⟨hr.1,?_⟩;obtain⟨κ1,k1,k2⟩:=hr.2;exact⟨κ1,k1,h2.trans k2,λz hz=>⟨k2.1.heap (h3 z hz).1 (λe=>e (h3 z hz).2),(k2.2 z.1 (zc.1 (h3 z hz).1).1).trans (h3 z hz).2⟩⟩
theorem qL.tn {κ κ1:Nat→Nat} {w w':World} {lv:Value} (h:qL κ w lv) (ht:Tn κ κ1 w w'):qL κ1 w' lv:=λad n c e=>⟨qk (h ad n c e).1 ht.1.size,(ht.2 _ (h ad n c e).1).trans (h ad n c e).2⟩
theorem eO {κ κ1:Nat→Nat} {w w':World} {lv:Value} {l:List V3} (hv:ValsAt w lv l) (h:qL κ w lv) (ht:Tn κ κ1 w w'):ValsAt w' lv l:=Y1 hv ht.1 (λad n c e hk=>hk (h ad n c e).2)
theorem set3 {w:World} {n:Nat} {t:TypeId} {a b c d e f:Value} (h:w.heap[n]? = some (.cells #[a,b,c] t (0,0))):(((w.setCell ⟨n,0,none⟩ d).setCell ⟨n,1,none⟩ e).setCell ⟨n,2,none⟩ f).heap[n]? = some (.cells #[d,e,f] t (0,0)):=by
 have h1:=heap_setCell_same w n 0 _ _ d h;have h2:=heap_setCell_same _ n 1 _ _ e h1;have h3:=heap_setCell_same _ n 2 _ _ f h2;simpa using h3
theorem CD (w:World) (n:Nat) (d e f:Value):Moved (λk=>k=n) w (((w.setCell ⟨n,0,none⟩ d).setCell ⟨n,1,none⟩ e).setCell ⟨n,2,none⟩ f):=
 Moved.setCell (p:=⟨n,2,none⟩) (Moved.setCell (p:=⟨n,1,none⟩) (Moved.setCell (p:=⟨n,0,none⟩) (Moved.refl (λk=>k=n) _) (λ_=>rfl) _) (λ_=>rfl) _) (λ_=>rfl) _
def JN (B:Nat) (q:zR) (jB jD:Int) (w0:World) (κ0:Nat→Nat) (Kp:List (Nat × Obj)) (o:Obj) (x:BS) (n:Nat) (w:World):Prop:=(w0.heap.size≤n∧∀z∈Kp,z.1≠n)∧Env B q jB jD w0 κ0 ((n,o)::Kp) x w
theorem JN.grew {o:Obj}:∀n w w',jC w w'→JN B q jB jD w0 κ0 Kp o x n w→JN B q jB jD w0 κ0 Kp o x n w':=λ_ _ _ hg h=>⟨h.1,h.2.grew hg⟩
theorem Env.newE (h:Env B q jB jD w0 κ0 Kp x w) (o:Obj):JN B q jB jD w0 κ0 Kp o x w.heap.size (w.alloc o):=
 ⟨⟨h.size,λz hz e=>by have:=(zc.1 (h.kp (n:=z.1) (o:=z.2) hz)).1;omega⟩,h.add o⟩
theorem JN.all {o:Obj} (hA:xW B q jB jD w0 κ0 x y w w'):∀n,JN B q jB jD w0 κ0 Kp o x n w→JN B q jB jD w0 κ0 Kp o y n w':=λ_ h=>⟨h.1,hA _ h.2⟩
theorem JN.env {o:Obj} {n:Nat} (h:JN B q jB jD w0 κ0 Kp o x n w):Env B q jB jD w0 κ0 Kp x w:=by
 obtain⟨_,κ,h1,h2,h3⟩:=h;exact⟨κ,h1,h2,λz hz=>h3 z (zj _ hz)⟩
theorem JN.tell {o o':Obj} {n:Nat} (h:JN B q jB jD w0 κ0 Kp o x n w) (hm:Moved (λk=>k=n) w w') (ho:w'.heap[n]? = some o'):JN B q jB jD w0 κ0 Kp o' x n w':=by
 obtain⟨⟨hn,hk⟩,κ,h1,h2,h3⟩:=h;have hz:κ n=0:=(h3 _ zx).2;have hd:∀c,c≠0→∀k,κ k=c→¬k=n:=λc hc k hk e=>hc (by rw[← hk,e];exact hz)
 refine⟨⟨hn,hk⟩,κ,⟨λk hk=>⟨(h1.lt k hk).1,qk (h1.lt k hk).2 hm.size⟩,h1.ok,h1.self.kept hm (hd 1 zd),h1.buf.kept hm (hd 2 zd),h1.stk.kept hm (hd 3 zd),h1.keys.kept hm (hd 4 zd),h1.texts.kept hm (hd 5 zd),h1.lists.kept hm (hd 6 zd),h1.names.kept hm (hd 7 zd)⟩,
  ⟨h2.1.trans hm (λj hj e=>by omega),h2.2⟩,λz hz'=>?_⟩
 rcases qp.1 hz' with rfl|hz'
 ·exact⟨ho,hz⟩
 exact⟨hm.heap (h3 z (zj _ hz')).1 (λe=>hk z hz' e),(h3 z (zj _ hz')).2⟩
end
theorem xX {x:BS} (n1 n2 n3 n4:Nat) (elem many:Int) (lv:Value) (l:List V3) (hF:xU elem many l) (hv:ValsAt w lv l) (ha:qL κ w lv) (kE:l.length≤1048576) (hok:∀v∈l,okV v) (hg:x.Good) (hx:x.e=0) (he:Env B q jB jD w κ [(n4,Obj.cells #[lv] 109 (0,0)),(n3,Obj.cells #[.int .i64 many] 3 (0,0)),(n2,Obj.cells #[.int .i64 elem] 3 (0,0)),(n1,Obj.cells #[jI q.p] 70 (0,0))] x w):Calls prog 179 #[.pointer (some ⟨n1,0,none⟩),.pointer (some ⟨n2,0,none⟩),.pointer (some ⟨n3,0,none⟩),.pointer (some ⟨n4,0,none⟩)] w λr w'=>r=.returned (.tuple #[])∧kL B q jB jD κ (x.vector jB elem many l) w w':=by
 have HE:=zh he;have HM4:Hid ((n4,Obj.cells #[lv] 109 (0,0))∈([(n4,Obj.cells #[lv] 109 (0,0)),(n3,Obj.cells #[.int .i64 many] 3 (0,0)),(n2,Obj.cells #[.int .i64 elem] 3 (0,0)),(n1,Obj.cells #[jI q.p] 70 (0,0))]:List (Nat × Obj))):=zx;have HM3:Hid ((n3,Obj.cells #[.int .i64 many] 3 (0,0))∈([(n4,Obj.cells #[lv] 109 (0,0)),(n3,Obj.cells #[.int .i64 many] 3 (0,0)),(n2,Obj.cells #[.int .i64 elem] 3 (0,0)),(n1,Obj.cells #[jI q.p] 70 (0,0))]:List (Nat × Obj))):=zj _ (zx);have HM2:Hid ((n2,Obj.cells #[.int .i64 elem] 3 (0,0))∈([(n4,Obj.cells #[lv] 109 (0,0)),(n3,Obj.cells #[.int .i64 many] 3 (0,0)),(n2,Obj.cells #[.int .i64 elem] 3 (0,0)),(n1,Obj.cells #[jI q.p] 70 (0,0))]:List (Nat × Obj))):=zj _ (zj _ (zx));have HM1:Hid ((n1,Obj.cells #[jI q.p] 70 (0,0))∈([(n4,Obj.cells #[lv] 109 (0,0)),(n3,Obj.cells #[.int .i64 many] 3 (0,0)),(n2,Obj.cells #[.int .i64 elem] 3 (0,0)),(n1,Obj.cells #[jI q.p] 70 (0,0))]:List (Nat × Obj))):=zj _ (zj _ (zj _ (zx)));have HPV:Hid (∀Kp w2,Env B q jB jD w κ Kp x w2→Calls prog 180 #[jI q.b,.int .i64 elem,.int .i64 many,lv] w2 λr w'=>r=.returned (J3 (yH jB elem many l x.s).1)∧xW B q jB jD w κ x {x with s:=(yH jB elem many l x.s).2} w2 w'):=λKp w2 h=>h.vput hF hv ha kE hok (hg.s0 hx);have HVO:Hid (okV (yH jB elem many l x.s).1.1):=rD he.ok.len he.ok.m1;have HY:Hid (x.vector jB elem many l=(({x with s:=(yH jB elem many l x.s).2}:BS).fail (yH jB elem many l x.s).1.2).push (yH jB elem many l x.s).1.1):=by show _=_;unfold BS.vector;rw[zl hx]
 generalize yH jB elem many l x.s=PP at HPV HVO HY;obtain⟨⟨⟨ty,wd,n⟩,ee⟩,s1⟩:=PP;clear he hx hg hv ha hF hok;go_enter func179,ntmps179;go_wp2_with fail;refine sqQ [8,13] (vR B q jB jD w κ [(n4,Obj.cells #[lv] 109 (0,0)),(n3,Obj.cells #[.int .i64 many] 3 (0,0)),(n2,Obj.cells #[.int .i64 elem] 3 (0,0)),(n1,Obj.cells #[jI q.p] 70 (0,0))] [x] ({x with s:=s1})) (λ_ w w'=>jC w w') (NewT 12 (JN B q jB jD w κ [(n4,Obj.cells #[lv] 109 (0,0)),(n3,Obj.cells #[.int .i64 many] 3 (0,0)),(n2,Obj.cells #[.int .i64 elem] 3 (0,0)),(n1,Obj.cells #[jI q.p] 70 (0,0))] (.cells #[.int .i64 0,.int .i64 0,.int .u64 0] 135 (0,0)) (x)) (JN B q jB jD w κ [(n4,Obj.cells #[lv] 109 (0,0)),(n3,Obj.cells #[.int .i64 many] 3 (0,0)),(n2,Obj.cells #[.int .i64 elem] 3 (0,0)),(n1,Obj.cells #[jI q.p] 70 (0,0))] (.cells #[.int .i64 0,.int .i64 0,.int .u64 0] 135 (0,0)) ({x with s:=s1})) (JN B q jB jD w κ [(n4,Obj.cells #[lv] 109 (0,0)),(n3,Obj.cells #[.int .i64 many] 3 (0,0)),(n2,Obj.cells #[.int .i64 elem] 3 (0,0)),(n1,Obj.cells #[jI q.p] 70 (0,0))] (.cells #[.int .i64 ty,.int .i64 wd,.int .u64 n] 135 (0,0)) ({x with s:=s1}))) [[],[0],[0,1],[0,1,2],[0,1,2,3],[],[],[],[0,1,2,3,4,5,6,7],[0,1,2,3,4,5,6,7,8],[0,1,2,3,4,5,6,7,8,9],[0,1,2,3,4,5,6,7,8,9],[],[0,1,2,3,4,5,6,7,8,9,10,12],[0,1,2,3,4,5,6,7,8,9,10,11,12,13]] [(7,0),(8,1),(9,2),(10,3),(11,4),(12,5),(13,6),(14,7),(15,8),(6,9),(16,10),(17,11),(4,12),(5,14)]
  [IsP (jI q.p),IsP (jI q.p),IsP (jI q.p),IsP (jI q.p),IsP (jI q.b),IsP (.int .i64 elem),IsP (.int .i64 many),IsP (lv),IsP (.tuple #[.agg #[.int .i64 ty,.int .i64 wd,.int .u64 n],.int .i64 ee]),IsP (.tuple #[.agg #[.int .i64 ty,.int .i64 wd,.int .u64 n],.int .i64 ee]),IsP (.agg #[.int .i64 ty,.int .i64 wd,.int .u64 n]),IsP (.int .i64 ee),dD (JN B q jB jD w κ [(n4,Obj.cells #[lv] 109 (0,0)),(n3,Obj.cells #[.int .i64 many] 3 (0,0)),(n2,Obj.cells #[.int .i64 elem] 3 (0,0)),(n1,Obj.cells #[jI q.p] 70 (0,0))] (.cells #[.int .i64 0,.int .i64 0,.int .u64 0] 135 (0,0)) (x)) (JN B q jB jD w κ [(n4,Obj.cells #[lv] 109 (0,0)),(n3,Obj.cells #[.int .i64 many] 3 (0,0)),(n2,Obj.cells #[.int .i64 elem] 3 (0,0)),(n1,Obj.cells #[jI q.p] 70 (0,0))] (.cells #[.int .i64 0,.int .i64 0,.int .u64 0] 135 (0,0)) ({x with s:=s1})) (JN B q jB jD w κ [(n4,Obj.cells #[lv] 109 (0,0)),(n3,Obj.cells #[.int .i64 many] 3 (0,0)),(n2,Obj.cells #[.int .i64 elem] 3 (0,0)),(n1,Obj.cells #[jI q.p] 70 (0,0))] (.cells #[.int .i64 ty,.int .i64 wd,.int .u64 n] 135 (0,0)) ({x with s:=s1})),λ_ _ _=>True,IsP (.int .i64 ee)]
  sqe zk (vR.grew) (HE.grew (jC.refl _).drew) zk zk ⟨jG,jG,jG,jG,jG,jG,jG,jG,jG,jG,jG,jG,dD.st JN.grew JN.grew JN.grew,⟨λ_ _ _ _ _ h=>h,λ_ _ _ _ _ h=>h⟩,jG,trivial⟩ rfl ?_ ?_
 ·intro y w2 hW hF;simp only[yR,IsP,Nat.reduceAdd,zz,qg] at hF hW;have h12:=hF.2.2.2.2.2.2.2.2.2.2.2.2.1;simp only[jF,Act.put,zq];simp only[hF];clear hF;obtain⟨nn,e12,hE⟩:=(show dD _ _ _ 2 _ _ from h12);simp only[e12];have HE2:=zh hE.2;clear h12 e12 hE hW;have HM1b:Hid ((n1,Obj.cells #[jI q.p] 70 (0,0))∈(((nn,Obj.cells #[.int .i64 ty,.int .i64 wd,.int .u64 n] 135 (0,0))::[(n4,Obj.cells #[lv] 109 (0,0)),(n3,Obj.cells #[.int .i64 many] 3 (0,0)),(n2,Obj.cells #[.int .i64 elem] 3 (0,0)),(n1,Obj.cells #[jI q.p] 70 (0,0))]):List (Nat × Obj))):=zj _ HM1.out;have cb:=Env.cell HE2.out HM1b.out 0 _ rfl;go_wp2_with fail;refine (HE2.call λκ1 hb hz=>yN ee hb).mono ?_;rintro r w3 ⟨rfl,he⟩;have HE3:=zh he;clear he cb;go_wp2_with fail;refine jQ [4] (vR B q jB jD w κ ((nn,Obj.cells #[.int .i64 ty,.int .i64 wd,.int .u64 n] 135 (0,0))::[(n4,Obj.cells #[lv] 109 (0,0)),(n3,Obj.cells #[.int .i64 many] 3 (0,0)),(n2,Obj.cells #[.int .i64 elem] 3 (0,0)),(n1,Obj.cells #[jI q.p] 70 (0,0))]) [(({x with s:=s1}:BS).fail ee)] ((({x with s:=s1}:BS).fail ee).push (ty,wd,n))) (λ_ w w'=>jC w w') ((λp (_:Nat→Value)=>(λ_ _ _=>True) p)) [[],[0],[0,1],[],[0,1,2,3]] [(23,0),(24,1),(25,2),(26,3),(27,4)]
   [IsP (jI q.p),IsP (jI q.p),IsP (jI q.p),IsP (.agg #[.int .i64 ty,.int .i64 wd,.int .u64 n]),IsP (.tuple #[])]
   sqc zk (vR.grew) (HE3.grew (jC.refl _).drew) zk zk ⟨jG,jG,jG,jG,jG,trivial⟩ rfl ?_ ?_
  ·intro y w2 hW hF;simp only[yR,IsP,Nat.reduceAdd,zz,qg] at hF hW;simp only[jF,Act.put,zq];simp only[hF];clear hF;go_wp2;go_end0;exact⟨rfl,by rw[HY];exact Env.turn hW⟩
  constructor
  ·refine jP 0 0 ?_;intro y w2 p hlo hhi hW hD K hK;have dq:=Env.cell hW HM1b.out 0 _ rfl;exact zqr
  refine⟨zqd,zqd,?_⟩;constructor
  ·exact zb66
  constructor
  ·exact zb67
  trivial
 constructor
 ·exact zb64
 refine⟨zqd,zqd,zqd,?_⟩;constructor
 ·exact zb68
 constructor
 ·exact zb65
 constructor
 ·refine jP 0 0 ?_;intro y w2 p hlo hhi hW hD K hK;have d30:=Env.cell hW HM3.out 0 _ rfl;exact zqr
 constructor
 ·refine jP 0 0 ?_;intro y w2 p hlo hhi hW hD K hK;have d40:=Env.cell hW HM4.out 0 _ rfl;exact zqr
 constructor
 ·refine jZ 0 rfl ?_;intro y w2 hW hD K hK;simp only[kV,zq4,zq5,IsP] at hD;generalize hAA:jF y _ _=AA at hK⊢;simp only[jF,Act.put,zq,IsP] at hAA;subst hAA;simp only[zq4,zq5,IsP] at hK;simp only[hD] at hK⊢;clear hD;refine jN ?_;go_simp;refine (HPV.out _ w2 hW).mono ?_;rintro r w3 ⟨rfl,hA⟩;exact hK _ _ _ rfl (JN.all hA) (hA _ hW) rfl
 refine⟨zqd,zqd,zqd,?_⟩;constructor
 ·refine jP 0 1 ?_;intro y w2 p hlo hhi hW hD K hK;clear hD;generalize hAA:jF y _ _=AA at hK⊢;simp only[jF,Act.put,zq,IsP] at hAA;subst hAA;simp only[zq4,zq5,IsP] at hK;refine jN ?_;go_simp;rcases (by omega:p=0∨p=1) with rfl|rfl
  ·exact hK _ _ _ rfl ((jC.refl _).alloc _) (show dD _ _ _ 0 _ _ from ⟨_,rfl,Env.newE hW _⟩)
  exact hK _ _ _ rfl ((jC.refl _).alloc _) (show dD _ _ _ 1 _ _ from ⟨_,rfl,Env.newE hW _⟩)
 constructor
 ·refine jZ 1 rfl ?_;intro y w2 hW hD K hK;simp only[kV,zq4,zq5,IsP] at hD;have h12:=hD.2.2.2.2.2.2.2.2.2.2.2.1;generalize hAA:jF y _ _=AA at hK⊢;simp only[jF,Act.put,zq,IsP] at hAA;subst hAA;simp only[zq4,zq5,IsP] at hK;simp only[hD] at hK⊢;clear hD;obtain⟨nn,e12,hE⟩:=h12;simp only[e12] at hK⊢;have jK:=hE.2.kp zx;have f0:=jE jK 0;have f1:=jE jK 1;have f2:=jE jK 2;obtain⟨c0,c1,c2⟩:=sqr3 jK;clear jK;refine jN ?_;go_simp;have hs:=JN.tell hE (CD w2 nn (.int .i64 ty) (.int .i64 wd) (.int .u64 n)) (set3 (hE.2.kp zx));exact hK _ undef _ rfl (λn' e' _=>by rw[e12] at e';cases e';exact hs) hs.env trivial
 refine⟨zqd,?_⟩;trivial
theorem ZW {x:BS} (elem many:Int) (lv:Value) (l:List V3) (hF:xU elem many l) (hv:ValsAt w lv l) (ha:qL κ w lv) (kE:l.length≤1048576) (hok:∀v∈l,okV v) (hg:x.Good) (h:Bd B q jB jD κ x w):Calls prog 121 #[jI q.p,.int .i64 elem,.int .i64 many,lv] w λr w'=>r=.returned (.tuple #[])∧kL B q jB jD κ (x.vector jB elem many l) w w':=by
 have hv0:=hv;obtain⟨la,lc,rfl,_⟩:=hv0;have HF:=zh hF;have HVA:=zh (qa hv ha);have HF2:=zh (qa kE (qa hok hg))
 have HE:Hid (Env B q jB jD w κ [(w.heap.size+3,Obj.cells #[(.slice la l.length lc)] 109 (0,0)),(w.heap.size+2,Obj.cells #[.int .i64 many] 3 (0,0)),(w.heap.size+1,Obj.cells #[.int .i64 elem] 3 (0,0)),(w.heap.size,Obj.cells #[jI q.p] 70 (0,0))] x ((((w.alloc (.cells #[jI q.p] 70)).alloc (.cells #[.int .i64 elem] 3)).alloc (.cells #[.int .i64 many] 3)).alloc (.cells #[(.slice la l.length lc)] 109))):=by
  have hh:=((((Env.start h).add (.cells #[jI q.p] 70)).add (.cells #[.int .i64 elem] 3)).add (.cells #[.int .i64 many] 3)).add (.cells #[(.slice la l.length lc)] 109);simp only[zm,Nat.add_assoc,Nat.reduceAdd] at hh;exact hh
 clear h hF hv ha kE hok hg;go_enter func121,ntmps121;go_wp2_with fail;refine (HE.callT λκ1 hb ht he=>yV hb _ _ (x.vector jB elem many l) (λhx=>by unfold BS.vector;rw[ze hx]) (λ_=>enters_of func179 zk rfl _ _) (λhx=>xX _ _ _ _ _ _ _ _ HF.out (eO HVA.1 HVA.2 ht) (HVA.2.tn ht) HF2.1 HF2.2.1 HF2.2.2 hx he)).mono ?_;rintro r w5 ⟨rfl,he⟩;have HT:=zh he;clear he;go_wp2;go_end0;exact⟨rfl,HT.turn⟩
theorem ZX {x:BS} (h:Bd B q jB jD κ x w) (ho:jU w' w.heap.size v l) (hg:jC w w'):qL κ w' v:=by
 rintro ad n c rfl;rcases ho.2 with ⟨e,_⟩|⟨g,cap,cur,e,hge,hh,_⟩
 ·cases e
 cases e;exact⟨(zc.1 hh).1,Decidable.byContradiction λhk=>by have h2:g < w.heap.size:=(h.lt _ hk).2;have h3:w.heap.size≤g:=hge;omega⟩
theorem FS {x:BS} (l:List Int) (lv:Value) (hp:yE (λx=>.int .i64 x) w lv l) (hb:∀x∈l,-9223372036854775808≤x∧x≤9223372036854775807) (hl:l.length≤1048576) (hg:x.Good) (h:Bd B q jB jD κ x w):Calls prog 73 #[jI q.p,lv] w λr w'=>r=.returned (.tuple #[])∧kL B q jB jD κ (x.vector jB 1 0 (l.map vE)) w w':=by
 have HB:=zh h;have HH:=zh hg;have HL:=zh hl
 have HOK:Hid (∀v∈l.map vE,okV v):=by
  intro v hv;obtain⟨x,hx,rfl⟩:=qh.1 hv;exact iX x (hb x hx).1 (hb x hx).2
 have HM:=zh (xS l lv w hp hb hl);have hp0:=hp;obtain⟨la,lc,rfl,_⟩:=hp0;clear h hg hp hb hl;go_enter func73,ntmps73;go_wp2_with fail;refine HM.mono ?_;rintro r w1 ⟨v',rfl,ho,hgr⟩;have HO:=zh (qa ho hgr);clear ho hgr;go_wp2_with fail;refine (ZW 1 0 v' (l.map vE) (.inr (.inl ⟨by decide,rfl,by kernel_rfl⟩)) HO.1.vals (ZX HB.out HO.1 HO.2) zp20 HOK.out HH.out (HB.grew HO.2)).mono ?_;rintro r w2 ⟨rfl,ht⟩;have HT:=zh (ht.after HO.2);clear ht;go_wp2;go_end0;exact⟨rfl,HT.out⟩
theorem CE {x:BS} (l:List Int) (lv:Value) (hp:yE (λx=>.int .u64 x) w lv l) (hb:∀x∈l,0≤x∧x≤18446744073709551615) (hl:l.length≤1048576) (hg:x.Good) (h:Bd B q jB jD κ x w):Calls prog 76 #[jI q.p,lv] w λr w'=>r=.returned (.tuple #[])∧kL B q jB jD κ (x.vector jB 2 0 (l.map vF)) w w':=by
 have HB:=zh h;have HH:=zh hg;have HL:=zh hl
 have HOK:Hid (∀v∈l.map vF,okV v):=by
  intro v hv;obtain⟨x,hx,rfl⟩:=qh.1 hv;exact iY x (hb x hx).1 (hb x hx).2
 have HM:=zh (xT l lv w hp hb hl);have hp0:=hp;obtain⟨la,lc,rfl,_⟩:=hp0;clear h hg hp hb hl;go_enter func76,ntmps76;go_wp2_with fail;refine HM.mono ?_;rintro r w1 ⟨v',rfl,ho,hgr⟩;have HO:=zh (qa ho hgr);clear ho hgr;go_wp2_with fail;refine (ZW 2 0 v' (l.map vF) (.inr (.inl ⟨by decide,rfl,by kernel_rfl⟩)) HO.1.vals (ZX HB.out HO.1 HO.2) zp20 HOK.out HH.out (HB.grew HO.2)).mono ?_;rintro r w2 ⟨rfl,ht⟩;have HT:=zh (ht.after HO.2);clear ht;go_wp2;go_end0;exact⟨rfl,HT.out⟩
theorem CF {x:BS} (l:List Bool) (lv:Value) (hp:yE (λx=>.bool x) w lv l) (hb:∀x∈l,True) (hl:l.length≤1048576) (hg:x.Good) (h:Bd B q jB jD κ x w):Calls prog 79 #[jI q.p,lv] w λr w'=>r=.returned (.tuple #[])∧kL B q jB jD κ (x.vector jB 26 0 (l.map y6)) w w':=by
 have HB:=zh h;have HH:=zh hg;have HL:=zh hl
 have HOK:Hid (∀v∈l.map y6,okV v):=by
  intro v hv;obtain⟨x,hx,rfl⟩:=qh.1 hv;exact rA x
 have HM:=zh (MI l lv w hp hb hl);have hp0:=hp;obtain⟨la,lc,rfl,_⟩:=hp0;clear h hg hp hb hl;go_enter func79,ntmps79;go_wp2_with fail;refine HM.mono ?_;rintro r w1 ⟨v',rfl,ho,hgr⟩;have HO:=zh (qa ho hgr);clear ho hgr;go_wp2_with fail;refine (ZW 26 0 v' (l.map y6) (.inr (.inl ⟨by decide,rfl,by kernel_rfl⟩)) HO.1.vals (ZX HB.out HO.1 HO.2) zp20 HOK.out HH.out (HB.grew HO.2)).mono ?_;rintro r w2 ⟨rfl,ht⟩;have HT:=zh (ht.after HO.2);clear ht;go_wp2;go_end0;exact⟨rfl,HT.out⟩
theorem fX {x:BS} (elem many:Int) (la:Option Addr) (n lc:Nat) (hx0:x.e≠0) (h:Bd B q jB jD κ x w):Calls prog 121 #[jI q.p,.int .i64 elem,.int .i64 many,.slice la n lc] w λr w'=>r=.returned (.tuple #[])∧kL B q jB jD κ (x) w w':=by
 have HX:=zh hx0
 have HE:Hid (Env B q jB jD w κ [(w.heap.size+3,Obj.cells #[(.slice la n lc)] 109 (0,0)),(w.heap.size+2,Obj.cells #[.int .i64 many] 3 (0,0)),(w.heap.size+1,Obj.cells #[.int .i64 elem] 3 (0,0)),(w.heap.size,Obj.cells #[jI q.p] 70 (0,0))] x ((((w.alloc (.cells #[jI q.p] 70)).alloc (.cells #[.int .i64 elem] 3)).alloc (.cells #[.int .i64 many] 3)).alloc (.cells #[(.slice la n lc)] 109))):=by
  have hh:=((((Env.start h).add (.cells #[jI q.p] 70)).add (.cells #[.int .i64 elem] 3)).add (.cells #[.int .i64 many] 3)).add (.cells #[(.slice la n lc)] 109);simp only[zm,Nat.add_assoc,Nat.reduceAdd] at hh;exact hh
 clear h hx0;go_enter func121,ntmps121;go_wp2_with fail;refine (HE.call' λκ1 hb he=>yV hb _ _ (x) (λhx=>rfl) (λ_=>enters_of func179 zk rfl _ _) (λhx=>absurd hx HX.out)).mono ?_;rintro r w5 ⟨rfl,he⟩;have HT:=zh he;clear he;go_wp2;go_end0;exact⟨rfl,HT.turn⟩
theorem CG {x:BS} (n1 n2 n3:Nat) (elem:Int) (la:Option Addr) (lc:Nat) (l:List V3) (hne:elem≠-1) (hT:∀n:Nat,2≤n→n≤4→(typedF elem (n:Int)).2=true) (hv:ValsAt w (.slice la l.length lc) l) (ha:qL κ w (.slice la l.length lc)) (kE:l.length≤1048576) (hok:∀v∈l,okV v) (hg:x.Good) (hx:x.e=0) (he:Env B q jB jD w κ [(n3,Obj.cells #[(.slice la l.length lc)] 109 (0,0)),(n2,Obj.cells #[.int .i64 elem] 3 (0,0)),(n1,Obj.cells #[jI q.p] 70 (0,0))] x w):Calls prog 188 #[.pointer (some ⟨n3,0,none⟩),.pointer (some ⟨n1,0,none⟩),.pointer (some ⟨n2,0,none⟩)] w λr w'=>r=.returned (.tuple #[])∧kL B q jB jD κ (x.fixed jB elem l) w w':=by
 have HE:=zh he;have HM3:Hid ((n3,Obj.cells #[(.slice la l.length lc)] 109 (0,0))∈([(n3,Obj.cells #[(.slice la l.length lc)] 109 (0,0)),(n2,Obj.cells #[.int .i64 elem] 3 (0,0)),(n1,Obj.cells #[jI q.p] 70 (0,0))]:List (Nat × Obj))):=zx;have HM2:Hid ((n2,Obj.cells #[.int .i64 elem] 3 (0,0))∈([(n3,Obj.cells #[(.slice la l.length lc)] 109 (0,0)),(n2,Obj.cells #[.int .i64 elem] 3 (0,0)),(n1,Obj.cells #[jI q.p] 70 (0,0))]:List (Nat × Obj))):=zj _ (zx);have HM1:Hid ((n1,Obj.cells #[jI q.p] 70 (0,0))∈([(n3,Obj.cells #[(.slice la l.length lc)] 109 (0,0)),(n2,Obj.cells #[.int .i64 elem] 3 (0,0)),(n1,Obj.cells #[jI q.p] 70 (0,0))]:List (Nat × Obj))):=zj _ (zj _ (zx));have HVA:=zh (qa hv ha);have HF2:=zh (qa kE (qa hok hg));have cb:=Env.cell he HM1.out 0 _ rfl;have ce:=Env.cell he HM2.out 0 _ rfl;have cl:=Env.cell he HM3.out 0 _ rfl;have HX:=zh hx;have hll:l.length≤9223372036854775807:=by omega
 by_cases hb2:l.length < 2∨4 < l.length
 ·have HY:Hid (x.fixed jB elem l=x.fail 2):=by show _=_;unfold BS.fixed;rw[zl hx,zl hb2]
  have HN:Hid ((x.fail 2).e≠0):=by show _≠_;unfold BS.fail zO;rw[zl hx];show (2:Int)≠0;decide
  clear he hv ha kE hok hg hT hx;rcases hb2 with h2|h4
  ·have h2i:(l.length:Int) < 2:=by omega
   go_enter func188,ntmps188;go_wp2_with fail;refine (HE.call λκ1 hb hz=>yN 2 hb).mono ?_;rintro r w2 ⟨rfl,he⟩;have HE2:=zh he;clear he cb ce cl;have cb:=Env.cell HE2.out HM1.out 0 _ rfl;have ce:=Env.cell HE2.out HM2.out 0 _ rfl;have cl:=Env.cell HE2.out HM3.out 0 _ rfl;go_wp2_with fail;refine (HE2.call λκ1 hb hz=>fX _ _ _ _ _ HN.out hb).mono ?_;rintro r w3 ⟨rfl,he⟩;have HE3:=zh he;clear he;go_wp2;go_end0;exact⟨rfl,by rw[HY];exact HE3.turn⟩
  have h2i:¬(l.length:Int) < 2:=by omega
  have h4i:(l.length:Int) > 4:=by omega
  go_enter func188,ntmps188;go_wp2_with fail;refine (HE.call λκ1 hb hz=>yN 2 hb).mono ?_;rintro r w2 ⟨rfl,he⟩;have HE2:=zh he;clear he cb ce cl;have cb:=Env.cell HE2.out HM1.out 0 _ rfl;have ce:=Env.cell HE2.out HM2.out 0 _ rfl;have cl:=Env.cell HE2.out HM3.out 0 _ rfl;go_wp2_with fail;refine (HE2.call λκ1 hb hz=>fX _ _ _ _ _ HN.out hb).mono ?_;rintro r w3 ⟨rfl,he⟩;have HE3:=zh he;clear he;go_wp2;go_end0;exact⟨rfl,by rw[HY];exact HE3.turn⟩
 have HY:Hid (x.fixed jB elem l=x.vector jB elem l.length l):=by show _=_;unfold BS.fixed;rw[zl hx,ze hb2]
 have HF:Hid (xU elem (l.length:Int) l):=.inr (.inr ⟨hne,rfl,by omega,hT _ zo zo⟩);have h2i:¬(l.length:Int) < 2:=by omega
 have h4i:¬(l.length:Int) > 4:=by omega
 clear he hv ha kE hok hg hT hx;go_enter func188,ntmps188;go_wp2_with fail;refine (HE.callT λκ1 hb ht he=>ZW _ _ _ _ HF.out (eO HVA.1 HVA.2 ht) (HVA.2.tn ht) HF2.1 HF2.2.1 HF2.2.2 hb).mono ?_;rintro r w3 ⟨rfl,he⟩;have HE3:=zh he;clear he;go_wp2;go_end0;exact⟨rfl,by rw[HY];exact HE3.turn⟩
theorem rE {x:BS} (elem:Int) (la:Option Addr) (lc:Nat) (l:List V3) (hne:elem≠-1) (hT:∀n:Nat,2≤n→n≤4→(typedF elem (n:Int)).2=true) (hv:ValsAt w (.slice la l.length lc) l) (ha:qL κ w (.slice la l.length lc)) (kE:l.length≤1048576) (hok:∀v∈l,okV v) (hg:x.Good) (h:Bd B q jB jD κ x w):Calls prog 132 #[jI q.p,.int .i64 elem,(.slice la l.length lc)] w λr w'=>r=.returned (.tuple #[])∧kL B q jB jD κ (x.fixed jB elem l) w w':=by
 have HF:=zh (qa hne hT);have HVA:=zh (qa hv ha);have HF2:=zh (qa kE (qa hok hg))
 have HE:Hid (Env B q jB jD w κ [(w.heap.size+2,Obj.cells #[(.slice la l.length lc)] 109 (0,0)),(w.heap.size+1,Obj.cells #[.int .i64 elem] 3 (0,0)),(w.heap.size,Obj.cells #[jI q.p] 70 (0,0))] x (((w.alloc (.cells #[jI q.p] 70)).alloc (.cells #[.int .i64 elem] 3)).alloc (.cells #[(.slice la l.length lc)] 109))):=by
  have hh:=(((Env.start h).add (.cells #[jI q.p] 70)).add (.cells #[.int .i64 elem] 3)).add (.cells #[(.slice la l.length lc)] 109);simp only[zm,Nat.add_assoc,Nat.reduceAdd] at hh;exact hh
 clear h hne hT hv ha kE hok hg;go_enter func132,ntmps132;go_wp2_with fail;refine (HE.callT λκ1 hb ht he=>yV hb _ _ (x.fixed jB elem l) (λhx=>by unfold BS.fixed;rw[ze hx]) (λ_=>enters_of func188 zk rfl _ _) (λhx=>CG _ _ _ _ _ _ _ HF.1 HF.2 (eO HVA.1 HVA.2 ht) (HVA.2.tn ht) HF2.1 HF2.2.1 HF2.2.2 hx he)).mono ?_;rintro r w5 ⟨rfl,he⟩;have HT:=zh he;clear he;go_wp2;go_end0;exact⟨rfl,HT.turn⟩
theorem fixT1:∀n:Nat,2≤n→n≤4→(typedF 1 (n:Int)).2=true:=λn h2 h4=>by
 obtain rfl|rfl|rfl:n=2∨n=3∨n=4:=by omega
 ·show (typedF 1 2).2=true
  kernel_rfl
 ·show (typedF 1 3).2=true
  kernel_rfl
 show (typedF 1 4).2=true
 kernel_rfl
theorem fixT2:∀n:Nat,2≤n→n≤4→(typedF 2 (n:Int)).2=true:=λn h2 h4=>by
 obtain rfl|rfl|rfl:n=2∨n=3∨n=4:=by omega
 ·show (typedF 2 2).2=true
  kernel_rfl
 ·show (typedF 2 3).2=true
  kernel_rfl
 show (typedF 2 4).2=true
 kernel_rfl
theorem tJ {x:BS} (l:List Int) (lv:Value) (hp:yE (λx=>.int .i64 x) w lv l) (hb:∀x∈l,-9223372036854775808≤x∧x≤9223372036854775807) (hl:l.length≤1048576) (hg:x.Good) (h:Bd B q jB jD κ x w):Calls prog 85 #[jI q.p,lv] w λr w'=>r=.returned (.tuple #[])∧kL B q jB jD κ (x.fixed jB 1 (l.map vE)) w w':=by
 have HB:=zh h;have HH:=zh hg;have HL:=zh hl
 have HOK:Hid (∀v∈l.map vE,okV v):=by
  intro v hv;obtain⟨x,hx,rfl⟩:=qh.1 hv;exact iX x (hb x hx).1 (hb x hx).2
 have HM:=zh (xS l lv w hp hb hl);have hp0:=hp;obtain⟨la,lc,rfl,_⟩:=hp0;clear h hg hp hb hl;go_enter func85,ntmps85;go_wp2_with fail;refine HM.mono ?_;rintro r w1 ⟨v',rfl,ho,hgr⟩;have HO:=zh (qa ho hgr);clear ho hgr;go_wp2_with fail;obtain⟨va,vc,rfl,_⟩:=zI HO.1;refine (rE 1 va vc (l.map vE) zd fixT1 HO.1.vals (ZX HB.out HO.1 HO.2) zp20 HOK.out HH.out (HB.grew HO.2)).mono ?_;rintro r w2 ⟨rfl,ht⟩;have HT:=zh (ht.after HO.2);clear ht;go_wp2;go_end0;exact⟨rfl,HT.out⟩
theorem oI {x:BS} (l:List Int) (lv:Value) (hp:yE (λx=>.int .u64 x) w lv l) (hb:∀x∈l,0≤x∧x≤18446744073709551615) (hl:l.length≤1048576) (hg:x.Good) (h:Bd B q jB jD κ x w):Calls prog 86 #[jI q.p,lv] w λr w'=>r=.returned (.tuple #[])∧kL B q jB jD κ (x.fixed jB 2 (l.map vF)) w w':=by
 have HB:=zh h;have HH:=zh hg;have HL:=zh hl
 have HOK:Hid (∀v∈l.map vF,okV v):=by
  intro v hv;obtain⟨x,hx,rfl⟩:=qh.1 hv;exact iY x (hb x hx).1 (hb x hx).2
 have HM:=zh (xT l lv w hp hb hl);have hp0:=hp;obtain⟨la,lc,rfl,_⟩:=hp0;clear h hg hp hb hl;go_enter func86,ntmps86;go_wp2_with fail;refine HM.mono ?_;rintro r w1 ⟨v',rfl,ho,hgr⟩;have HO:=zh (qa ho hgr);clear ho hgr;go_wp2_with fail;obtain⟨va,vc,rfl,_⟩:=zI HO.1;refine (rE 2 va vc (l.map vF) zd fixT2 HO.1.vals (ZX HB.out HO.1 HO.2) zp20 HOK.out HH.out (HB.grew HO.2)).mono ?_;rintro r w2 ⟨rfl,ht⟩;have HT:=zh (ht.after HO.2);clear ht;go_wp2;go_end0;exact⟨rfl,HT.out⟩
theorem rF {x:BS} (start:Int) (h:Bd B q jB jD κ x w):Calls prog 135 #[jI q.p,.int .i64 start] w λr w'=>(InR start x.stk.length∧∃v',r=.returned v'∧jU w' w.heap.size v' (x.stk.drop start.toNat)∧jC w w')∨(¬InR start x.stk.length∧r=.returned (.slice none 0 0)∧kL B q jB jD κ (x.fail 2) w w'):=by
 have HB:=zh h;have c1:=h.at1;clear h;go_enter func135,ntmps135;go_wp2_with fail;refine (fS start HB.stk HB.ok.stk).mono ?_;rintro r w1 (⟨hin,v',rfl,ho,hg⟩|⟨hin,rfl,hw⟩)
 ·obtain⟨L,hL⟩:∃L,x.stk.drop start.toNat=L:=⟨_,rfl⟩;rw[hL] at ho;have HL:=zh hL;have HO:=zh (qa ho hg);have HIN:=zh hin;obtain⟨va,vc,rfl,_⟩:=zI ho;clear ho hg hin hL;go_wp2;go_ret;exact .inl ⟨HIN.out,.slice va L.length vc,rfl,by rw[HL];exact HO.1,HO.2⟩
 obtain rfl:w=w1:=hw.symm;have HIN:=zh hin;clear hin;go_wp2_with fail;refine (yN 2 HB.out).mono ?_;rintro r w2 ⟨rfl,ht⟩;have HT:=zh ht;clear ht;go_wp2;go_ret;exact .inr ⟨HIN.out,rfl,HT.out⟩
theorem kL.base {y:BS} {w1 w2:World} (ht:Tn κ κ1 w w) (hg:jC w w1) (h:kL B q jB jD κ1 y w1 w2):kL B q jB jD κ y w w2:=by
 obtain⟨κ2,k1,k2⟩:=h;exact⟨κ2,k1,ht.trans ((Tn.of_grew hg).trans k2)⟩
theorem Env.open_ {x:BS} (h:Env B q jB jD w κ Kp x w):∃κ1,Bd B q jB jD κ1 x w∧Tn κ κ1 w w∧(∀z∈Kp,κ1 z.1=0)∧∀w1,jC w w1→Env B q jB jD w1 κ1 Kp x w1:=by
 obtain⟨κ1,h1,h2,h3⟩:=h;exact⟨κ1,h1,h2,λz hz=>(h3 z hz).2,λw1 hg=>⟨κ1,h1.grew hg,Tn.refl _ _,λz hz=>⟨hg.heap (h3 z hz).1,(h3 z hz).2⟩⟩⟩
theorem xY {x:BS} (n:Nat) (h:Bd B q jB jD κ x w) (hn:n≤x.stk.length):Calls prog 136 #[jI q.s,.int .i64 n] w λr w'=>(∃v':Value,r=.returned (.tuple #[v',.int .i64 0]))∧kL B q jB jD κ {x with stk:=x.stk.take (x.stk.length - n)} w w':=
 (L4 n h.stk h.ok.stk hn).mono λr w' ⟨v',e,_,ht⟩=>⟨⟨v',e⟩,h.stk_step (by rw[qr];have:=h.ok.stk;omega) (λv hv=>h.ok.okS v (List.mem_of_mem_take hv)) ht⟩
theorem xZ {x:BS} (n1 n2:Nat) (start:Int) (hg:x.Good) (hx:x.e=0) (he:Env B q jB jD w κ [(n2,Obj.cells #[.int .i64 start] 3 (0,0)),(n1,Obj.cells #[jI q.p] 70 (0,0))] x w):Calls prog 134 #[.pointer (some ⟨n1,0,none⟩),.pointer (some ⟨n2,0,none⟩)] w λr w'=>r=.returned (.tuple #[])∧kL B q jB jD κ (x.endVec jB start) w w':=by
 have HM2:Hid ((n2,Obj.cells #[.int .i64 start] 3 (0,0))∈([(n2,Obj.cells #[.int .i64 start] 3 (0,0)),(n1,Obj.cells #[jI q.p] 70 (0,0))]:List (Nat × Obj))):=zx;have HM1:Hid ((n1,Obj.cells #[jI q.p] 70 (0,0))∈([(n2,Obj.cells #[.int .i64 start] 3 (0,0)),(n1,Obj.cells #[jI q.p] 70 (0,0))]:List (Nat × Obj))):=zj _ (zx);have cb:=Env.cell he HM1.out 0 _ rfl;have cs:=Env.cell he HM2.out 0 _ rfl;obtain⟨κ1,hb,ht,hz,qG⟩:=he.open_;have HB:=zh hb;have HTN:=zh ht;have HALL:=zh qG;have HZ:=zh hz;have HE0:=zh he;have HG:=zh hg;have HX:=zh hx;clear he hb ht qG hz hg hx;go_enter func134,ntmps134;go_wp2_with fail;refine (rF start HB.out).mono ?_;rintro r w1 (⟨hin,v',rfl,ho,hgr⟩|⟨hin,rfl,ht⟩)
 ·have HGR:=zh hgr;have HO:=zh ho;have HIN:=zh hin;have HE1:=zh (HALL.out w1 hgr);have HY:Hid (x.endVec jB start=({x with stk:=x.stk.take start.toNat}:BS).vector jB (-1) 0 (x.stk.drop start.toNat)):=by show _=_;unfold BS.endVec;rw[zl HX.out,zl (show 0≤start∧start≤(x.stk.length:Int) from hin)]
  have HG2:Hid (BS.Good {x with stk:=x.stk.take start.toNat}):=⟨HG.s0,HG.nm,HG.ks,HG.ts,HG.ls,HG.vs,HG.ix,HG.nz⟩;have HLE:Hid ((x.stk.drop start.toNat).length≤x.stk.length):=by show _≤_;rw[xr];omega
  have HTK:Hid (x.stk.take (x.stk.length - (x.stk.drop start.toNat).length)=x.stk.take start.toNat):=by show _=_;have h1:=hin.1;have h2:=hin.2;rw[xr];congr 1;omega
  have HOK:Hid (∀v∈x.stk.drop start.toNat,okV v):=λv hv=>HB.ok.okS v (List.mem_of_mem_drop hv);have HSL:Hid ((x.stk.drop start.toNat).length≤1048576):=by show _≤_;have:=HLE.out;have:=HB.ok.stk;omega
  obtain⟨va,vc,rfl,_⟩:=zI ho;generalize x.stk.drop start.toNat=L at *;clear ho hin hgr cb cs;have cb:=Env.cell HE1.out HM1.out 0 _ rfl;have cs:=Env.cell HE1.out HM2.out 0 _ rfl;have c1:=HE1.at1;have c2:=HE1.at2;rw[HX] at c2;go_wp2_with fail;refine (HE1.call λκ2 hb hz=>xY L.length hb HLE.out).mono ?_;rintro r w2 ⟨⟨v'',rfl⟩,he⟩;rw[HTK] at he;have HE2:=zh he;clear he cb cs c1 c2;have cb:=Env.cell HE2.out HM1.out 0 _ rfl;go_wp2_with fail;refine (HE2.callT λκ2 hb ht he=>ZW (-1) 0 (.slice va L.length vc) L (.inl ⟨rfl,rfl⟩) (eO HO.vals (ZX HB.out HO.out HGR.out) ht) ((ZX HB.out HO.out HGR.out).tn ht) HSL.out HOK.out HG2.out hb).mono ?_;rintro r w3 ⟨rfl,he⟩;have HE3:=zh he;clear he;go_wp2;go_end0;exact⟨rfl,by rw[HY];exact (HE3.turn).base HTN.out HGR.out⟩
 have HY:Hid (x.endVec jB start=x.fail 2):=by show _=_;unfold BS.endVec;rw[zl HX.out,ze (show ¬(0≤start∧start≤(x.stk.length:Int)) from hin)]
 have HN:Hid ((x.fail 2).e=2):=by show _=_;unfold BS.fail zO;rw[zl HX.out]
 have HNE:Hid ((x.fail 2).e≠0):=by show _≠_;rw[HN];decide
 have HNE:Hid ((x.fail 2).e≠0):=by show _≠_;rw[HN];decide
 have HE1:Hid (Env B q jB jD w κ [(n2,Obj.cells #[.int .i64 start] 3 (0,0)),(n1,Obj.cells #[jI q.p] 70 (0,0))] (x.fail 2) w1):=by
  obtain⟨κ2,k1,k2⟩:=ht;have h0:=HALL.out w (jC.refl w);exact⟨κ2,k1,HTN.trans k2,λz hz=>⟨k2.1.heap (h0.kp (n:=z.1) (o:=z.2) hz) (λe=>e (HZ.out z hz)),(k2.2 z.1 (zc.1 (h0.kp (n:=z.1) (o:=z.2) hz)).1).trans (HZ.out z hz)⟩⟩
 clear ht hin cb cs;have cb:=Env.cell HE1.out HM1.out 0 _ rfl;have c2:=HE1.at2;rw[HN] at c2;go_wp2_with fail;refine (HE1.call λκ2 hb hz=>fX _ _ _ _ _ HNE.out hb).mono ?_;rintro r w3 ⟨rfl,he⟩;have HE3:=zh he;clear he;go_wp2;go_end0;exact⟨rfl,by rw[HY];exact HE3.turn⟩
theorem x7 {x:BS} (start:Int) (hg:x.Good) (h:Bd B q jB jD κ x w):Calls prog 88 #[jI q.p,.int .i64 start] w λr w'=>r=.returned (.tuple #[])∧kL B q jB jD κ (x.endVec jB start) w w':=by
 have HH:=zh hg
 have HE:Hid (Env B q jB jD w κ [(w.heap.size+1,Obj.cells #[.int .i64 start] 3 (0,0)),(w.heap.size,Obj.cells #[jI q.p] 70 (0,0))] x ((w.alloc (.cells #[jI q.p] 70)).alloc (.cells #[.int .i64 start] 3))):=by
  have hh:=((Env.start h).add (.cells #[jI q.p] 70)).add (.cells #[.int .i64 start] 3);simp only[zm,Nat.add_assoc,Nat.reduceAdd] at hh;exact hh
 clear h hg;go_enter func88,ntmps88;go_wp2_with fail;refine (HE.call' λκ1 hb he=>yV hb _ _ (x.endVec jB start) (λhx=>by unfold BS.endVec;rw[ze hx]) (λ_=>enters_of func134 zk rfl _ _) (λhx=>xZ _ _ _ HH.out hx he)).mono ?_;rintro r w5 ⟨rfl,he⟩;have HT:=zh he;clear he;go_wp2;go_end0;exact⟨rfl,HT.turn⟩
theorem iB (jB:Int) (sh:Bool):∀(l:List ByteArray) (k:ByteArray) (x:BS),x.putAll jB sh (l++[k])=((x.putAll jB sh l).1++[((x.putAll jB sh l).2.put jB sh k).1],((x.putAll jB sh l).2.put jB sh k).2)
 | [],k,x=>rfl
 | a::r,k,x=>by
  show (_::((x.put jB sh a).2.putAll jB sh (r++[k])).1,((x.put jB sh a).2.putAll jB sh (r++[k])).2)=_;rw[iB jB sh r k];rfl
theorem QP (jB:Int) (sh:Bool):∀(l:List ByteArray) (x:BS),(x.putAll jB sh l).1.length=l.length
 | [],_=>rfl
 | _::r,x=>by show ((_::_):List V3).length=_;rw[zz,QP jB sh r];rfl
def bX (B:Nat) (q:zR) (jB jD:Int) (w0:World) (κ0:Nat→Nat) (x:BS) (v:Value) (L:List V3) (w:World):Prop:=
 ∃κ,Bd B q jB jD κ x w∧Tn κ0 κ w0 w∧jU w w0.heap.size v L∧∀g,v.ownBlock=some g→κ g=0
section
variable {B:Nat} {q:zR} {jB jD:Int} {κ κ0:Nat→Nat} {x y:BS} {w w0 w1 w2 w3:World} {v v':Value} {L:List V3}
theorem iZ (h:jU w B v L) {g:Nat} (hg:v.ownBlock=some g):B≤g∧g < w.heap.size:=by
 rcases h.2 with ⟨rfl,_⟩|⟨g',cap,cur,rfl,hge,hh,_⟩
 ·cases hg
 cases hg;exact⟨hge,(zc.1 hh).1⟩
theorem bX.cell (h:bX B q jB jD w0 κ0 x v L w) {b off:Nat} {u:Value} (hc:w0.cell? ⟨b,off,none⟩=some u) (hb:κ0 b=0):w.cell? ⟨b,off,none⟩=some u:=by
 obtain⟨κ1,h1,h2,_⟩:=h;exact h2.1.cell hc (λe=>e hb)
theorem bX.put (h:bX B q jB jD w0 κ0 x v L w) (k:ByteArray) (hk:k.size≤1048576) (hg:x.Good):Calls prog 131 #[jI q.p,.string k] w λr w'=>r=.returned (vV (x.put jB (onF jD 1) k).1)∧bX B q jB jD w0 κ0 (x.put jB (onF jD 1) k).2 v L w':=by
 obtain⟨κ1,h1,h2,h3,h4⟩:=h;refine (xQ k hk hg h1).mono λr w' hr=>⟨hr.1,?_⟩;obtain⟨κ2,k1,k2⟩:=hr.2;exact⟨κ2,k1,h2.trans k2,k2.1.owns h3 (λg hgg hk=>hk (h4 g hgg)),λg hgg=>(k2.2 g (iZ h3 hgg).2).trans (h4 g hgg)⟩
theorem bX.app (h:bX B q jB jD w0 κ0 x v L w) {o:Obj} {L':List V3} (j5:jU w3 w0.heap.size v' L') (hgr:(w.alloc o).grownBy w3 v.ownBlock) (hnx:yX (w.alloc o) v.ownBlock v'.ownBlock):bX B q jB jD w0 κ0 x v' L' w3:=by
 obtain⟨κ1,h1,h2,h3,h4⟩:=h;have hg:=(jC.refl w).alloc o;have h1':=h1.grew hg;have hm:Moved (λk=>some k=v.ownBlock) (w.alloc o) w3:=Moved.of_grown hgr;have hd:∀c,c≠0→∀k,κ1 k=c→¬some k=v.ownBlock:=λc hc k hk e=>hc (by rw[← hk];exact h4 k e.symm)
 refine⟨κ1,⟨λk hk=>⟨(h1'.lt k hk).1,qk (h1'.lt k hk).2 hm.size⟩,h1'.ok,h1'.self.kept hm (hd 1 zd),h1'.buf.kept hm (hd 2 zd),h1'.stk.kept hm (hd 3 zd),h1'.keys.kept hm (hd 4 zd),h1'.texts.kept hm (hd 5 zd),h1'.lists.kept hm (hd 6 zd),h1'.names.kept hm (hd 7 zd)⟩,
  ⟨(h2.trans (Tn.of_grew hg)).1.trans hm (λj hj e=>by have:=(iZ h3 e.symm).1;omega),(h2.trans (Tn.of_grew (κ:=κ1) hg)).2⟩,j5,λg hgg=>?_⟩
 rcases hnx g hgg with e|e
 ·exact h4 g e
 exact Decidable.byContradiction λhk=>by have:=(h1'.lt g hk).2;omega
end
theorem ML {x:BS} (l:List ByteArray) (lv:Value) (hp:yE (λx=>.string x) w lv l) (ha:qL κ w lv) (hk:∀k∈l,k.size≤1048576) (hl:l.length≤1048576) (hg:x.Good) (h:Bd B q jB jD κ x w):Calls prog 130 #[.func (.func 131) #[jI q.p] #[],lv] w λr w'=>∃v',r=.returned v'∧bX B q jB jD w κ (x.putAll jB (onF jD 1) l).2 v' (x.putAll jB (onF jD 1) l).1 w':=by
 have HB:=zh h;have HA:=zh ha;obtain⟨ad,c,rfl,kM⟩:=hp;have HC:=zh kM;have HK:=zh hk;have HL:=zh hl;have HG:=zh hg;have hll:l.length≤9223372036854775807:=by omega
 clear kM hk hg h ha;go_enter func130,ntmps130;go_wp2_with fail
 go_loopw [4,9] (λv i wr=>∃k:Nat,k≤l.length∧i=.int .i64 k∧Hid (bX B q jB jD w κ (x.putAll jB (onF jD 1) (l.take k)).2 v (x.putAll jB (onF jD 1) (l.take k)).1 wr)) (λ_ i _=>l.length - (intOf i).toNat)
 case atStart=>exact⟨0,Nat.zero_le _,rfl,by
  show bX B q jB jD w κ x _ [] _
  exact⟨κ,HB.out,Tn.refl _ _,World.ownsRow_nil _ _ _ _,λg e=>by cases e⟩⟩
 case round=>
  obtain⟨k,hk,rfl,HW⟩:=hrel;by_cases hlt:k < l.length
  ·obtain⟨s,hx⟩:∃s,l[k]? = some s:=⟨_,za hlt⟩;have HSN:=zh (iB jB (onF jD 1) (l.take k) s x);have HTK:Hid (l.take (k+1)=l.take k++[s]):=by show _=_;rw[qo,hx];rfl
   have HKS:=zh (HK.out s (qd hx));obtain⟨b,off,rfl,c0⟩:=HC.out k s hx;have d0:=HW.cell c0 (HA.out _ _ _ rfl).2;clear hx c0;have HGG:Hid ((x.putAll jB (onF jD 1) (l.take k)).2.Good):=BS.Good.putAll _ HG.out;have HLN:Hid ((x.putAll jB (onF jD 1) (l.take k)).1.length=k):=by show _=_;rw[QP,qr];omega
   generalize (x.putAll jB (onF jD 1) (l.take k))=Y at *;obtain⟨L,y⟩:=Y;go_wp2_with fail;refine (HW.put s HKS.out HGG.out).mono ?_;rintro r w2 ⟨rfl,he⟩;have HE:=zh he;obtain⟨va,vc,rfl,hvc⟩:=zI (show jU w2 w.heap.size u4 L from by obtain⟨_,_,_,h,_⟩:=he;exact h);clear he HW;obtain⟨X,hX⟩:∃X,(y.put jB (onF jD 1) s).1=X:=⟨_,rfl⟩;have HX:=zh hX;rw[hX];clear hX;obtain⟨X0,X1,X2⟩:=X;have HO2:Hid (∀o,jU (w2.alloc o) w.heap.size (.slice va L.length vc) L):=λo=>by obtain⟨_,_,_,h,_⟩:=HE.out;exact JM h ((jC.refl _).alloc o)
   have HSZ:Hid (w.heap.size≤w2.heap.size):=by obtain⟨_,_,h,_⟩:=HE.out;exact h.1.size
   go_wp2_with (at_builtin;refine qJ rfl _ _ rfl w.heap.size (.slice va L.length vc) L rfl (HO2.out _) _ [(X0,X1,X2)] rfl (Y2 _ _) (λc h=>by cases h) (by have:=HLN.out;have:=HL.out;simp at *;omega) (zf HSZ.out zp2) ?_;intro v' w3 j5 hgr hqq;have HG3:=zh (HE.app j5 hgr hqq);obtain⟨va2,vc2,rfl,_⟩:=zI j5;clear j5 hgr hqq);go_roundw
   case rel=>
    refine⟨k+1,by omega,by go_num,?_⟩;show bX _ _ _ _ _ _ _ _ _ _;rw[HTK,HSN];have hh:=HG3.out;rw[zb] at hh;rw[HX];exact hh
   case measure=>simp[intOf];omega
  have ek:k=l.length:=by omega
  subst ek;have hw:=HW.out;rw[qn] at hw;have HE:=zh hw;clear hw HW;go_wp2;go_ret;exact⟨_,rfl,HE.out⟩
def x8 (B:Nat) (q:zR) (jB jD:Int) (w0:World) (κ0:Nat→Nat) (Kp:List (Nat × Obj)) (x:BS) (L:List V3):Nat→Value→World→Prop
 | 0,_,_=>False
 | 1,v,w=>∃κ,Bd B q jB jD κ x w∧Tn κ0 κ w0 w∧(∀z∈Kp,w.heap[z.1]? = some z.2∧κ z.1=0)∧(∃b,jU w b v L)∧∀g,v.ownBlock=some g→κ g=0
 | _+2,_,_=>True
theorem x8.st {w0:World} {κ0:Nat→Nat} {x:BS} {L:List V3}:(∀p v w w',(λ(_:Nat) w w'=>jC w w') p w w'→x8 B q jB jD w0 κ0 Kp x L p v w→x8 B q jB jD w0 κ0 Kp x L p v w')∧∀p v w w',(λ_ _ _=>True:Nat→World→World→Prop) p w w'→x8 B q jB jD w0 κ0 Kp x L p v w→x8 B q jB jD w0 κ0 Kp x L (p+1) v w':=by
 refine⟨λp v w w' hg h=>?_,λp v w w' _ h=>?_⟩
 ·match p,h with
  | 1,⟨κ,h1,h2,h3,⟨b,h4⟩,h5⟩=>exact⟨κ,h1.grew hg,h2.trans (Tn.of_grew hg),λz hz=>⟨hg.heap (h3 z hz).1,(h3 z hz).2⟩,⟨b,JM h4 hg⟩,h5⟩
  | _+2,_=>trivial
 match p,h with
 | 1,_=>trivial
 | _+2,_=>trivial
theorem x9 {α:Type} {f:α→Value} {lv:Value} {l:List α} (hv:yE f w lv l) (h:qL κ w lv) (ht:Tn κ κ1 w w'):yE f w' lv l:=by
 obtain⟨a,c,rfl,hc⟩:=hv;refine⟨a,c,rfl,λi x hx=>?_⟩;obtain⟨b,off,rfl,h0⟩:=hc i x hx;exact⟨b,off,rfl,ht.1.cell h0 (λe=>e (h _ _ _ rfl).2)⟩
theorem MM {k:ByteArray} {x:BS} (hl:(x.s.1.length:Int)≤jB) (hm:jB≤1048576) (hk:∀z∈x.keys,0≤z.2∧z.2≤9007199254740991) :
 okV (x.put jB sh k).1∧((x.put jB sh k).2.s.1.length:Int)≤jB∧∀z∈(x.put jB sh k).2.keys,0≤z.2∧z.2≤9007199254740991:=by
 have hg:=iW (k:=k) hk;unfold BS.put;dsimp only;by_cases hf:(x.fail (vD k)).e≠0
 ·rw[zl hf];exact⟨ok0,hl,hk⟩
 rw[ze hf];by_cases hgb:((qN x.keys k).2 && sh)=true
 ·rw[zl hgb];exact⟨⟨hg.1,by show (qN x.keys k).1≤_;omega⟩,hl,hk⟩
 rw[ze hgb];exact⟨⟨Int.natCast_nonneg _,by show (x.s.1.length:Int)≤_;omega⟩,bH hl,tC hk⟩
theorem rG {jB:Int} {sh:Bool} (hm:jB≤1048576):∀(l:List ByteArray) (x:BS),(x.s.1.length:Int)≤jB→(∀z∈x.keys,0≤z.2∧z.2≤9007199254740991)→∀v∈(x.putAll jB sh l).1,okV v
 | [],_,_,_=>λv hv=>by cases hv
 | k::r,x,hl,hk=>λv hv=>by
  have hp:=MM (sh:=sh) (k:=k) hl hm hk;rcases qp.1 hv with rfl|hv
  ·exact hp.1
  exact rG hm r _ hp.2.1 hp.2.2 v hv
theorem FT {x:BS} (n1 n2:Nat) (la:Option Addr) (lc:Nat) (l:List ByteArray) (hp:yE (λx=>.string x) w (.slice la l.length lc) l) (ha:qL κ w (.slice la l.length lc)) (hk:∀k∈l,k.size≤1048576) (hl:l.length≤1048576) (hg:x.Good) (hx:x.e=0) (he:Env B q jB jD w κ [(n2,Obj.cells #[.slice la l.length lc] 23 (0,0)),(n1,Obj.cells #[jI q.p] 70 (0,0))] x w):Calls prog 129 #[.pointer (some ⟨n1,0,none⟩),.pointer (some ⟨n2,0,none⟩)] w λr w'=>r=.returned (.tuple #[])∧kL B q jB jD κ (x.keyVec jB (onF jD 1) l) w w':=by
 have HE:=zh he;have HM2:Hid ((n2,Obj.cells #[.slice la l.length lc] 23 (0,0))∈([(n2,Obj.cells #[.slice la l.length lc] 23 (0,0)),(n1,Obj.cells #[jI q.p] 70 (0,0))]:List (Nat × Obj))):=zx;have HM1:Hid ((n1,Obj.cells #[jI q.p] 70 (0,0))∈([(n2,Obj.cells #[.slice la l.length lc] 23 (0,0)),(n1,Obj.cells #[jI q.p] 70 (0,0))]:List (Nat × Obj))):=zj _ (zx);have HPA:=zh (qa hp ha);have HK:=zh (qa hk hl);have HG:=zh hg;have HGP:Hid ((x.putAll jB (onF jD 1) l).2.Good):=BS.Good.putAll l hg;have HOK:Hid (∀v∈(x.putAll jB (onF jD 1) l).1,okV v):=rG he.ok.m1 l x he.ok.len he.ok.okK;have HLN:Hid ((x.putAll jB (onF jD 1) l).1.length≤1048576):=by show _≤_;rw[QP];exact hl
 have HY:Hid (x.keyVec jB (onF jD 1) l=(x.putAll jB (onF jD 1) l).2.vector jB 4 0 (x.putAll jB (onF jD 1) l).1):=by show _=_;unfold BS.keyVec;rw[zl hx]
 have HMS:Hid (∀κ1 w2,Bd B q jB jD κ1 x w2→Tn κ κ1 w w2→Calls prog 130 #[.func (.func 131) #[jI q.p] #[],.slice la l.length lc] w2 λr w'=>∃v',r=.returned v'∧bX B q jB jD w2 κ1 (x.putAll jB (onF jD 1) l).2 v' (x.putAll jB (onF jD 1) l).1 w'):=λκ1 w2 hb ht=>ML l _ (x9 hp ha ht) (ha.tn ht) hk hl hg hb;generalize (x.putAll jB (onF jD 1) l)=Y at HGP HOK HLN HY HMS;obtain⟨L,yk⟩:=Y;clear he hp ha hk hg hx;go_enter func129,ntmps129;go_wp2_with fail;refine jQ [4,5] (vR B q jB jD w κ [(n2,Obj.cells #[.slice la l.length lc] 23 (0,0)),(n1,Obj.cells #[jI q.p] 70 (0,0))] [x,yk] (yk.vector jB 4 0 L)) (λ_ w w'=>jC w w') ((λp (_:Nat→Value)=>(λ_ _ _=>True) p)) [[],[],[1],[],[1,2,3],[0,1,2,3,4]] [(2,0),(3,1),(4,2),(5,3),(6,4),(7,5)]
  [IsP (jI q.p),IsP (jI q.p),IsP (.func (.func 131) #[jI q.p] #[]),IsP (.slice la l.length lc),x8 B q jB jD w κ [(n2,Obj.cells #[.slice la l.length lc] 23 (0,0)),(n1,Obj.cells #[jI q.p] 70 (0,0))] yk L,IsP (.tuple #[])]
  sqc zk (vR.grew) (HE.grew (jC.refl _).drew) zk zk ⟨jG,jG,jG,jG,KK (x8.st),jG,trivial⟩ rfl ?_ ?_
 ·intro y w2 hW hF;simp only[yR,IsP,Nat.reduceAdd,zz,qg] at hF hW;have h4:=hF.2.2.2.2.1;simp only[jF,Act.put,zq];simp only[hF];clear hF;go_wp2;go_end0;exact⟨rfl,by rw[HY];exact Env.turn hW⟩
 constructor
 ·refine jP 0 1 ?_;intro y w2 p hlo hhi hW hD K hK;have d10:=Env.cell hW HM1.out 0 _ rfl;exact zqr
 constructor
 ·exact zb64
 refine⟨zqd,?_⟩;constructor
 ·exact zb65
 constructor
 ·refine jZ 0 rfl ?_;intro y w2 hW hD K hK;simp only[kV,zq4,zq5,IsP] at hD;generalize hAA:jF y _ _=AA at hK⊢;simp only[jF,Act.put,zq,IsP] at hAA;subst hAA;simp only[zq4,zq5,IsP] at hK;simp only[hD] at hK⊢;clear hD;refine jN ?_;go_simp;obtain⟨κ1,hb,ht,hkk⟩:=(show Env B q jB jD w κ [(n2,Obj.cells #[.slice la l.length lc] 23 (0,0)),(n1,Obj.cells #[jI q.p] 70 (0,0))] x w2 from hW);refine (HMS.out κ1 w2 hb ht).mono ?_;rintro r w3 ⟨v',rfl,κ2,k1,k2,k3,k4⟩;have hkp:∀z∈([(n2,Obj.cells #[.slice la l.length lc] 23 (0,0)),(n1,Obj.cells #[jI q.p] 70 (0,0))]:List (Nat × Obj)),w3.heap[z.1]? = some z.2∧κ2 z.1=0:=λz hz=>⟨k2.1.heap (hkk z hz).1 (λe=>e (hkk z hz).2),(k2.2 z.1 (zc.1 (hkk z hz).1).1).trans (hkk z hz).2⟩;exact hK _ _ _ rfl trivial ⟨κ2,k1,ht.trans k2,hkp⟩ ⟨κ2,k1,ht.trans k2,hkp,⟨_,k3⟩,k4⟩
 constructor
 ·refine jZ 1 rfl ?_;intro y w2 hW hD K hK;simp only[kV,zq4,zq5,IsP] at hD;have h4:=hD.2.2.2.2.1;generalize hAA:jF y _ _=AA at hK⊢;simp only[jF,Act.put,zq,IsP] at hAA;subst hAA;simp only[zq4,zq5,IsP] at hK;simp only[hD] at hK⊢;clear hD;obtain⟨κ1,hb,ht,hkk,⟨b,ho⟩,j5⟩:=(show x8 B q jB jD w κ [(n2,Obj.cells #[.slice la l.length lc] 23 (0,0)),(n1,Obj.cells #[jI q.p] 70 (0,0))] yk L 1 _ w2 from h4);obtain⟨va,vc,hv,_⟩:=zI ho;rw[hv] at ho j5;simp only[hv] at hK⊢;have hap:qL κ1 w2 (.slice va L.length vc):=λad n c e=>by cases e;exact⟨(iZ ho rfl).2,j5 _ rfl⟩
  refine jN ?_;go_simp;refine (ZW 4 0 (.slice va L.length vc) L (.inr (.inl ⟨by decide,rfl,by kernel_rfl⟩)) ho.vals hap HLN.out HOK.out HGP.out hb).mono ?_;rintro r w3 ⟨rfl,κ2,k1,k2⟩;exact hK _ _ _ rfl trivial ⟨κ2,k1,ht.trans k2,λz hz=>⟨k2.1.heap (hkk z hz).1 (λe=>e (hkk z hz).2),(k2.2 z.1 (zc.1 (hkk z hz).1).1).trans (hkk z hz).2⟩⟩ rfl
 trivial
theorem FU {x:BS} (la:Option Addr) (lc:Nat) (l:List ByteArray) (hp:yE (λx=>.string x) w (.slice la l.length lc) l) (ha:qL κ w (.slice la l.length lc)) (hk:∀k∈l,k.size≤1048576) (hl:l.length≤1048576) (hg:x.Good) (h:Bd B q jB jD κ x w):Calls prog 82 #[jI q.p,.slice la l.length lc] w λr w'=>r=.returned (.tuple #[])∧kL B q jB jD κ (x.keyVec jB (onF jD 1) l) w w':=by
 have HPA:=zh (qa hp ha);have HK:=zh (qa hk hl);have HG:=zh hg
 have HE:Hid (Env B q jB jD w κ [(w.heap.size+1,Obj.cells #[.slice la l.length lc] 23 (0,0)),(w.heap.size,Obj.cells #[jI q.p] 70 (0,0))] x ((w.alloc (.cells #[jI q.p] 70)).alloc (.cells #[.slice la l.length lc] 23))):=by
  have hh:=((Env.start h).add (.cells #[jI q.p] 70)).add (.cells #[.slice la l.length lc] 23);simp only[zm,Nat.add_assoc,Nat.reduceAdd] at hh;exact hh
 clear h hp ha hk hl hg;go_enter func82,ntmps82;go_wp2_with fail;refine (HE.callT λκ1 hb ht he=>yV hb _ _ (x.keyVec jB (onF jD 1) l) (λhx=>by unfold BS.keyVec;rw[ze hx]) (λ_=>enters_of func129 zk rfl _ _) (λhx=>FT _ _ _ _ _ (x9 HPA.1 HPA.2 ht) (HPA.2.tn ht) HK.1 HK.2 HG.out hx he)).mono ?_;rintro r w5 ⟨rfl,he⟩;have HT:=zh he;clear he;go_wp2;go_end0;exact⟨rfl,HT.turn⟩
theorem AB {x:Int} {n:Nat} (h:(s.1.length:Int)≤jB):((KI jB x k n s).1.length:Int)≤jB:=by
 unfold KI;exact qV (qV (KX (x:=x) [k] (z8 h)))
theorem putM_le (h:(s.1.length:Int)≤jB):((J4 jB k l s).2.1.length:Int)≤jB:=by
 unfold J4;dsimp only;by_cases ha:JX k l≠0
 ·rw[zl ha];exact h
 rw[ze ha];generalize allF l k s.1.length 3=X;by_cases hb:X=0
 ·rw[zl hb];exact h
 rw[ze hb];have h4:((z6 jB X l (jY jB X l (KI jB X k l.length s))).1.length:Int)≤jB:=aJ l (KX l (AB h));generalize z6 jB X l (jY jB X l (KI jB X k l.length s))=s6 at h4⊢;by_cases hc:s6.2≠0
 ·rw[zl hc];exact h4
 rw[ze hc];exact h4
theorem MN (h:(s.1.length:Int)≤jB) (hm:jB≤1048576):okV (J4 jB k l s).1.1:=by
 unfold J4;dsimp only;by_cases ha:JX k l≠0
 ·rw[zl ha];exact ok0
 rw[ze ha];generalize allF l k s.1.length 3=X;by_cases hb:X=0
 ·rw[zl hb];exact ok0
 rw[ze hb];have h5:=AB (x:=X) (k:=k) (n:=l.length) h;generalize z6 jB X l (jY jB X l (KI jB X k l.length s))=s6;by_cases hc:s6.2≠0
 ·rw[zl hc];exact ok0
 rw[ze hc];refine⟨Int.natCast_nonneg _,?_⟩;show (List.length _:Int)≤_;omega
def BS.tableEnd (jB:Int) (i:Int) (vals:List V3) (x:BS):BS:=
 if x.e=0 then (({x with s:=(J4 jB (x.vals.getD i.toNat (0,0,0)) vals x.s).2}:BS).fail (J4 jB (x.vals.getD i.toNat (0,0,0)) vals x.s).1.2).push (J4 jB (x.vals.getD i.toNat (0,0,0)) vals x.s).1.1 else x
theorem BS.table_eq (jB:Int) (sh:Bool) (list:ByteArray) (keys vals:List V3) (x:BS):x.table jB sh list keys vals=if (qN x.lists list).2 && sh then x.tableEnd jB (qN x.lists list).1 vals else ({x with s:=(yH jB 4 0 keys x.s).2,e:=zO x.e (yH jB 4 0 keys x.s).1.2,lists:=qD list x.vals.length x.lists,vals:=x.vals++[(yH jB 4 0 keys x.s).1.1]}:BS).tableEnd jB x.vals.length vals:=by
 unfold BS.table BS.tableEnd;dsimp only
 cases hg:((qN x.lists list).2 && sh) with
 | true=>simp only[if_true]
 | false=>simp only[Bool.false_eq_true,if_false]
section
variable {B:Nat} {q:zR} {jB jD:Int} {κ κ0 κ1:Nat→Nat} {x y:BS} {w w' w0:World} {Kp:List (Nat × Obj)}
theorem MO {k:V3} {lv:Value} {l:List V3} (h:Bd B q jB jD κ x w) (hkk:okV k) (hv:ValsAt w lv l) (ha:qL κ w lv) (zX:∀c,lv=.slice none 0 c→c=0) (kE:l.length≤1048575) (hok:∀v∈l,okV v) (hs:x.s.2=0) :
 Calls prog 193 #[jI q.b,vV k,lv] w λr w'=>r=.returned (J3 (J4 jB k l x.s).1)∧∀κ1,Bd B q jB jD κ1 x w→kL B q jB jD κ1 {x with s:=(J4 jB k l x.s).2} w w':=by
 refine h.buf_callsA (putM_le h.ok.len) λo ho hκ=>?_;have hap:∀ad n c,lv=.slice (some ad) n c→ad.block < w.heap.size∧¬KL q.b o ad.block:=λad n c e=>⟨(ha ad n c e).1,λhk=>by have h1:=hκ _ hk;have h2:=(ha ad n c e).2;omega⟩;exact put_map x.s k lv l ho (Nat.zero_le _) h.ok.len h.ok.m1 hv zX kE hok hkk hap hs
theorem Env.mput {k:V3} {lv:Value} {l:List V3} (h:Env B q jB jD w0 κ0 Kp x w) (hkk:okV k) (hv:ValsAt w0 lv l) (ha:qL κ0 w0 lv) (zX:∀c,lv=.slice none 0 c→c=0) (kE:l.length≤1048575) (hok:∀v∈l,okV v) (hs:x.s.2=0) :
 Calls prog 193 #[jI q.b,vV k,lv] w λr w'=>r=.returned (J3 (J4 jB k l x.s).1)∧xW B q jB jD w0 κ0 x {x with s:=(J4 jB k l x.s).2} w w':=by
 obtain⟨κ,h1,h2,h3⟩:=h;have hv2:ValsAt w lv l:=Y1 hv h2.1 (λad n c e hk=>hk (ha ad n c e).2);have ha2:qL κ w lv:=λad n c e=>⟨qk (ha ad n c e).1 h2.1.size,(h2.2 _ (ha ad n c e).1).trans (ha ad n c e).2⟩;exact (MO h1 hkk hv2 ha2 zX kE hok hs).mono λr w' hr=>⟨hr.1,DV hr.2⟩
theorem Env.row8 (h:Env B q jB jD w0 κ0 Kp x w):∃va vc,w.heap[q.p]? = some (eM q jD (.slice va x.vals.length vc) x.e)∧jU w 0 (.slice va x.vals.length vc) x.vals:=by
 obtain⟨κ,h1,_⟩:=h;obtain⟨_,vv,k1,k2,_⟩:=h1.self;obtain⟨va,vc,rfl,_⟩:=zI k2;exact⟨va,vc,k1,k2⟩
theorem Env.vals_at (h:Env B q jB jD w0 κ0 Kp x w) {vv:Value} {e:Int} (hr:w.heap[q.p]? = some (eM q jD vv e)):jU w 0 vv x.vals:=by
 obtain⟨κ,h1,_⟩:=h;obtain⟨_,v2,k1,k2,_⟩:=h1.self;rw[hr] at k1;injection k1 with k1;injection k1 with k1;have:vv=v2:=Option.some.inj (by exact ql (λa:Array Value=>a[8]?) k1);subst this;exact k2
theorem MP {w:World} {B:Nat} {a:Option Addr} {n c:Nat} {l:List V3} (h:jU w B (.slice a n c) l) (hl:0 < l.length):∃g,a=some ⟨g,0,none⟩:=by
 rcases h.2 with ⟨e,h0⟩|⟨g,cap,cur,e,_⟩
 ·omega
 cases e;exact⟨g,rfl⟩
theorem Env.val3 (h:Env B q jB jD w0 κ0 Kp x w) {vb n vc:Nat} {e:Int} (hr:w.heap[q.p]? = some (eM q jD (.slice (some ⟨vb,0,none⟩) n vc) e)) {i:Nat} {k:V3} (hk:x.vals[i]? = some k):w.cell? ⟨vb,i*3,none⟩=some (.int .i64 k.1)∧w.cell? ⟨vb,i*3+1,none⟩=some (.int .i64 k.2.1)∧w.cell? ⟨vb,i*3+2,none⟩=some (.int .u64 k.2.2):=by
 obtain⟨_,_,e1,hcl⟩:=(h.vals_at hr).vals;obtain⟨_,_,e2,t0,t1,t2⟩:=hcl i _ hk;injection e1 with e1 _ _;rw[← e1] at e2;cases e2;simp only[Nat.zero_add] at t0 t1 t2;exact⟨t0,t1,t2⟩
def EnvI (B:Nat) (q:zR) (jB jD:Int) (w0:World) (κ0:Nat→Nat) (Kp:List (Nat × Obj)) (vv:Value) (e:Int) (xs:List BS) (z:BS) (p:Nat) (w:World):Prop:=vR B q jB jD w0 κ0 Kp xs z p w∧(p=0→w.heap[q.p]? = some (eM q jD vv e))
theorem EnvI.grew {vv:Value} {e:Int} {xs:List BS} {z:BS}:∀(p:Nat) (w w':World),jC w w'→EnvI B q jB jD w0 κ0 Kp vv e xs z p w→EnvI B q jB jD w0 κ0 Kp vv e xs z p w':=λp w w' hg h=>⟨vR.grew p w w' hg h.1,λhp=>hg.heap (h.2 hp)⟩
end
theorem CH {x:BS} (n1 n2 n3:Nat) (i:Nat) (lv:Value) (l:List V3) (hv:ValsAt w lv l) (ha:qL κ w lv) (zX:∀c,lv=.slice none 0 c→c=0) (kE:l.length≤1048575) (hok:∀v∈l,okV v) (hi:i < x.vals.length) (hg:x.Good) (hx:x.e=0) (he:Env B q jB jD w κ [(n3,Obj.cells #[lv] 109 (0,0)),(n2,Obj.cells #[.int .i64 i] 3 (0,0)),(n1,Obj.cells #[jI q.p] 70 (0,0))] x w):Calls prog 192 #[.pointer (some ⟨n1,0,none⟩),.pointer (some ⟨n2,0,none⟩),.pointer (some ⟨n3,0,none⟩)] w λr w'=>r=.returned (.tuple #[])∧kL B q jB jD κ (x.tableEnd jB i l) w w':=by
 have HE:=zh he;have HM3:Hid ((n3,Obj.cells #[lv] 109 (0,0))∈([(n3,Obj.cells #[lv] 109 (0,0)),(n2,Obj.cells #[.int .i64 i] 3 (0,0)),(n1,Obj.cells #[jI q.p] 70 (0,0))]:List (Nat × Obj))):=zx;have HM2:Hid ((n2,Obj.cells #[.int .i64 i] 3 (0,0))∈([(n3,Obj.cells #[lv] 109 (0,0)),(n2,Obj.cells #[.int .i64 i] 3 (0,0)),(n1,Obj.cells #[jI q.p] 70 (0,0))]:List (Nat × Obj))):=zj _ (zx);have HM1:Hid ((n1,Obj.cells #[jI q.p] 70 (0,0))∈([(n3,Obj.cells #[lv] 109 (0,0)),(n2,Obj.cells #[.int .i64 i] 3 (0,0)),(n1,Obj.cells #[jI q.p] 70 (0,0))]:List (Nat × Obj))):=zj _ (zj _ (zx));obtain⟨k,hkv⟩:∃k,x.vals[i]? = some k:=⟨_,za hi⟩;have HKO:Hid (okV k):=he.ok.okL k (qd hkv);have hgd:x.vals.getD ((i:Nat):Int).toNat (0,0,0)=k:=by rw[Int.toNat_natCast,zw,hkv];rfl
 have HPV:Hid (∀Kp w2,Env B q jB jD w κ Kp x w2→Calls prog 193 #[jI q.b,vV k,lv] w2 λr w'=>r=.returned (J3 (J4 jB k l x.s).1)∧xW B q jB jD w κ x {x with s:=(J4 jB k l x.s).2} w2 w'):=λKp w2 h=>h.mput HKO.out hv ha zX kE hok (hg.s0 hx);have HVO:Hid (okV (J4 jB k l x.s).1.1):=MN he.ok.len he.ok.m1;have HY:Hid (x.tableEnd jB i l=(({x with s:=(J4 jB k l x.s).2}:BS).fail (J4 jB k l x.s).1.2).push (J4 jB k l x.s).1.1):=by show _=_;unfold BS.tableEnd;rw[zl hx,hgd]
 generalize J4 jB k l x.s=PP at HPV HVO HY;obtain⟨⟨⟨ty,wd,n⟩,ee⟩,s1⟩:=PP;obtain⟨k0,k1,k2⟩:=k;have HKI:=zh hkv;obtain⟨va,vc,jK,j5⟩:=he.row8;obtain⟨vb,rfl⟩:=MP j5 zo;have KP:=zh jK;have hii:(i:Int) < x.vals.length:=by omega
 clear he hg hv ha hok zX hgd hkv jK j5 kE;obtain⟨ev,hev⟩:∃ev,x.e=ev:=⟨_,rfl⟩;rw[hev] at KP;clear hev hx;go_enter func192,ntmps192;go_wp2_with fail;refine sqQ [14,19] (EnvI B q jB jD w κ [(n3,Obj.cells #[lv] 109 (0,0)),(n2,Obj.cells #[.int .i64 i] 3 (0,0)),(n1,Obj.cells #[jI q.p] 70 (0,0))] (.slice (some ⟨vb,0,none⟩) x.vals.length vc) ev [x] ({x with s:=s1})) (λ_ w w'=>jC w w') (NewT 18 (JN B q jB jD w κ [(n3,Obj.cells #[lv] 109 (0,0)),(n2,Obj.cells #[.int .i64 i] 3 (0,0)),(n1,Obj.cells #[jI q.p] 70 (0,0))] (.cells #[.int .i64 0,.int .i64 0,.int .u64 0] 135 (0,0)) (x)) (JN B q jB jD w κ [(n3,Obj.cells #[lv] 109 (0,0)),(n2,Obj.cells #[.int .i64 i] 3 (0,0)),(n1,Obj.cells #[jI q.p] 70 (0,0))] (.cells #[.int .i64 0,.int .i64 0,.int .u64 0] 135 (0,0)) ({x with s:=s1})) (JN B q jB jD w κ [(n3,Obj.cells #[lv] 109 (0,0)),(n2,Obj.cells #[.int .i64 i] 3 (0,0)),(n1,Obj.cells #[jI q.p] 70 (0,0))] (.cells #[.int .i64 ty,.int .i64 wd,.int .u64 n] 135 (0,0)) ({x with s:=s1}))) [[],[0],[0,1],[0,1,2],[0,1,2,3],[],[5],[5,6],[5,6,7],[5,6,7,8],[],[5,6,7,8,9,10],[5,6,7,8,9,10,11],[],[0,1,2,3,4,5,6,7,8,9,10,11,12,13],[0,1,2,3,4,5,6,7,8,9,10,11,12,13,14],[0,1,2,3,4,5,6,7,8,9,10,11,12,13,14,15],[0,1,2,3,4,5,6,7,8,9,10,11,12,13,14,15],[],[0,1,2,3,4,5,6,7,8,9,10,11,12,13,14,15,16,18],[0,1,2,3,4,5,6,7,8,9,10,11,12,13,14,15,16,17,18,19]] [(6,0),(7,1),(8,2),(9,3),(10,4),(11,5),(12,6),(13,7),(14,8),(15,9),(16,10),(17,11),(18,12),(19,13),(20,14),(5,15),(21,16),(22,17),(3,18),(4,20)]
  [IsP (jI q.p),IsP (jI q.p),IsP (jI q.p),IsP (jI q.p),IsP (jI q.b),IsP (jI q.p),IsP (jI q.p),IsP (.pointer (some ⟨q.p,3,none⟩)),IsP (.pointer (some ⟨q.p,8,none⟩)),IsP (.slice (some ⟨vb,0,none⟩) x.vals.length vc),IsP (.int .i64 i),IsP (.pointer (some ⟨vb,i*3,none⟩)),IsP (.agg #[.int .i64 k0,.int .i64 k1,.int .u64 k2]),IsP (lv),IsP (.tuple #[.agg #[.int .i64 ty,.int .i64 wd,.int .u64 n],.int .i64 ee]),IsP (.tuple #[.agg #[.int .i64 ty,.int .i64 wd,.int .u64 n],.int .i64 ee]),IsP (.agg #[.int .i64 ty,.int .i64 wd,.int .u64 n]),IsP (.int .i64 ee),dD (JN B q jB jD w κ [(n3,Obj.cells #[lv] 109 (0,0)),(n2,Obj.cells #[.int .i64 i] 3 (0,0)),(n1,Obj.cells #[jI q.p] 70 (0,0))] (.cells #[.int .i64 0,.int .i64 0,.int .u64 0] 135 (0,0)) (x)) (JN B q jB jD w κ [(n3,Obj.cells #[lv] 109 (0,0)),(n2,Obj.cells #[.int .i64 i] 3 (0,0)),(n1,Obj.cells #[jI q.p] 70 (0,0))] (.cells #[.int .i64 0,.int .i64 0,.int .u64 0] 135 (0,0)) ({x with s:=s1})) (JN B q jB jD w κ [(n3,Obj.cells #[lv] 109 (0,0)),(n2,Obj.cells #[.int .i64 i] 3 (0,0)),(n1,Obj.cells #[jI q.p] 70 (0,0))] (.cells #[.int .i64 ty,.int .i64 wd,.int .u64 n] 135 (0,0)) ({x with s:=s1})),λ_ _ _=>True,IsP (.int .i64 ee)]
  sqe zk (EnvI.grew) (⟨HE.grew (jC.refl _).drew,λ_=>(jC.refl w).drew.heap KP.out⟩) zk zk ⟨jG,jG,jG,jG,jG,jG,jG,jG,jG,jG,jG,jG,jG,jG,jG,jG,jG,jG,dD.st JN.grew JN.grew JN.grew,⟨λ_ _ _ _ _ h=>h,λ_ _ _ _ _ h=>h⟩,jG,trivial⟩ rfl ?_ ?_
 ·intro y w2 hW hF;simp only[yR,IsP,Nat.reduceAdd,zz,qg] at hF hW;have h18:=hF.2.2.2.2.2.2.2.2.2.2.2.2.2.2.2.2.2.2.1;simp only[jF,Act.put,zq];simp only[hF];clear hF;obtain⟨nn,e18,hE⟩:=(show dD _ _ _ 2 _ _ from h18);simp only[e18];have HE2:=zh hE.2;clear h18 e18 hE hW;have HM1b:Hid ((n1,Obj.cells #[jI q.p] 70 (0,0))∈(((nn,Obj.cells #[.int .i64 ty,.int .i64 wd,.int .u64 n] 135 (0,0))::[(n3,Obj.cells #[lv] 109 (0,0)),(n2,Obj.cells #[.int .i64 i] 3 (0,0)),(n1,Obj.cells #[jI q.p] 70 (0,0))]):List (Nat × Obj))):=zj _ HM1.out;have cb:=Env.cell HE2.out HM1b.out 0 _ rfl;go_wp2_with fail;refine (HE2.call λκ1 hb hz=>yN ee hb).mono ?_;rintro r w3 ⟨rfl,he⟩;have HE3:=zh he;clear he cb;go_wp2_with fail;refine jQ [4] (vR B q jB jD w κ ((nn,Obj.cells #[.int .i64 ty,.int .i64 wd,.int .u64 n] 135 (0,0))::[(n3,Obj.cells #[lv] 109 (0,0)),(n2,Obj.cells #[.int .i64 i] 3 (0,0)),(n1,Obj.cells #[jI q.p] 70 (0,0))]) [(({x with s:=s1}:BS).fail ee)] ((({x with s:=s1}:BS).fail ee).push (ty,wd,n))) (λ_ w w'=>jC w w') ((λp (_:Nat→Value)=>(λ_ _ _=>True) p)) [[],[0],[0,1],[],[0,1,2,3]] [(28,0),(29,1),(30,2),(31,3),(32,4)]
   [IsP (jI q.p),IsP (jI q.p),IsP (jI q.p),IsP (.agg #[.int .i64 ty,.int .i64 wd,.int .u64 n]),IsP (.tuple #[])]
   sqc zk (vR.grew) (HE3.grew (jC.refl _).drew) zk zk ⟨jG,jG,jG,jG,jG,trivial⟩ rfl ?_ ?_
  ·intro y w2 hW hF;simp only[yR,IsP,Nat.reduceAdd,zz,qg] at hF hW;simp only[jF,Act.put,zq];simp only[hF];clear hF;go_wp2;go_end0;exact⟨rfl,by rw[HY];exact Env.turn hW⟩
  constructor
  ·refine jP 0 0 ?_;intro y w2 p hlo hhi hW hD K hK;have dq:=Env.cell hW HM1b.out 0 _ rfl;exact zqr
  refine⟨zqd,zqd,?_⟩;constructor
  ·exact zb66
  constructor
  ·exact zb67
  trivial
 constructor
 ·refine jP 0 0 ?_;intro y w2 p hlo hhi hW hD K hK;have d10:=Env.cell hW.1 HM1.out 0 _ rfl;exact zqr
 refine⟨zqd,zqd,zqd,?_⟩;constructor
 ·refine jP 0 0 ?_;intro y w2 p hlo hhi hW hD K hK;have dd:=Env.at0 hW.1;exact zqr
 constructor
 ·refine jP 0 0 ?_;intro y w2 p hlo hhi hW hD K hK;have d10:=Env.cell hW.1 HM1.out 0 _ rfl;exact zqr
 refine⟨zqd,zqd,zqd,?_⟩;constructor
 ·refine jP 0 0 ?_;intro y w2 p hlo hhi hW hD K hK;obtain rfl:p=0:=by omega
  have dd:=jA (hW.2 rfl) 8 _ rfl;exact zqr
 constructor
 ·refine jP 0 0 ?_;intro y w2 p hlo hhi hW hD K hK;have d20:=Env.cell hW.1 HM2.out 0 _ rfl;exact zqr
 refine⟨zqd,?_⟩;constructor
 ·refine jP 0 0 ?_;intro y w2 p hlo hhi hW hD K hK;obtain rfl:p=0:=by omega
  have tt:=Env.val3 hW.1 (hW.2 rfl) HKI.out;have t0:w2.cell? ⟨vb,i*3,none⟩=some (.int .i64 k0):=tt.1;have t1:w2.cell? ⟨vb,i*3+1,none⟩=some (.int .i64 k1):=tt.2.1;have t2:w2.cell? ⟨vb,i*3+2,none⟩=some (.int .u64 k2):=tt.2.2;clear tt;exact zqr
 constructor
 ·refine jP 0 0 ?_;intro y w2 p hlo hhi hW hD K hK;have d30:=Env.cell hW.1 HM3.out 0 _ rfl;exact zqr
 constructor
 ·refine jZ 0 rfl ?_;intro y w2 hW hD K hK;simp only[kV,zq4,zq5,IsP] at hD;generalize hAA:jF y _ _=AA at hK⊢;simp only[jF,Act.put,zq,IsP] at hAA;subst hAA;simp only[zq4,zq5,IsP] at hK;simp only[hD] at hK⊢;clear hD;refine jN ?_;go_simp;refine (HPV.out _ w2 hW.1).mono ?_;rintro r w3 ⟨rfl,hA⟩;exact hK _ _ _ rfl (JN.all hA) ⟨hA _ hW.1,λh=>absurd h zd⟩ rfl
 refine⟨zqd,zqd,zqd,?_⟩;constructor
 ·refine jP 0 1 ?_;intro y w2 p hlo hhi hW hD K hK;clear hD;generalize hAA:jF y _ _=AA at hK⊢;simp only[jF,Act.put,zq,IsP] at hAA;subst hAA;simp only[zq4,zq5,IsP] at hK;refine jN ?_;go_simp;rcases (by omega:p=0∨p=1) with rfl|rfl
  ·exact hK _ _ _ rfl ((jC.refl _).alloc _) (show dD _ _ _ 0 _ _ from ⟨_,rfl,Env.newE hW.1 _⟩)
  exact hK _ _ _ rfl ((jC.refl _).alloc _) (show dD _ _ _ 1 _ _ from ⟨_,rfl,Env.newE hW.1 _⟩)
 constructor
 ·refine jZ 1 rfl ?_;intro y w2 hW hD K hK;simp only[kV,zq4,zq5,IsP] at hD;have h18:=hD.2.2.2.2.2.2.2.2.2.2.2.2.2.2.2.2.2.1;generalize hAA:jF y _ _=AA at hK⊢;simp only[jF,Act.put,zq,IsP] at hAA;subst hAA;simp only[zq4,zq5,IsP] at hK;simp only[hD] at hK⊢;clear hD;obtain⟨nn,e18,hE⟩:=h18;simp only[e18] at hK⊢;have jK:=hE.2.kp zx;have f0:=jE jK 0;have f1:=jE jK 1;have f2:=jE jK 2;obtain⟨c0,c1,c2⟩:=sqr3 jK;clear jK;refine jN ?_;go_simp;have hs:=JN.tell hE (CD w2 nn (.int .i64 ty) (.int .i64 wd) (.int .u64 n)) (set3 (hE.2.kp zx));exact hK _ undef _ rfl (λn' e' _=>by rw[e18] at e';cases e';exact hs) ⟨hs.env,λh=>absurd h zd⟩ trivial
 refine⟨zqd,?_⟩;trivial
theorem MQ {o:Oper} {a:Act} {K:Act→World→Prop} {Q:Exit→Act→World→Prop} (w:World) (s x:Operand) (ho:o.op=.call {callee:=.builtin .append,args:=#[s,x],argTypes:=#[109,109]})
 (v:Value) (l:List V3) (hs:a.eval s=v) (j5:jU w 0 v l) (sv:Value) (z:V3) (g:Nat) (hx:a.eval x=sv) (hsv:ValsAt w sv [z]) (hg:sv=.slice (some ⟨g,0,none⟩) 1 1) (kE:l.length≤1048577)
 (h:∀v' w',jU w' 0 v' (l++[z])→w.grownBy w' v.ownBlock→yX w v.ownBlock v'.ownBlock→K (a.put o.dst v') w'):o.wp prog a w K Q:=by
 obtain⟨i0,hi,hz0,hz1,hz2⟩:=pP;subst hg;obtain⟨v',w',hr,h2,h3,h4⟩:=vT (P:=prog) w 0 109 o.type 135 i0 (.agg #[.int .i64 0,.int .i64 0,.int .u64 0]) 3 24 underlying109 hi hz0 hz1 hz2 rfl zd v l.length _ j5 ⟨g,0,none⟩ 1 1 (zQ [z]) (YA [z]) (mH hsv) (eH [z]) gM zo (Nat.zero_le _);refine Lib.wp_append_run w s x 109 109 ho v _ hs hx v' w' hr (h v' w' ?_ h3 h4);unfold jU;rw[zb,V4];exact h2
section
variable {B:Nat} {q:zR} {jB jD:Int} {κ κ0 κ1:Nat→Nat} {x y:BS} {w w' w0 wa:World} {Kp:List (Nat × Obj)}
def ApW (wa:World) (vv:Value) (P2:World→Prop):Nat→World→Prop
 | 0,w=>jC wa w
 | 1,w=>Moved (λk=>some k=vv.ownBlock) wa w
 | _+2,w=>P2 w
theorem ApW.grew {vv:Value} {P2:World→Prop} (h2:∀w w',jC w w'→P2 w→P2 w'):∀(p:Nat) (w w':World),jC w w'→ApW wa vv P2 p w→ApW wa vv P2 p w'
 | 0,_,_,hg,h=>jC.trans h hg
 | 1,_,_,hg,h=>Moved.trans h (Moved.of_grew (S:=λ_=>False) hg) (λ_ _ e=>e.elim)
 | _+2,_,_,hg,h=>h2 _ _ hg h
theorem ApW.old {vv:Value} {P2:World→Prop} {p:Nat} (h:ApW wa vv P2 p w) (hp:p≤1) {k:Nat} {o:Obj} (ho:wa.heap[k]? = some o) (hne:¬some k=vv.ownBlock):w.heap[k]? = some o:=by
 match p,h,hp with
 | 0,h,_=>exact jC.heap h ho
 | 1,h,_=>exact Moved.heap h ho hne
def ApF (wa:World) (vv:Value) (L':List V3):Nat→Value→World→Prop
 | 0,_,_=>False
 | 1,v,w=>jU w 0 v L'∧yX wa vv.ownBlock v.ownBlock
 | _+2,_,_=>True
theorem ApF.st {vv:Value} {L':List V3}:(∀p v w w',(λ(_:Nat) w w'=>jC w w') p w w'→ApF wa vv L' p v w→ApF wa vv L' p v w')∧∀p v w w',(λ_ _ _=>True:Nat→World→World→Prop) p w w'→ApF wa vv L' p v w→ApF wa vv L' (p+1) v w':=by
 refine⟨λp v w w' hg h=>?_,λp v w w' _ h=>?_⟩
 ·match p,h with
  | 1,h=>exact⟨JM h.1 hg,h.2⟩
  | _+2,_=>trivial
 match p,h with
 | 1,_=>trivial
 | _+2,_=>trivial
theorem Bd.setVals {vv v':Value} {L':List V3} (h:Bd B q jB jD κ x wa) (hr:wa.heap[q.p]? = some (eM q jD vv x.e)) (hm:Moved (λk=>some k=vv.ownBlock) wa w) (ho:jU w 0 v' L') (hn:yX wa vv.ownBlock v'.ownBlock) (hl:L'.length≤1048577) (hok:∀u∈L',okV u) :
 kL B q jB jD κ {x with vals:=L'} wa (w.setCell ⟨q.p,8,none⟩ v'):=by
 obtain⟨h0,v2,h1,h2,h3⟩:=h.self
 have e:v2=vv:=by
  rw[hr] at h1;injection h1 with h1;injection h1 with h1;exact (Option.some.inj (by exact ql (λa:Array Value=>a[8]?) h1)).symm
 subst e;have hne:¬some q.p=v2.ownBlock:=λe=>vL h2 hr zd e.symm;have hrw:w.heap[q.p]? = some (eM q jD v2 x.e):=hm.heap hr hne;have hm2:Moved (λk=>k=q.p) w (w.setCell ⟨q.p,8,none⟩ v'):=zZ w q.p 8 _;have hM:Moved (λk=>κ k=1) wa (w.setCell ⟨q.p,8,none⟩ v'):=(hm.mono (λj _ hj=>h3 j hj.symm)).trans hm2 (λj _ hj=>by show κ j=1;rw[hj];exact h0);refine h.self_step (S':=λk=>κ k=1∨v'.ownBlock=some k) hl hok ⟨.inl h0,v',?_,hm2.owns ho (λk hk e=>vL ho hrw zd (by rw[hk,e])),λg hg=>.inr hg⟩ (λk hk=>?_) hM
 ·have:=heap_setCell_same w q.p 8 _ _ v' hrw;simpa using this
 rcases hk with hk|hk
 ·exact .inl hk
 rcases hn k hk with e|e
 ·exact .inl (h3 k e)
 exact .inr ⟨e,qk (YN ho hk) hm2.size⟩
theorem Env.setVals {vv v':Value} {L':List V3} (h:Env B q jB jD w0 κ0 Kp x wa) (hr:wa.heap[q.p]? = some (eM q jD vv x.e)) (hm:Moved (λk=>some k=vv.ownBlock) wa w) (ho:jU w 0 v' L') (hn:yX wa vv.ownBlock v'.ownBlock) (hl:L'.length≤1048577) (hok:∀u∈L',okV u) :
 Env B q jB jD w0 κ0 Kp {x with vals:=L'} (w.setCell ⟨q.p,8,none⟩ v'):=h.after λκ hb _=>hb.setVals hr hm ho hn hl hok
theorem Env.mono {Kp':List (Nat × Obj)} (h:Env B q jB jD w0 κ0 Kp' x w) (hs:∀z∈Kp,z∈Kp'):Env B q jB jD w0 κ0 Kp x w:=by
 obtain⟨κ,h1,h2,h3⟩:=h;exact⟨κ,h1,h2,λz hz=>h3 z (hs z hz)⟩
theorem Env.mkeys {lv:Value} {l:List V3} (h:Env B q jB jD w0 κ0 Kp x w) (hv:ValsAt w0 lv l) (ha:qL κ0 w0 lv) (kE:l.length≤1048576) (hok:∀v∈l,okV v) (hs:x.s.2=0) :
 Calls prog 191 #[jI q.b,lv] w λr w'=>r=.returned (J3 (yH jB 4 0 l x.s).1)∧xW B q jB jD w0 κ0 x {x with s:=(yH jB 4 0 l x.s).2} w w':=by
 have HE:Hid (Env B q jB jD w0 κ0 ((w.heap.size,.cells #[.int .i64 0,.int .i64 0,.int .u64 0] 135 (0,0))::Kp) x (w.alloc (.cells #[.int .i64 0,.int .i64 0,.int .u64 0] 135))):=h.add _;have HC:=zh (HE.vput (elem:=4) (many:=0) (.inr (.inl ⟨by decide,rfl,by kernel_rfl⟩)) hv ha kE hok hs);obtain⟨a,c,rfl,_⟩:=hv;clear h ha kE hok hs;generalize yH jB 4 0 l x.s=PP at *;obtain⟨⟨⟨ty,wd,n⟩,ee⟩,s1⟩:=PP;go_enter func191,ntmps191;go_wp2_with fail;refine HC.mono ?_;rintro r w2 ⟨rfl,hA⟩;have HA:=zh hA;have jK:=(hA _ HE.out).kp zx;have f0:=jE jK 0;have f1:=jE jK 1;have f2:=jE jK 2;obtain⟨c0,c1,c2⟩:=sqr3 jK;have HR:=zh jK;clear hA jK;rw[show J3 ((ty,wd,n),ee)=.tuple #[.agg #[.int .i64 ty,.int .i64 wd,.int .u64 n],.int .i64 ee] from rfl];go_wp2_with fail;refine bodyPost_ret (v:=.tuple #[.agg #[.int .i64 ty,.int .i64 wd,.int .u64 n],.int .i64 ee]) (by simp[results,results191,go_sem,c0,c1,c2]) rfl ⟨rfl,λKp' hE=>?_⟩;exact (JN.tell (JN.all HA.out _ (hE.newE (.cells #[.int .i64 0,.int .i64 0,.int .u64 0] 135 (0,0)))) (CD w2 w.heap.size (.int .i64 ty) (.int .i64 wd) (.int .u64 n)) (set3 HR.out)).env
end
theorem FV {x:BS} (list:ByteArray) (ka:Option Addr) (kc:Nat) (keys:List V3) (va:Option Addr) (vc:Nat) (vals:List V3) (hk:ValsAt w (.slice ka keys.length kc) keys) (hka:qL κ w (.slice ka keys.length kc)) (hv:ValsAt w (.slice va vals.length vc) vals) (hva:qL κ w (.slice va vals.length vc)) (zX:∀c,Value.slice va vals.length vc=.slice none 0 c→c=0) (hkl:keys.length≤1048575) (hvl:vals.length≤1048575) (hko:∀v∈keys,okV v) (hvo:∀v∈vals,okV v) (hg:x.Good) (hx:x.e=0) (h:Bd B q jB jD κ x w):Calls prog 142 #[jI q.p,.string list,.slice ka keys.length kc,.slice va vals.length vc] w λr w'=>r=.returned (.tuple #[])∧kL B q jB jD κ (x.table jB (onF jD 4) list keys vals) w w':=by
 have HE:Hid (Env B q jB jD w κ [(w.heap.size+1,Obj.cells #[.slice va vals.length vc] 109 (0,0)),(w.heap.size,Obj.cells #[jI q.p] 70 (0,0))] x ((w.alloc (.cells #[jI q.p] 70)).alloc (.cells #[.slice va vals.length vc] 109))):=by
  have hh:=((Env.start h).add (.cells #[jI q.p] 70)).add (.cells #[.slice va vals.length vc] 109);simp only[zm,Nat.add_assoc,Nat.reduceAdd] at hh;exact hh
 have HM1:Hid ((w.heap.size,Obj.cells #[jI q.p] 70 (0,0))∈([(w.heap.size+1,Obj.cells #[.slice va vals.length vc] 109 (0,0)),(w.heap.size,Obj.cells #[jI q.p] 70 (0,0))]:List (Nat × Obj))):=zj _ zx;have HM2:Hid ((w.heap.size+1,Obj.cells #[.slice va vals.length vc] 109 (0,0))∈([(w.heap.size+1,Obj.cells #[.slice va vals.length vc] 109 (0,0)),(w.heap.size,Obj.cells #[jI q.p] 70 (0,0))]:List (Nat × Obj))):=zx;have HTE:=zh (BS.table_eq jB (onF jD 4) list keys vals x);have HMK:Hid (∀Kp w2,Env B q jB jD w κ Kp x w2→Calls prog 191 #[jI q.b,.slice ka keys.length kc] w2 λr w'=>r=.returned (J3 (yH jB 4 0 keys x.s).1)∧xW B q jB jD w κ x {x with s:=(yH jB 4 0 keys x.s).2} w2 w'):=λKp w2 h=>h.mkeys hk hka zo hko (hg.s0 hx);have HNG:=zh (hg.newList (jB:=jB) (list:=list) (keys:=keys) hx);have HOKN:Hid (okV (yH jB 4 0 keys x.s).1.1):=rD h.ok.len h.ok.m1;generalize yH jB 4 0 keys x.s=PP at HTE HMK HNG HOKN;obtain⟨⟨⟨ty,wd,n⟩,ee⟩,s1⟩:=PP
 have HIX:Hid ((qN x.lists list).2=true→∃i:Nat,(qN x.lists list).1=i∧i < x.vals.length):=λhb=>by
  unfold qN at hb⊢;split at hb
  ·rename_i hh;rw[zl hh];have hlt:=iV hh;have h1:=hg.ix hx _ (xq hlt);have e:(QZ x.lists).getD (vQ x.lists list) 0=(x.lists[vQ x.lists list]).2:=by simp[QZ,zw,hlt]
   dsimp only;rw[e];exact⟨_,(Int.toNat_of_nonneg h1.1).symm,by omega⟩
  cases hb
 have HLS:Hid (x.lists.length≤1048576):=zf (hg.ls hx) HE.len;have HVS:Hid (x.vals.length≤1048576):=zf (hg.vs hx) HE.len;have HOL:Hid (∀u∈x.vals,okV u):=h.ok.okL;have HT1:Hid (∀(y:BS) (i:Nat) (κ1:Nat→Nat) (w2:World) (n1 n2 n3:Nat),y.Good→y.e=0→i < y.vals.length→Tn κ κ1 w w2→Env B q jB jD w2 κ1 [(n3,Obj.cells #[.slice va vals.length vc] 109 (0,0)),(n2,Obj.cells #[.int .i64 i] 3 (0,0)),(n1,Obj.cells #[jI q.p] 70 (0,0))] y w2→Calls prog 192 #[.pointer (some ⟨n1,0,none⟩),.pointer (some ⟨n2,0,none⟩),.pointer (some ⟨n3,0,none⟩)] w2 λr w'=>r=.returned (.tuple #[])∧kL B q jB jD κ1 (y.tableEnd jB i vals) w2 w'):=λy i κ1 w2 n1 n2 n3 g1 g2 g3 ht g4=>CH n1 n2 n3 i _ vals (eO hv hva ht) (hva.tn ht) zX hvl hvo g3 g1 g2 g4;have HX:=zh hx;have HG:=zh hg;clear h hk hka hv hva zX hko hvo hg hkl hvl hx;have cb:=Env.cell HE.out HM1.out 0 _ rfl;have c6:=HE.at6;go_enter func142,ntmps142;go_wp2_with fail;generalize (w.alloc (.cells #[jI q.p] 70)).alloc (.cells #[.slice va vals.length vc] 109)=w1 at *;refine (HE.listsGet list).mono ?_;rintro r w2 ⟨rfl,hg2⟩;have HE1:=zh (HE.grew hg2);clear hg2 cb c6;have HSZ:Hid (w.heap.size < w2.heap.size∧w.heap.size+1 < w2.heap.size):=⟨(zc.1 (HE1.kp HM1.out)).1,(zc.1 (HE1.kp HM2.out)).1⟩;generalize qN x.lists list=g at *;obtain⟨ga,gb⟩:=g;have HB1:=zh (HE1.add (.cells #[.int .i64 ga] 3));have cb1:=Env.cell HB1.out (zj _ HM1.out) 0 _ rfl;have cl1:=Env.cell HB1.out (zj _ HM2.out) 0 _ rfl
 cases gb with
 | false=>
  have c0:=HB1.at0;go_wp2_with fail;skip;refine (HMK.out _ _ HB1.out).mono ?_;rintro r w4 ⟨rfl,hA⟩;have HE3:=zh (hA _ HB1.out);rw[show J3 ((ty,wd,n),ee)=.tuple #[.agg #[.int .i64 ty,.int .i64 wd,.int .u64 n],.int .i64 ee] from rfl];clear hA c0 cb1 cl1;have HB4:=zh (HE3.add (.cells #[.int .i64 ty,.int .i64 wd,.int .u64 n] 135));have cb4:=Env.cell HB4.out (zj _ (zj _ HM1.out)) 0 _ rfl;have HS4:Hid (w2.heap.size < w4.heap.size∧w.heap.size < w4.heap.size∧w.heap.size+1 < w4.heap.size):=⟨(zc.1 (HE3.kp zx)).1,(zc.1 (HE3.kp (zj _ HM1.out))).1,(zc.1 (HE3.kp (zj _ HM2.out))).1⟩;go_wp2_with fail;generalize w4.alloc _=w5 at *;refine (HB4.call λκ1 hb hz=>yN ee hb).mono ?_;rintro r w6 ⟨rfl,he⟩;have HE5:=zh he;clear he cb4;obtain⟨va6,vc6,hrow6,hown6⟩:=HE5.row8;have c86:w6.cell? ⟨q.p,8,none⟩=some (.slice va6 x.vals.length vc6):=jA hrow6 8 _ rfl;clear hrow6 hown6;have cb5:=Env.cell HE5.out (zj _ (zj _ HM1.out)) 0 _ rfl;have hri:=HE5.kp (zj _ zx);have fi:=jE hri 0;have ci:=jA hri 0 _ rfl
  have HE6:Hid (Env B q jB jD w κ ((w2.heap.size,Obj.cells #[.int .i64 x.vals.length] 3 (0,0))::(w4.heap.size,Obj.cells #[.int .i64 ty,.int .i64 wd,.int .u64 n] 135 (0,0))::[(w.heap.size+1,Obj.cells #[.slice va vals.length vc] 109 (0,0)),(w.heap.size,Obj.cells #[jI q.p] 70 (0,0))]) (({x with s:=s1}:BS).fail ee) (w6.setCell ⟨w2.heap.size,0,none⟩ (.int .i64 x.vals.length))):=by
   have ho:=heap_setCell_same w6 w2.heap.size 0 _ _ (.int .i64 x.vals.length) hri;refine (JN.tell (o:=.cells #[.int .i64 ga] 3 (0,0)) ⟨⟨by have:=HSZ.1;omega,λz hz e=>?_⟩,HE5.mono (λz hz=>?_)⟩ (zZ w6 w2.heap.size 0 _) (by simpa using ho)).2
   ·exact zb69
   simp only[qp,List.not_mem_nil,or_false] at hz⊢;rcases hz with rfl|rfl|rfl|rfl<;>simp
  have HN1:Hid ((w.heap.size,Obj.cells #[jI q.p] 70 (0,0))∈(((w2.heap.size,Obj.cells #[.int .i64 x.vals.length] 3 (0,0))::(w4.heap.size,Obj.cells #[.int .i64 ty,.int .i64 wd,.int .u64 n] 135 (0,0))::[(w.heap.size+1,Obj.cells #[.slice va vals.length vc] 109 (0,0)),(w.heap.size,Obj.cells #[jI q.p] 70 (0,0))]):List (Nat × Obj))):=zj _ (zj _ HM1.out);have HN3:Hid ((w4.heap.size,Obj.cells #[.int .i64 ty,.int .i64 wd,.int .u64 n] 135 (0,0))∈(((w2.heap.size,Obj.cells #[.int .i64 x.vals.length] 3 (0,0))::(w4.heap.size,Obj.cells #[.int .i64 ty,.int .i64 wd,.int .u64 n] 135 (0,0))::[(w.heap.size+1,Obj.cells #[.slice va vals.length vc] 109 (0,0)),(w.heap.size,Obj.cells #[jI q.p] 70 (0,0))]):List (Nat × Obj))):=zj _ zx;clear hri;go_wp2_with fail;generalize (w6.setCell ⟨w2.heap.size,0,none⟩ (.int .i64 x.vals.length))=w7 at *;clear c86 cb5 fi ci;refine jQ [7] (vR B q jB jD w κ ((w2.heap.size,Obj.cells #[.int .i64 x.vals.length] 3 (0,0))::(w4.heap.size,Obj.cells #[.int .i64 ty,.int .i64 wd,.int .u64 n] 135 (0,0))::[(w.heap.size+1,Obj.cells #[.slice va vals.length vc] 109 (0,0)),(w.heap.size,Obj.cells #[jI q.p] 70 (0,0))]) [({x with s:=s1}:BS).fail ee] ({({x with s:=s1}:BS).fail ee with lists:=qD list x.vals.length x.lists})) (λ_ w w'=>jC w w') ((λp (_:Nat→Value)=>(λ_ _ _=>True) p)) [[],[0],[0,1],[0,1,2],[0,1,2,3],[],[],[0,1,2,3,4,5,6]] [(52,0),(53,1),(54,2),(55,3),(56,4),(57,5),(58,6),(59,7)]
   [IsP (jI q.p),IsP (jI q.p),IsP (.pointer (some ⟨q.p,3,none⟩)),IsP (.pointer (some ⟨q.p,6,none⟩)),IsP (jI q.l),IsP (.string list),IsP (.int .i64 x.vals.length),IsP (.int .i64 (ZC list x.vals.length x.lists))]
   sqc zk (vR.grew) (HE6.grew (jC.refl _).drew) zk zk ⟨jG,jG,jG,jG,jG,jG,jG,jG,trivial⟩ rfl ?_ ?_
  ·intro y wr6 hW hF;simp only[yR,IsP,Nat.reduceAdd,zz,qg] at hF hW;simp only[jF,Act.put,zq];simp only[hF];clear hF;have HE7:Hid (Env B q jB jD w κ ((w2.heap.size,Obj.cells #[.int .i64 x.vals.length] 3 (0,0))::(w4.heap.size,Obj.cells #[.int .i64 ty,.int .i64 wd,.int .u64 n] 135 (0,0))::[(w.heap.size+1,Obj.cells #[.slice va vals.length vc] 109 (0,0)),(w.heap.size,Obj.cells #[jI q.p] 70 (0,0))]) ({({x with s:=s1}:BS).fail ee with lists:=qD list x.vals.length x.lists}) wr6):=hW;have HLV:Hid ((x.vals++[(ty,wd,n)]).length≤1048577):=by show _≤_;rw[zb];have:=HVS.out;simp;omega
   have HOV:Hid (∀u∈x.vals++[((ty,wd,n):V3)],okV u):=by
    intro u hu;rcases xf.1 hu with hu|hu
    ·exact HOL.out u hu
    simp at hu;subst hu;exact HOKN.out
   obtain⟨va8,vc8,hrow8,hown8⟩:=HE7.row8;have HR8:=zh hrow8;have HO8:Hid (jU wr6 0 (.slice va8 x.vals.length vc8) x.vals):=hown8;have c8:wr6.cell? ⟨q.p,8,none⟩=some (.slice va8 x.vals.length vc8):=jA hrow8 8 _ rfl;clear hrow8 hown8;go_wp2_with fail;refine sqQ [8,12] (ApW wr6 (.slice va8 x.vals.length vc8) (λw'=>Env B q jB jD w κ ((w2.heap.size,Obj.cells #[.int .i64 x.vals.length] 3 (0,0))::(w4.heap.size,Obj.cells #[.int .i64 ty,.int .i64 wd,.int .u64 n] 135 (0,0))::[(w.heap.size+1,Obj.cells #[.slice va vals.length vc] 109 (0,0)),(w.heap.size,Obj.cells #[jI q.p] 70 (0,0))]) ({({({x with s:=s1}:BS).fail ee with lists:=qD list x.vals.length x.lists}:BS) with vals:=x.vals++[(ty,wd,n)]}) w')) (λ_ w w'=>jC w w') ((λp (_:Nat→Value)=>(λ_ _ _=>True) p)) [[],[],[1],[1,2],[1,2,3],[1,2,3,4],[],[6],[1,2,3,4,5,6,7],[0,1,2,3,4,5,6,7,8],[0,1,2,3,4,5,6,7,8,9],[0,1,2,3,4,5,6,7,8,9,10],[0,1,2,3,4,5,6,7,8,9,10,11]] [(60,0),(61,1),(62,2),(63,3),(64,4),(65,5),(66,6),(67,7),(68,8),(69,9),(70,10),(71,11)]
    [IsP (jI q.p),IsP (jI q.p),IsP (jI q.p),IsP (.pointer (some ⟨q.p,3,none⟩)),IsP (.pointer (some ⟨q.p,8,none⟩)),IsP (.slice va8 x.vals.length vc8),IsP (.agg #[.int .i64 ty,.int .i64 wd,.int .u64 n]),ZG 0 (λv w=>(∃g,v=.slice (some ⟨g,0,none⟩) 1 1)∧ValsAt w v [(ty,wd,n)]),ApF wr6 (.slice va8 x.vals.length vc8) (x.vals++[(ty,wd,n)]),IsP (jI q.p),IsP (.pointer (some ⟨q.p,3,none⟩)),IsP (.pointer (some ⟨q.p,8,none⟩)),λ_ _ _=>True]
    sqe zk (ApW.grew (λw1 w2 hg h=>Env.grew h hg)) ((jC.refl _).drew) zk zk ⟨jG,jG,jG,jG,jG,jG,jG,KK (ZG.st (λv w w' hg h=>⟨h.1,h.2.grew hg⟩)),KK (ApF.st),jG,jG,jG,⟨λ_ _ _ _ _ h=>h,λ_ _ _ _ _ h=>h⟩,trivial⟩ rfl ?_ ?_
   ·intro y w5 hW hF;simp only[yR,IsP,Nat.reduceAdd,zz,qg] at hF hW;have h7:=hF.2.2.2.2.2.2.2.1;have h8:=hF.2.2.2.2.2.2.2.2.1;simp only[jF,Act.put,zq];simp only[hF];clear hF;have HE8:Hid (Env B q jB jD w κ ((w2.heap.size,Obj.cells #[.int .i64 x.vals.length] 3 (0,0))::(w4.heap.size,Obj.cells #[.int .i64 ty,.int .i64 wd,.int .u64 n] 135 (0,0))::[(w.heap.size+1,Obj.cells #[.slice va vals.length vc] 109 (0,0)),(w.heap.size,Obj.cells #[jI q.p] 70 (0,0))]) (({x with s:=s1,e:=zO x.e ee,lists:=qD list x.vals.length x.lists,vals:=x.vals++[(ty,wd,n)]}:BS)) w5):=hW;clear hW h7 h8;have cb8:=Env.cell HE8.out HN1.out 0 _ rfl;go_wp2_with fail;have HT:Hid (∀κ1 wz,Tn κ κ1 w wz→Env B q jB jD wz κ1 (((w2.heap.size,Obj.cells #[.int .i64 x.vals.length] 3 (0,0))::(w4.heap.size,Obj.cells #[.int .i64 ty,.int .i64 wd,.int .u64 n] 135 (0,0))::[(w.heap.size+1,Obj.cells #[.slice va vals.length vc] 109 (0,0)),(w.heap.size,Obj.cells #[jI q.p] 70 (0,0))])) (({x with s:=s1,e:=zO x.e ee,lists:=qD list x.vals.length x.lists,vals:=x.vals++[(ty,wd,n)]}:BS)) wz→(({x with s:=s1,e:=zO x.e ee,lists:=qD list x.vals.length x.lists,vals:=x.vals++[(ty,wd,n)]}:BS)).e=0→Calls prog 192 #[.pointer (some ⟨w.heap.size,0,none⟩),.pointer (some ⟨w2.heap.size,0,none⟩),.pointer (some ⟨w.heap.size+1,0,none⟩)] wz λr w'=>r=.returned (.tuple #[])∧kL B q jB jD κ1 ((({x with s:=s1,e:=zO x.e ee,lists:=qD list x.vals.length x.lists,vals:=x.vals++[(ty,wd,n)]}:BS)).tableEnd jB x.vals.length vals) wz w'):=λκ1 wz ht he he0=>HT1.out _ (x.vals.length) κ1 wz _ _ _ HNG.out he0 (by show _ < (x.vals++[(ty,wd,n)]).length;rw[zb];simp) ht (he.mono (λz hz=>by simp only[qp,List.not_mem_nil,or_false] at hz⊢;rcases hz with rfl | rfl | rfl<;>simp));refine (HE8.callT λκ1 hb ht he=>yV hb _ _ ((({x with s:=s1,e:=zO x.e ee,lists:=qD list x.vals.length x.lists,vals:=x.vals++[(ty,wd,n)]}:BS)).tableEnd jB x.vals.length vals) (λhne=>by unfold BS.tableEnd;rw[ze hne]) (λ_=>enters_of func192 zk rfl _ _) (λhe0=>HT.out κ1 _ ht he he0)).mono ?_;rintro r w9 ⟨rfl,he⟩;have HF:=zh he;clear he;go_wp2;go_end0;exact⟨rfl,by rw[HTE.trans (ze zp2)];exact HF.turn⟩
   constructor
   ·exact zb70
   constructor
   ·exact zb71
   constructor
   ·exact zb72
   constructor
   ·exact zb72
   constructor
   ·exact zb72
   constructor
   ·exact zb73
   constructor
   ·exact zb74
   constructor
   ·exact zb75
   constructor
   ·exact zb76
   constructor
   ·exact zb77
   constructor
   ·exact zb77
   constructor
   ·exact zb77
   constructor
   ·exact zb78
   trivial
  constructor
  ·exact zb79
  constructor
  ·exact zb80
  constructor
  ·exact zb80
  constructor
  ·exact zb80
  constructor
  ·exact zb81
  constructor
  ·exact zb82
  constructor
  ·exact zb83
  constructor
  ·exact zb84
  trivial
 | true=>
  cases ho:onF jD 4 with
  | false=>
   have HO:=zh ho;have HTE2:Hid (x.table jB (onF jD 4) list keys vals=({x with s:=s1,e:=zO x.e ee,lists:=qD list x.vals.length x.lists,vals:=x.vals++[(ty,wd,n)]}:BS).tableEnd jB x.vals.length vals):=by have h:=HTE.out;show _=_;rw[ho] at h⊢;simpa using h
   clear ho;go_wp2_with fail;generalize w2.alloc _=w3 at *;refine (HB1.onE 4).mono ?_;rw[HO];rintro r w9 ⟨rfl,hw9⟩;obtain rfl:w3=w9:=hw9.symm;have c0:=HB1.at0;go_wp2_with fail;skip;refine (HMK.out _ _ HB1.out).mono ?_;rintro r w4 ⟨rfl,hA⟩;have HE3:=zh (hA _ HB1.out);rw[show J3 ((ty,wd,n),ee)=.tuple #[.agg #[.int .i64 ty,.int .i64 wd,.int .u64 n],.int .i64 ee] from rfl];clear hA c0 cb1 cl1;have HB4:=zh (HE3.add (.cells #[.int .i64 ty,.int .i64 wd,.int .u64 n] 135));have cb4:=Env.cell HB4.out (zj _ (zj _ HM1.out)) 0 _ rfl;have HS4:Hid (w2.heap.size < w4.heap.size∧w.heap.size < w4.heap.size∧w.heap.size+1 < w4.heap.size):=⟨(zc.1 (HE3.kp zx)).1,(zc.1 (HE3.kp (zj _ HM1.out))).1,(zc.1 (HE3.kp (zj _ HM2.out))).1⟩;go_wp2_with fail;generalize w4.alloc _=w5 at *;refine (HB4.call λκ1 hb hz=>yN ee hb).mono ?_;rintro r w6 ⟨rfl,he⟩;have HE5:=zh he;clear he cb4;obtain⟨va6,vc6,hrow6,hown6⟩:=HE5.row8;have c86:w6.cell? ⟨q.p,8,none⟩=some (.slice va6 x.vals.length vc6):=jA hrow6 8 _ rfl;clear hrow6 hown6;have cb5:=Env.cell HE5.out (zj _ (zj _ HM1.out)) 0 _ rfl;have hri:=HE5.kp (zj _ zx);have fi:=jE hri 0;have ci:=jA hri 0 _ rfl
   have HE6:Hid (Env B q jB jD w κ ((w2.heap.size,Obj.cells #[.int .i64 x.vals.length] 3 (0,0))::(w4.heap.size,Obj.cells #[.int .i64 ty,.int .i64 wd,.int .u64 n] 135 (0,0))::[(w.heap.size+1,Obj.cells #[.slice va vals.length vc] 109 (0,0)),(w.heap.size,Obj.cells #[jI q.p] 70 (0,0))]) (({x with s:=s1}:BS).fail ee) (w6.setCell ⟨w2.heap.size,0,none⟩ (.int .i64 x.vals.length))):=by
    have ho:=heap_setCell_same w6 w2.heap.size 0 _ _ (.int .i64 x.vals.length) hri;refine (JN.tell (o:=.cells #[.int .i64 ga] 3 (0,0)) ⟨⟨by have:=HSZ.1;omega,λz hz e=>?_⟩,HE5.mono (λz hz=>?_)⟩ (zZ w6 w2.heap.size 0 _) (by simpa using ho)).2
    ·exact zb69
    simp only[qp,List.not_mem_nil,or_false] at hz⊢;rcases hz with rfl|rfl|rfl|rfl<;>simp
   have HN1:Hid ((w.heap.size,Obj.cells #[jI q.p] 70 (0,0))∈(((w2.heap.size,Obj.cells #[.int .i64 x.vals.length] 3 (0,0))::(w4.heap.size,Obj.cells #[.int .i64 ty,.int .i64 wd,.int .u64 n] 135 (0,0))::[(w.heap.size+1,Obj.cells #[.slice va vals.length vc] 109 (0,0)),(w.heap.size,Obj.cells #[jI q.p] 70 (0,0))]):List (Nat × Obj))):=zj _ (zj _ HM1.out);have HN3:Hid ((w4.heap.size,Obj.cells #[.int .i64 ty,.int .i64 wd,.int .u64 n] 135 (0,0))∈(((w2.heap.size,Obj.cells #[.int .i64 x.vals.length] 3 (0,0))::(w4.heap.size,Obj.cells #[.int .i64 ty,.int .i64 wd,.int .u64 n] 135 (0,0))::[(w.heap.size+1,Obj.cells #[.slice va vals.length vc] 109 (0,0)),(w.heap.size,Obj.cells #[jI q.p] 70 (0,0))]):List (Nat × Obj))):=zj _ zx;clear hri;go_wp2_with fail;generalize (w6.setCell ⟨w2.heap.size,0,none⟩ (.int .i64 x.vals.length))=w7 at *;clear c86 cb5 fi ci;refine jQ [7] (vR B q jB jD w κ ((w2.heap.size,Obj.cells #[.int .i64 x.vals.length] 3 (0,0))::(w4.heap.size,Obj.cells #[.int .i64 ty,.int .i64 wd,.int .u64 n] 135 (0,0))::[(w.heap.size+1,Obj.cells #[.slice va vals.length vc] 109 (0,0)),(w.heap.size,Obj.cells #[jI q.p] 70 (0,0))]) [({x with s:=s1}:BS).fail ee] ({({x with s:=s1}:BS).fail ee with lists:=qD list x.vals.length x.lists})) (λ_ w w'=>jC w w') ((λp (_:Nat→Value)=>(λ_ _ _=>True) p)) [[],[0],[0,1],[0,1,2],[0,1,2,3],[],[],[0,1,2,3,4,5,6]] [(52,0),(53,1),(54,2),(55,3),(56,4),(57,5),(58,6),(59,7)]
    [IsP (jI q.p),IsP (jI q.p),IsP (.pointer (some ⟨q.p,3,none⟩)),IsP (.pointer (some ⟨q.p,6,none⟩)),IsP (jI q.l),IsP (.string list),IsP (.int .i64 x.vals.length),IsP (.int .i64 (ZC list x.vals.length x.lists))]
    sqc zk (vR.grew) (HE6.grew (jC.refl _).drew) zk zk ⟨jG,jG,jG,jG,jG,jG,jG,jG,trivial⟩ rfl ?_ ?_
   ·intro y wr6 hW hF;simp only[yR,IsP,Nat.reduceAdd,zz,qg] at hF hW;simp only[jF,Act.put,zq];simp only[hF];clear hF;have HE7:Hid (Env B q jB jD w κ ((w2.heap.size,Obj.cells #[.int .i64 x.vals.length] 3 (0,0))::(w4.heap.size,Obj.cells #[.int .i64 ty,.int .i64 wd,.int .u64 n] 135 (0,0))::[(w.heap.size+1,Obj.cells #[.slice va vals.length vc] 109 (0,0)),(w.heap.size,Obj.cells #[jI q.p] 70 (0,0))]) ({({x with s:=s1}:BS).fail ee with lists:=qD list x.vals.length x.lists}) wr6):=hW;have HLV:Hid ((x.vals++[(ty,wd,n)]).length≤1048577):=by show _≤_;rw[zb];have:=HVS.out;simp;omega
    have HOV:Hid (∀u∈x.vals++[((ty,wd,n):V3)],okV u):=by
     intro u hu;rcases xf.1 hu with hu|hu
     ·exact HOL.out u hu
     simp at hu;subst hu;exact HOKN.out
    obtain⟨va8,vc8,hrow8,hown8⟩:=HE7.row8;have HR8:=zh hrow8;have HO8:Hid (jU wr6 0 (.slice va8 x.vals.length vc8) x.vals):=hown8;have c8:wr6.cell? ⟨q.p,8,none⟩=some (.slice va8 x.vals.length vc8):=jA hrow8 8 _ rfl;clear hrow8 hown8;go_wp2_with fail;refine sqQ [8,12] (ApW wr6 (.slice va8 x.vals.length vc8) (λw'=>Env B q jB jD w κ ((w2.heap.size,Obj.cells #[.int .i64 x.vals.length] 3 (0,0))::(w4.heap.size,Obj.cells #[.int .i64 ty,.int .i64 wd,.int .u64 n] 135 (0,0))::[(w.heap.size+1,Obj.cells #[.slice va vals.length vc] 109 (0,0)),(w.heap.size,Obj.cells #[jI q.p] 70 (0,0))]) ({({({x with s:=s1}:BS).fail ee with lists:=qD list x.vals.length x.lists}:BS) with vals:=x.vals++[(ty,wd,n)]}) w')) (λ_ w w'=>jC w w') ((λp (_:Nat→Value)=>(λ_ _ _=>True) p)) [[],[],[1],[1,2],[1,2,3],[1,2,3,4],[],[6],[1,2,3,4,5,6,7],[0,1,2,3,4,5,6,7,8],[0,1,2,3,4,5,6,7,8,9],[0,1,2,3,4,5,6,7,8,9,10],[0,1,2,3,4,5,6,7,8,9,10,11]] [(60,0),(61,1),(62,2),(63,3),(64,4),(65,5),(66,6),(67,7),(68,8),(69,9),(70,10),(71,11)]
     [IsP (jI q.p),IsP (jI q.p),IsP (jI q.p),IsP (.pointer (some ⟨q.p,3,none⟩)),IsP (.pointer (some ⟨q.p,8,none⟩)),IsP (.slice va8 x.vals.length vc8),IsP (.agg #[.int .i64 ty,.int .i64 wd,.int .u64 n]),ZG 0 (λv w=>(∃g,v=.slice (some ⟨g,0,none⟩) 1 1)∧ValsAt w v [(ty,wd,n)]),ApF wr6 (.slice va8 x.vals.length vc8) (x.vals++[(ty,wd,n)]),IsP (jI q.p),IsP (.pointer (some ⟨q.p,3,none⟩)),IsP (.pointer (some ⟨q.p,8,none⟩)),λ_ _ _=>True]
     sqe zk (ApW.grew (λw1 w2 hg h=>Env.grew h hg)) ((jC.refl _).drew) zk zk ⟨jG,jG,jG,jG,jG,jG,jG,KK (ZG.st (λv w w' hg h=>⟨h.1,h.2.grew hg⟩)),KK (ApF.st),jG,jG,jG,⟨λ_ _ _ _ _ h=>h,λ_ _ _ _ _ h=>h⟩,trivial⟩ rfl ?_ ?_
    ·intro y w5 hW hF;simp only[yR,IsP,Nat.reduceAdd,zz,qg] at hF hW;have h7:=hF.2.2.2.2.2.2.2.1;have h8:=hF.2.2.2.2.2.2.2.2.1;simp only[jF,Act.put,zq];simp only[hF];clear hF;have HE8:Hid (Env B q jB jD w κ ((w2.heap.size,Obj.cells #[.int .i64 x.vals.length] 3 (0,0))::(w4.heap.size,Obj.cells #[.int .i64 ty,.int .i64 wd,.int .u64 n] 135 (0,0))::[(w.heap.size+1,Obj.cells #[.slice va vals.length vc] 109 (0,0)),(w.heap.size,Obj.cells #[jI q.p] 70 (0,0))]) (({x with s:=s1,e:=zO x.e ee,lists:=qD list x.vals.length x.lists,vals:=x.vals++[(ty,wd,n)]}:BS)) w5):=hW;clear hW h7 h8;have cb8:=Env.cell HE8.out HN1.out 0 _ rfl;go_wp2_with fail;have HT:Hid (∀κ1 wz,Tn κ κ1 w wz→Env B q jB jD wz κ1 (((w2.heap.size,Obj.cells #[.int .i64 x.vals.length] 3 (0,0))::(w4.heap.size,Obj.cells #[.int .i64 ty,.int .i64 wd,.int .u64 n] 135 (0,0))::[(w.heap.size+1,Obj.cells #[.slice va vals.length vc] 109 (0,0)),(w.heap.size,Obj.cells #[jI q.p] 70 (0,0))])) (({x with s:=s1,e:=zO x.e ee,lists:=qD list x.vals.length x.lists,vals:=x.vals++[(ty,wd,n)]}:BS)) wz→(({x with s:=s1,e:=zO x.e ee,lists:=qD list x.vals.length x.lists,vals:=x.vals++[(ty,wd,n)]}:BS)).e=0→Calls prog 192 #[.pointer (some ⟨w.heap.size,0,none⟩),.pointer (some ⟨w2.heap.size,0,none⟩),.pointer (some ⟨w.heap.size+1,0,none⟩)] wz λr w'=>r=.returned (.tuple #[])∧kL B q jB jD κ1 ((({x with s:=s1,e:=zO x.e ee,lists:=qD list x.vals.length x.lists,vals:=x.vals++[(ty,wd,n)]}:BS)).tableEnd jB x.vals.length vals) wz w'):=λκ1 wz ht he he0=>HT1.out _ (x.vals.length) κ1 wz _ _ _ HNG.out he0 (by show _ < (x.vals++[(ty,wd,n)]).length;rw[zb];simp) ht (he.mono (λz hz=>by simp only[qp,List.not_mem_nil,or_false] at hz⊢;rcases hz with rfl | rfl | rfl<;>simp));refine (HE8.callT λκ1 hb ht he=>yV hb _ _ ((({x with s:=s1,e:=zO x.e ee,lists:=qD list x.vals.length x.lists,vals:=x.vals++[(ty,wd,n)]}:BS)).tableEnd jB x.vals.length vals) (λhne=>by unfold BS.tableEnd;rw[ze hne]) (λ_=>enters_of func192 zk rfl _ _) (λhe0=>HT.out κ1 _ ht he he0)).mono ?_;rintro r w9 ⟨rfl,he⟩;have HF:=zh he;clear he;go_wp2;go_end0;exact⟨rfl,by rw[HTE2];exact HF.turn⟩
    constructor
    ·exact zb70
    constructor
    ·exact zb71
    constructor
    ·exact zb72
    constructor
    ·exact zb72
    constructor
    ·exact zb72
    constructor
    ·exact zb73
    constructor
    ·exact zb74
    constructor
    ·exact zb75
    constructor
    ·exact zb76
    constructor
    ·exact zb77
    constructor
    ·exact zb77
    constructor
    ·exact zb77
    constructor
    ·exact zb78
    trivial
   constructor
   ·exact zb79
   constructor
   ·exact zb80
   constructor
   ·exact zb80
   constructor
   ·exact zb80
   constructor
   ·exact zb81
   constructor
   ·exact zb82
   constructor
   ·exact zb83
   constructor
   ·exact zb84
   trivial
  | true=>
   have HO:=zh ho;have HTE2:Hid (x.table jB (onF jD 4) list keys vals=x.tableEnd jB ga vals):=by have h:=HTE.out;show _=_;rw[ho] at h⊢;simpa using h
   clear ho;go_wp2_with fail;generalize w2.alloc _=w3 at *;refine (HB1.onE 4).mono ?_;rw[HO];rintro r w9 ⟨rfl,hw9⟩;obtain rfl:w3=w9:=hw9.symm;have hix:=HIX.out trivial;obtain⟨i,hi1,hi2⟩:=hix;subst hi1;have HI:=zh hi2;clear hi2;have HB2:=HB1;go_wp2_with fail;have HT:Hid (∀κ1 wz,Tn κ κ1 w wz→Env B q jB jD wz κ1 (((w2.heap.size,Obj.cells #[.int .i64 i] 3 (0,0))::[(w.heap.size+1,Obj.cells #[.slice va vals.length vc] 109 (0,0)),(w.heap.size,Obj.cells #[jI q.p] 70 (0,0))])) (x) wz→(x).e=0→Calls prog 192 #[.pointer (some ⟨w.heap.size,0,none⟩),.pointer (some ⟨w2.heap.size,0,none⟩),.pointer (some ⟨w.heap.size+1,0,none⟩)] wz λr w'=>r=.returned (.tuple #[])∧kL B q jB jD κ1 ((x).tableEnd jB i vals) wz w'):=λκ1 wz ht he he0=>HT1.out _ (i) κ1 wz _ _ _ HG.out he0 (HI.out) ht (he.mono (λz hz=>by simp only[qp,List.not_mem_nil,or_false] at hz⊢;rcases hz with rfl | rfl | rfl<;>simp));refine (HB2.callT λκ1 hb ht he=>yV hb _ _ ((x).tableEnd jB i vals) (λhne=>by unfold BS.tableEnd;rw[ze hne]) (λ_=>enters_of func192 zk rfl _ _) (λhe0=>HT.out κ1 _ ht he he0)).mono ?_;rintro r w9 ⟨rfl,he⟩;have HF:=zh he;clear he;go_wp2;go_end0;exact⟨rfl,by rw[HTE2];exact HF.turn⟩
structure BRec where
 q:zR
 jB:Int
 jD:Int
 x:BS
section
variable {w0 w w':World} {R:List BRec} {Kp:List (Nat × Obj)}
end
end Go.Proofs.YtdjoffgkndncfaaGreat
