/-
  Texts of the proof.
-/
import Derived.Test.YtjnpcddbgfmpcaaGreatDoorBMapsPBP
set_option linter.unusedVariables false
set_option linter.unusedSimpArgs false
set_option maxHeartbeats 32000000
set_option maxRecDepth 100000
namespace Go.Proofs.YtjnpcddbgfmpcaaGreatDoor
open Go.Proofs.Tryz
open Go Go.ChangeShapes Go.WideShapes Go.ChangeAt Go.RowKit Go.Joins Go.Deep
open Go.Proofs.YtjnpcddbgfmpcaaGreatDoor.Ft (V3 vV okV ValsAt inlineB legalB packF codeF typedF allF)
theorem BS.put_ok {most:Int} {x:BS} {sh:Bool} {k:ByteArray} (h:x.Ok most):okV (x.put most sh k).1:=by
 have hl:=h.len
 have hm:=h.m1
 have hk:=aP (k:=k) h.okK
 unfold BS.put
 dsimp only
 split
 ·exact ok0
 ·split
  ·show (0:Int)≤_∧_≤(18446744073709551615:Int);dsimp only;omega
  ·show (0:Int)≤_∧_≤(18446744073709551615:Int);dsimp only;omega
theorem sL {B:Nat} {q:kN} {most flags:Int} {κ:Nat→Nat} {x:BS} {w:World} (n1 n2:Nat) (k:ByteArray) (hk:k.size≤1048576) (hg:x.Good) (hx:x.e=0) (he:Env B q most flags w κ [(n2,Obj.cells #[.string k] 9 (0,0)),(n1,Obj.cells #[jF q.p] 26 (0,0))] x w):Calls prog 27 #[.pointer (some ⟨n1,0,none⟩),.pointer (some ⟨n2,0,none⟩)] w fun r w'=>r=.returned (.tuple #[])∧j1 B q most flags κ (x.key most (onF flags 1) k) w w':=by
 have HE:=zh he
 clear he
 have HM2:Hid ((n2,Obj.cells #[.string k] 9 (0,0))∈([(n2,Obj.cells #[.string k] 9 (0,0)),(n1,Obj.cells #[jF q.p] 26 (0,0))]:List (Nat × Obj))):=List.mem_cons_self
 have HM1:Hid ((n1,Obj.cells #[jF q.p] 26 (0,0))∈([(n2,Obj.cells #[.string k] 9 (0,0)),(n1,Obj.cells #[jF q.p] 26 (0,0))]:List (Nat × Obj))):=List.mem_cons_of_mem _ (List.mem_cons_self)
 have HPC:Hid (∀κ1 w2,Bd B q most flags κ1 x w2→Calls prog 29 #[jF q.p,.string k] w2 fun r w'=>r=.returned (vV (x.put most (onF flags 1) k).1)∧j1 B q most flags κ1 (x.put most (onF flags 1) k).2 w2 w'):=fun κ1 w2 hb=>iY k hk hg hb
 have HVO:Hid (okV (x.put most (onF flags 1) k).1):=BS.put_ok HE.out.ok
 have HY:Hid (x.key most (onF flags 1) k=(x.put most (onF flags 1) k).2.push (x.put most (onF flags 1) k).1):=by show _=_;unfold BS.key;rw[if_pos hx]
 clear hk hg hx
 generalize (x.put most (onF flags 1) k)=P at *
 obtain⟨⟨ty,wd,n⟩,y⟩:=P
 go_enter func27,ntmps27
 go_wp2_with fail
 refine jM [5,6] (yD B q most flags w κ [(n2,Obj.cells #[.string k] 9 (0,0)),(n1,Obj.cells #[jF q.p] 26 (0,0))] [x,y] (y.push (ty,wd,n))) (fun _ w w'=>jA w w') ((fun p (_:Nat→Value)=>(fun _ _ _=>True) p)) [[],[0],[0,1],[],[],[3,4],[0,1,2,3,4,5]] [[(5,3),(6,4),(7,5)],[(2,0),(5,3),(6,4),(7,5)],[(2,0),(3,1),(5,3),(6,4),(7,5)],[(2,0),(3,1),(4,2),(6,4)],[(2,0),(3,1),(4,2),(5,3)],[(2,0),(3,1),(4,2),(5,3),(6,4)],[(2,0),(3,1),(4,2),(5,3),(6,4),(7,5)]] [(2,0),(3,1),(4,2),(5,3),(6,4),(7,5),(8,6)]
  [IsP (jF q.p),IsP (jF q.p),IsP (jF q.p),IsP (jF q.p),IsP (.string k),IsP (.agg #[.int .i64 ty,.int .i64 wd,.int .u64 n]),IsP (.tuple #[])]
  zk (yD.grew) (HE.out.grew (jA.refl _).drew) zk zk ⟨jC,jC,jC,jC,jC,jC,jC,trivial⟩ rfl ?_ ?_
 ·intro y w2 hW hF
  simp only[zB,IsP,Nat.reduceAdd,List.length_cons,List.length_nil] at hF hW
  have h0:=hF.1
  have h1:=hF.2.1
  have h2:=hF.2.2.1
  have h3:=hF.2.2.2.1
  have h4:=hF.2.2.2.2.1
  have h5:=hF.2.2.2.2.2.1
  have h6:=hF.2.2.2.2.2.2.1
  clear hF
  simp only[jB,Act.put,zq1,zq2,zq3,zq4,zq5]
  simp only[h0,h1,h2,h3,h4,h5,h6]
  clear h0 h1 h2 h3 h4 h5 h6
  go_wp2
  go_end0
  exact⟨rfl,by rw[HY.out];exact Env.turn hW⟩
 refine⟨?_,?_⟩
 ·refine jH 0 1 ?_
  intro y w2 p hlo hhi hW hD K hK
  have d10:=Env.cell hW HM1.out 0 _ rfl
  exact zqr
 refine⟨zqd,zqd,?_⟩
 refine⟨?_,?_⟩
 ·refine jH 0 0 ?_
  intro y w2 p hlo hhi hW hD K hK
  have d10:=Env.cell hW HM1.out 0 _ rfl
  exact zqr
 refine⟨?_,?_⟩
 ·refine jH 0 0 ?_
  intro y w2 p hlo hhi hW hD K hK
  have d20:=Env.cell hW HM2.out 0 _ rfl
  exact zqr
 refine⟨?_,?_⟩
 ·refine jN 0 rfl ?_
  intro y w2 hW hD K hK
  simp only[jV,zq4,zq5,IsP] at hD
  have h3:=hD.1
  have h4:=hD.2.1
  clear hD
  generalize hAA:jB y _ _=AA at hK⊢
  simp only[jB,Act.put,zq1,zq2,zq3,zq4,zq5,IsP] at hAA
  subst hAA
  simp only[zq4,zq5,IsP] at hK
  simp only[h3,h4] at hK⊢
  clear h3 h4
  refine jL ?_
  go_simp
  refine (Env.call hW fun κ1 hb hz=>HPC.out κ1 w2 hb).mono ?_
  rintro r w3 ⟨rfl,he⟩
  exact hK _ _ _ rfl trivial he rfl
 refine⟨?_,?_⟩
 ·refine jN 1 rfl ?_
  intro y w2 hW hD K hK
  simp only[jV,zq4,zq5,IsP] at hD
  have h0:=hD.1
  have h1:=hD.2.1
  have h2:=hD.2.2.1
  have h3:=hD.2.2.2.1
  have h4:=hD.2.2.2.2.1
  have h5:=hD.2.2.2.2.2.1
  clear hD
  generalize hAA:jB y _ _=AA at hK⊢
  simp only[jB,Act.put,zq1,zq2,zq3,zq4,zq5,IsP] at hAA
  subst hAA
  simp only[zq4,zq5,IsP] at hK
  simp only[h0,h1,h2,h3,h4,h5] at hK⊢
  clear h0 h1 h2 h3 h4 h5
  refine jL ?_
  go_simp
  refine (Env.call hW fun κ1 hb hz=>qR (ty,wd,n) HVO.out hb).mono ?_
  rintro r w3 ⟨rfl,he⟩
  exact hK _ _ _ rfl trivial he rfl
 trivial
theorem iZ {B:Nat} {q:kN} {most flags:Int} {κ:Nat→Nat} {x:BS} {w:World} (k:ByteArray) (hk:k.size≤1048576) (hg:x.Good) (h:Bd B q most flags κ x w):Calls prog 10 #[jF q.p,.string k] w fun r w'=>r=.returned (.tuple #[])∧j1 B q most flags κ (x.key most (onF flags 1) k) w w':=by
 have HH:=zh (And.intro hk hg)
 have HE:Hid (Env B q most flags w κ [(w.heap.size+1,Obj.cells #[.string k] 9 (0,0)),(w.heap.size,Obj.cells #[jF q.p] 26 (0,0))] x ((w.alloc (.cells #[jF q.p] 26)).alloc (.cells #[.string k] 9))):=by
  have hh:=((Env.start h).add (.cells #[jF q.p] 26)).add (.cells #[.string k] 9)
  simp only[World.size_alloc,Nat.add_assoc,Nat.reduceAdd] at hh
  exact hh
 clear h hk hg
 go_enter func10,ntmps10
 go_wp2_with fail
 refine (HE.out.call' fun κ1 hb he=>zG hb _ _ (x.key most (onF flags 1) k) (fun hx=>by unfold BS.key;rw[if_neg hx]) (fun _=>enters_of func27 zk rfl _ _) (fun hx=>sL _ _ k HH.out.1 HH.out.2 hx he)).mono ?_
 rintro r w5 ⟨rfl,he⟩
 have HT:=zh he
 clear he
 go_wp2
 go_end0
 exact⟨rfl,HT.out.turn⟩
theorem VR {B:Nat} {q:kN} {most flags:Int} {κ:Nat→Nat} {x:BS} {w:World} (t:Int) (k z:ByteArray) (hk:k.size≤1048576) (hz:z.size≤1000) (ht:x.texts.length≤1048576) (h:Bd B q most flags κ x w):Calls prog 179 #[jF q.p,.int .i64 t,.string k,.string z] w fun r w'=>r=.returned (.tuple #[])∧j1 B q most flags κ (x.text most t k z) w w':=by
 have HE:=zh (Env.start h)
 have HWO:Hid (∀w,Calls prog 103 #[.int .u64 (k.size:Int)] w fun r w'=>r=.returned (.int .i64 (Ft.widthOf k.size))∧w=w'):=fun w=>by have h:=Ft.widthOf_any (k.size:Int) w (by omega) (by omega);rw[Int.toNat_natCast] at h;exact h
 have HIW:Hid (isW (Ft.widthOf k.size)=true):=Z1 k.size
 obtain⟨wd,hwd⟩:∃u,Ft.widthOf k.size=u:=⟨_,rfl⟩
 rw[hwd] at HWO HIW
 have HLN:Hid ((jW most wd k.size (jG most wd x.s)).1.length≤1048576):=by have h1:=yA (x:=wd) (u:=(k.size:Int)) (kT (x:=wd) h.ok.len);have h2:=h.ok.m1;show _≤_;omega
 have HVT:Hid (okV (t,wd,((jW most wd k.size (jG most wd x.s)).1.length:Int))):=by have h:=HLN.out;show (0:Int)≤((jW most wd k.size (jG most wd x.s)).1.length:Int)∧((jW most wd k.size (jG most wd x.s)).1.length:Int)≤18446744073709551615;omega
 have hwa:=K7 _ HLN.out
 have hwk:=K7 _ hk
 have HSS:Hid (zH [k,z]≤1073741824):=by show _≤_;simp[zH];omega
 have HTL:=zh ht
 have HY:Hid (x.text most t k z=(({x with s:=kA most (jP [k,z]) (jW most wd k.size (jG most wd x.s)),texts:=if t=5 then zL k ((jW most wd k.size (jG most wd x.s)).1.length:Int) x.texts else x.texts}:BS).push (t,wd,((jW most wd k.size (jG most wd x.s)).1.length:Int)))):=by show _=_;unfold BS.text;rw[hwd]
 clear h hwd ht hz
 have c0:=HE.out.at0
 go_enter func179,ntmps179
 go_wp2_with fail
 refine (HWO.out w).mono ?_
 rintro r w1 ⟨rfl,hw1⟩
 obtain rfl:w=w1:=hw1
 go_wp2_with fail
 refine (HE.out.call fun κ1 hb hz=>hb.buf_calls (kT hb.ok.len) (fun o ho _=>vD x.s wd ho (Nat.zero_le _) hb.ok.len hb.ok.m1)).mono ?_
 rintro r w2 ⟨rfl,he⟩
 have HE1:=zh he
 clear he c0
 have c0:=HE1.out.at0
 go_wp2_with fail
 refine (HE1.out.call fun κ1 hb hz=>hb.buf_calls (x:={x with s:=jG most wd x.s}) (yA hb.ok.len) (fun o ho _=>yT (jG most wd x.s) wd (k.size:Int) ho (Nat.zero_le _) hb.ok.len hb.ok.m1 (by omega) (by omega))).mono ?_
 rintro r w3 ⟨rfl,he⟩
 have HE2:=zh he
 clear he c0
 have c0:=HE2.out.at0
 go_wp2_with fail
 refine HE2.out.buflen.mono ?_
 rintro r w9 ⟨rfl,hw9⟩
 obtain rfl:w3=w9:=hw9.symm
 go_wp2_with fail
 refine (HE2.out.text2 k z HSS.out).mono ?_
 rintro r w4 ⟨rfl,he⟩
 have HE3:=zh he
 clear he c0
 have c5:=HE3.out.at5
 by_cases h5:t=5
 ·have HY5:Hid (x.text most t k z=({x with s:=kA most (jP [k,z]) (jW most wd k.size (jG most wd x.s)),texts:=zL k ((jW most wd k.size (jG most wd x.s)).1.length:Int) x.texts}:BS).push (t,wd,((jW most wd k.size (jG most wd x.s)).1.length:Int))):=by show _=_;rw[HY.out,if_pos h5]
  subst h5
  go_wp2_with fail
  refine (HE3.out.textsPut k ((jW most wd k.size (jG most wd x.s)).1.length:Int) (show ({x with s:=kA most (jP [k,z]) (jW most wd k.size (jG most wd x.s))}:BS).texts.length≤1048576 from HTL.out)).mono ?_
  rintro r w5 ⟨rfl,he⟩
  have HE4:=zh he
  clear he c5
  go_wp2_with fail
  refine (HE4.out.call fun κ1 hb hz=>qR (5,wd,((jW most wd k.size (jG most wd x.s)).1.length:Int)) HVT.out hb).mono ?_
  rintro r w6 ⟨rfl,he⟩
  have HE5:=zh he
  clear he
  go_wp2
  go_end0
  exact⟨rfl,by rw[HY5.out];exact HE5.out.turn⟩
 ·have HY5:Hid (x.text most t k z=({x with s:=kA most (jP [k,z]) (jW most wd k.size (jG most wd x.s))}:BS).push (t,wd,((jW most wd k.size (jG most wd x.s)).1.length:Int))):=by show _=_;rw[HY.out,if_neg h5]
  go_wp2_with fail
  refine (HE3.out.call fun κ1 hb hz=>qR (t,wd,((jW most wd k.size (jG most wd x.s)).1.length:Int)) HVT.out hb).mono ?_
  rintro r w6 ⟨rfl,he⟩
  have HE5:=zh he
  clear he
  go_wp2
  go_end0
  exact⟨rfl,by rw[HY5.out];exact HE5.out.turn⟩
theorem pL {B:Nat} {q:kN} {most flags:Int} {κ:Nat→Nat} {x:BS} {w:World} (n1 n2:Nat) (k:ByteArray) (hk:k.size≤1048576) (hg:x.Good) (hx:x.e=0) (he:Env B q most flags w κ [(n2,Obj.cells #[.string k] 9 (0,0)),(n1,Obj.cells #[jF q.p] 26 (0,0))] x w):Calls prog 180 #[.pointer (some ⟨n1,0,none⟩),.pointer (some ⟨n2,0,none⟩)] w fun r w'=>r=.returned (.tuple #[])∧j1 B q most flags κ (x.blob most k) w w':=by
 have HY:Hid (x.blob most k=x.text most 25 k ByteArray.empty):=by show _=_;unfold BS.blob;rw[if_pos hx]
 have HTL:Hid (x.texts.length≤1048576):=Nat.le_trans (hg.ts hx) he.len
 have HE:=zh he
 have HM2:Hid ((n2,Obj.cells #[.string k] 9 (0,0))∈([(n2,Obj.cells #[.string k] 9 (0,0)),(n1,Obj.cells #[jF q.p] 26 (0,0))]:List (Nat × Obj))):=List.mem_cons_self
 have HM1:Hid ((n1,Obj.cells #[jF q.p] 26 (0,0))∈([(n2,Obj.cells #[.string k] 9 (0,0)),(n1,Obj.cells #[jF q.p] 26 (0,0))]:List (Nat × Obj))):=List.mem_cons_of_mem _ (List.mem_cons_self)
 have cb:=Env.cell he HM1.out 0 _ rfl
 have ck:=Env.cell he HM2.out 0 _ rfl
 clear he hx hg
 go_enter func180,ntmps180
 go_wp2_with fail
 refine (HE.out.call fun κ1 hb hz=>VR 25 k ByteArray.empty hk (by decide) HTL.out hb).mono ?_
 rintro r w6 ⟨rfl,he⟩
 have HE5:=zh he
 clear he
 go_wp2
 go_end0
 exact⟨rfl,by rw[HY.out];exact HE5.out.turn⟩
theorem pM {B:Nat} {q:kN} {most flags:Int} {κ:Nat→Nat} {x:BS} {w:World} (k:ByteArray) (hk:k.size≤1048576) (hg:x.Good) (h:Bd B q most flags κ x w):Calls prog 136 #[jF q.p,.string k] w fun r w'=>r=.returned (.tuple #[])∧j1 B q most flags κ (x.blob most k) w w':=by
 have HH:=zh (And.intro hk hg)
 have HE:Hid (Env B q most flags w κ [(w.heap.size+1,Obj.cells #[.string k] 9 (0,0)),(w.heap.size,Obj.cells #[jF q.p] 26 (0,0))] x ((w.alloc (.cells #[jF q.p] 26)).alloc (.cells #[.string k] 9))):=by
  have hh:=((Env.start h).add (.cells #[jF q.p] 26)).add (.cells #[.string k] 9)
  simp only[World.size_alloc,Nat.add_assoc,Nat.reduceAdd] at hh
  exact hh
 clear h hk hg
 go_enter func136,ntmps136
 go_wp2_with fail
 refine (HE.out.call' fun κ1 hb he=>zG hb _ _ (x.blob most k) (fun hx=>by unfold BS.blob;rw[if_neg hx]) (fun _=>enters_of func180 zk rfl _ _) (fun hx=>pL _ _ k HH.out.1 HH.out.2 hx he)).mono ?_
 rintro r w5 ⟨rfl,he⟩
 have HT:=zh he
 clear he
 go_wp2
 go_end0
 exact⟨rfl,HT.out.turn⟩
theorem sM {B:Nat} {q:kN} {most flags:Int} {κ:Nat→Nat} {x:BS} {w:World} (n1 n2:Nat) (k:ByteArray) (hk:k.size≤1048576) (hg:x.Good) (hx:x.e=0) (he:Env B q most flags w κ [(n2,Obj.cells #[.string k] 9 (0,0)),(n1,Obj.cells #[jF q.p] 26 (0,0))] x w):Calls prog 178 #[.pointer (some ⟨n1,0,none⟩),.pointer (some ⟨n2,0,none⟩)] w fun r w'=>r=.returned (.tuple #[])∧j1 B q most flags κ (x.str most (onF flags 2) k) w w':=by
 have HE:=zh he
 have HTL:Hid (x.texts.length≤1048576):=Nat.le_trans (hg.ts hx) he.len
 have HGO:=zh (aP (k:=k) he.ok.okT)
 have HM2:Hid ((n2,Obj.cells #[.string k] 9 (0,0))∈([(n2,Obj.cells #[.string k] 9 (0,0)),(n1,Obj.cells #[jF q.p] 26 (0,0))]:List (Nat × Obj))):=List.mem_cons_self
 have HM1:Hid ((n1,Obj.cells #[jF q.p] 26 (0,0))∈([(n2,Obj.cells #[.string k] 9 (0,0)),(n1,Obj.cells #[jF q.p] 26 (0,0))]:List (Nat × Obj))):=List.mem_cons_of_mem _ (List.mem_cons_self)
 have HPB:Hid (x.str most (onF flags 2) k=if (yB x.texts k).2 && onF flags 2 then x.push (5,Ft.widthOf k.size,(yB x.texts k).1) else x.text most 5 k ⟨#[0]⟩):=by show _=_;unfold BS.str;rw[if_pos hx]
 have HGE:Hid (∀w2,Env B q most flags w κ [(n2,Obj.cells #[.string k] 9 (0,0)),(n1,Obj.cells #[jF q.p] 26 (0,0))] x w2→Calls prog 71 #[jF q.t,.string k] w2 fun r w'=>r=.returned (.tuple #[.int .i64 (yB x.texts k).1,.bool (yB x.texts k).2])∧jA w2 w'):=fun w2 h=>h.textsGet k
 generalize yB x.texts k=g at HPB HGE HGO
 obtain⟨ga,gb⟩:=g
 clear he hx hg
 have hwk:=K7 _ hk
 have HWO:Hid (∀w,Calls prog 103 #[.int .u64 (k.size:Int)] w fun r w'=>r=.returned (.int .i64 (Ft.widthOf k.size))∧w=w'):=fun w=>by have h:=Ft.widthOf_any (k.size:Int) w (by omega) (by omega);rw[Int.toNat_natCast] at h;exact h
 have hwa:IntKind.u64.wrap ga=ga:=by have h:=HGO.out;simp[IntKind.wrap,IntKind.bits,IntKind.signed];omega
 have HVT:Hid (okV (5,Ft.widthOf k.size,ga)):=by have h:=HGO.out;show (0:Int)≤ga∧ga≤18446744073709551615;omega
 go_enter func178,ntmps178
 go_wp2_with fail
 refine jM [] (yD B q most flags w κ [(n2,Obj.cells #[.string k] 9 (0,0)),(n1,Obj.cells #[jF q.p] 26 (0,0))] [x] (x)) (fun _ w w'=>jA w w') ((fun p (_:Nat→Value)=>(fun _ _ _=>True) p)) [[],[0],[0,1],[0,1,2],[0,1,2,3],[],[0,1,2,3,4,5],[0,1,2,3,4,5,6],[0,1,2,3,4,5,6,7],[0,1,2,3,4,5,6,7],[0,1,2,3,4,5,6,7,8],[0,1,2,3,4,5,6,7,8,9,10]] [[(10,5)],[(5,0),(10,5)],[(5,0),(6,1),(10,5)],[(5,0),(6,1),(7,2),(10,5)],[(5,0),(6,1),(7,2),(8,3),(10,5)],[(5,0),(6,1),(7,2),(8,3),(9,4)],[(5,0),(6,1),(7,2),(8,3),(9,4),(10,5)],[(5,0),(6,1),(7,2),(8,3),(9,4),(10,5),(11,6)],[(5,0),(6,1),(7,2),(8,3),(9,4),(10,5),(11,6),(4,7),(13,9)],[(5,0),(6,1),(7,2),(8,3),(9,4),(10,5),(11,6),(4,7),(12,8),(2,10)],[(5,0),(6,1),(7,2),(8,3),(9,4),(10,5),(11,6),(4,7),(12,8),(13,9)],[(5,0),(6,1),(7,2),(8,3),(9,4),(10,5),(11,6),(4,7),(12,8),(13,9),(2,10)]] [(5,0),(6,1),(7,2),(8,3),(9,4),(10,5),(11,6),(4,7),(12,8),(13,9),(2,10),(3,11)]
  [IsP (jF q.p),IsP (jF q.p),IsP (.pointer (some ⟨q.p,3,none⟩)),IsP (.pointer (some ⟨q.p,5,none⟩)),IsP (jF q.t),IsP (.string k),IsP (.tuple #[.int .i64 ga,.bool gb]),IsP (.tuple #[.int .i64 ga,.bool gb]),IsP (.int .i64 ga),IsP (.bool gb),IsP (.int .i64 ga),IsP (.bool gb)]
  zk (yD.grew) (HE.out.grew (jA.refl _).drew) zk zk ⟨jC,jC,jC,jC,jC,jC,jC,jC,jC,jC,jC,jC,trivial⟩ rfl ?_ ?_
 ·intro y w2 hW hF
  simp only[zB,IsP,Nat.reduceAdd,List.length_cons,List.length_nil] at hF hW
  have h0:=hF.1
  have h1:=hF.2.1
  have h2:=hF.2.2.1
  have h3:=hF.2.2.2.1
  have h4:=hF.2.2.2.2.1
  have h5:=hF.2.2.2.2.2.1
  have h6:=hF.2.2.2.2.2.2.1
  have h7:=hF.2.2.2.2.2.2.2.1
  have h8:=hF.2.2.2.2.2.2.2.2.1
  have h9:=hF.2.2.2.2.2.2.2.2.2.1
  have h10:=hF.2.2.2.2.2.2.2.2.2.2.1
  have h11:=hF.2.2.2.2.2.2.2.2.2.2.2.1
  clear hF
  simp only[jB,Act.put,zq1,zq2,zq3,zq4,zq5]
  simp only[h0,h1,h2,h3,h4,h5,h6,h7,h8,h9,h10,h11]
  clear h0 h1 h2 h3 h4 h5 h6 h7 h8 h9 h10 h11
  have HE1:Hid (Env B q most flags w κ [(n2,Obj.cells #[.string k] 9 (0,0)),(n1,Obj.cells #[jF q.p] 26 (0,0))] x w2):=hW
  cases gb with
  | false=>
   have HP:Hid (x.str most (onF flags 2) k=x.text most 5 k ⟨#[0]⟩):=(by have h:=HPB.out;show _=_;simpa using h)
   have cb:=Env.cell HE1.out HM1.out 0 _ rfl
   have ck:=Env.cell HE1.out HM2.out 0 _ rfl
   go_wp2_with fail
   refine (HE1.out.call fun κ1 hb hz=>VR 5 k ⟨#[0]⟩ hk (by decide) HTL.out hb).mono ?_
   rintro r w6 ⟨rfl,he⟩
   have HE5:=zh he
   clear he
   go_wp2
   go_end0
   exact⟨rfl,by rw[HP.out];exact HE5.out.turn⟩
  | true=>
   cases ho:onF flags 2 with
   | false=>
    have HO:=zh ho
    have HPZ:=zh (show (x.str most (onF flags 2) k=x.text most 5 k ⟨#[0]⟩) by have h:=HPB.out;show _=_;rw[ho] at h;rw[ho];simpa using h)
    clear ho
    have cb:=Env.cell HE1.out HM1.out 0 _ rfl
    go_wp2_with fail
    refine (HE1.out.onE 2).mono ?_
    rw[HO.out]
    rintro r w9 ⟨rfl,hw9⟩
    obtain rfl:w2=w9:=hw9.symm
    clear cb
    have HP:Hid (x.str most (onF flags 2) k=x.text most 5 k ⟨#[0]⟩):=HPZ.out
    have cb:=Env.cell HE1.out HM1.out 0 _ rfl
    have ck:=Env.cell HE1.out HM2.out 0 _ rfl
    go_wp2_with fail
    refine (HE1.out.call fun κ1 hb hz=>VR 5 k ⟨#[0]⟩ hk (by decide) HTL.out hb).mono ?_
    rintro r w6 ⟨rfl,he⟩
    have HE5:=zh he
    clear he
    go_wp2
    go_end0
    exact⟨rfl,by rw[HP.out];exact HE5.out.turn⟩
   | true=>
    have HO:=zh ho
    have HP:Hid (x.str most (onF flags 2) k=x.push (5,Ft.widthOf k.size,ga)):=by have h:=HPB.out;show _=_;rw[ho] at h;rw[ho];simpa using h
    clear ho
    have cb:=Env.cell HE1.out HM1.out 0 _ rfl
    go_wp2_with fail
    refine (HE1.out.onE 2).mono ?_
    rw[HO.out]
    rintro r w9 ⟨rfl,hw9⟩
    obtain rfl:w2=w9:=hw9.symm
    clear cb
    go_wp2_with fail
    refine jM [10] (yD B q most flags w κ [(n2,Obj.cells #[.string k] 9 (0,0)),(n1,Obj.cells #[jF q.p] 26 (0,0))] [x] (x.push (5,Ft.widthOf k.size,ga))) (fun _ w w'=>jA w w') ((fun p (_:Nat→Value)=>(fun _ _ _=>True) p)) [[],[0],[0,1],[],[3],[3,4],[3,4,5],[],[7],[3,4,5,6,7,8],[0,1,2,3,4,5,6,7,8,9]] [[(24,3),(25,4),(26,5),(27,6),(28,7),(29,8),(30,9)],[(21,0),(24,3),(25,4),(26,5),(27,6),(28,7),(29,8),(30,9)],[(21,0),(22,1),(24,3),(25,4),(26,5),(27,6),(28,7),(29,8),(30,9)],[(21,0),(22,1),(23,2),(28,7),(29,8)],[(21,0),(22,1),(23,2),(24,3),(28,7),(29,8)],[(21,0),(22,1),(23,2),(24,3),(25,4),(28,7),(29,8)],[(21,0),(22,1),(23,2),(24,3),(25,4),(26,5),(28,7),(29,8)],[(21,0),(22,1),(23,2),(24,3),(25,4),(26,5),(27,6)],[(21,0),(22,1),(23,2),(24,3),(25,4),(26,5),(27,6),(28,7)],[(21,0),(22,1),(23,2),(24,3),(25,4),(26,5),(27,6),(28,7),(29,8)],[(21,0),(22,1),(23,2),(24,3),(25,4),(26,5),(27,6),(28,7),(29,8),(30,9)]] [(21,0),(22,1),(23,2),(24,3),(25,4),(26,5),(27,6),(28,7),(29,8),(30,9),(31,10)]
     [IsP (jF q.p),IsP (jF q.p),IsP (jF q.p),IsP (.string k),IsP (.int .i64 k.size),IsP (.int .u64 k.size),IsP (.int .i64 (Ft.widthOf k.size)),IsP (.int .i64 ga),IsP (.int .u64 ga),IsP (.agg #[.int .i64 5,.int .i64 (Ft.widthOf k.size),.int .u64 ga]),IsP (.tuple #[])]
     zk (yD.grew) (HE1.out.grew (jA.refl _).drew) zk zk ⟨jC,jC,jC,jC,jC,jC,jC,jC,jC,jC,jC,trivial⟩ rfl ?_ ?_
    ·intro y w2 hW hF
     simp only[zB,IsP,Nat.reduceAdd,List.length_cons,List.length_nil] at hF hW
     have h0:=hF.1
     have h1:=hF.2.1
     have h2:=hF.2.2.1
     have h3:=hF.2.2.2.1
     have h4:=hF.2.2.2.2.1
     have h5:=hF.2.2.2.2.2.1
     have h6:=hF.2.2.2.2.2.2.1
     have h7:=hF.2.2.2.2.2.2.2.1
     have h8:=hF.2.2.2.2.2.2.2.2.1
     have h9:=hF.2.2.2.2.2.2.2.2.2.1
     have h10:=hF.2.2.2.2.2.2.2.2.2.2.1
     clear hF
     simp only[jB,Act.put,zq1,zq2,zq3,zq4,zq5]
     simp only[h0,h1,h2,h3,h4,h5,h6,h7,h8,h9,h10]
     clear h0 h1 h2 h3 h4 h5 h6 h7 h8 h9 h10
     go_wp2
     refine bodyPost_ret (results_none rfl _ _ _) rfl ?_
     exact⟨rfl,by rw[HP.out];exact Env.turn hW⟩
    refine⟨?_,?_⟩
    ·refine jH 0 0 ?_
     intro y w2 p hlo hhi hW hD K hK
     have d10:=Env.cell hW HM1.out 0 _ rfl
     exact zqr
    refine⟨zqd,zqd,?_⟩
    refine⟨?_,?_⟩
    ·refine jH 0 0 ?_
     intro y w2 p hlo hhi hW hD K hK
     have d20:=Env.cell hW HM2.out 0 _ rfl
     exact zqr
    refine⟨zqd,zqd,?_⟩
    refine⟨?_,?_⟩
    ·refine jH 0 0 ?_
     intro y w2 p hlo hhi hW hD K hK
     simp only[jV,zq4,zq5,IsP] at hD
     generalize hAA:jB y _ _=AA at hK⊢
     simp only[jB,Act.put,zq1,zq2,zq3,zq4,zq5,IsP] at hAA
     subst hAA
     simp only[zq4,zq5,IsP] at hK
     simp only[hD] at hK⊢
     clear hD
     refine jL ?_
     go_simp
     refine (HWO.out w2).mono ?_
     rintro r w3 ⟨rfl,hw3⟩
     exact hK _ _ _ rfl (by rw[← hw3];exact jA.refl _) rfl
    refine⟨zqd,zqd,zqd,?_⟩
    refine⟨?_,?_⟩
    ·refine jN 0 rfl ?_
     intro y w2 hW hD K hK
     simp only[jV,zq4,zq5,IsP] at hD
     have h0:=hD.1
     have h1:=hD.2.1
     have h2:=hD.2.2.1
     have h3:=hD.2.2.2.1
     have h4:=hD.2.2.2.2.1
     have h5:=hD.2.2.2.2.2.1
     have h6:=hD.2.2.2.2.2.2.1
     have h7:=hD.2.2.2.2.2.2.2.1
     have h8:=hD.2.2.2.2.2.2.2.2.1
     have h9:=hD.2.2.2.2.2.2.2.2.2.1
     clear hD
     generalize hAA:jB y _ _=AA at hK⊢
     simp only[jB,Act.put,zq1,zq2,zq3,zq4,zq5,IsP] at hAA
     subst hAA
     simp only[zq4,zq5,IsP] at hK
     simp only[h0,h1,h2,h3,h4,h5,h6,h7,h8,h9] at hK⊢
     clear h0 h1 h2 h3 h4 h5 h6 h7 h8 h9
     refine jL ?_
     go_simp
     refine (Env.call hW fun κ1 hb hz=>qR (5,Ft.widthOf k.size,ga) HVT.out hb).mono ?_
     rintro r w3 ⟨rfl,he⟩
     exact hK _ _ _ rfl trivial he rfl
    trivial
 refine⟨?_,?_⟩
 ·refine jH 0 0 ?_
  intro y w2 p hlo hhi hW hD K hK
  have d10:=Env.cell hW HM1.out 0 _ rfl
  exact zqr
 refine⟨zqd,zqd,zqd,?_⟩
 refine⟨?_,?_⟩
 ·refine jH 0 0 ?_
  intro y w2 p hlo hhi hW hD K hK
  have dd:=Env.at5 hW
  exact zqr
 refine⟨?_,?_⟩
 ·refine jH 0 0 ?_
  intro y w2 p hlo hhi hW hD K hK
  have d20:=Env.cell hW HM2.out 0 _ rfl
  exact zqr
 refine⟨?_,?_⟩
 ·refine jH 0 0 ?_
  intro y w2 p hlo hhi hW hD K hK
  simp only[jV,zq4,zq5,IsP] at hD
  generalize hAA:jB y _ _=AA at hK⊢
  simp only[jB,Act.put,zq1,zq2,zq3,zq4,zq5,IsP] at hAA
  subst hAA
  simp only[zq4,zq5,IsP] at hK
  simp only[hD] at hK⊢
  clear hD
  refine jL ?_
  go_simp
  obtain rfl:p=0:=by omega
  refine (HGE.out w2 hW).mono ?_
  rintro r w3 ⟨rfl,hg3⟩
  exact hK _ _ _ rfl hg3 rfl
 refine⟨zqd,zqd,zqd,zqd,zqd,?_⟩
 trivial
theorem sN {B:Nat} {q:kN} {most flags:Int} {κ:Nat→Nat} {x:BS} {w:World} (k:ByteArray) (hk:k.size≤1048576) (hg:x.Good) (h:Bd B q most flags κ x w):Calls prog 135 #[jF q.p,.string k] w fun r w'=>r=.returned (.tuple #[])∧j1 B q most flags κ (x.str most (onF flags 2) k) w w':=by
 have HH:=zh (And.intro hk hg)
 have HE:Hid (Env B q most flags w κ [(w.heap.size+1,Obj.cells #[.string k] 9 (0,0)),(w.heap.size,Obj.cells #[jF q.p] 26 (0,0))] x ((w.alloc (.cells #[jF q.p] 26)).alloc (.cells #[.string k] 9))):=by
  have hh:=((Env.start h).add (.cells #[jF q.p] 26)).add (.cells #[.string k] 9)
  simp only[World.size_alloc,Nat.add_assoc,Nat.reduceAdd] at hh
  exact hh
 clear h hk hg
 go_enter func135,ntmps135
 go_wp2_with fail
 refine (HE.out.call' fun κ1 hb he=>zG hb _ _ (x.str most (onF flags 2) k) (fun hx=>by unfold BS.str;rw[if_neg hx]) (fun _=>enters_of func178 zk rfl _ _) (fun hx=>sM _ _ k HH.out.1 HH.out.2 hx he)).mono ?_
 rintro r w5 ⟨rfl,he⟩
 have HT:=zh he
 clear he
 go_wp2
 go_end0
 exact⟨rfl,HT.out.turn⟩
def yM {α:Type} (f:α→Value) (w:World) (v:Value) (l:List α):Prop:=
 ∃a c,v=.slice a l.length c∧∀(i:Nat) (x:α),l[i]? = some x→∃b off,a=some ⟨b,off,none⟩∧w.cell? ⟨b,off+i,none⟩=some (f x)
theorem i2 (l:List Int) (lv:Value) (w:World) (hp:yM (fun x=>.int .i64 x) w lv l) (hb:∀x∈l,-9223372036854775808≤x∧x≤9223372036854775807) (hl:l.length≤1048576):Calls prog 181 #[.func (.func 176) #[] #[],lv] w fun r w'=>∃v',r=.returned v'∧jO w' w.heap.size v' (l.map y4)∧jA w w':=by
 obtain⟨ad,c,rfl,j2⟩:=hp
 have HC:=zh j2
 have HB:=zh hb
 have HL:=zh hl
 clear j2 hb
 have hll:l.length≤9223372036854775807:=by omega
 go_enter func181,ntmps181
 go_wp2_with fail
 go_loopw [4,9] (fun v i wr=>∃k:Nat,k≤l.length∧i=.int .i64 k∧Hid (jO wr w.heap.size v ((l.take k).map y4)∧jA w wr)) (fun _ i _=>l.length - (intOf i).toNat)
 case atStart=>exact⟨0,Nat.zero_le _,rfl,by
  show _∧_
  exact⟨World.ownsRow_nil _ _ _ _,jA.refl _⟩⟩
 case round=>
  obtain⟨k,hk,rfl,HW⟩:=hrel
  by_cases hlt:k < l.length
  ·obtain⟨x,hx⟩:∃x,l[k]? = some x:=⟨_,List.getElem?_eq_getElem hlt⟩
   have HSN:Hid ((l.take (k+1)).map y4=(l.take k).map y4++[y4 x]):=by show _=_;rw[List.take_add_one,hx];simp
   have HX:=zh (HB.out x (List.mem_of_getElem? hx))
   obtain⟨b,off,rfl,c0⟩:=HC.out k x hx
   clear hx
   have d0:=HW.out.2.cell c0
   clear c0
   go_wp2_with fail
   refine (b9 x wr HX.out.1 HX.out.2).mono ?_
   rintro r w2 ⟨rfl,hg⟩
   have HO:=zh (show jO w2 w.heap.size u4 ((l.take k).map y4) from yQ HW.out.1 hg)
   have HG:=zh (HW.out.2.trans hg)
   obtain⟨va,vc,rfl,hvc⟩:=kD HO.out
   have HLN:Hid (((l.take k).map y4).length < l.length):=by show _ < _;rw[List.length_map,List.length_take];omega
   generalize (l.take k).map y4=L at *
   generalize y4 x=X at *
   obtain⟨X0,X1,X2⟩:=X
   clear hg HW
   have HO2:Hid (∀o,jO (w2.alloc o) w.heap.size (.slice va L.length vc) L):=fun o=>yQ HO.out ((jA.refl _).alloc o)
   go_wp2_with (at_builtin;refine zT rfl _ _ rfl w.heap.size (.slice va L.length vc) L rfl (HO2.out _) _ [(X0,X1,X2)] rfl (vQ _ _) (fun c h=>by cases h) (by have:=HLN.out;have:=HL.out;simp;omega) (Nat.le_trans HG.out.size (by simp)) ?_;intro v' w3 j3 hgr hqq;obtain⟨va2,vc2,rfl,_⟩:=kD j3;have HG3:=zh (And.intro j3 (ZU (HO2.out _) (HG.out.alloc _) hgr));clear j3 hgr hqq)
   go_roundw
   case rel=>
    refine⟨k+1,by omega,by go_num,?_⟩
    show _∧_
    rw[HSN.out]
    have hh:=HG3.out
    rw[List.length_append] at hh
    exact hh
   case measure=>simp[intOf];omega
  ·have ek:k=l.length:=by omega
   subst ek
   have hw:=HW.out
   have HE:Hid (jO wr w.heap.size u4 (l.map y4)∧jA w wr):=by
    show _∧_
    rw[List.take_length] at hw
    exact hw
   clear hw HW
   go_wp2
   go_ret
   exact⟨_,rfl,HE.out⟩
theorem i3 (l:List Int) (lv:Value) (w:World) (hp:yM (fun x=>.int .u64 x) w lv l) (hb:∀x∈l,0≤x∧x≤18446744073709551615) (hl:l.length≤1048576):Calls prog 182 #[.func (.func 55) #[] #[],lv] w fun r w'=>∃v',r=.returned v'∧jO w' w.heap.size v' (l.map yR)∧jA w w':=by
 obtain⟨ad,c,rfl,j2⟩:=hp
 have HC:=zh j2
 have HB:=zh hb
 have HL:=zh hl
 clear j2 hb
 have hll:l.length≤9223372036854775807:=by omega
 go_enter func182,ntmps182
 go_wp2_with fail
 go_loopw [4,9] (fun v i wr=>∃k:Nat,k≤l.length∧i=.int .i64 k∧Hid (jO wr w.heap.size v ((l.take k).map yR)∧jA w wr)) (fun _ i _=>l.length - (intOf i).toNat)
 case atStart=>exact⟨0,Nat.zero_le _,rfl,by
  show _∧_
  exact⟨World.ownsRow_nil _ _ _ _,jA.refl _⟩⟩
 case round=>
  obtain⟨k,hk,rfl,HW⟩:=hrel
  by_cases hlt:k < l.length
  ·obtain⟨x,hx⟩:∃x,l[k]? = some x:=⟨_,List.getElem?_eq_getElem hlt⟩
   have HSN:Hid ((l.take (k+1)).map yR=(l.take k).map yR++[yR x]):=by show _=_;rw[List.take_add_one,hx];simp
   have HX:=zh (HB.out x (List.mem_of_getElem? hx))
   obtain⟨b,off,rfl,c0⟩:=HC.out k x hx
   clear hx
   have d0:=HW.out.2.cell c0
   clear c0
   go_wp2_with fail
   refine (cA x wr HX.out.1 HX.out.2).mono ?_
   rintro r w2 ⟨rfl,hg⟩
   have HO:=zh (show jO w2 w.heap.size u4 ((l.take k).map yR) from yQ HW.out.1 hg)
   have HG:=zh (HW.out.2.trans hg)
   obtain⟨va,vc,rfl,hvc⟩:=kD HO.out
   have HLN:Hid (((l.take k).map yR).length < l.length):=by show _ < _;rw[List.length_map,List.length_take];omega
   generalize (l.take k).map yR=L at *
   generalize yR x=X at *
   obtain⟨X0,X1,X2⟩:=X
   clear hg HW
   have HO2:Hid (∀o,jO (w2.alloc o) w.heap.size (.slice va L.length vc) L):=fun o=>yQ HO.out ((jA.refl _).alloc o)
   go_wp2_with (at_builtin;refine zT rfl _ _ rfl w.heap.size (.slice va L.length vc) L rfl (HO2.out _) _ [(X0,X1,X2)] rfl (vQ _ _) (fun c h=>by cases h) (by have:=HLN.out;have:=HL.out;simp;omega) (Nat.le_trans HG.out.size (by simp)) ?_;intro v' w3 j3 hgr hqq;obtain⟨va2,vc2,rfl,_⟩:=kD j3;have HG3:=zh (And.intro j3 (ZU (HO2.out _) (HG.out.alloc _) hgr));clear j3 hgr hqq)
   go_roundw
   case rel=>
    refine⟨k+1,by omega,by go_num,?_⟩
    show _∧_
    rw[HSN.out]
    have hh:=HG3.out
    rw[List.length_append] at hh
    exact hh
   case measure=>simp[intOf];omega
  ·have ek:k=l.length:=by omega
   subst ek
   have hw:=HW.out
   have HE:Hid (jO wr w.heap.size u4 (l.map yR)∧jA w wr):=by
    show _∧_
    rw[List.take_length] at hw
    exact hw
   clear hw HW
   go_wp2
   go_ret
   exact⟨_,rfl,HE.out⟩
theorem sO (l:List Bool) (lv:Value) (w:World) (hp:yM (fun x=>.bool x) w lv l) (hb:∀x∈l,True) (hl:l.length≤1048576):Calls prog 183 #[.func (.func 175) #[] #[],lv] w fun r w'=>∃v',r=.returned v'∧jO w' w.heap.size v' (l.map zU)∧jA w w':=by
 obtain⟨ad,c,rfl,j2⟩:=hp
 have HC:=zh j2
 have HB:=zh hb
 have HL:=zh hl
 clear j2 hb
 have hll:l.length≤9223372036854775807:=by omega
 go_enter func183,ntmps183
 go_wp2_with fail
 go_loopw [4,9] (fun v i wr=>∃k:Nat,k≤l.length∧i=.int .i64 k∧Hid (jO wr w.heap.size v ((l.take k).map zU)∧jA w wr)) (fun _ i _=>l.length - (intOf i).toNat)
 case atStart=>exact⟨0,Nat.zero_le _,rfl,by
  show _∧_
  exact⟨World.ownsRow_nil _ _ _ _,jA.refl _⟩⟩
 case round=>
  obtain⟨k,hk,rfl,HW⟩:=hrel
  by_cases hlt:k < l.length
  ·obtain⟨x,hx⟩:∃x,l[k]? = some x:=⟨_,List.getElem?_eq_getElem hlt⟩
   have HSN:Hid ((l.take (k+1)).map zU=(l.take k).map zU++[zU x]):=by show _=_;rw[List.take_add_one,hx];simp
   have HX:=zh (HB.out x (List.mem_of_getElem? hx))
   obtain⟨b,off,rfl,c0⟩:=HC.out k x hx
   clear hx
   have d0:=HW.out.2.cell c0
   clear c0
   go_wp2_with fail
   refine (cB x wr).mono ?_
   rintro r w2 ⟨rfl,hg⟩
   have HO:=zh (show jO w2 w.heap.size u4 ((l.take k).map zU) from yQ HW.out.1 hg)
   have HG:=zh (HW.out.2.trans hg)
   obtain⟨va,vc,rfl,hvc⟩:=kD HO.out
   have HLN:Hid (((l.take k).map zU).length < l.length):=by show _ < _;rw[List.length_map,List.length_take];omega
   generalize (l.take k).map zU=L at *
   generalize zU x=X at *
   obtain⟨X0,X1,X2⟩:=X
   clear hg HW
   have HO2:Hid (∀o,jO (w2.alloc o) w.heap.size (.slice va L.length vc) L):=fun o=>yQ HO.out ((jA.refl _).alloc o)
   go_wp2_with (at_builtin;refine zT rfl _ _ rfl w.heap.size (.slice va L.length vc) L rfl (HO2.out _) _ [(X0,X1,X2)] rfl (vQ _ _) (fun c h=>by cases h) (by have:=HLN.out;have:=HL.out;simp;omega) (Nat.le_trans HG.out.size (by simp)) ?_;intro v' w3 j3 hgr hqq;obtain⟨va2,vc2,rfl,_⟩:=kD j3;have HG3:=zh (And.intro j3 (ZU (HO2.out _) (HG.out.alloc _) hgr));clear j3 hgr hqq)
   go_roundw
   case rel=>
    refine⟨k+1,by omega,by go_num,?_⟩
    show _∧_
    rw[HSN.out]
    have hh:=HG3.out
    rw[List.length_append] at hh
    exact hh
   case measure=>simp[intOf];omega
  ·have ek:k=l.length:=by omega
   subst ek
   have hw:=HW.out
   have HE:Hid (jO wr w.heap.size u4 (l.map zU)∧jA w wr):=by
    show _∧_
    rw[List.take_length] at hw
    exact hw
   clear hw HW
   go_wp2
   go_ret
   exact⟨_,rfl,HE.out⟩
def i4 (elem many:Int) (l:List V3):Prop:=(elem = -1∧many=0)∨(elem≠-1∧many=0∧(typedF elem 0).2=true)∨(elem≠-1∧many=(l.length:Int)∧0 < l.length∧(typedF elem (l.length:Int)).2=true)
def zW (κ:Nat→Nat) (w:World) (lv:Value):Prop:=∀ad n c,lv=.slice (some ad) n c→ad.block < w.heap.size∧κ ad.block=0
theorem oF {most:Int} {T:V3→Int} {len jT:Bool} {kind e0:Int} {l:List V3} {s:St} (h:(s.1.length:Int)≤most):((zE most T len jT kind e0 l s).2.1.length:Int)≤most:=by
 unfold zE
 dsimp only
 have h1:∀x,((jG most x s).1.length:Int)≤most:=fun x=>kT h
 have h2:∀x,(((if len then jW most x l.length (jG most x s) else jG most x s)).1.length:Int)≤most:=fun x=>by
  split
  ·exact yA (h1 x)
  ·exact h1 x
 have h3:=fun x=>qP (x:=x) l (h2 x)
 have h4:∀x,(((if jT then kP most x l (jU most x l (if len then jW most x l.length (jG most x s) else jG most x s)) else jU most x l (if len then jW most x l.length (jG most x s) else jG most x s))).1.length:Int)≤most:=fun x=>by
  split
  ·exact ZS l (h3 x)
  ·exact h3 x
 by_cases ha:zA T e0 l≠0
 ·rw[if_pos ha];exact h
 rw[if_neg ha]
 generalize allF l (0,0,0) s.1.length (if len=true then 1 else 0)=X
 by_cases hb:X=0
 ·rw[if_pos hb];exact h
 rw[if_neg hb]
 have h5:=h4 X
 generalize (if jT=true then kP most X l (jU most X l (if len=true then jW most X l.length (jG most X s) else jG most X s)) else jU most X l (if len=true then jW most X l.length (jG most X s) else jG most X s))=s4 at h5⊢
 by_cases hc:s4.2≠0
 ·rw[if_pos hc];exact h5
 ·rw[if_neg hc];exact h5
theorem i5 {most:Int} {T:V3→Int} {len jT:Bool} {kind e0:Int} {l:List V3} {s:St} (h:(s.1.length:Int)≤most) (hm:most≤1048576):okV (zE most T len jT kind e0 l s).1.1:=by
 unfold zE
 dsimp only
 have h1:∀x,((jG most x s).1.length:Int)≤most:=fun x=>kT h
 have h2:∀x,(((if len then jW most x l.length (jG most x s) else jG most x s)).1.length:Int)≤most:=fun x=>by
  split
  ·exact yA (h1 x)
  ·exact h1 x
 by_cases ha:zA T e0 l≠0
 ·rw[if_pos ha];exact ok0
 rw[if_neg ha]
 generalize allF l (0,0,0) s.1.length (if len=true then 1 else 0)=X
 by_cases hb:X=0
 ·rw[if_pos hb];exact ok0
 rw[if_neg hb]
 have h5:=h2 X
 generalize (if jT=true then kP most X l (jU most X l (if len=true then jW most X l.length (jG most X s) else jG most X s)) else jU most X l (if len=true then jW most X l.length (jG most X s) else jG most X s))=s4
 by_cases hc:s4.2≠0
 ·rw[if_pos hc];exact ok0
 ·rw[if_neg hc]
  refine⟨Int.natCast_nonneg _,?_⟩
  show (List.length _:Int)≤_
  omega
theorem sP {most elem many:Int} {l:List V3} {s:St} (h:(s.1.length:Int)≤most):((kZ most elem many l s).2.1.length:Int)≤most:=by
 unfold kZ
 split
 ·exact oF h
 ·exact oF h
theorem eM {most elem many:Int} {l:List V3} {s:St} (h:(s.1.length:Int)≤most) (hm:most≤1048576):okV (kZ most elem many l s).1.1:=by
 unfold kZ
 split
 ·exact i5 h hm
 ·exact i5 h hm
section
variable {B:Nat} {q:kN} {most flags:Int} {κ κ0:Nat→Nat} {x y:BS} {w w' w0:World} {Kp:List (Nat × Obj)}
theorem kU.own_one {w:World} {p:Nat} {o o':Option Nat} {l l':List UInt8} {m m' e e':Int} (h:kU 0 w p o l m e) (k:kU 0 w p o' l' m' e'):o'=o:=by
 obtain⟨_,v,h1,_,h3,_⟩:=h
 obtain⟨_,v',k1,_,k3,_⟩:=k
 rw[h1] at k1
 injection k1 with k1
 injection k1 with k1
 have:v=v':=Option.some.inj (by exact congrArg (fun a:Array Value=>a[1]?) k1)
 subst this
 exact k3.symm.trans h3
theorem Bd.buf_callsA (h:Bd B q most flags κ x w) {f:Nat} {args:Array Value} {R:Ending→Prop} {s':St} (hl:(s'.1.length:Int)≤most)
 (hc:∀o,kU 0 w q.b o x.s.1 most x.s.2→(∀k,qH q.b o k→κ k=2)→Calls prog f args w fun r w'=>R r∧jZ 0 w w' q.b o most s') :
 Calls prog f args w fun r w'=>R r∧∀κ1,Bd B q most flags κ1 x w→j1 B q most flags κ1 {x with s:=s'} w w':=by
 obtain⟨h0,o,h1,h2⟩:=h.buf
 refine (hc o h1 (fun k hk=>hk.elim (fun e=>e ▸ h0) (fun e=>h2 k e.symm))).mono fun r w' hr=>⟨hr.1,fun κ1 g=>?_⟩
 obtain⟨g0,o1,g1,g2⟩:=g.buf
 obtain rfl:=h1.own_one g1
 obtain⟨S',k1,k2,k3⟩:=VP.turn (S:=fun k=>κ1 k=2) g0 g1 g2 hr.2
 exact g.buf_step hl k1 k2 k3
theorem sQ {elem many:Int} {lv:Value} {l:List V3} (h:Bd B q most flags κ x w) (hF:i4 elem many l) (hv:ValsAt w lv l) (ha:zW κ w lv) (j8:l.length≤1048576) (hok:∀v∈l,okV v) (hs:x.s.2=0) :
 Calls prog 84 #[jF q.b,.int .i64 elem,.int .i64 many,lv] w fun r w'=>r=.returned (zS (kZ most elem many l x.s).1)∧∀κ1,Bd B q most flags κ1 x w→j1 B q most flags κ1 {x with s:=(kZ most elem many l x.s).2} w w':=by
 refine h.buf_callsA (sP h.ok.len) fun o ho hκ=>?_
 have hap:∀ad n c,lv=.slice (some ad) n c→ad.block < w.heap.size∧¬qH q.b o ad.block:=fun ad n c e=>⟨(ha ad n c e).1,fun hk=>by have h1:=hκ _ hk;have h2:=(ha ad n c e).2;omega⟩
 unfold kZ
 rcases hF with ⟨rfl,rfl⟩|⟨hne,rfl,ht⟩|⟨hne,rfl,hpos,ht⟩
 ·rw[if_pos rfl]
  exact put_un x.s lv l ho (Nat.zero_le _) h.ok.len h.ok.m1 hv j8 hok hap hs
 ·rw[if_neg hne]
  exact put_ty0 elem _ (Prod.ext rfl ht) hne x.s lv l ho (Nat.zero_le _) h.ok.len h.ok.m1 hv j8 hok hap hs
 ·rw[if_neg hne,decide_eq_false (by omega)]
  exact put_fix elem _ x.s lv l (Prod.ext rfl ht) hpos ho (Nat.zero_le _) h.ok.len h.ok.m1 hv j8 hok hap hs
def i6 (B:Nat) (q:kN) (most flags:Int) (w0:World) (κ0:Nat→Nat) (x y:BS) (w w':World):Prop:=∀Kp,Env B q most flags w0 κ0 Kp x w→Env B q most flags w0 κ0 Kp y w'
theorem oG (h:∀κ1,Bd B q most flags κ1 x w→j1 B q most flags κ1 y w w'):i6 B q most flags w0 κ0 x y w w':=by
 rintro Kp ⟨κ,h1,h2,h3⟩
 obtain⟨κ1,k1,k2⟩:=h κ h1
 exact⟨κ1,k1,h2.trans k2,fun z hz=>⟨k2.1.heap (h3 z hz).1 (fun e=>e (h3 z hz).2),(k2.2 z.1 (Array.getElem?_eq_some_iff.1 (h3 z hz).1).1).trans (h3 z hz).2⟩⟩
theorem Env.vput {elem many:Int} {lv:Value} {l:List V3} (h:Env B q most flags w0 κ0 Kp x w) (hF:i4 elem many l) (hv:ValsAt w0 lv l) (ha:zW κ0 w0 lv) (j8:l.length≤1048576) (hok:∀v∈l,okV v) (hs:x.s.2=0) :
 Calls prog 84 #[jF q.b,.int .i64 elem,.int .i64 many,lv] w fun r w'=>r=.returned (zS (kZ most elem many l x.s).1)∧i6 B q most flags w0 κ0 x {x with s:=(kZ most elem many l x.s).2} w w':=by
 obtain⟨κ,h1,h2,h3⟩:=h
 have hv2:ValsAt w lv l:=JS hv h2.1 (fun ad n c e hk=>hk (ha ad n c e).2)
 have ha2:zW κ w lv:=fun ad n c e=>⟨Nat.lt_of_lt_of_le (ha ad n c e).1 h2.1.size,(h2.2 _ (ha ad n c e).1).trans (ha ad n c e).2⟩
 exact (sQ h1 hF hv2 ha2 j8 hok hs).mono fun r w' hr=>⟨hr.1,oG hr.2⟩
def QA (E0 E1 E2:Nat→World→Prop):Nat→Value→World→Prop
 | 0,v,w=>∃n,v=.pointer (some ⟨n,0,none⟩)∧E0 n w
 | 1,v,w=>∃n,v=.pointer (some ⟨n,0,none⟩)∧E1 n w
 | _+2,v,w=>∃n,v=.pointer (some ⟨n,0,none⟩)∧E2 n w
def NewT (j:Nat) (E0 E1 E2:Nat→World→Prop):Nat→(Nat→Value)→World→World→Prop
 | 0,_,w,w'=>∀n,E0 n w→E1 n w'
 | 1,y,w,w'=>∀n,y j=.pointer (some ⟨n,0,none⟩)→E1 n w→E2 n w'
 | _+2,_,w,w'=>∀n,E2 n w→E2 n w'
theorem QA.st {j:Nat} {E0 E1 E2:Nat→World→Prop} (g0:∀n w w',jA w w'→E0 n w→E0 n w') (g1:∀n w w',jA w w'→E1 n w→E1 n w') (g2:∀n w w',jA w w'→E2 n w→E2 n w') :
 (∀p v w w',(fun (_:Nat) w w'=>jA w w') p w w'→QA E0 E1 E2 p v w→QA E0 E1 E2 p v w')∧∀p v w w',(∃y:Nat→Value,y j=v∧NewT j E0 E1 E2 p y w w')→QA E0 E1 E2 p v w→QA E0 E1 E2 (p+1) v w':=by
 refine⟨fun p v w w' hg h=>?_,fun p v w w' ⟨y,hy,hT⟩ h=>?_⟩
 ·match p,h with
  | 0,⟨n,e,h⟩=>exact⟨n,e,g0 n _ _ hg h⟩
  | 1,⟨n,e,h⟩=>exact⟨n,e,g1 n _ _ hg h⟩
  | _+2,⟨n,e,h⟩=>exact⟨n,e,g2 n _ _ hg h⟩
 ·match p,h,hT with
  | 0,⟨n,e,h⟩,hT=>exact⟨n,e,hT n h⟩
  | 1,⟨n,e,h⟩,hT=>exact⟨n,e,hT n (hy.trans e) h⟩
  | _+2,⟨n,e,h⟩,hT=>exact⟨n,e,hT n h⟩
theorem Env.callT {f:Nat} {args:Array Value} {R:Ending→Prop} (h:Env B q most flags w0 κ0 Kp x w) (hc:∀κ,Bd B q most flags κ x w→Tn κ0 κ w0 w→Env B q most flags w κ Kp x w→Calls prog f args w fun r w'=>R r∧j1 B q most flags κ y w w') :
 Calls prog f args w fun r w'=>R r∧Env B q most flags w0 κ0 Kp y w':=by
 obtain⟨κ,h1,h2,h3⟩:=h
 refine (hc κ h1 h2 ⟨κ,h1,Tn.refl _ _,h3⟩).mono fun r w' hr=>⟨hr.1,?_⟩
 obtain⟨κ1,k1,k2⟩:=hr.2
 exact⟨κ1,k1,h2.trans k2,fun z hz=>⟨k2.1.heap (h3 z hz).1 (fun e=>e (h3 z hz).2),(k2.2 z.1 (Array.getElem?_eq_some_iff.1 (h3 z hz).1).1).trans (h3 z hz).2⟩⟩
theorem zW.tn {κ κ1:Nat→Nat} {w w':World} {lv:Value} (h:zW κ w lv) (ht:Tn κ κ1 w w'):zW κ1 w' lv:=fun ad n c e=>⟨Nat.lt_of_lt_of_le (h ad n c e).1 ht.1.size,(ht.2 _ (h ad n c e).1).trans (h ad n c e).2⟩
theorem Q1 {κ κ1:Nat→Nat} {w w':World} {lv:Value} {l:List V3} (hv:ValsAt w lv l) (h:zW κ w lv) (ht:Tn κ κ1 w w'):ValsAt w' lv l:=JS hv ht.1 (fun ad n c e hk=>hk (h ad n c e).2)
theorem set3 {w:World} {n:Nat} {t:TypeId} {a b c d e f:Value} (h:w.heap[n]? = some (.cells #[a,b,c] t (0,0))):(((w.setCell ⟨n,0,none⟩ d).setCell ⟨n,1,none⟩ e).setCell ⟨n,2,none⟩ f).heap[n]? = some (.cells #[d,e,f] t (0,0)):=by
 have h1:=heap_setCell_same w n 0 _ _ d h
 have h2:=heap_setCell_same _ n 1 _ _ e h1
 have h3:=heap_setCell_same _ n 2 _ _ f h2
 simpa using h3
theorem mV (w:World) (n:Nat) (d e f:Value):Moved (fun k=>k=n) w (((w.setCell ⟨n,0,none⟩ d).setCell ⟨n,1,none⟩ e).setCell ⟨n,2,none⟩ f):=
 Moved.setCell (p:=⟨n,2,none⟩) (Moved.setCell (p:=⟨n,1,none⟩) (Moved.setCell (p:=⟨n,0,none⟩) (Moved.refl (fun k=>k=n) _) (fun _=>rfl) _) (fun _=>rfl) _) (fun _=>rfl) _
def yU (B:Nat) (q:kN) (most flags:Int) (w0:World) (κ0:Nat→Nat) (Kp:List (Nat × Obj)) (o:Obj) (x:BS) (n:Nat) (w:World):Prop:=(w0.heap.size≤n∧∀z∈Kp,z.1≠n)∧Env B q most flags w0 κ0 ((n,o)::Kp) x w
theorem yU.grew {o:Obj}:∀n w w',jA w w'→yU B q most flags w0 κ0 Kp o x n w→yU B q most flags w0 κ0 Kp o x n w':=fun _ _ _ hg h=>⟨h.1,h.2.grew hg⟩
theorem Env.newE (h:Env B q most flags w0 κ0 Kp x w) (o:Obj):yU B q most flags w0 κ0 Kp o x w.heap.size (w.alloc o):=
 ⟨⟨h.size,fun z hz e=>by have:=(Array.getElem?_eq_some_iff.1 (h.kp (n:=z.1) (o:=z.2) hz)).1;omega⟩,h.add o⟩
theorem yU.all {o:Obj} (hA:i6 B q most flags w0 κ0 x y w w'):∀n,yU B q most flags w0 κ0 Kp o x n w→yU B q most flags w0 κ0 Kp o y n w':=fun _ h=>⟨h.1,hA _ h.2⟩
theorem yU.env {o:Obj} {n:Nat} (h:yU B q most flags w0 κ0 Kp o x n w):Env B q most flags w0 κ0 Kp x w:=by
 obtain⟨_,κ,h1,h2,h3⟩:=h
 exact⟨κ,h1,h2,fun z hz=>h3 z (List.mem_cons_of_mem _ hz)⟩
theorem yU.tell {o o':Obj} {n:Nat} (h:yU B q most flags w0 κ0 Kp o x n w) (hm:Moved (fun k=>k=n) w w') (ho:w'.heap[n]? = some o'):yU B q most flags w0 κ0 Kp o' x n w':=by
 obtain⟨⟨hn,hk⟩,κ,h1,h2,h3⟩:=h
 have hz:κ n=0:=(h3 _ List.mem_cons_self).2
 have hd:∀c,c≠0→∀k,κ k=c→¬k=n:=fun c hc k hk e=>hc (by rw[← hk,e];exact hz)
 refine⟨⟨hn,hk⟩,κ,⟨fun k hk=>⟨(h1.lt k hk).1,Nat.lt_of_lt_of_le (h1.lt k hk).2 hm.size⟩,h1.ok,h1.self.kept hm (hd 1 (by decide)),h1.buf.kept hm (hd 2 (by decide)),h1.stk.kept hm (hd 3 (by decide)),h1.keys.kept hm (hd 4 (by decide)),h1.texts.kept hm (hd 5 (by decide)),h1.lists.kept hm (hd 6 (by decide)),h1.names.kept hm (hd 7 (by decide))⟩,
  ⟨h2.1.trans hm (fun j hj e=>by omega),h2.2⟩,fun z hz'=>?_⟩
 rcases List.mem_cons.1 hz' with rfl|hz'
 ·exact⟨ho,hz⟩
 ·exact⟨hm.heap (h3 z (List.mem_cons_of_mem _ hz')).1 (fun e=>hk z hz' e),(h3 z (List.mem_cons_of_mem _ hz')).2⟩
end
theorem i7 {B:Nat} {q:kN} {most flags:Int} {κ:Nat→Nat} {x:BS} {w:World} (n1 n2 n3 n4:Nat) (elem many:Int) (lv:Value) (l:List V3) (hF:i4 elem many l) (hv:ValsAt w lv l) (ha:zW κ w lv) (j8:l.length≤1048576) (hok:∀v∈l,okV v) (hg:x.Good) (hx:x.e=0) (he:Env B q most flags w κ [(n4,Obj.cells #[lv] 57 (0,0)),(n3,Obj.cells #[.int .i64 many] 3 (0,0)),(n2,Obj.cells #[.int .i64 elem] 3 (0,0)),(n1,Obj.cells #[jF q.p] 26 (0,0))] x w):Calls prog 83 #[.pointer (some ⟨n1,0,none⟩),.pointer (some ⟨n2,0,none⟩),.pointer (some ⟨n3,0,none⟩),.pointer (some ⟨n4,0,none⟩)] w fun r w'=>r=.returned (.tuple #[])∧j1 B q most flags κ (x.vector most elem many l) w w':=by
 have HE:=zh he
 have HM4:Hid ((n4,Obj.cells #[lv] 57 (0,0))∈([(n4,Obj.cells #[lv] 57 (0,0)),(n3,Obj.cells #[.int .i64 many] 3 (0,0)),(n2,Obj.cells #[.int .i64 elem] 3 (0,0)),(n1,Obj.cells #[jF q.p] 26 (0,0))]:List (Nat × Obj))):=List.mem_cons_self
 have HM3:Hid ((n3,Obj.cells #[.int .i64 many] 3 (0,0))∈([(n4,Obj.cells #[lv] 57 (0,0)),(n3,Obj.cells #[.int .i64 many] 3 (0,0)),(n2,Obj.cells #[.int .i64 elem] 3 (0,0)),(n1,Obj.cells #[jF q.p] 26 (0,0))]:List (Nat × Obj))):=List.mem_cons_of_mem _ (List.mem_cons_self)
 have HM2:Hid ((n2,Obj.cells #[.int .i64 elem] 3 (0,0))∈([(n4,Obj.cells #[lv] 57 (0,0)),(n3,Obj.cells #[.int .i64 many] 3 (0,0)),(n2,Obj.cells #[.int .i64 elem] 3 (0,0)),(n1,Obj.cells #[jF q.p] 26 (0,0))]:List (Nat × Obj))):=List.mem_cons_of_mem _ (List.mem_cons_of_mem _ (List.mem_cons_self))
 have HM1:Hid ((n1,Obj.cells #[jF q.p] 26 (0,0))∈([(n4,Obj.cells #[lv] 57 (0,0)),(n3,Obj.cells #[.int .i64 many] 3 (0,0)),(n2,Obj.cells #[.int .i64 elem] 3 (0,0)),(n1,Obj.cells #[jF q.p] 26 (0,0))]:List (Nat × Obj))):=List.mem_cons_of_mem _ (List.mem_cons_of_mem _ (List.mem_cons_of_mem _ (List.mem_cons_self)))
 have HPV:Hid (∀Kp w2,Env B q most flags w κ Kp x w2→Calls prog 84 #[jF q.b,.int .i64 elem,.int .i64 many,lv] w2 fun r w'=>r=.returned (zS (kZ most elem many l x.s).1)∧i6 B q most flags w κ x {x with s:=(kZ most elem many l x.s).2} w2 w'):=fun Kp w2 h=>h.vput hF hv ha j8 hok (hg.s0 hx)
 have HVO:Hid (okV (kZ most elem many l x.s).1.1):=eM he.ok.len he.ok.m1
 have HY:Hid (x.vector most elem many l=(({x with s:=(kZ most elem many l x.s).2}:BS).fail (kZ most elem many l x.s).1.2).push (kZ most elem many l x.s).1.1):=by show _=_;unfold BS.vector;rw[if_pos hx]
 generalize kZ most elem many l x.s=PP at HPV HVO HY
 obtain⟨⟨⟨ty,wd,n⟩,ee⟩,s1⟩:=PP
 clear he hx hg hv ha hF hok
 go_enter func83,ntmps83
 go_wp2_with fail
 refine jM [8,13] (yD B q most flags w κ [(n4,Obj.cells #[lv] 57 (0,0)),(n3,Obj.cells #[.int .i64 many] 3 (0,0)),(n2,Obj.cells #[.int .i64 elem] 3 (0,0)),(n1,Obj.cells #[jF q.p] 26 (0,0))] [x] ({x with s:=s1})) (fun _ w w'=>jA w w') (NewT 12 (yU B q most flags w κ [(n4,Obj.cells #[lv] 57 (0,0)),(n3,Obj.cells #[.int .i64 many] 3 (0,0)),(n2,Obj.cells #[.int .i64 elem] 3 (0,0)),(n1,Obj.cells #[jF q.p] 26 (0,0))] (.cells #[.int .i64 0,.int .i64 0,.int .u64 0] 65 (0,0)) (x)) (yU B q most flags w κ [(n4,Obj.cells #[lv] 57 (0,0)),(n3,Obj.cells #[.int .i64 many] 3 (0,0)),(n2,Obj.cells #[.int .i64 elem] 3 (0,0)),(n1,Obj.cells #[jF q.p] 26 (0,0))] (.cells #[.int .i64 0,.int .i64 0,.int .u64 0] 65 (0,0)) ({x with s:=s1})) (yU B q most flags w κ [(n4,Obj.cells #[lv] 57 (0,0)),(n3,Obj.cells #[.int .i64 many] 3 (0,0)),(n2,Obj.cells #[.int .i64 elem] 3 (0,0)),(n1,Obj.cells #[jF q.p] 26 (0,0))] (.cells #[.int .i64 ty,.int .i64 wd,.int .u64 n] 65 (0,0)) ({x with s:=s1}))) [[],[0],[0,1],[0,1,2],[0,1,2,3],[],[],[],[0,1,2,3,4,5,6,7],[0,1,2,3,4,5,6,7,8],[0,1,2,3,4,5,6,7,8,9],[0,1,2,3,4,5,6,7,8,9],[],[0,1,2,3,4,5,6,7,8,9,10,12],[0,1,2,3,4,5,6,7,8,9,10,11,12,13]] [[(12,5),(13,6),(14,7),(4,12)],[(7,0),(12,5),(13,6),(14,7),(4,12)],[(7,0),(8,1),(12,5),(13,6),(14,7),(4,12)],[(7,0),(8,1),(9,2),(12,5),(13,6),(14,7),(4,12)],[(7,0),(8,1),(9,2),(10,3),(12,5),(13,6),(14,7),(4,12)],[(7,0),(8,1),(9,2),(10,3),(11,4),(13,6),(14,7),(4,12)],[(7,0),(8,1),(9,2),(10,3),(11,4),(12,5),(14,7),(4,12)],[(7,0),(8,1),(9,2),(10,3),(11,4),(12,5),(13,6),(4,12)],[(7,0),(8,1),(9,2),(10,3),(11,4),(12,5),(13,6),(14,7),(4,12)],[(7,0),(8,1),(9,2),(10,3),(11,4),(12,5),(13,6),(14,7),(15,8),(4,12)],[(7,0),(8,1),(9,2),(10,3),(11,4),(12,5),(13,6),(14,7),(15,8),(6,9),(17,11),(4,12)],[(7,0),(8,1),(9,2),(10,3),(11,4),(12,5),(13,6),(14,7),(15,8),(6,9),(16,10),(4,12)],[(7,0),(8,1),(9,2),(10,3),(11,4),(12,5),(13,6),(14,7),(15,8),(6,9),(16,10),(17,11)],[(7,0),(8,1),(9,2),(10,3),(11,4),(12,5),(13,6),(14,7),(15,8),(6,9),(16,10),(17,11),(4,12)],[(7,0),(8,1),(9,2),(10,3),(11,4),(12,5),(13,6),(14,7),(15,8),(6,9),(16,10),(17,11),(4,12)]] [(7,0),(8,1),(9,2),(10,3),(11,4),(12,5),(13,6),(14,7),(15,8),(6,9),(16,10),(17,11),(4,12),(5,14)]
  [IsP (jF q.p),IsP (jF q.p),IsP (jF q.p),IsP (jF q.p),IsP (jF q.b),IsP (.int .i64 elem),IsP (.int .i64 many),IsP (lv),IsP (.tuple #[.agg #[.int .i64 ty,.int .i64 wd,.int .u64 n],.int .i64 ee]),IsP (.tuple #[.agg #[.int .i64 ty,.int .i64 wd,.int .u64 n],.int .i64 ee]),IsP (.agg #[.int .i64 ty,.int .i64 wd,.int .u64 n]),IsP (.int .i64 ee),QA (yU B q most flags w κ [(n4,Obj.cells #[lv] 57 (0,0)),(n3,Obj.cells #[.int .i64 many] 3 (0,0)),(n2,Obj.cells #[.int .i64 elem] 3 (0,0)),(n1,Obj.cells #[jF q.p] 26 (0,0))] (.cells #[.int .i64 0,.int .i64 0,.int .u64 0] 65 (0,0)) (x)) (yU B q most flags w κ [(n4,Obj.cells #[lv] 57 (0,0)),(n3,Obj.cells #[.int .i64 many] 3 (0,0)),(n2,Obj.cells #[.int .i64 elem] 3 (0,0)),(n1,Obj.cells #[jF q.p] 26 (0,0))] (.cells #[.int .i64 0,.int .i64 0,.int .u64 0] 65 (0,0)) ({x with s:=s1})) (yU B q most flags w κ [(n4,Obj.cells #[lv] 57 (0,0)),(n3,Obj.cells #[.int .i64 many] 3 (0,0)),(n2,Obj.cells #[.int .i64 elem] 3 (0,0)),(n1,Obj.cells #[jF q.p] 26 (0,0))] (.cells #[.int .i64 ty,.int .i64 wd,.int .u64 n] 65 (0,0)) ({x with s:=s1})),fun _ _ _=>True,IsP (.int .i64 ee)]
  zk (yD.grew) (HE.out.grew (jA.refl _).drew) zk zk ⟨jC,jC,jC,jC,jC,jC,jC,jC,jC,jC,jC,jC,QA.st yU.grew yU.grew yU.grew,⟨fun _ _ _ _ _ h=>h,fun _ _ _ _ _ h=>h⟩,jC,trivial⟩ rfl ?_ ?_
 ·intro y w2 hW hF
  simp only[zB,IsP,Nat.reduceAdd,List.length_cons,List.length_nil] at hF hW
  have h0:=hF.1
  have h1:=hF.2.1
  have h2:=hF.2.2.1
  have h3:=hF.2.2.2.1
  have h4:=hF.2.2.2.2.1
  have h5:=hF.2.2.2.2.2.1
  have h6:=hF.2.2.2.2.2.2.1
  have h7:=hF.2.2.2.2.2.2.2.1
  have h8:=hF.2.2.2.2.2.2.2.2.1
  have h9:=hF.2.2.2.2.2.2.2.2.2.1
  have h10:=hF.2.2.2.2.2.2.2.2.2.2.1
  have h11:=hF.2.2.2.2.2.2.2.2.2.2.2.1
  have h12:=hF.2.2.2.2.2.2.2.2.2.2.2.2.1
  have h14:=hF.2.2.2.2.2.2.2.2.2.2.2.2.2.2.1
  clear hF
  simp only[jB,Act.put,zq1,zq2,zq3,zq4,zq5]
  simp only[h0,h1,h2,h3,h4,h5,h6,h7,h8,h9,h10,h11,h14]
  clear h0 h1 h2 h3 h4 h5 h6 h7 h8 h9 h10 h11 h14
  obtain⟨nn,e12,hE⟩:=(show QA _ _ _ 2 _ _ from h12)
  simp only[e12]
  have HE2:=zh hE.2
  clear h12 e12 hE hW
  have HM1b:Hid ((n1,Obj.cells #[jF q.p] 26 (0,0))∈(((nn,Obj.cells #[.int .i64 ty,.int .i64 wd,.int .u64 n] 65 (0,0))::[(n4,Obj.cells #[lv] 57 (0,0)),(n3,Obj.cells #[.int .i64 many] 3 (0,0)),(n2,Obj.cells #[.int .i64 elem] 3 (0,0)),(n1,Obj.cells #[jF q.p] 26 (0,0))]):List (Nat × Obj))):=List.mem_cons_of_mem _ HM1.out
  have cb:=Env.cell HE2.out HM1b.out 0 _ rfl
  go_wp2_with fail
  refine (HE2.out.call fun κ1 hb hz=>kV ee hb).mono ?_
  rintro r w3 ⟨rfl,he⟩
  have HE3:=zh he
  clear he cb
  go_wp2_with fail
  refine jM [4] (yD B q most flags w κ ((nn,Obj.cells #[.int .i64 ty,.int .i64 wd,.int .u64 n] 65 (0,0))::[(n4,Obj.cells #[lv] 57 (0,0)),(n3,Obj.cells #[.int .i64 many] 3 (0,0)),(n2,Obj.cells #[.int .i64 elem] 3 (0,0)),(n1,Obj.cells #[jF q.p] 26 (0,0))]) [(({x with s:=s1}:BS).fail ee)] ((({x with s:=s1}:BS).fail ee).push (ty,wd,n))) (fun _ w w'=>jA w w') ((fun p (_:Nat→Value)=>(fun _ _ _=>True) p)) [[],[0],[0,1],[],[0,1,2,3]] [[(26,3)],[(23,0),(26,3)],[(23,0),(24,1),(26,3)],[(23,0),(24,1),(25,2)],[(23,0),(24,1),(25,2),(26,3)]] [(23,0),(24,1),(25,2),(26,3),(27,4)]
   [IsP (jF q.p),IsP (jF q.p),IsP (jF q.p),IsP (.agg #[.int .i64 ty,.int .i64 wd,.int .u64 n]),IsP (.tuple #[])]
   zk (yD.grew) (HE3.out.grew (jA.refl _).drew) zk zk ⟨jC,jC,jC,jC,jC,trivial⟩ rfl ?_ ?_
  ·intro y w2 hW hF
   simp only[zB,IsP,Nat.reduceAdd,List.length_cons,List.length_nil] at hF hW
   have h0:=hF.1
   have h1:=hF.2.1
   have h2:=hF.2.2.1
   have h3:=hF.2.2.2.1
   have h4:=hF.2.2.2.2.1
   clear hF
   simp only[jB,Act.put,zq1,zq2,zq3,zq4,zq5]
   simp only[h0,h1,h2,h3,h4]
   clear h0 h1 h2 h3 h4
   go_wp2
   go_end0
   exact⟨rfl,by rw[HY.out];exact Env.turn hW⟩
  refine⟨?_,?_⟩
  ·refine jH 0 0 ?_
   intro y w2 p hlo hhi hW hD K hK
   have dq:=Env.cell hW HM1b.out 0 _ rfl
   exact zqr
  refine⟨zqd,zqd,?_⟩
  refine⟨?_,?_⟩
  ·refine jH 0 0 ?_
   intro y w2 p hlo hhi hW hD K hK
   have dd0:=Env.cell hW List.mem_cons_self 0 _ rfl
   have dd1:=Env.cell hW List.mem_cons_self 1 _ rfl
   have dd2:=Env.cell hW List.mem_cons_self 2 _ rfl
   exact zqr
  refine⟨?_,?_⟩
  ·refine jN 0 rfl ?_
   intro y w2 hW hD K hK
   simp only[jV,zq4,zq5,IsP] at hD
   have h0:=hD.1
   have h1:=hD.2.1
   have h2:=hD.2.2.1
   have h3:=hD.2.2.2.1
   clear hD
   generalize hAA:jB y _ _=AA at hK⊢
   simp only[jB,Act.put,zq1,zq2,zq3,zq4,zq5,IsP] at hAA
   subst hAA
   simp only[zq4,zq5,IsP] at hK
   simp only[h0,h1,h2,h3] at hK⊢
   clear h0 h1 h2 h3
   refine jL ?_
   go_simp
   refine (Env.call hW fun κ1 hb hz=>qR (ty,wd,n) HVO.out hb).mono ?_
   rintro r w3 ⟨rfl,he⟩
   exact hK _ _ _ rfl trivial he rfl
  trivial
 refine⟨?_,?_⟩
 ·refine jH 0 0 ?_
  intro y w2 p hlo hhi hW hD K hK
  have d10:=Env.cell hW HM1.out 0 _ rfl
  exact zqr
 refine⟨zqd,zqd,zqd,?_⟩
 refine⟨?_,?_⟩
 ·refine jH 0 0 ?_
  intro y w2 p hlo hhi hW hD K hK
  have dd:=Env.at0 hW
  exact zqr
 refine⟨?_,?_⟩
 ·refine jH 0 0 ?_
  intro y w2 p hlo hhi hW hD K hK
  have d20:=Env.cell hW HM2.out 0 _ rfl
  exact zqr
 refine⟨?_,?_⟩
 ·refine jH 0 0 ?_
  intro y w2 p hlo hhi hW hD K hK
  have d30:=Env.cell hW HM3.out 0 _ rfl
  exact zqr
 refine⟨?_,?_⟩
 ·refine jH 0 0 ?_
  intro y w2 p hlo hhi hW hD K hK
  have d40:=Env.cell hW HM4.out 0 _ rfl
  exact zqr
 refine⟨?_,?_⟩
 ·refine jN 0 rfl ?_
  intro y w2 hW hD K hK
  simp only[jV,zq4,zq5,IsP] at hD
  have h0:=hD.1
  have h1:=hD.2.1
  have h2:=hD.2.2.1
  have h3:=hD.2.2.2.1
  have h4:=hD.2.2.2.2.1
  have h5:=hD.2.2.2.2.2.1
  have h6:=hD.2.2.2.2.2.2.1
  have h7:=hD.2.2.2.2.2.2.2.1
  clear hD
  generalize hAA:jB y _ _=AA at hK⊢
  simp only[jB,Act.put,zq1,zq2,zq3,zq4,zq5,IsP] at hAA
  subst hAA
  simp only[zq4,zq5,IsP] at hK
  simp only[h0,h1,h2,h3,h4,h5,h6,h7] at hK⊢
  clear h0 h1 h2 h3 h4 h5 h6 h7
  refine jL ?_
  go_simp
  refine (HPV.out _ w2 hW).mono ?_
  rintro r w3 ⟨rfl,hA⟩
  exact hK _ _ _ rfl (yU.all hA) (hA _ hW) rfl
 refine⟨zqd,zqd,zqd,?_⟩
 refine⟨?_,?_⟩
 ·refine jH 0 1 ?_
  intro y w2 p hlo hhi hW hD K hK
  clear hD
  generalize hAA:jB y _ _=AA at hK⊢
  simp only[jB,Act.put,zq1,zq2,zq3,zq4,zq5,IsP] at hAA
  subst hAA
  simp only[zq4,zq5,IsP] at hK
  refine jL ?_
  go_simp
  rcases (by omega:p=0∨p=1) with rfl|rfl
  ·exact hK _ _ _ rfl ((jA.refl _).alloc _) (show QA _ _ _ 0 _ _ from ⟨_,rfl,Env.newE hW _⟩)
  ·exact hK _ _ _ rfl ((jA.refl _).alloc _) (show QA _ _ _ 1 _ _ from ⟨_,rfl,Env.newE hW _⟩)
 refine⟨?_,?_⟩
 ·refine jN 1 rfl ?_
  intro y w2 hW hD K hK
  simp only[jV,zq4,zq5,IsP] at hD
  have h0:=hD.1
  have h1:=hD.2.1
  have h2:=hD.2.2.1
  have h3:=hD.2.2.2.1
  have h4:=hD.2.2.2.2.1
  have h5:=hD.2.2.2.2.2.1
  have h6:=hD.2.2.2.2.2.2.1
  have h7:=hD.2.2.2.2.2.2.2.1
  have h8:=hD.2.2.2.2.2.2.2.2.1
  have h9:=hD.2.2.2.2.2.2.2.2.2.1
  have h10:=hD.2.2.2.2.2.2.2.2.2.2.1
  have h12:=hD.2.2.2.2.2.2.2.2.2.2.2.1
  clear hD
  generalize hAA:jB y _ _=AA at hK⊢
  simp only[jB,Act.put,zq1,zq2,zq3,zq4,zq5,IsP] at hAA
  subst hAA
  simp only[zq4,zq5,IsP] at hK
  simp only[h0,h1,h2,h3,h4,h5,h6,h7,h8,h9,h10] at hK⊢
  clear h0 h1 h2 h3 h4 h5 h6 h7 h8 h9 h10
  obtain⟨nn,e12,hE⟩:=h12
  simp only[e12] at hK⊢
  have jJ:=hE.2.kp List.mem_cons_self
  have f0:=jE jJ 0
  have f1:=jE jJ 1
  have f2:=jE jJ 2
  have c0:=jI jJ 0 _ rfl
  have c1:=jI jJ 1 _ rfl
  have c2:=jI jJ 2 _ rfl
  clear jJ
  refine jL ?_
  go_simp
  have hs:=yU.tell hE (mV w2 nn (.int .i64 ty) (.int .i64 wd) (.int .u64 n)) (set3 (hE.2.kp List.mem_cons_self))
  exact hK _ undef _ rfl (fun n' e' _=>by rw[e12] at e';cases e';exact hs) hs.env trivial
 refine⟨zqd,?_⟩
 trivial
theorem vG {B:Nat} {q:kN} {most flags:Int} {κ:Nat→Nat} {x:BS} {w:World} (elem many:Int) (lv:Value) (l:List V3) (hF:i4 elem many l) (hv:ValsAt w lv l) (ha:zW κ w lv) (j8:l.length≤1048576) (hok:∀v∈l,okV v) (hg:x.Good) (h:Bd B q most flags κ x w):Calls prog 42 #[jF q.p,.int .i64 elem,.int .i64 many,lv] w fun r w'=>r=.returned (.tuple #[])∧j1 B q most flags κ (x.vector most elem many l) w w':=by
 have hv0:=hv
 obtain⟨la,lc,rfl,_⟩:=hv0
 have HF:=zh hF
 have HVA:=zh (And.intro hv ha)
 have HF2:=zh (And.intro j8 (And.intro hok hg))
 have HE:Hid (Env B q most flags w κ [(w.heap.size+3,Obj.cells #[(.slice la l.length lc)] 57 (0,0)),(w.heap.size+2,Obj.cells #[.int .i64 many] 3 (0,0)),(w.heap.size+1,Obj.cells #[.int .i64 elem] 3 (0,0)),(w.heap.size,Obj.cells #[jF q.p] 26 (0,0))] x ((((w.alloc (.cells #[jF q.p] 26)).alloc (.cells #[.int .i64 elem] 3)).alloc (.cells #[.int .i64 many] 3)).alloc (.cells #[(.slice la l.length lc)] 57))):=by
  have hh:=((((Env.start h).add (.cells #[jF q.p] 26)).add (.cells #[.int .i64 elem] 3)).add (.cells #[.int .i64 many] 3)).add (.cells #[(.slice la l.length lc)] 57)
  simp only[World.size_alloc,Nat.add_assoc,Nat.reduceAdd] at hh
  exact hh
 clear h hF hv ha j8 hok hg
 go_enter func42,ntmps42
 go_wp2_with fail
 refine (HE.out.callT fun κ1 hb ht he=>zG hb _ _ (x.vector most elem many l) (fun hx=>by unfold BS.vector;rw[if_neg hx]) (fun _=>enters_of func83 zk rfl _ _) (fun hx=>i7 _ _ _ _ _ _ _ _ HF.out (Q1 HVA.out.1 HVA.out.2 ht) (HVA.out.2.tn ht) HF2.out.1 HF2.out.2.1 HF2.out.2.2 hx he)).mono ?_
 rintro r w5 ⟨rfl,he⟩
 have HT:=zh he
 clear he
 go_wp2
 go_end0
 exact⟨rfl,HT.out.turn⟩
theorem vH {B:Nat} {q:kN} {most flags:Int} {κ:Nat→Nat} {x:BS} {w w':World} {v:Value} {l:List V3} (h:Bd B q most flags κ x w) (ho:jO w' w.heap.size v l) (hg:jA w w'):zW κ w' v:=by
 rintro ad n c rfl
 rcases ho.2 with ⟨e,_⟩|⟨g,cap,cur,e,hge,hh,_⟩
 ·cases e
 ·cases e
  exact⟨(Array.getElem?_eq_some_iff.1 hh).1,Decidable.byContradiction fun hk=>by have h2:g < w.heap.size:=(h.lt _ hk).2;have h3:w.heap.size≤g:=hge;omega⟩
theorem pN {B:Nat} {q:kN} {most flags:Int} {κ:Nat→Nat} {x:BS} {w:World} (l:List Int) (lv:Value) (hp:yM (fun x=>.int .i64 x) w lv l) (hb:∀x∈l,-9223372036854775808≤x∧x≤9223372036854775807) (hl:l.length≤1048576) (hg:x.Good) (h:Bd B q most flags κ x w):Calls prog 137 #[jF q.p,lv] w fun r w'=>r=.returned (.tuple #[])∧j1 B q most flags κ (x.vector most 1 0 (l.map y4)) w w':=by
 have HB:=zh h
 have HH:=zh hg
 have HL:=zh hl
 have HOK:Hid (∀v∈l.map y4,okV v):=by
  intro v hv
  obtain⟨x,hx,rfl⟩:=List.mem_map.1 hv
  exact aQ x (hb x hx).1 (hb x hx).2
 have HM:=zh (i2 l lv w hp hb hl)
 have hp0:=hp
 obtain⟨la,lc,rfl,_⟩:=hp0
 clear h hg hp hb hl
 go_enter func137,ntmps137
 go_wp2_with fail
 refine HM.out.mono ?_
 rintro r w1 ⟨v',rfl,ho,hgr⟩
 have HO:=zh (And.intro ho hgr)
 clear ho hgr
 go_wp2_with fail
 refine (vG 1 0 v' (l.map y4) (.inr (.inl ⟨by decide,rfl,by kernel_rfl⟩)) HO.out.1.vals (vH HB.out HO.out.1 HO.out.2) (by rw[List.length_map];exact HL.out) HOK.out HH.out (HB.out.grew HO.out.2)).mono ?_
 rintro r w2 ⟨rfl,ht⟩
 have HT:=zh (ht.after HO.out.2)
 clear ht
 go_wp2
 go_end0
 exact⟨rfl,HT.out⟩
theorem mW {B:Nat} {q:kN} {most flags:Int} {κ:Nat→Nat} {x:BS} {w:World} (l:List Int) (lv:Value) (hp:yM (fun x=>.int .u64 x) w lv l) (hb:∀x∈l,0≤x∧x≤18446744073709551615) (hl:l.length≤1048576) (hg:x.Good) (h:Bd B q most flags κ x w):Calls prog 139 #[jF q.p,lv] w fun r w'=>r=.returned (.tuple #[])∧j1 B q most flags κ (x.vector most 2 0 (l.map yR)) w w':=by
 have HB:=zh h
 have HH:=zh hg
 have HL:=zh hl
 have HOK:Hid (∀v∈l.map yR,okV v):=by
  intro v hv
  obtain⟨x,hx,rfl⟩:=List.mem_map.1 hv
  exact aR x (hb x hx).1 (hb x hx).2
 have HM:=zh (i3 l lv w hp hb hl)
 have hp0:=hp
 obtain⟨la,lc,rfl,_⟩:=hp0
 clear h hg hp hb hl
 go_enter func139,ntmps139
 go_wp2_with fail
 refine HM.out.mono ?_
 rintro r w1 ⟨v',rfl,ho,hgr⟩
 have HO:=zh (And.intro ho hgr)
 clear ho hgr
 go_wp2_with fail
 refine (vG 2 0 v' (l.map yR) (.inr (.inl ⟨by decide,rfl,by kernel_rfl⟩)) HO.out.1.vals (vH HB.out HO.out.1 HO.out.2) (by rw[List.length_map];exact HL.out) HOK.out HH.out (HB.out.grew HO.out.2)).mono ?_
 rintro r w2 ⟨rfl,ht⟩
 have HT:=zh (ht.after HO.out.2)
 clear ht
 go_wp2
 go_end0
 exact⟨rfl,HT.out⟩
theorem mX {B:Nat} {q:kN} {most flags:Int} {κ:Nat→Nat} {x:BS} {w:World} (l:List Bool) (lv:Value) (hp:yM (fun x=>.bool x) w lv l) (hb:∀x∈l,True) (hl:l.length≤1048576) (hg:x.Good) (h:Bd B q most flags κ x w):Calls prog 141 #[jF q.p,lv] w fun r w'=>r=.returned (.tuple #[])∧j1 B q most flags κ (x.vector most 26 0 (l.map zU)) w w':=by
 have HB:=zh h
 have HH:=zh hg
 have HL:=zh hl
 have HOK:Hid (∀v∈l.map zU,okV v):=by
  intro v hv
  obtain⟨x,hx,rfl⟩:=List.mem_map.1 hv
  exact eJ x
 have HM:=zh (sO l lv w hp hb hl)
 have hp0:=hp
 obtain⟨la,lc,rfl,_⟩:=hp0
 clear h hg hp hb hl
 go_enter func141,ntmps141
 go_wp2_with fail
 refine HM.out.mono ?_
 rintro r w1 ⟨v',rfl,ho,hgr⟩
 have HO:=zh (And.intro ho hgr)
 clear ho hgr
 go_wp2_with fail
 refine (vG 26 0 v' (l.map zU) (.inr (.inl ⟨by decide,rfl,by kernel_rfl⟩)) HO.out.1.vals (vH HB.out HO.out.1 HO.out.2) (by rw[List.length_map];exact HL.out) HOK.out HH.out (HB.out.grew HO.out.2)).mono ?_
 rintro r w2 ⟨rfl,ht⟩
 have HT:=zh (ht.after HO.out.2)
 clear ht
 go_wp2
 go_end0
 exact⟨rfl,HT.out⟩
theorem VS {B:Nat} {q:kN} {most flags:Int} {κ:Nat→Nat} {x:BS} {w:World} (elem many:Int) (la:Option Addr) (n lc:Nat) (hx0:x.e≠0) (h:Bd B q most flags κ x w):Calls prog 42 #[jF q.p,.int .i64 elem,.int .i64 many,.slice la n lc] w fun r w'=>r=.returned (.tuple #[])∧j1 B q most flags κ (x) w w':=by
 have HX:=zh hx0
 have HE:Hid (Env B q most flags w κ [(w.heap.size+3,Obj.cells #[(.slice la n lc)] 57 (0,0)),(w.heap.size+2,Obj.cells #[.int .i64 many] 3 (0,0)),(w.heap.size+1,Obj.cells #[.int .i64 elem] 3 (0,0)),(w.heap.size,Obj.cells #[jF q.p] 26 (0,0))] x ((((w.alloc (.cells #[jF q.p] 26)).alloc (.cells #[.int .i64 elem] 3)).alloc (.cells #[.int .i64 many] 3)).alloc (.cells #[(.slice la n lc)] 57))):=by
  have hh:=((((Env.start h).add (.cells #[jF q.p] 26)).add (.cells #[.int .i64 elem] 3)).add (.cells #[.int .i64 many] 3)).add (.cells #[(.slice la n lc)] 57)
  simp only[World.size_alloc,Nat.add_assoc,Nat.reduceAdd] at hh
  exact hh
 clear h hx0
 go_enter func42,ntmps42
 go_wp2_with fail
 refine (HE.out.call' fun κ1 hb he=>zG hb _ _ (x) (fun hx=>rfl) (fun _=>enters_of func83 zk rfl _ _) (fun hx=>absurd hx HX.out)).mono ?_
 rintro r w5 ⟨rfl,he⟩
 have HT:=zh he
 clear he
 go_wp2
 go_end0
 exact⟨rfl,HT.out.turn⟩
theorem mY {B:Nat} {q:kN} {most flags:Int} {κ:Nat→Nat} {x:BS} {w:World} (n1 n2 n3:Nat) (elem:Int) (la:Option Addr) (lc:Nat) (l:List V3) (hne:elem≠-1) (hT:∀n:Nat,2≤n→n≤4→(typedF elem (n:Int)).2=true) (hv:ValsAt w (.slice la l.length lc) l) (ha:zW κ w (.slice la l.length lc)) (j8:l.length≤1048576) (hok:∀v∈l,okV v) (hg:x.Good) (hx:x.e=0) (he:Env B q most flags w κ [(n3,Obj.cells #[(.slice la l.length lc)] 57 (0,0)),(n2,Obj.cells #[.int .i64 elem] 3 (0,0)),(n1,Obj.cells #[jF q.p] 26 (0,0))] x w):Calls prog 193 #[.pointer (some ⟨n3,0,none⟩),.pointer (some ⟨n1,0,none⟩),.pointer (some ⟨n2,0,none⟩)] w fun r w'=>r=.returned (.tuple #[])∧j1 B q most flags κ (x.fixed most elem l) w w':=by
 have HE:=zh he
 have HM3:Hid ((n3,Obj.cells #[(.slice la l.length lc)] 57 (0,0))∈([(n3,Obj.cells #[(.slice la l.length lc)] 57 (0,0)),(n2,Obj.cells #[.int .i64 elem] 3 (0,0)),(n1,Obj.cells #[jF q.p] 26 (0,0))]:List (Nat × Obj))):=List.mem_cons_self
 have HM2:Hid ((n2,Obj.cells #[.int .i64 elem] 3 (0,0))∈([(n3,Obj.cells #[(.slice la l.length lc)] 57 (0,0)),(n2,Obj.cells #[.int .i64 elem] 3 (0,0)),(n1,Obj.cells #[jF q.p] 26 (0,0))]:List (Nat × Obj))):=List.mem_cons_of_mem _ (List.mem_cons_self)
 have HM1:Hid ((n1,Obj.cells #[jF q.p] 26 (0,0))∈([(n3,Obj.cells #[(.slice la l.length lc)] 57 (0,0)),(n2,Obj.cells #[.int .i64 elem] 3 (0,0)),(n1,Obj.cells #[jF q.p] 26 (0,0))]:List (Nat × Obj))):=List.mem_cons_of_mem _ (List.mem_cons_of_mem _ (List.mem_cons_self))
 have HVA:=zh (And.intro hv ha)
 have HF2:=zh (And.intro j8 (And.intro hok hg))
 have cb:=Env.cell he HM1.out 0 _ rfl
 have ce:=Env.cell he HM2.out 0 _ rfl
 have cl:=Env.cell he HM3.out 0 _ rfl
 have HX:=zh hx
 have hll:l.length≤9223372036854775807:=by omega
 by_cases hb2:l.length < 2∨4 < l.length
 ·have HY:Hid (x.fixed most elem l=x.fail 2):=by show _=_;unfold BS.fixed;rw[if_pos hx,if_pos hb2]
  have HN:Hid ((x.fail 2).e≠0):=by show _≠_;unfold BS.fail kL;rw[if_pos hx];show (2:Int)≠0;decide
  clear he hv ha j8 hok hg hT hx
  rcases hb2 with h2|h4
  ·have h2i:(l.length:Int) < 2:=by omega
   go_enter func193,ntmps193
   go_wp2_with fail
   refine (HE.out.call fun κ1 hb hz=>kV 2 hb).mono ?_
   rintro r w2 ⟨rfl,he⟩
   have HE2:=zh he
   clear he cb ce cl
   have cb:=Env.cell HE2.out HM1.out 0 _ rfl
   have ce:=Env.cell HE2.out HM2.out 0 _ rfl
   have cl:=Env.cell HE2.out HM3.out 0 _ rfl
   go_wp2_with fail
   refine (HE2.out.call fun κ1 hb hz=>VS _ _ _ _ _ HN.out hb).mono ?_
   rintro r w3 ⟨rfl,he⟩
   have HE3:=zh he
   clear he
   go_wp2
   go_end0
   exact⟨rfl,by rw[HY.out];exact HE3.out.turn⟩
  ·have h2i:¬(l.length:Int) < 2:=by omega
   have h4i:(l.length:Int) > 4:=by omega
   go_enter func193,ntmps193
   go_wp2_with fail
   refine (HE.out.call fun κ1 hb hz=>kV 2 hb).mono ?_
   rintro r w2 ⟨rfl,he⟩
   have HE2:=zh he
   clear he cb ce cl
   have cb:=Env.cell HE2.out HM1.out 0 _ rfl
   have ce:=Env.cell HE2.out HM2.out 0 _ rfl
   have cl:=Env.cell HE2.out HM3.out 0 _ rfl
   go_wp2_with fail
   refine (HE2.out.call fun κ1 hb hz=>VS _ _ _ _ _ HN.out hb).mono ?_
   rintro r w3 ⟨rfl,he⟩
   have HE3:=zh he
   clear he
   go_wp2
   go_end0
   exact⟨rfl,by rw[HY.out];exact HE3.out.turn⟩
 ·have HY:Hid (x.fixed most elem l=x.vector most elem l.length l):=by show _=_;unfold BS.fixed;rw[if_pos hx,if_neg hb2]
  have HF:Hid (i4 elem (l.length:Int) l):=.inr (.inr ⟨hne,rfl,by omega,hT _ (by omega) (by omega)⟩)
  have h2i:¬(l.length:Int) < 2:=by omega
  have h4i:¬(l.length:Int) > 4:=by omega
  clear he hv ha j8 hok hg hT hx
  go_enter func193,ntmps193
  go_wp2_with fail
  refine (HE.out.callT fun κ1 hb ht he=>vG _ _ _ _ HF.out (Q1 HVA.out.1 HVA.out.2 ht) (HVA.out.2.tn ht) HF2.out.1 HF2.out.2.1 HF2.out.2.2 hb).mono ?_
  rintro r w3 ⟨rfl,he⟩
  have HE3:=zh he
  clear he
  go_wp2
  go_end0
  exact⟨rfl,by rw[HY.out];exact HE3.out.turn⟩
theorem eN {B:Nat} {q:kN} {most flags:Int} {κ:Nat→Nat} {x:BS} {w:World} (elem:Int) (la:Option Addr) (lc:Nat) (l:List V3) (hne:elem≠-1) (hT:∀n:Nat,2≤n→n≤4→(typedF elem (n:Int)).2=true) (hv:ValsAt w (.slice la l.length lc) l) (ha:zW κ w (.slice la l.length lc)) (j8:l.length≤1048576) (hok:∀v∈l,okV v) (hg:x.Good) (h:Bd B q most flags κ x w):Calls prog 184 #[jF q.p,.int .i64 elem,(.slice la l.length lc)] w fun r w'=>r=.returned (.tuple #[])∧j1 B q most flags κ (x.fixed most elem l) w w':=by
 have HF:=zh (And.intro hne hT)
 have HVA:=zh (And.intro hv ha)
 have HF2:=zh (And.intro j8 (And.intro hok hg))
 have HE:Hid (Env B q most flags w κ [(w.heap.size+2,Obj.cells #[(.slice la l.length lc)] 57 (0,0)),(w.heap.size+1,Obj.cells #[.int .i64 elem] 3 (0,0)),(w.heap.size,Obj.cells #[jF q.p] 26 (0,0))] x (((w.alloc (.cells #[jF q.p] 26)).alloc (.cells #[.int .i64 elem] 3)).alloc (.cells #[(.slice la l.length lc)] 57))):=by
  have hh:=(((Env.start h).add (.cells #[jF q.p] 26)).add (.cells #[.int .i64 elem] 3)).add (.cells #[(.slice la l.length lc)] 57)
  simp only[World.size_alloc,Nat.add_assoc,Nat.reduceAdd] at hh
  exact hh
 clear h hne hT hv ha j8 hok hg
 go_enter func184,ntmps184
 go_wp2_with fail
 refine (HE.out.callT fun κ1 hb ht he=>zG hb _ _ (x.fixed most elem l) (fun hx=>by unfold BS.fixed;rw[if_neg hx]) (fun _=>enters_of func193 zk rfl _ _) (fun hx=>mY _ _ _ _ _ _ _ HF.out.1 HF.out.2 (Q1 HVA.out.1 HVA.out.2 ht) (HVA.out.2.tn ht) HF2.out.1 HF2.out.2.1 HF2.out.2.2 hx he)).mono ?_
 rintro r w5 ⟨rfl,he⟩
 have HT:=zh he
 clear he
 go_wp2
 go_end0
 exact⟨rfl,HT.out.turn⟩
theorem fixT1:∀n:Nat,2≤n→n≤4→(typedF 1 (n:Int)).2=true:=fun n h2 h4=>by
 obtain rfl|rfl|rfl:n=2∨n=3∨n=4:=by omega
 ·show (typedF 1 2).2=true
  kernel_rfl
 ·show (typedF 1 3).2=true
  kernel_rfl
 ·show (typedF 1 4).2=true
  kernel_rfl
theorem fixT2:∀n:Nat,2≤n→n≤4→(typedF 2 (n:Int)).2=true:=fun n h2 h4=>by
 obtain rfl|rfl|rfl:n=2∨n=3∨n=4:=by omega
 ·show (typedF 2 2).2=true
  kernel_rfl
 ·show (typedF 2 3).2=true
  kernel_rfl
 ·show (typedF 2 4).2=true
  kernel_rfl
theorem f9 {B:Nat} {q:kN} {most flags:Int} {κ:Nat→Nat} {x:BS} {w:World} (l:List Int) (lv:Value) (hp:yM (fun x=>.int .i64 x) w lv l) (hb:∀x∈l,-9223372036854775808≤x∧x≤9223372036854775807) (hl:l.length≤1048576) (hg:x.Good) (h:Bd B q most flags κ x w):Calls prog 144 #[jF q.p,lv] w fun r w'=>r=.returned (.tuple #[])∧j1 B q most flags κ (x.fixed most 1 (l.map y4)) w w':=by
 have HB:=zh h
 have HH:=zh hg
 have HL:=zh hl
 have HOK:Hid (∀v∈l.map y4,okV v):=by
  intro v hv
  obtain⟨x,hx,rfl⟩:=List.mem_map.1 hv
  exact aQ x (hb x hx).1 (hb x hx).2
 have HM:=zh (i2 l lv w hp hb hl)
 have hp0:=hp
 obtain⟨la,lc,rfl,_⟩:=hp0
 clear h hg hp hb hl
 go_enter func144,ntmps144
 go_wp2_with fail
 refine HM.out.mono ?_
 rintro r w1 ⟨v',rfl,ho,hgr⟩
 have HO:=zh (And.intro ho hgr)
 clear ho hgr
 go_wp2_with fail
 obtain⟨va,vc,rfl,_⟩:=kD HO.out.1
 refine (eN 1 va vc (l.map y4) (by decide) fixT1 HO.out.1.vals (vH HB.out HO.out.1 HO.out.2) (by rw[List.length_map];exact HL.out) HOK.out HH.out (HB.out.grew HO.out.2)).mono ?_
 rintro r w2 ⟨rfl,ht⟩
 have HT:=zh (ht.after HO.out.2)
 clear ht
 go_wp2
 go_end0
 exact⟨rfl,HT.out⟩
theorem cZ {B:Nat} {q:kN} {most flags:Int} {κ:Nat→Nat} {x:BS} {w:World} (l:List Int) (lv:Value) (hp:yM (fun x=>.int .u64 x) w lv l) (hb:∀x∈l,0≤x∧x≤18446744073709551615) (hl:l.length≤1048576) (hg:x.Good) (h:Bd B q most flags κ x w):Calls prog 145 #[jF q.p,lv] w fun r w'=>r=.returned (.tuple #[])∧j1 B q most flags κ (x.fixed most 2 (l.map yR)) w w':=by
 have HB:=zh h
 have HH:=zh hg
 have HL:=zh hl
 have HOK:Hid (∀v∈l.map yR,okV v):=by
  intro v hv
  obtain⟨x,hx,rfl⟩:=List.mem_map.1 hv
  exact aR x (hb x hx).1 (hb x hx).2
 have HM:=zh (i3 l lv w hp hb hl)
 have hp0:=hp
 obtain⟨la,lc,rfl,_⟩:=hp0
 clear h hg hp hb hl
 go_enter func145,ntmps145
 go_wp2_with fail
 refine HM.out.mono ?_
 rintro r w1 ⟨v',rfl,ho,hgr⟩
 have HO:=zh (And.intro ho hgr)
 clear ho hgr
 go_wp2_with fail
 obtain⟨va,vc,rfl,_⟩:=kD HO.out.1
 refine (eN 2 va vc (l.map yR) (by decide) fixT2 HO.out.1.vals (vH HB.out HO.out.1 HO.out.2) (by rw[List.length_map];exact HL.out) HOK.out HH.out (HB.out.grew HO.out.2)).mono ?_
 rintro r w2 ⟨rfl,ht⟩
 have HT:=zh (ht.after HO.out.2)
 clear ht
 go_wp2
 go_end0
 exact⟨rfl,HT.out⟩
theorem eO {B:Nat} {q:kN} {most flags:Int} {κ:Nat→Nat} {x:BS} {w:World} (start:Int) (h:Bd B q most flags κ x w):Calls prog 32 #[jF q.p,.int .i64 start] w fun r w'=>(InR start x.stk.length∧∃v',r=.returned v'∧jO w' w.heap.size v' (x.stk.drop start.toNat)∧jA w w')∨(¬InR start x.stk.length∧r=.returned (.slice none 0 0)∧j1 B q most flags κ (x.fail 2) w w'):=by
 have HB:=zh h
 have c1:=h.at1
 clear h
 go_enter func32,ntmps32
 go_wp2_with fail
 refine (VM start HB.out.stk HB.out.ok.stk).mono ?_
 rintro r w1 (⟨hin,v',rfl,ho,hg⟩|⟨hin,rfl,hw⟩)
 ·obtain⟨L,hL⟩:∃L,x.stk.drop start.toNat=L:=⟨_,rfl⟩
  rw[hL] at ho
  have HL:=zh hL
  have HO:=zh (And.intro ho hg)
  have HIN:=zh hin
  obtain⟨va,vc,rfl,_⟩:=kD ho
  clear ho hg hin hL
  go_wp2
  go_ret
  exact .inl ⟨HIN.out,.slice va L.length vc,rfl,by rw[HL.out];exact HO.out.1,HO.out.2⟩
 ·obtain rfl:w=w1:=hw.symm
  have HIN:=zh hin
  clear hin
  go_wp2_with fail
  refine (kV 2 HB.out).mono ?_
  rintro r w2 ⟨rfl,ht⟩
  have HT:=zh ht
  clear ht
  go_wp2
  go_ret
  exact .inr ⟨HIN.out,rfl,HT.out⟩
theorem j1.base {B:Nat} {q:kN} {most flags:Int} {κ κ1:Nat→Nat} {y:BS} {w w1 w2:World} (ht:Tn κ κ1 w w) (hg:jA w w1) (h:j1 B q most flags κ1 y w1 w2):j1 B q most flags κ y w w2:=by
 obtain⟨κ2,k1,k2⟩:=h
 exact⟨κ2,k1,ht.trans ((Tn.of_grew hg).trans k2)⟩
theorem Env.open_ {B:Nat} {q:kN} {most flags:Int} {κ:Nat→Nat} {x:BS} {w:World} {Kp:List (Nat × Obj)} (h:Env B q most flags w κ Kp x w):∃κ1,Bd B q most flags κ1 x w∧Tn κ κ1 w w∧(∀z∈Kp,κ1 z.1=0)∧∀w1,jA w w1→Env B q most flags w1 κ1 Kp x w1:=by
 obtain⟨κ1,h1,h2,h3⟩:=h
 exact⟨κ1,h1,h2,fun z hz=>(h3 z hz).2,fun w1 hg=>⟨κ1,h1.grew hg,Tn.refl _ _,fun z hz=>⟨hg.heap (h3 z hz).1,(h3 z hz).2⟩⟩⟩
theorem i8 {B:Nat} {q:kN} {most flags:Int} {κ:Nat→Nat} {x:BS} {w:World} (n:Nat) (h:Bd B q most flags κ x w) (hn:n≤x.stk.length):Calls prog 36 #[jF q.s,.int .i64 n] w fun r w'=>(∃v':Value,r=.returned (.tuple #[v',.int .i64 0]))∧j1 B q most flags κ {x with stk:=x.stk.take (x.stk.length - n)} w w':=
 (sA n h.stk h.ok.stk hn).mono fun r w' ⟨v',e,_,ht⟩=>⟨⟨v',e⟩,h.stk_step (by rw[List.length_take];have:=h.ok.stk;omega) (fun v hv=>h.ok.okS v (List.mem_of_mem_take hv)) ht⟩
theorem i9 {B:Nat} {q:kN} {most flags:Int} {κ:Nat→Nat} {x:BS} {w:World} (n1 n2:Nat) (start:Int) (hg:x.Good) (hx:x.e=0) (he:Env B q most flags w κ [(n2,Obj.cells #[.int .i64 start] 3 (0,0)),(n1,Obj.cells #[jF q.p] 26 (0,0))] x w):Calls prog 41 #[.pointer (some ⟨n1,0,none⟩),.pointer (some ⟨n2,0,none⟩)] w fun r w'=>r=.returned (.tuple #[])∧j1 B q most flags κ (x.endVec most start) w w':=by
 have HM2:Hid ((n2,Obj.cells #[.int .i64 start] 3 (0,0))∈([(n2,Obj.cells #[.int .i64 start] 3 (0,0)),(n1,Obj.cells #[jF q.p] 26 (0,0))]:List (Nat × Obj))):=List.mem_cons_self
 have HM1:Hid ((n1,Obj.cells #[jF q.p] 26 (0,0))∈([(n2,Obj.cells #[.int .i64 start] 3 (0,0)),(n1,Obj.cells #[jF q.p] 26 (0,0))]:List (Nat × Obj))):=List.mem_cons_of_mem _ (List.mem_cons_self)
 have cb:=Env.cell he HM1.out 0 _ rfl
 have cs:=Env.cell he HM2.out 0 _ rfl
 obtain⟨κ1,hb,ht,hz,q8⟩:=he.open_
 have HB:=zh hb
 have HTN:=zh ht
 have HALL:=zh q8
 have HZ:=zh hz
 have HE0:=zh he
 have HG:=zh hg
 have HX:=zh hx
 clear he hb ht q8 hz hg hx
 go_enter func41,ntmps41
 go_wp2_with fail
 refine (eO start HB.out).mono ?_
 rintro r w1 (⟨hin,v',rfl,ho,hgr⟩|⟨hin,rfl,ht⟩)
 ·have HGR:=zh hgr
  have HO:=zh ho
  have HIN:=zh hin
  have HE1:=zh (HALL.out w1 hgr)
  have HY:Hid (x.endVec most start=({x with stk:=x.stk.take start.toNat}:BS).vector most (-1) 0 (x.stk.drop start.toNat)):=by show _=_;unfold BS.endVec;rw[if_pos HX.out,if_pos (show 0≤start∧start≤(x.stk.length:Int) from hin)]
  have HG2:Hid (BS.Good {x with stk:=x.stk.take start.toNat}):=⟨HG.out.s0,HG.out.nm,HG.out.ks,HG.out.ts,HG.out.ls,HG.out.vs,HG.out.ix,HG.out.nz⟩
  have HLE:Hid ((x.stk.drop start.toNat).length≤x.stk.length):=by show _≤_;rw[List.length_drop];omega
  have HTK:Hid (x.stk.take (x.stk.length - (x.stk.drop start.toNat).length)=x.stk.take start.toNat):=by show _=_;have h1:=hin.1;have h2:=hin.2;rw[List.length_drop];congr 1;omega
  have HOK:Hid (∀v∈x.stk.drop start.toNat,okV v):=fun v hv=>HB.out.ok.okS v (List.mem_of_mem_drop hv)
  have HSL:Hid ((x.stk.drop start.toNat).length≤1048576):=by show _≤_;have:=HLE.out;have:=HB.out.ok.stk;omega
  obtain⟨va,vc,rfl,_⟩:=kD ho
  generalize x.stk.drop start.toNat=L at *
  clear ho hin hgr cb cs
  have cb:=Env.cell HE1.out HM1.out 0 _ rfl
  have cs:=Env.cell HE1.out HM2.out 0 _ rfl
  have c1:=HE1.out.at1
  have c2:=HE1.out.at2
  rw[HX.out] at c2
  go_wp2_with fail
  refine (HE1.out.call fun κ2 hb hz=>i8 L.length hb HLE.out).mono ?_
  rintro r w2 ⟨⟨v'',rfl⟩,he⟩
  rw[HTK.out] at he
  have HE2:=zh he
  clear he cb cs c1 c2
  have cb:=Env.cell HE2.out HM1.out 0 _ rfl
  go_wp2_with fail
  refine (HE2.out.callT fun κ2 hb ht he=>vG (-1) 0 (.slice va L.length vc) L (.inl ⟨rfl,rfl⟩) (Q1 HO.out.vals (vH HB.out HO.out HGR.out) ht) ((vH HB.out HO.out HGR.out).tn ht) HSL.out HOK.out HG2.out hb).mono ?_
  rintro r w3 ⟨rfl,he⟩
  have HE3:=zh he
  clear he
  go_wp2
  go_end0
  exact⟨rfl,by rw[HY.out];exact (HE3.out.turn).base HTN.out HGR.out⟩
 ·have HY:Hid (x.endVec most start=x.fail 2):=by show _=_;unfold BS.endVec;rw[if_pos HX.out,if_neg (show ¬(0≤start∧start≤(x.stk.length:Int)) from hin)]
  have HN:Hid ((x.fail 2).e=2):=by show _=_;unfold BS.fail kL;rw[if_pos HX.out]
  have HNE:Hid ((x.fail 2).e≠0):=by show _≠_;rw[HN.out];decide
  have HNE:Hid ((x.fail 2).e≠0):=by show _≠_;rw[HN.out];decide
  have HE1:Hid (Env B q most flags w κ [(n2,Obj.cells #[.int .i64 start] 3 (0,0)),(n1,Obj.cells #[jF q.p] 26 (0,0))] (x.fail 2) w1):=by
   obtain⟨κ2,k1,k2⟩:=ht
   have h0:=HALL.out w (jA.refl w)
   exact⟨κ2,k1,HTN.out.trans k2,fun z hz=>⟨k2.1.heap (h0.kp (n:=z.1) (o:=z.2) hz) (fun e=>e (HZ.out z hz)),(k2.2 z.1 (Array.getElem?_eq_some_iff.1 (h0.kp (n:=z.1) (o:=z.2) hz)).1).trans (HZ.out z hz)⟩⟩
  clear ht hin cb cs
  have cb:=Env.cell HE1.out HM1.out 0 _ rfl
  have c2:=HE1.out.at2
  rw[HN.out] at c2
  go_wp2_with fail
  refine (HE1.out.call fun κ2 hb hz=>VS _ _ _ _ _ HNE.out hb).mono ?_
  rintro r w3 ⟨rfl,he⟩
  have HE3:=zh he
  clear he
  go_wp2
  go_end0
  exact⟨rfl,by rw[HY.out];exact HE3.out.turn⟩
theorem lA {B:Nat} {q:kN} {most flags:Int} {κ:Nat→Nat} {x:BS} {w:World} (start:Int) (hg:x.Good) (h:Bd B q most flags κ x w):Calls prog 13 #[jF q.p,.int .i64 start] w fun r w'=>r=.returned (.tuple #[])∧j1 B q most flags κ (x.endVec most start) w w':=by
 have HH:=zh hg
 have HE:Hid (Env B q most flags w κ [(w.heap.size+1,Obj.cells #[.int .i64 start] 3 (0,0)),(w.heap.size,Obj.cells #[jF q.p] 26 (0,0))] x ((w.alloc (.cells #[jF q.p] 26)).alloc (.cells #[.int .i64 start] 3))):=by
  have hh:=((Env.start h).add (.cells #[jF q.p] 26)).add (.cells #[.int .i64 start] 3)
  simp only[World.size_alloc,Nat.add_assoc,Nat.reduceAdd] at hh
  exact hh
 clear h hg
 go_enter func13,ntmps13
 go_wp2_with fail
 refine (HE.out.call' fun κ1 hb he=>zG hb _ _ (x.endVec most start) (fun hx=>by unfold BS.endVec;rw[if_neg hx]) (fun _=>enters_of func41 zk rfl _ _) (fun hx=>i9 _ _ _ HH.out hx he)).mono ?_
 rintro r w5 ⟨rfl,he⟩
 have HT:=zh he
 clear he
 go_wp2
 go_end0
 exact⟨rfl,HT.out.turn⟩
theorem V5 (most:Int) (sh:Bool):∀(l:List ByteArray) (k:ByteArray) (x:BS),x.putAll most sh (l++[k])=((x.putAll most sh l).1++[((x.putAll most sh l).2.put most sh k).1],((x.putAll most sh l).2.put most sh k).2)
 | [],k,x=>rfl
 | a::r,k,x=>by
  show (_::((x.put most sh a).2.putAll most sh (r++[k])).1,((x.put most sh a).2.putAll most sh (r++[k])).2)=_
  rw[V5 most sh r k]
  rfl
theorem J9 (most:Int) (sh:Bool):∀(l:List ByteArray) (x:BS),(x.putAll most sh l).1.length=l.length
 | [],_=>rfl
 | _::r,x=>by show ((_::_):List V3).length=_;rw[List.length_cons,J9 most sh r];rfl
def YJ (B:Nat) (q:kN) (most flags:Int) (w0:World) (κ0:Nat→Nat) (x:BS) (v:Value) (L:List V3) (w:World):Prop:=
 ∃κ,Bd B q most flags κ x w∧Tn κ0 κ w0 w∧jO w w0.heap.size v L∧∀g,v.ownBlock=some g→κ g=0
section
variable {B:Nat} {q:kN} {most flags:Int} {κ κ0:Nat→Nat} {x y:BS} {w w0 w1 w2 w3:World} {v v':Value} {L:List V3}
theorem aS (h:jO w B v L) {g:Nat} (hg:v.ownBlock=some g):B≤g∧g < w.heap.size:=by
 rcases h.2 with ⟨rfl,_⟩|⟨g',cap,cur,rfl,hge,hh,_⟩
 ·cases hg
 ·cases hg
  exact⟨hge,(Array.getElem?_eq_some_iff.1 hh).1⟩
theorem YJ.cell (h:YJ B q most flags w0 κ0 x v L w) {b off:Nat} {u:Value} (hc:w0.cell? ⟨b,off,none⟩=some u) (hb:κ0 b=0):w.cell? ⟨b,off,none⟩=some u:=by
 obtain⟨κ1,h1,h2,_⟩:=h
 exact h2.1.cell hc (fun e=>e hb)
theorem YJ.put (h:YJ B q most flags w0 κ0 x v L w) (k:ByteArray) (hk:k.size≤1048576) (hg:x.Good):Calls prog 29 #[jF q.p,.string k] w fun r w'=>r=.returned (vV (x.put most (onF flags 1) k).1)∧YJ B q most flags w0 κ0 (x.put most (onF flags 1) k).2 v L w':=by
 obtain⟨κ1,h1,h2,h3,h4⟩:=h
 refine (iY k hk hg h1).mono fun r w' hr=>⟨hr.1,?_⟩
 obtain⟨κ2,k1,k2⟩:=hr.2
 exact⟨κ2,k1,h2.trans k2,k2.1.owns h3 (fun g hgg hk=>hk (h4 g hgg)),fun g hgg=>(k2.2 g (aS h3 hgg).2).trans (h4 g hgg)⟩
theorem YJ.app (h:YJ B q most flags w0 κ0 x v L w) {o:Obj} {L':List V3} (j3:jO w3 w0.heap.size v' L') (hgr:(w.alloc o).grownBy w3 v.ownBlock) (hnx:zO (w.alloc o) v.ownBlock v'.ownBlock):YJ B q most flags w0 κ0 x v' L' w3:=by
 obtain⟨κ1,h1,h2,h3,h4⟩:=h
 have hg:=(jA.refl w).alloc o
 have h1':=h1.grew hg
 have hm:Moved (fun k=>some k=v.ownBlock) (w.alloc o) w3:=Moved.of_grown hgr
 have hd:∀c,c≠0→∀k,κ1 k=c→¬some k=v.ownBlock:=fun c hc k hk e=>hc (by rw[← hk];exact h4 k e.symm)
 refine⟨κ1,⟨fun k hk=>⟨(h1'.lt k hk).1,Nat.lt_of_lt_of_le (h1'.lt k hk).2 hm.size⟩,h1'.ok,h1'.self.kept hm (hd 1 (by decide)),h1'.buf.kept hm (hd 2 (by decide)),h1'.stk.kept hm (hd 3 (by decide)),h1'.keys.kept hm (hd 4 (by decide)),h1'.texts.kept hm (hd 5 (by decide)),h1'.lists.kept hm (hd 6 (by decide)),h1'.names.kept hm (hd 7 (by decide))⟩,
  ⟨(h2.trans (Tn.of_grew hg)).1.trans hm (fun j hj e=>by have:=(aS h3 e.symm).1;omega),(h2.trans (Tn.of_grew (κ:=κ1) hg)).2⟩,j3,fun g hgg=>?_⟩
 rcases hnx g hgg with e|e
 ·exact h4 g e
 ·exact Decidable.byContradiction fun hk=>by have:=(h1'.lt g hk).2;omega
end
theorem sR {B:Nat} {q:kN} {most flags:Int} {κ:Nat→Nat} {x:BS} {w:World} (l:List ByteArray) (lv:Value) (hp:yM (fun x=>.string x) w lv l) (ha:zW κ w lv) (hk:∀k∈l,k.size≤1048576) (hl:l.length≤1048576) (hg:x.Good) (h:Bd B q most flags κ x w):Calls prog 61 #[.func (.func 29) #[jF q.p] #[],lv] w fun r w'=>∃v',r=.returned v'∧YJ B q most flags w κ (x.putAll most (onF flags 1) l).2 v' (x.putAll most (onF flags 1) l).1 w':=by
 have HB:=zh h
 have HA:=zh ha
 obtain⟨ad,c,rfl,j2⟩:=hp
 have HC:=zh j2
 have HK:=zh hk
 have HL:=zh hl
 have HG:=zh hg
 have hll:l.length≤9223372036854775807:=by omega
 clear j2 hk hg h ha
 go_enter func61,ntmps61
 go_wp2_with fail
 go_loopw [4,9] (fun v i wr=>∃k:Nat,k≤l.length∧i=.int .i64 k∧Hid (YJ B q most flags w κ (x.putAll most (onF flags 1) (l.take k)).2 v (x.putAll most (onF flags 1) (l.take k)).1 wr)) (fun _ i _=>l.length - (intOf i).toNat)
 case atStart=>exact⟨0,Nat.zero_le _,rfl,by
  show YJ B q most flags w κ x _ [] _
  exact⟨κ,HB.out,Tn.refl _ _,World.ownsRow_nil _ _ _ _,fun g e=>by cases e⟩⟩
 case round=>
  obtain⟨k,hk,rfl,HW⟩:=hrel
  by_cases hlt:k < l.length
  ·obtain⟨s,hx⟩:∃s,l[k]? = some s:=⟨_,List.getElem?_eq_getElem hlt⟩
   have HSN:=zh (V5 most (onF flags 1) (l.take k) s x)
   have HTK:Hid (l.take (k+1)=l.take k++[s]):=by show _=_;rw[List.take_add_one,hx];rfl
   have HKS:=zh (HK.out s (List.mem_of_getElem? hx))
   obtain⟨b,off,rfl,c0⟩:=HC.out k s hx
   have d0:=HW.out.cell c0 (HA.out _ _ _ rfl).2
   clear hx c0
   have HGG:Hid ((x.putAll most (onF flags 1) (l.take k)).2.Good):=BS.Good.putAll _ HG.out
   have HLN:Hid ((x.putAll most (onF flags 1) (l.take k)).1.length=k):=by show _=_;rw[J9,List.length_take];omega
   generalize (x.putAll most (onF flags 1) (l.take k))=Y at *
   obtain⟨L,y⟩:=Y
   go_wp2_with fail
   refine (HW.out.put s HKS.out HGG.out).mono ?_
   rintro r w2 ⟨rfl,he⟩
   have HE:=zh he
   obtain⟨va,vc,rfl,hvc⟩:=kD (show jO w2 w.heap.size u4 L from by obtain⟨_,_,_,h,_⟩:=he;exact h)
   clear he HW
   obtain⟨X,hX⟩:∃X,(y.put most (onF flags 1) s).1=X:=⟨_,rfl⟩
   have HX:=zh hX
   rw[hX]
   clear hX
   obtain⟨X0,X1,X2⟩:=X
   have HO2:Hid (∀o,jO (w2.alloc o) w.heap.size (.slice va L.length vc) L):=fun o=>by obtain⟨_,_,_,h,_⟩:=HE.out;exact yQ h ((jA.refl _).alloc o)
   have HSZ:Hid (w.heap.size≤w2.heap.size):=by obtain⟨_,_,h,_⟩:=HE.out;exact h.1.size
   go_wp2_with (at_builtin;refine zT rfl _ _ rfl w.heap.size (.slice va L.length vc) L rfl (HO2.out _) _ [(X0,X1,X2)] rfl (vQ _ _) (fun c h=>by cases h) (by have:=HLN.out;have:=HL.out;simp at *;omega) (Nat.le_trans HSZ.out (by simp)) ?_;intro v' w3 j3 hgr hqq;have HG3:=zh (HE.out.app j3 hgr hqq);obtain⟨va2,vc2,rfl,_⟩:=kD j3;clear j3 hgr hqq)
   go_roundw
   case rel=>
    refine⟨k+1,by omega,by go_num,?_⟩
    show YJ _ _ _ _ _ _ _ _ _ _
    rw[HTK.out,HSN.out]
    have hh:=HG3.out
    rw[List.length_append] at hh
    rw[HX.out]
    exact hh
   case measure=>simp[intOf];omega
  ·have ek:k=l.length:=by omega
   subst ek
   have hw:=HW.out
   rw[List.take_length] at hw
   have HE:=zh hw
   clear hw HW
   go_wp2
   go_ret
   exact⟨_,rfl,HE.out⟩
def lB (B:Nat) (q:kN) (most flags:Int) (w0:World) (κ0:Nat→Nat) (Kp:List (Nat × Obj)) (x:BS) (L:List V3):Nat→Value→World→Prop
 | 0,_,_=>False
 | 1,v,w=>∃κ,Bd B q most flags κ x w∧Tn κ0 κ w0 w∧(∀z∈Kp,w.heap[z.1]? = some z.2∧κ z.1=0)∧(∃b,jO w b v L)∧∀g,v.ownBlock=some g→κ g=0
 | _+2,_,_=>True
theorem lB.st {B:Nat} {q:kN} {most flags:Int} {w0:World} {κ0:Nat→Nat} {Kp:List (Nat × Obj)} {x:BS} {L:List V3}:(∀p v w w',(fun (_:Nat) w w'=>jA w w') p w w'→lB B q most flags w0 κ0 Kp x L p v w→lB B q most flags w0 κ0 Kp x L p v w')∧∀p v w w',(fun _ _ _=>True:Nat→World→World→Prop) p w w'→lB B q most flags w0 κ0 Kp x L p v w→lB B q most flags w0 κ0 Kp x L (p+1) v w':=by
 refine⟨fun p v w w' hg h=>?_,fun p v w w' _ h=>?_⟩
 ·match p,h with
  | 1,⟨κ,h1,h2,h3,⟨b,h4⟩,h5⟩=>exact⟨κ,h1.grew hg,h2.trans (Tn.of_grew hg),fun z hz=>⟨hg.heap (h3 z hz).1,(h3 z hz).2⟩,⟨b,yQ h4 hg⟩,h5⟩
  | _+2,_=>trivial
 ·match p,h with
  | 1,_=>trivial
  | _+2,_=>trivial
theorem lC {α:Type} {f:α→Value} {κ κ1:Nat→Nat} {w w':World} {lv:Value} {l:List α} (hv:yM f w lv l) (h:zW κ w lv) (ht:Tn κ κ1 w w'):yM f w' lv l:=by
 obtain⟨a,c,rfl,hc⟩:=hv
 refine⟨a,c,rfl,fun i x hx=>?_⟩
 obtain⟨b,off,rfl,h0⟩:=hc i x hx
 exact⟨b,off,rfl,ht.1.cell h0 (fun e=>e (h _ _ _ rfl).2)⟩
theorem sS {most:Int} {sh:Bool} {k:ByteArray} {x:BS} (hl:(x.s.1.length:Int)≤most) (hm:most≤1048576) (hk:∀z∈x.keys,0≤z.2∧z.2≤9007199254740991) :
 okV (x.put most sh k).1∧((x.put most sh k).2.s.1.length:Int)≤most∧∀z∈(x.put most sh k).2.keys,0≤z.2∧z.2≤9007199254740991:=by
 have hg:=aP (k:=k) hk
 unfold BS.put
 dsimp only
 by_cases hf:(x.fail (yI k)).e≠0
 ·rw[if_pos hf];exact⟨ok0,hl,hk⟩
 ·rw[if_neg hf]
  by_cases hgb:((yB x.keys k).2 && sh)=true
  ·rw[if_pos hgb]
   exact⟨⟨hg.1,by show (yB x.keys k).1≤_;omega⟩,hl,hk⟩
  ·rw[if_neg hgb]
   exact⟨⟨Int.natCast_nonneg _,by show (x.s.1.length:Int)≤_;omega⟩,Z9 hl,fU hk⟩
theorem eP {most:Int} {sh:Bool} (hm:most≤1048576):∀(l:List ByteArray) (x:BS),(x.s.1.length:Int)≤most→(∀z∈x.keys,0≤z.2∧z.2≤9007199254740991)→∀v∈(x.putAll most sh l).1,okV v
 | [],_,_,_=>fun v hv=>by cases hv
 | k::r,x,hl,hk=>fun v hv=>by
  have hp:=sS (sh:=sh) (k:=k) hl hm hk
  rcases List.mem_cons.1 hv with rfl|hv
  ·exact hp.1
  ·exact eP hm r _ hp.2.1 hp.2.2 v hv
theorem pO {B:Nat} {q:kN} {most flags:Int} {κ:Nat→Nat} {x:BS} {w:World} (n1 n2:Nat) (la:Option Addr) (lc:Nat) (l:List ByteArray) (hp:yM (fun x=>.string x) w (.slice la l.length lc) l) (ha:zW κ w (.slice la l.length lc)) (hk:∀k∈l,k.size≤1048576) (hl:l.length≤1048576) (hg:x.Good) (hx:x.e=0) (he:Env B q most flags w κ [(n2,Obj.cells #[.slice la l.length lc] 22 (0,0)),(n1,Obj.cells #[jF q.p] 26 (0,0))] x w):Calls prog 60 #[.pointer (some ⟨n1,0,none⟩),.pointer (some ⟨n2,0,none⟩)] w fun r w'=>r=.returned (.tuple #[])∧j1 B q most flags κ (x.keyVec most (onF flags 1) l) w w':=by
 have HE:=zh he
 have HM2:Hid ((n2,Obj.cells #[.slice la l.length lc] 22 (0,0))∈([(n2,Obj.cells #[.slice la l.length lc] 22 (0,0)),(n1,Obj.cells #[jF q.p] 26 (0,0))]:List (Nat × Obj))):=List.mem_cons_self
 have HM1:Hid ((n1,Obj.cells #[jF q.p] 26 (0,0))∈([(n2,Obj.cells #[.slice la l.length lc] 22 (0,0)),(n1,Obj.cells #[jF q.p] 26 (0,0))]:List (Nat × Obj))):=List.mem_cons_of_mem _ (List.mem_cons_self)
 have HPA:=zh (And.intro hp ha)
 have HK:=zh (And.intro hk hl)
 have HG:=zh hg
 have HGP:Hid ((x.putAll most (onF flags 1) l).2.Good):=BS.Good.putAll l hg
 have HOK:Hid (∀v∈(x.putAll most (onF flags 1) l).1,okV v):=eP he.ok.m1 l x he.ok.len he.ok.okK
 have HLN:Hid ((x.putAll most (onF flags 1) l).1.length≤1048576):=by show _≤_;rw[J9];exact hl
 have HY:Hid (x.keyVec most (onF flags 1) l=(x.putAll most (onF flags 1) l).2.vector most 4 0 (x.putAll most (onF flags 1) l).1):=by show _=_;unfold BS.keyVec;rw[if_pos hx]
 have HMS:Hid (∀κ1 w2,Bd B q most flags κ1 x w2→Tn κ κ1 w w2→Calls prog 61 #[.func (.func 29) #[jF q.p] #[],.slice la l.length lc] w2 fun r w'=>∃v',r=.returned v'∧YJ B q most flags w2 κ1 (x.putAll most (onF flags 1) l).2 v' (x.putAll most (onF flags 1) l).1 w'):=fun κ1 w2 hb ht=>sR l _ (lC hp ha ht) (ha.tn ht) hk hl hg hb
 generalize (x.putAll most (onF flags 1) l)=Y at HGP HOK HLN HY HMS
 obtain⟨L,yk⟩:=Y
 clear he hp ha hk hg hx
 go_enter func60,ntmps60
 go_wp2_with fail
 refine jM [4,5] (yD B q most flags w κ [(n2,Obj.cells #[.slice la l.length lc] 22 (0,0)),(n1,Obj.cells #[jF q.p] 26 (0,0))] [x,yk] (yk.vector most 4 0 L)) (fun _ w w'=>jA w w') ((fun p (_:Nat→Value)=>(fun _ _ _=>True) p)) [[],[],[1],[],[1,2,3],[0,1,2,3,4]] [[(3,1),(4,2),(5,3),(6,4)],[(2,0),(5,3)],[(2,0),(3,1),(5,3)],[(2,0),(3,1),(4,2)],[(2,0),(3,1),(4,2),(5,3)],[(2,0),(3,1),(4,2),(5,3),(6,4)]] [(2,0),(3,1),(4,2),(5,3),(6,4),(7,5)]
  [IsP (jF q.p),IsP (jF q.p),IsP (.func (.func 29) #[jF q.p] #[]),IsP (.slice la l.length lc),lB B q most flags w κ [(n2,Obj.cells #[.slice la l.length lc] 22 (0,0)),(n1,Obj.cells #[jF q.p] 26 (0,0))] yk L,IsP (.tuple #[])]
  zk (yD.grew) (HE.out.grew (jA.refl _).drew) zk zk ⟨jC,jC,jC,jC,q9 (lB.st),jC,trivial⟩ rfl ?_ ?_
 ·intro y w2 hW hF
  simp only[zB,IsP,Nat.reduceAdd,List.length_cons,List.length_nil] at hF hW
  have h0:=hF.1
  have h1:=hF.2.1
  have h2:=hF.2.2.1
  have h3:=hF.2.2.2.1
  have h4:=hF.2.2.2.2.1
  have h5:=hF.2.2.2.2.2.1
  clear hF
  simp only[jB,Act.put,zq1,zq2,zq3,zq4,zq5]
  simp only[h0,h1,h2,h3,h5]
  clear h0 h1 h2 h3 h5
  go_wp2
  go_end0
  exact⟨rfl,by rw[HY.out];exact Env.turn hW⟩
 refine⟨?_,?_⟩
 ·refine jH 0 1 ?_
  intro y w2 p hlo hhi hW hD K hK
  have d10:=Env.cell hW HM1.out 0 _ rfl
  exact zqr
 refine⟨?_,?_⟩
 ·refine jH 0 0 ?_
  intro y w2 p hlo hhi hW hD K hK
  have d10:=Env.cell hW HM1.out 0 _ rfl
  exact zqr
 refine⟨zqd,?_⟩
 refine⟨?_,?_⟩
 ·refine jH 0 0 ?_
  intro y w2 p hlo hhi hW hD K hK
  have d20:=Env.cell hW HM2.out 0 _ rfl
  exact zqr
 refine⟨?_,?_⟩
 ·refine jN 0 rfl ?_
  intro y w2 hW hD K hK
  simp only[jV,zq4,zq5,IsP] at hD
  have h1:=hD.1
  have h2:=hD.2.1
  have h3:=hD.2.2.1
  clear hD
  generalize hAA:jB y _ _=AA at hK⊢
  simp only[jB,Act.put,zq1,zq2,zq3,zq4,zq5,IsP] at hAA
  subst hAA
  simp only[zq4,zq5,IsP] at hK
  simp only[h1,h2,h3] at hK⊢
  clear h1 h2 h3
  refine jL ?_
  go_simp
  obtain⟨κ1,hb,ht,hkk⟩:=(show Env B q most flags w κ [(n2,Obj.cells #[.slice la l.length lc] 22 (0,0)),(n1,Obj.cells #[jF q.p] 26 (0,0))] x w2 from hW)
  refine (HMS.out κ1 w2 hb ht).mono ?_
  rintro r w3 ⟨v',rfl,κ2,k1,k2,k3,k4⟩
  have hkp:∀z∈([(n2,Obj.cells #[.slice la l.length lc] 22 (0,0)),(n1,Obj.cells #[jF q.p] 26 (0,0))]:List (Nat × Obj)),w3.heap[z.1]? = some z.2∧κ2 z.1=0:=fun z hz=>⟨k2.1.heap (hkk z hz).1 (fun e=>e (hkk z hz).2),(k2.2 z.1 (Array.getElem?_eq_some_iff.1 (hkk z hz).1).1).trans (hkk z hz).2⟩
  exact hK _ _ _ rfl trivial ⟨κ2,k1,ht.trans k2,hkp⟩ ⟨κ2,k1,ht.trans k2,hkp,⟨_,k3⟩,k4⟩
 refine⟨?_,?_⟩
 ·refine jN 1 rfl ?_
  intro y w2 hW hD K hK
  simp only[jV,zq4,zq5,IsP] at hD
  have h0:=hD.1
  have h1:=hD.2.1
  have h2:=hD.2.2.1
  have h3:=hD.2.2.2.1
  have h4:=hD.2.2.2.2.1
  clear hD
  generalize hAA:jB y _ _=AA at hK⊢
  simp only[jB,Act.put,zq1,zq2,zq3,zq4,zq5,IsP] at hAA
  subst hAA
  simp only[zq4,zq5,IsP] at hK
  simp only[h0,h1,h2,h3] at hK⊢
  clear h0 h1 h2 h3
  obtain⟨κ1,hb,ht,hkk,⟨b,ho⟩,j3⟩:=(show lB B q most flags w κ [(n2,Obj.cells #[.slice la l.length lc] 22 (0,0)),(n1,Obj.cells #[jF q.p] 26 (0,0))] yk L 1 _ w2 from h4)
  obtain⟨va,vc,hv,_⟩:=kD ho
  rw[hv] at ho j3
  simp only[hv] at hK⊢
  have hap:zW κ1 w2 (.slice va L.length vc):=fun ad n c e=>by cases e;exact⟨(aS ho rfl).2,j3 _ rfl⟩
  refine jL ?_
  go_simp
  refine (vG 4 0 (.slice va L.length vc) L (.inr (.inl ⟨by decide,rfl,by kernel_rfl⟩)) ho.vals hap HLN.out HOK.out HGP.out hb).mono ?_
  rintro r w3 ⟨rfl,κ2,k1,k2⟩
  exact hK _ _ _ rfl trivial ⟨κ2,k1,ht.trans k2,fun z hz=>⟨k2.1.heap (hkk z hz).1 (fun e=>e (hkk z hz).2),(k2.2 z.1 (Array.getElem?_eq_some_iff.1 (hkk z hz).1).1).trans (hkk z hz).2⟩⟩ rfl
 trivial
theorem pP {B:Nat} {q:kN} {most flags:Int} {κ:Nat→Nat} {x:BS} {w:World} (la:Option Addr) (lc:Nat) (l:List ByteArray) (hp:yM (fun x=>.string x) w (.slice la l.length lc) l) (ha:zW κ w (.slice la l.length lc)) (hk:∀k∈l,k.size≤1048576) (hl:l.length≤1048576) (hg:x.Good) (h:Bd B q most flags κ x w):Calls prog 20 #[jF q.p,.slice la l.length lc] w fun r w'=>r=.returned (.tuple #[])∧j1 B q most flags κ (x.keyVec most (onF flags 1) l) w w':=by
 have HPA:=zh (And.intro hp ha)
 have HK:=zh (And.intro hk hl)
 have HG:=zh hg
 have HE:Hid (Env B q most flags w κ [(w.heap.size+1,Obj.cells #[.slice la l.length lc] 22 (0,0)),(w.heap.size,Obj.cells #[jF q.p] 26 (0,0))] x ((w.alloc (.cells #[jF q.p] 26)).alloc (.cells #[.slice la l.length lc] 22))):=by
  have hh:=((Env.start h).add (.cells #[jF q.p] 26)).add (.cells #[.slice la l.length lc] 22)
  simp only[World.size_alloc,Nat.add_assoc,Nat.reduceAdd] at hh
  exact hh
 clear h hp ha hk hl hg
 go_enter func20,ntmps20
 go_wp2_with fail
 refine (HE.out.callT fun κ1 hb ht he=>zG hb _ _ (x.keyVec most (onF flags 1) l) (fun hx=>by unfold BS.keyVec;rw[if_neg hx]) (fun _=>enters_of func60 zk rfl _ _) (fun hx=>pO _ _ _ _ _ (lC HPA.out.1 HPA.out.2 ht) (HPA.out.2.tn ht) HK.out.1 HK.out.2 HG.out hx he)).mono ?_
 rintro r w5 ⟨rfl,he⟩
 have HT:=zh he
 clear he
 go_wp2
 go_end0
 exact⟨rfl,HT.out.turn⟩
structure dE where
 q:kN
 most:Int
 flags:Int
 x:BS
def Lv (w0:World) (R:List dE) (Kp:List (Nat × Obj)) (w:World):Prop:=
 ∃κ:Nat→Nat→Nat,(∀i r,R[i]? = some r→Bd w0.heap.size r.q r.most r.flags (κ i) r.x w)∧(∀i j k,i < R.length→j < R.length→i≠j→κ i k≠0→κ j k=0)∧(∀z∈Kp,w.heap[z.1]? = some z.2∧∀i,i < R.length→κ i z.1=0)∧Below w0.heap.size w0 w
section
variable {w0 w w':World} {R:List dE} {Kp:List (Nat × Obj)}
theorem Lv.nil (w0:World):Lv w0 [] [] w0:=⟨fun _ _=>0,fun i r h=>by simp at h,fun i j k h=>by simp at h,fun z h=>by simp at h,Below.refl _ _⟩
theorem Lv.below (h:Lv w0 R Kp w):Below w0.heap.size w0 w:=by obtain⟨_,_,_,_,h⟩:=h;exact h
theorem Lv.kp (h:Lv w0 R Kp w) {n:Nat} {o:Obj} (hm:(n,o)∈Kp):w.heap[n]? = some o:=by obtain⟨κ,_,_,h3,_⟩:=h;exact (h3 _ hm).1
theorem Bd.moved {B:Nat} {q:kN} {most flags:Int} {κ:Nat→Nat} {x:BS} {S:Nat→Prop} (h:Bd B q most flags κ x w) (hm:Moved S w w') (hd:∀k,κ k≠0→¬S k):Bd B q most flags κ x w':=
 have hdc:∀c,c≠0→∀k,κ k=c→¬S k:=fun c hc k hk=>hd k (by rw[hk];exact hc)
 ⟨fun k hk=>⟨(h.lt k hk).1,Nat.lt_of_lt_of_le (h.lt k hk).2 hm.size⟩,h.ok,h.self.kept hm (hdc 1 (by decide)),h.buf.kept hm (hdc 2 (by decide)),h.stk.kept hm (hdc 3 (by decide)),h.keys.kept hm (hdc 4 (by decide)),h.texts.kept hm (hdc 5 (by decide)),h.lists.kept hm (hdc 6 (by decide)),h.names.kept hm (hdc 7 (by decide))⟩
theorem Lv.turn1 {κ:Nat→Nat→Nat} (h1:∀i r,R[i]? = some r→Bd w0.heap.size r.q r.most r.flags (κ i) r.x w) (h2:∀i j k,i < R.length→j < R.length→i≠j→κ i k≠0→κ j k=0) (h3:∀z∈Kp,w.heap[z.1]? = some z.2∧∀i,i < R.length→κ i z.1=0) (h4:Below w0.heap.size w0 w)
 {i:Nat} {r:dE} {x':BS} {Z:List (Nat × Obj)} (hr:R[i]? = some r) (hc:∃κ',Bd w0.heap.size r.q r.most r.flags κ' x' w'∧Tn (κ i) κ' w w'∧∀z∈Z,w.heap.size≤z.1∧w'.heap[z.1]? = some z.2∧κ' z.1=0):Lv w0 (R.set i {r with x:=x'}) (Z++Kp) w':=by
 have hi:i < R.length:=(List.getElem?_eq_some_iff.1 hr).1
 obtain⟨κ',k1,k2,k3⟩:=hc
 have hnew:∀k,κ' k≠0→κ i k≠0∨w.heap.size≤k:=fun k hk=>by
  by_cases hl:k < w.heap.size
  ·exact .inl (by rwa [k2.2 k hl] at hk)
  ·exact .inr (by omega)
 have hlt:∀j,j < R.length→∀k,κ j k≠0→k < w.heap.size:=fun j hj k hk=>((h1 j _ (List.getElem?_eq_getElem hj)).lt k hk).2
 have hoth:∀j,j < R.length→j≠i→∀k,κ j k≠0→¬κ i k≠0:=fun j hj hne k hk e=>hk (h2 i j k hi hj (fun e=>hne e.symm) e)
 refine⟨fun j=>if j=i then κ' else κ j,fun j s hs=>?_,fun a b k ha hb hab hk=>?_,fun z hz=>⟨?_,fun j hj=>?_⟩,?_⟩
 ·by_cases e:j=i
  ·subst e
   rw[List.getElem?_set_self hi] at hs
   cases hs
   simpa using k1
  ·rw[List.getElem?_set_ne (fun h=>e h.symm)] at hs
   have hj:j < R.length:=(List.getElem?_eq_some_iff.1 hs).1
   simp only[if_neg e]
   exact (h1 j s hs).moved k2.1 (hoth j hj e)
 ·rw[List.length_set] at ha hb
  dsimp only at hk⊢
  by_cases ea:a=i
  ·subst ea
   rw[if_pos rfl] at hk
   rw[if_neg (fun h=>hab h.symm)]
   rcases hnew k hk with e|e
   ·exact h2 a b k ha hb hab e
   ·exact Decidable.byContradiction fun hz=>by have:=hlt b hb k hz;omega
  ·rw[if_neg ea] at hk
   by_cases eb:b=i
   ·subst eb
    rw[if_pos rfl]
    refine Decidable.byContradiction fun hz=>?_
    rcases hnew k hz with e|e
    ·exact hoth a ha ea k hk e
    ·have:=hlt a ha k hk;omega
   ·rw[if_neg eb]
    exact h2 a b k ha hb hab hk
 ·rcases List.mem_append.1 hz with hz|hz
  ·exact (k3 z hz).2.1
  ·exact k2.1.heap (h3 z hz).1 (fun e=>e ((h3 z hz).2 i hi))
 ·rw[List.length_set] at hj
  dsimp only
  rcases List.mem_append.1 hz with hz|hz
  ·by_cases e:j=i
   ·rw[if_pos e];exact (k3 z hz).2.2
   ·rw[if_neg e]
    exact Decidable.byContradiction fun hk=>by have:=hlt j hj z.1 hk;have:=(k3 z hz).1;omega
  ·by_cases e:j=i
   ·rw[if_pos e,k2.2 _ (Array.getElem?_eq_some_iff.1 (h3 z hz).1).1]
    exact (h3 z hz).2 i hi
   ·rw[if_neg e]
    exact (h3 z hz).2 j hj
 ·exact Below.trans h4 (k2.1.below h4.size (fun k hk=>((h1 i r hr).lt k hk).1))
theorem Lv.call (h:Lv w0 R Kp w) (i:Nat) {r:dE} {x':BS} {f:Nat} {args:Array Value} {P:Ending→Prop} (hr:R[i]? = some r) (hc:∀κ,Bd w0.heap.size r.q r.most r.flags κ r.x w→(∀z∈Kp,κ z.1=0)→Calls prog f args w fun e w'=>P e∧j1 w0.heap.size r.q r.most r.flags κ x' w w') :
 Calls prog f args w fun e w'=>P e∧Lv w0 (R.set i {r with x:=x'}) Kp w':=by
 have h':=h
 obtain⟨κ,h1,h2,h3,h4⟩:=h
 have hi:i < R.length:=(List.getElem?_eq_some_iff.1 hr).1
 refine (hc (κ i) (h1 i r hr) (fun z hz=>(h3 z hz).2 i hi)).mono fun e w' he=>⟨he.1,?_⟩
 obtain⟨κ',k1,k2⟩:=he.2
 have hL:Lv w0 R Kp w:=⟨κ,h1,h2,h3,h4⟩
 have:=Lv.turn1 h1 h2 h3 h4 (Z:=[]) hr ⟨κ',k1,k2,fun z hz=>by cases hz⟩
 exact this
end
theorem lD {most x:Int} {k:V3} {n:Nat} {s:St} (h:(s.1.length:Int)≤most):((qF most x k n s).1.length:Int)≤most:=by
 unfold qF
 exact yA (yA (qP (x:=x) [k] (kT h)))
theorem putM_le {most:Int} {k:V3} {l:List V3} {s:St} (h:(s.1.length:Int)≤most):((y3 most k l s).2.1.length:Int)≤most:=by
 unfold y3
 dsimp only
 by_cases ha:yX k l≠0
 ·rw[if_pos ha];exact h
 rw[if_neg ha]
 generalize allF l k s.1.length 3=X
 by_cases hb:X=0
 ·rw[if_pos hb];exact h
 rw[if_neg hb]
 have h4:((kP most X l (jU most X l (qF most X k l.length s))).1.length:Int)≤most:=ZS l (qP l (lD h))
 generalize kP most X l (jU most X l (qF most X k l.length s))=s6 at h4⊢
 by_cases hc:s6.2≠0
 ·rw[if_pos hc];exact h4
 ·rw[if_neg hc];exact h4
theorem sT {most:Int} {k:V3} {l:List V3} {s:St} (h:(s.1.length:Int)≤most) (hm:most≤1048576):okV (y3 most k l s).1.1:=by
 unfold y3
 dsimp only
 by_cases ha:yX k l≠0
 ·rw[if_pos ha];exact ok0
 rw[if_neg ha]
 generalize allF l k s.1.length 3=X
 by_cases hb:X=0
 ·rw[if_pos hb];exact ok0
 rw[if_neg hb]
 have h5:=lD (x:=X) (k:=k) (n:=l.length) h
 generalize kP most X l (jU most X l (qF most X k l.length s))=s6
 by_cases hc:s6.2≠0
 ·rw[if_pos hc];exact ok0
 ·rw[if_neg hc]
  refine⟨Int.natCast_nonneg _,?_⟩
  show (List.length _:Int)≤_
  omega
def BS.tableEnd (most:Int) (i:Int) (vals:List V3) (x:BS):BS:=
 if x.e=0 then (({x with s:=(y3 most (x.vals.getD i.toNat (0,0,0)) vals x.s).2}:BS).fail (y3 most (x.vals.getD i.toNat (0,0,0)) vals x.s).1.2).push (y3 most (x.vals.getD i.toNat (0,0,0)) vals x.s).1.1 else x
theorem BS.table_eq (most:Int) (sh:Bool) (list:ByteArray) (keys vals:List V3) (x:BS):x.table most sh list keys vals=if (yB x.lists list).2 && sh then x.tableEnd most (yB x.lists list).1 vals else ({x with s:=(kZ most 4 0 keys x.s).2,e:=kL x.e (kZ most 4 0 keys x.s).1.2,lists:=zL list x.vals.length x.lists,vals:=x.vals++[(kZ most 4 0 keys x.s).1.1]}:BS).tableEnd most x.vals.length vals:=by
 unfold BS.table BS.tableEnd
 dsimp only
 cases hg:((yB x.lists list).2 && sh) with
 | true=>simp only[if_true]
 | false=>simp only[Bool.false_eq_true,if_false]
section
variable {B:Nat} {q:kN} {most flags:Int} {κ κ0 κ1:Nat→Nat} {x y:BS} {w w' w0:World} {Kp:List (Nat × Obj)}
theorem sU {k:V3} {lv:Value} {l:List V3} (h:Bd B q most flags κ x w) (hkk:okV k) (hv:ValsAt w lv l) (ha:zW κ w lv) (kQ:∀c,lv=.slice none 0 c→c=0) (j8:l.length≤1048575) (hok:∀v∈l,okV v) (hs:x.s.2=0) :
 Calls prog 82 #[jF q.b,vV k,lv] w fun r w'=>r=.returned (zS (y3 most k l x.s).1)∧∀κ1,Bd B q most flags κ1 x w→j1 B q most flags κ1 {x with s:=(y3 most k l x.s).2} w w':=by
 refine h.buf_callsA (putM_le h.ok.len) fun o ho hκ=>?_
 have hap:∀ad n c,lv=.slice (some ad) n c→ad.block < w.heap.size∧¬qH q.b o ad.block:=fun ad n c e=>⟨(ha ad n c e).1,fun hk=>by have h1:=hκ _ hk;have h2:=(ha ad n c e).2;omega⟩
 exact put_map x.s k lv l ho (Nat.zero_le _) h.ok.len h.ok.m1 hv kQ j8 hok hkk hap hs
theorem Env.mput {k:V3} {lv:Value} {l:List V3} (h:Env B q most flags w0 κ0 Kp x w) (hkk:okV k) (hv:ValsAt w0 lv l) (ha:zW κ0 w0 lv) (kQ:∀c,lv=.slice none 0 c→c=0) (j8:l.length≤1048575) (hok:∀v∈l,okV v) (hs:x.s.2=0) :
 Calls prog 82 #[jF q.b,vV k,lv] w fun r w'=>r=.returned (zS (y3 most k l x.s).1)∧i6 B q most flags w0 κ0 x {x with s:=(y3 most k l x.s).2} w w':=by
 obtain⟨κ,h1,h2,h3⟩:=h
 have hv2:ValsAt w lv l:=JS hv h2.1 (fun ad n c e hk=>hk (ha ad n c e).2)
 have ha2:zW κ w lv:=fun ad n c e=>⟨Nat.lt_of_lt_of_le (ha ad n c e).1 h2.1.size,(h2.2 _ (ha ad n c e).1).trans (ha ad n c e).2⟩
 exact (sU h1 hkk hv2 ha2 kQ j8 hok hs).mono fun r w' hr=>⟨hr.1,oG hr.2⟩
theorem Env.row8 (h:Env B q most flags w0 κ0 Kp x w):∃va vc,w.heap[q.p]? = some (Y9 q flags (.slice va x.vals.length vc) x.e)∧jO w 0 (.slice va x.vals.length vc) x.vals:=by
 obtain⟨κ,h1,_⟩:=h
 obtain⟨_,vv,k1,k2,_⟩:=h1.self
 obtain⟨va,vc,rfl,_⟩:=kD k2
 exact⟨va,vc,k1,k2⟩
theorem Env.vals_at (h:Env B q most flags w0 κ0 Kp x w) {vv:Value} {e:Int} (hr:w.heap[q.p]? = some (Y9 q flags vv e)):jO w 0 vv x.vals:=by
 obtain⟨κ,h1,_⟩:=h
 obtain⟨_,v2,k1,k2,_⟩:=h1.self
 rw[hr] at k1
 injection k1 with k1
 injection k1 with k1
 have:vv=v2:=Option.some.inj (by exact congrArg (fun a:Array Value=>a[8]?) k1)
 subst this
 exact k2
theorem sV {w:World} {B:Nat} {a:Option Addr} {n c:Nat} {l:List V3} (h:jO w B (.slice a n c) l) (hl:0 < l.length):∃g,a=some ⟨g,0,none⟩:=by
 rcases h.2 with ⟨e,h0⟩|⟨g,cap,cur,e,_⟩
 ·omega
 ·cases e;exact⟨g,rfl⟩
theorem Env.val3 (h:Env B q most flags w0 κ0 Kp x w) {vb n vc:Nat} {e:Int} (hr:w.heap[q.p]? = some (Y9 q flags (.slice (some ⟨vb,0,none⟩) n vc) e)) {i:Nat} {k:V3} (hk:x.vals[i]? = some k):w.cell? ⟨vb,i*3,none⟩=some (.int .i64 k.1)∧w.cell? ⟨vb,i*3+1,none⟩=some (.int .i64 k.2.1)∧w.cell? ⟨vb,i*3+2,none⟩=some (.int .u64 k.2.2):=by
 obtain⟨_,_,e1,hcl⟩:=(h.vals_at hr).vals
 obtain⟨_,_,e2,t0,t1,t2⟩:=hcl i _ hk
 injection e1 with e1 _ _
 rw[← e1] at e2
 cases e2
 simp only[Nat.zero_add] at t0 t1 t2
 exact⟨t0,t1,t2⟩
def EnvI (B:Nat) (q:kN) (most flags:Int) (w0:World) (κ0:Nat→Nat) (Kp:List (Nat × Obj)) (vv:Value) (e:Int) (xs:List BS) (z:BS) (p:Nat) (w:World):Prop:=yD B q most flags w0 κ0 Kp xs z p w∧(p=0→w.heap[q.p]? = some (Y9 q flags vv e))
theorem EnvI.grew {vv:Value} {e:Int} {xs:List BS} {z:BS}:∀(p:Nat) (w w':World),jA w w'→EnvI B q most flags w0 κ0 Kp vv e xs z p w→EnvI B q most flags w0 κ0 Kp vv e xs z p w':=fun p w w' hg h=>⟨yD.grew p w w' hg h.1,fun hp=>hg.heap (h.2 hp)⟩
end
theorem mZ {B:Nat} {q:kN} {most flags:Int} {κ:Nat→Nat} {x:BS} {w:World} (n1 n2 n3:Nat) (i:Nat) (lv:Value) (l:List V3) (hv:ValsAt w lv l) (ha:zW κ w lv) (kQ:∀c,lv=.slice none 0 c→c=0) (j8:l.length≤1048575) (hok:∀v∈l,okV v) (hi:i < x.vals.length) (hg:x.Good) (hx:x.e=0) (he:Env B q most flags w κ [(n3,Obj.cells #[lv] 57 (0,0)),(n2,Obj.cells #[.int .i64 i] 3 (0,0)),(n1,Obj.cells #[jF q.p] 26 (0,0))] x w):Calls prog 81 #[.pointer (some ⟨n1,0,none⟩),.pointer (some ⟨n2,0,none⟩),.pointer (some ⟨n3,0,none⟩)] w fun r w'=>r=.returned (.tuple #[])∧j1 B q most flags κ (x.tableEnd most i l) w w':=by
 have HE:=zh he
 have HM3:Hid ((n3,Obj.cells #[lv] 57 (0,0))∈([(n3,Obj.cells #[lv] 57 (0,0)),(n2,Obj.cells #[.int .i64 i] 3 (0,0)),(n1,Obj.cells #[jF q.p] 26 (0,0))]:List (Nat × Obj))):=List.mem_cons_self
 have HM2:Hid ((n2,Obj.cells #[.int .i64 i] 3 (0,0))∈([(n3,Obj.cells #[lv] 57 (0,0)),(n2,Obj.cells #[.int .i64 i] 3 (0,0)),(n1,Obj.cells #[jF q.p] 26 (0,0))]:List (Nat × Obj))):=List.mem_cons_of_mem _ (List.mem_cons_self)
 have HM1:Hid ((n1,Obj.cells #[jF q.p] 26 (0,0))∈([(n3,Obj.cells #[lv] 57 (0,0)),(n2,Obj.cells #[.int .i64 i] 3 (0,0)),(n1,Obj.cells #[jF q.p] 26 (0,0))]:List (Nat × Obj))):=List.mem_cons_of_mem _ (List.mem_cons_of_mem _ (List.mem_cons_self))
 obtain⟨k,hkv⟩:∃k,x.vals[i]? = some k:=⟨_,List.getElem?_eq_getElem hi⟩
 have HKO:Hid (okV k):=he.ok.okL k (List.mem_of_getElem? hkv)
 have hgd:x.vals.getD ((i:Nat):Int).toNat (0,0,0)=k:=by rw[Int.toNat_natCast,List.getD_eq_getElem?_getD,hkv];rfl
 have HPV:Hid (∀Kp w2,Env B q most flags w κ Kp x w2→Calls prog 82 #[jF q.b,vV k,lv] w2 fun r w'=>r=.returned (zS (y3 most k l x.s).1)∧i6 B q most flags w κ x {x with s:=(y3 most k l x.s).2} w2 w'):=fun Kp w2 h=>h.mput HKO.out hv ha kQ j8 hok (hg.s0 hx)
 have HVO:Hid (okV (y3 most k l x.s).1.1):=sT he.ok.len he.ok.m1
 have HY:Hid (x.tableEnd most i l=(({x with s:=(y3 most k l x.s).2}:BS).fail (y3 most k l x.s).1.2).push (y3 most k l x.s).1.1):=by show _=_;unfold BS.tableEnd;rw[if_pos hx,hgd]
 generalize y3 most k l x.s=PP at HPV HVO HY
 obtain⟨⟨⟨ty,wd,n⟩,ee⟩,s1⟩:=PP
 obtain⟨k0,k1,k2⟩:=k
 have HKI:=zh hkv
 obtain⟨va,vc,jJ,j3⟩:=he.row8
 obtain⟨vb,rfl⟩:=sV j3 (by omega)
 have HROW:=zh jJ
 have hii:(i:Int) < x.vals.length:=by omega
 clear he hg hv ha hok kQ hgd hkv jJ j3 j8
 obtain⟨ev,hev⟩:∃ev,x.e=ev:=⟨_,rfl⟩
 rw[hev] at HROW
 clear hev hx
 go_enter func81,ntmps81
 go_wp2_with fail
 refine jM [14,19] (EnvI B q most flags w κ [(n3,Obj.cells #[lv] 57 (0,0)),(n2,Obj.cells #[.int .i64 i] 3 (0,0)),(n1,Obj.cells #[jF q.p] 26 (0,0))] (.slice (some ⟨vb,0,none⟩) x.vals.length vc) ev [x] ({x with s:=s1})) (fun _ w w'=>jA w w') (NewT 18 (yU B q most flags w κ [(n3,Obj.cells #[lv] 57 (0,0)),(n2,Obj.cells #[.int .i64 i] 3 (0,0)),(n1,Obj.cells #[jF q.p] 26 (0,0))] (.cells #[.int .i64 0,.int .i64 0,.int .u64 0] 65 (0,0)) (x)) (yU B q most flags w κ [(n3,Obj.cells #[lv] 57 (0,0)),(n2,Obj.cells #[.int .i64 i] 3 (0,0)),(n1,Obj.cells #[jF q.p] 26 (0,0))] (.cells #[.int .i64 0,.int .i64 0,.int .u64 0] 65 (0,0)) ({x with s:=s1})) (yU B q most flags w κ [(n3,Obj.cells #[lv] 57 (0,0)),(n2,Obj.cells #[.int .i64 i] 3 (0,0)),(n1,Obj.cells #[jF q.p] 26 (0,0))] (.cells #[.int .i64 ty,.int .i64 wd,.int .u64 n] 65 (0,0)) ({x with s:=s1}))) [[],[0],[0,1],[0,1,2],[0,1,2,3],[],[5],[5,6],[5,6,7],[5,6,7,8],[],[5,6,7,8,9,10],[5,6,7,8,9,10,11],[],[0,1,2,3,4,5,6,7,8,9,10,11,12,13],[0,1,2,3,4,5,6,7,8,9,10,11,12,13,14],[0,1,2,3,4,5,6,7,8,9,10,11,12,13,14,15],[0,1,2,3,4,5,6,7,8,9,10,11,12,13,14,15],[],[0,1,2,3,4,5,6,7,8,9,10,11,12,13,14,15,16,18],[0,1,2,3,4,5,6,7,8,9,10,11,12,13,14,15,16,17,18,19]] [[(11,5),(12,6),(13,7),(14,8),(15,9),(16,10),(17,11),(18,12),(19,13),(3,18)],[(6,0),(11,5),(12,6),(13,7),(14,8),(15,9),(16,10),(17,11),(18,12),(19,13),(3,18)],[(6,0),(7,1),(11,5),(12,6),(13,7),(14,8),(15,9),(16,10),(17,11),(18,12),(19,13),(3,18)],[(6,0),(7,1),(8,2),(11,5),(12,6),(13,7),(14,8),(15,9),(16,10),(17,11),(18,12),(19,13),(3,18)],[(6,0),(7,1),(8,2),(9,3),(11,5),(12,6),(13,7),(14,8),(15,9),(16,10),(17,11),(18,12),(19,13),(3,18)],[(6,0),(7,1),(8,2),(9,3),(10,4),(16,10),(19,13),(3,18)],[(6,0),(7,1),(8,2),(9,3),(10,4),(11,5),(16,10),(19,13),(3,18)],[(6,0),(7,1),(8,2),(9,3),(10,4),(11,5),(12,6),(16,10),(19,13),(3,18)],[(6,0),(7,1),(8,2),(9,3),(10,4),(11,5),(12,6),(13,7),(16,10),(19,13),(3,18)],[(6,0),(7,1),(8,2),(9,3),(10,4),(11,5),(12,6),(13,7),(14,8),(16,10),(19,13),(3,18)],[(6,0),(7,1),(8,2),(9,3),(10,4),(11,5),(12,6),(13,7),(14,8),(15,9),(19,13),(3,18)],[(6,0),(7,1),(8,2),(9,3),(10,4),(11,5),(12,6),(13,7),(14,8),(15,9),(16,10),(19,13),(3,18)],[(6,0),(7,1),(8,2),(9,3),(10,4),(11,5),(12,6),(13,7),(14,8),(15,9),(16,10),(17,11),(19,13),(3,18)],[(6,0),(7,1),(8,2),(9,3),(10,4),(11,5),(12,6),(13,7),(14,8),(15,9),(16,10),(17,11),(18,12),(3,18)],[(6,0),(7,1),(8,2),(9,3),(10,4),(11,5),(12,6),(13,7),(14,8),(15,9),(16,10),(17,11),(18,12),(19,13),(3,18)],[(6,0),(7,1),(8,2),(9,3),(10,4),(11,5),(12,6),(13,7),(14,8),(15,9),(16,10),(17,11),(18,12),(19,13),(20,14),(3,18)],[(6,0),(7,1),(8,2),(9,3),(10,4),(11,5),(12,6),(13,7),(14,8),(15,9),(16,10),(17,11),(18,12),(19,13),(20,14),(5,15),(22,17),(3,18)],[(6,0),(7,1),(8,2),(9,3),(10,4),(11,5),(12,6),(13,7),(14,8),(15,9),(16,10),(17,11),(18,12),(19,13),(20,14),(5,15),(21,16),(3,18)],[(6,0),(7,1),(8,2),(9,3),(10,4),(11,5),(12,6),(13,7),(14,8),(15,9),(16,10),(17,11),(18,12),(19,13),(20,14),(5,15),(21,16),(22,17)],[(6,0),(7,1),(8,2),(9,3),(10,4),(11,5),(12,6),(13,7),(14,8),(15,9),(16,10),(17,11),(18,12),(19,13),(20,14),(5,15),(21,16),(22,17),(3,18)],[(6,0),(7,1),(8,2),(9,3),(10,4),(11,5),(12,6),(13,7),(14,8),(15,9),(16,10),(17,11),(18,12),(19,13),(20,14),(5,15),(21,16),(22,17),(3,18)]] [(6,0),(7,1),(8,2),(9,3),(10,4),(11,5),(12,6),(13,7),(14,8),(15,9),(16,10),(17,11),(18,12),(19,13),(20,14),(5,15),(21,16),(22,17),(3,18),(4,20)]
  [IsP (jF q.p),IsP (jF q.p),IsP (jF q.p),IsP (jF q.p),IsP (jF q.b),IsP (jF q.p),IsP (jF q.p),IsP (.pointer (some ⟨q.p,3,none⟩)),IsP (.pointer (some ⟨q.p,8,none⟩)),IsP (.slice (some ⟨vb,0,none⟩) x.vals.length vc),IsP (.int .i64 i),IsP (.pointer (some ⟨vb,i*3,none⟩)),IsP (.agg #[.int .i64 k0,.int .i64 k1,.int .u64 k2]),IsP (lv),IsP (.tuple #[.agg #[.int .i64 ty,.int .i64 wd,.int .u64 n],.int .i64 ee]),IsP (.tuple #[.agg #[.int .i64 ty,.int .i64 wd,.int .u64 n],.int .i64 ee]),IsP (.agg #[.int .i64 ty,.int .i64 wd,.int .u64 n]),IsP (.int .i64 ee),QA (yU B q most flags w κ [(n3,Obj.cells #[lv] 57 (0,0)),(n2,Obj.cells #[.int .i64 i] 3 (0,0)),(n1,Obj.cells #[jF q.p] 26 (0,0))] (.cells #[.int .i64 0,.int .i64 0,.int .u64 0] 65 (0,0)) (x)) (yU B q most flags w κ [(n3,Obj.cells #[lv] 57 (0,0)),(n2,Obj.cells #[.int .i64 i] 3 (0,0)),(n1,Obj.cells #[jF q.p] 26 (0,0))] (.cells #[.int .i64 0,.int .i64 0,.int .u64 0] 65 (0,0)) ({x with s:=s1})) (yU B q most flags w κ [(n3,Obj.cells #[lv] 57 (0,0)),(n2,Obj.cells #[.int .i64 i] 3 (0,0)),(n1,Obj.cells #[jF q.p] 26 (0,0))] (.cells #[.int .i64 ty,.int .i64 wd,.int .u64 n] 65 (0,0)) ({x with s:=s1})),fun _ _ _=>True,IsP (.int .i64 ee)]
  zk (EnvI.grew) (⟨HE.out.grew (jA.refl _).drew,fun _=>(jA.refl w).drew.heap HROW.out⟩) zk zk ⟨jC,jC,jC,jC,jC,jC,jC,jC,jC,jC,jC,jC,jC,jC,jC,jC,jC,jC,QA.st yU.grew yU.grew yU.grew,⟨fun _ _ _ _ _ h=>h,fun _ _ _ _ _ h=>h⟩,jC,trivial⟩ rfl ?_ ?_
 ·intro y w2 hW hF
  simp only[zB,IsP,Nat.reduceAdd,List.length_cons,List.length_nil] at hF hW
  have h0:=hF.1
  have h1:=hF.2.1
  have h2:=hF.2.2.1
  have h3:=hF.2.2.2.1
  have h4:=hF.2.2.2.2.1
  have h5:=hF.2.2.2.2.2.1
  have h6:=hF.2.2.2.2.2.2.1
  have h7:=hF.2.2.2.2.2.2.2.1
  have h8:=hF.2.2.2.2.2.2.2.2.1
  have h9:=hF.2.2.2.2.2.2.2.2.2.1
  have h10:=hF.2.2.2.2.2.2.2.2.2.2.1
  have h11:=hF.2.2.2.2.2.2.2.2.2.2.2.1
  have h12:=hF.2.2.2.2.2.2.2.2.2.2.2.2.1
  have h13:=hF.2.2.2.2.2.2.2.2.2.2.2.2.2.1
  have h14:=hF.2.2.2.2.2.2.2.2.2.2.2.2.2.2.1
  have h15:=hF.2.2.2.2.2.2.2.2.2.2.2.2.2.2.2.1
  have h16:=hF.2.2.2.2.2.2.2.2.2.2.2.2.2.2.2.2.1
  have h17:=hF.2.2.2.2.2.2.2.2.2.2.2.2.2.2.2.2.2.1
  have h18:=hF.2.2.2.2.2.2.2.2.2.2.2.2.2.2.2.2.2.2.1
  have h20:=hF.2.2.2.2.2.2.2.2.2.2.2.2.2.2.2.2.2.2.2.2.1
  clear hF
  simp only[jB,Act.put,zq1,zq2,zq3,zq4,zq5]
  simp only[h0,h1,h2,h3,h4,h5,h6,h7,h8,h9,h10,h11,h12,h13,h14,h15,h16,h17,h20]
  clear h0 h1 h2 h3 h4 h5 h6 h7 h8 h9 h10 h11 h12 h13 h14 h15 h16 h17 h20
  obtain⟨nn,e18,hE⟩:=(show QA _ _ _ 2 _ _ from h18)
  simp only[e18]
  have HE2:=zh hE.2
  clear h18 e18 hE hW
  have HM1b:Hid ((n1,Obj.cells #[jF q.p] 26 (0,0))∈(((nn,Obj.cells #[.int .i64 ty,.int .i64 wd,.int .u64 n] 65 (0,0))::[(n3,Obj.cells #[lv] 57 (0,0)),(n2,Obj.cells #[.int .i64 i] 3 (0,0)),(n1,Obj.cells #[jF q.p] 26 (0,0))]):List (Nat × Obj))):=List.mem_cons_of_mem _ HM1.out
  have cb:=Env.cell HE2.out HM1b.out 0 _ rfl
  go_wp2_with fail
  refine (HE2.out.call fun κ1 hb hz=>kV ee hb).mono ?_
  rintro r w3 ⟨rfl,he⟩
  have HE3:=zh he
  clear he cb
  go_wp2_with fail
  refine jM [4] (yD B q most flags w κ ((nn,Obj.cells #[.int .i64 ty,.int .i64 wd,.int .u64 n] 65 (0,0))::[(n3,Obj.cells #[lv] 57 (0,0)),(n2,Obj.cells #[.int .i64 i] 3 (0,0)),(n1,Obj.cells #[jF q.p] 26 (0,0))]) [(({x with s:=s1}:BS).fail ee)] ((({x with s:=s1}:BS).fail ee).push (ty,wd,n))) (fun _ w w'=>jA w w') ((fun p (_:Nat→Value)=>(fun _ _ _=>True) p)) [[],[0],[0,1],[],[0,1,2,3]] [[(31,3)],[(28,0),(31,3)],[(28,0),(29,1),(31,3)],[(28,0),(29,1),(30,2)],[(28,0),(29,1),(30,2),(31,3)]] [(28,0),(29,1),(30,2),(31,3),(32,4)]
   [IsP (jF q.p),IsP (jF q.p),IsP (jF q.p),IsP (.agg #[.int .i64 ty,.int .i64 wd,.int .u64 n]),IsP (.tuple #[])]
   zk (yD.grew) (HE3.out.grew (jA.refl _).drew) zk zk ⟨jC,jC,jC,jC,jC,trivial⟩ rfl ?_ ?_
  ·intro y w2 hW hF
   simp only[zB,IsP,Nat.reduceAdd,List.length_cons,List.length_nil] at hF hW
   have h0:=hF.1
   have h1:=hF.2.1
   have h2:=hF.2.2.1
   have h3:=hF.2.2.2.1
   have h4:=hF.2.2.2.2.1
   clear hF
   simp only[jB,Act.put,zq1,zq2,zq3,zq4,zq5]
   simp only[h0,h1,h2,h3,h4]
   clear h0 h1 h2 h3 h4
   go_wp2
   go_end0
   exact⟨rfl,by rw[HY.out];exact Env.turn hW⟩
  refine⟨?_,?_⟩
  ·refine jH 0 0 ?_
   intro y w2 p hlo hhi hW hD K hK
   have dq:=Env.cell hW HM1b.out 0 _ rfl
   exact zqr
  refine⟨zqd,zqd,?_⟩
  refine⟨?_,?_⟩
  ·refine jH 0 0 ?_
   intro y w2 p hlo hhi hW hD K hK
   have dd0:=Env.cell hW List.mem_cons_self 0 _ rfl
   have dd1:=Env.cell hW List.mem_cons_self 1 _ rfl
   have dd2:=Env.cell hW List.mem_cons_self 2 _ rfl
   exact zqr
  refine⟨?_,?_⟩
  ·refine jN 0 rfl ?_
   intro y w2 hW hD K hK
   simp only[jV,zq4,zq5,IsP] at hD
   have h0:=hD.1
   have h1:=hD.2.1
   have h2:=hD.2.2.1
   have h3:=hD.2.2.2.1
   clear hD
   generalize hAA:jB y _ _=AA at hK⊢
   simp only[jB,Act.put,zq1,zq2,zq3,zq4,zq5,IsP] at hAA
   subst hAA
   simp only[zq4,zq5,IsP] at hK
   simp only[h0,h1,h2,h3] at hK⊢
   clear h0 h1 h2 h3
   refine jL ?_
   go_simp
   refine (Env.call hW fun κ1 hb hz=>qR (ty,wd,n) HVO.out hb).mono ?_
   rintro r w3 ⟨rfl,he⟩
   exact hK _ _ _ rfl trivial he rfl
  trivial
 refine⟨?_,?_⟩
 ·refine jH 0 0 ?_
  intro y w2 p hlo hhi hW hD K hK
  have d10:=Env.cell hW.1 HM1.out 0 _ rfl
  exact zqr
 refine⟨zqd,zqd,zqd,?_⟩
 refine⟨?_,?_⟩
 ·refine jH 0 0 ?_
  intro y w2 p hlo hhi hW hD K hK
  have dd:=Env.at0 hW.1
  exact zqr
 refine⟨?_,?_⟩
 ·refine jH 0 0 ?_
  intro y w2 p hlo hhi hW hD K hK
  have d10:=Env.cell hW.1 HM1.out 0 _ rfl
  exact zqr
 refine⟨zqd,zqd,zqd,?_⟩
 refine⟨?_,?_⟩
 ·refine jH 0 0 ?_
  intro y w2 p hlo hhi hW hD K hK
  obtain rfl:p=0:=by omega
  have dd:=jI (hW.2 rfl) 8 _ rfl
  exact zqr
 refine⟨?_,?_⟩
 ·refine jH 0 0 ?_
  intro y w2 p hlo hhi hW hD K hK
  have d20:=Env.cell hW.1 HM2.out 0 _ rfl
  exact zqr
 refine⟨zqd,?_⟩
 refine⟨?_,?_⟩
 ·refine jH 0 0 ?_
  intro y w2 p hlo hhi hW hD K hK
  obtain rfl:p=0:=by omega
  have tt:=Env.val3 hW.1 (hW.2 rfl) HKI.out
  have t0:w2.cell? ⟨vb,i*3,none⟩=some (.int .i64 k0):=tt.1
  have t1:w2.cell? ⟨vb,i*3+1,none⟩=some (.int .i64 k1):=tt.2.1
  have t2:w2.cell? ⟨vb,i*3+2,none⟩=some (.int .u64 k2):=tt.2.2
  clear tt
  exact zqr
 refine⟨?_,?_⟩
 ·refine jH 0 0 ?_
  intro y w2 p hlo hhi hW hD K hK
  have d30:=Env.cell hW.1 HM3.out 0 _ rfl
  exact zqr
 refine⟨?_,?_⟩
 ·refine jN 0 rfl ?_
  intro y w2 hW hD K hK
  simp only[jV,zq4,zq5,IsP] at hD
  have h0:=hD.1
  have h1:=hD.2.1
  have h2:=hD.2.2.1
  have h3:=hD.2.2.2.1
  have h4:=hD.2.2.2.2.1
  have h5:=hD.2.2.2.2.2.1
  have h6:=hD.2.2.2.2.2.2.1
  have h7:=hD.2.2.2.2.2.2.2.1
  have h8:=hD.2.2.2.2.2.2.2.2.1
  have h9:=hD.2.2.2.2.2.2.2.2.2.1
  have h10:=hD.2.2.2.2.2.2.2.2.2.2.1
  have h11:=hD.2.2.2.2.2.2.2.2.2.2.2.1
  have h12:=hD.2.2.2.2.2.2.2.2.2.2.2.2.1
  have h13:=hD.2.2.2.2.2.2.2.2.2.2.2.2.2.1
  clear hD
  generalize hAA:jB y _ _=AA at hK⊢
  simp only[jB,Act.put,zq1,zq2,zq3,zq4,zq5,IsP] at hAA
  subst hAA
  simp only[zq4,zq5,IsP] at hK
  simp only[h0,h1,h2,h3,h4,h5,h6,h7,h8,h9,h10,h11,h12,h13] at hK⊢
  clear h0 h1 h2 h3 h4 h5 h6 h7 h8 h9 h10 h11 h12 h13
  refine jL ?_
  go_simp
  refine (HPV.out _ w2 hW.1).mono ?_
  rintro r w3 ⟨rfl,hA⟩
  exact hK _ _ _ rfl (yU.all hA) ⟨hA _ hW.1,fun h=>absurd h (by decide)⟩ rfl
 refine⟨zqd,zqd,zqd,?_⟩
 refine⟨?_,?_⟩
 ·refine jH 0 1 ?_
  intro y w2 p hlo hhi hW hD K hK
  clear hD
  generalize hAA:jB y _ _=AA at hK⊢
  simp only[jB,Act.put,zq1,zq2,zq3,zq4,zq5,IsP] at hAA
  subst hAA
  simp only[zq4,zq5,IsP] at hK
  refine jL ?_
  go_simp
  rcases (by omega:p=0∨p=1) with rfl|rfl
  ·exact hK _ _ _ rfl ((jA.refl _).alloc _) (show QA _ _ _ 0 _ _ from ⟨_,rfl,Env.newE hW.1 _⟩)
  ·exact hK _ _ _ rfl ((jA.refl _).alloc _) (show QA _ _ _ 1 _ _ from ⟨_,rfl,Env.newE hW.1 _⟩)
 refine⟨?_,?_⟩
 ·refine jN 1 rfl ?_
  intro y w2 hW hD K hK
  simp only[jV,zq4,zq5,IsP] at hD
  have h0:=hD.1
  have h1:=hD.2.1
  have h2:=hD.2.2.1
  have h3:=hD.2.2.2.1
  have h4:=hD.2.2.2.2.1
  have h5:=hD.2.2.2.2.2.1
  have h6:=hD.2.2.2.2.2.2.1
  have h7:=hD.2.2.2.2.2.2.2.1
  have h8:=hD.2.2.2.2.2.2.2.2.1
  have h9:=hD.2.2.2.2.2.2.2.2.2.1
  have h10:=hD.2.2.2.2.2.2.2.2.2.2.1
  have h11:=hD.2.2.2.2.2.2.2.2.2.2.2.1
  have h12:=hD.2.2.2.2.2.2.2.2.2.2.2.2.1
  have h13:=hD.2.2.2.2.2.2.2.2.2.2.2.2.2.1
  have h14:=hD.2.2.2.2.2.2.2.2.2.2.2.2.2.2.1
  have h15:=hD.2.2.2.2.2.2.2.2.2.2.2.2.2.2.2.1
  have h16:=hD.2.2.2.2.2.2.2.2.2.2.2.2.2.2.2.2.1
  have h18:=hD.2.2.2.2.2.2.2.2.2.2.2.2.2.2.2.2.2.1
  clear hD
  generalize hAA:jB y _ _=AA at hK⊢
  simp only[jB,Act.put,zq1,zq2,zq3,zq4,zq5,IsP] at hAA
  subst hAA
  simp only[zq4,zq5,IsP] at hK
  simp only[h0,h1,h2,h3,h4,h5,h6,h7,h8,h9,h10,h11,h12,h13,h14,h15,h16] at hK⊢
  clear h0 h1 h2 h3 h4 h5 h6 h7 h8 h9 h10 h11 h12 h13 h14 h15 h16
  obtain⟨nn,e18,hE⟩:=h18
  simp only[e18] at hK⊢
  have jJ:=hE.2.kp List.mem_cons_self
  have f0:=jE jJ 0
  have f1:=jE jJ 1
  have f2:=jE jJ 2
  have c0:=jI jJ 0 _ rfl
  have c1:=jI jJ 1 _ rfl
  have c2:=jI jJ 2 _ rfl
  clear jJ
  refine jL ?_
  go_simp
  have hs:=yU.tell hE (mV w2 nn (.int .i64 ty) (.int .i64 wd) (.int .u64 n)) (set3 (hE.2.kp List.mem_cons_self))
  exact hK _ undef _ rfl (fun n' e' _=>by rw[e18] at e';cases e';exact hs) ⟨hs.env,fun h=>absurd h (by decide)⟩ trivial
 refine⟨zqd,?_⟩
 trivial
theorem lE {o:Oper} {a:Act} {K:Act→World→Prop} {Q:Exit→Act→World→Prop} (w:World) (s x:Operand) (ho:o.op=.call {callee:=.builtin .append,args:=#[s,x],argTypes:=#[57,57]})
 (v:Value) (l:List V3) (hs:a.eval s=v) (j3:jO w 0 v l) (sv:Value) (z:V3) (g:Nat) (hx:a.eval x=sv) (hsv:ValsAt w sv [z]) (hg:sv=.slice (some ⟨g,0,none⟩) 1 1) (j8:l.length≤1048577)
 (h:∀v' w',jO w' 0 v' (l++[z])→w.grownBy w' v.ownBlock→zO w v.ownBlock v'.ownBlock→K (a.put o.dst v') w'):o.wp prog a w K Q:=by
 obtain⟨i0,hi,hz0,hz1,hz2⟩:=dY
 subst hg
 obtain⟨v',w',hr,h2,h3,h4⟩:=y6 (P:=prog) w 0 57 o.type 65 i0 (.agg #[.int .i64 0,.int .i64 0,.int .u64 0]) 3 24 underlying57 hi hz0 hz1 hz2 rfl (by decide) v l.length _ j3 ⟨g,0,none⟩ 1 1 (kM [z]) (vX [z]) (bN hsv) (QV [z]) (by unfold maxLen;omega) (by omega) (Nat.zero_le _)
 refine Lib.wp_append_run w s x 57 57 ho v _ hs hx v' w' hr (h v' w' ?_ h3 h4)
 unfold jO
 rw[List.length_append,ZC]
 exact h2
section
variable {B:Nat} {q:kN} {most flags:Int} {κ κ0 κ1:Nat→Nat} {x y:BS} {w w' w0 wa:World} {Kp:List (Nat × Obj)}
def ApW (wa:World) (vv:Value) (P2:World→Prop):Nat→World→Prop
 | 0,w=>jA wa w
 | 1,w=>Moved (fun k=>some k=vv.ownBlock) wa w
 | _+2,w=>P2 w
theorem ApW.grew {vv:Value} {P2:World→Prop} (h2:∀w w',jA w w'→P2 w→P2 w'):∀(p:Nat) (w w':World),jA w w'→ApW wa vv P2 p w→ApW wa vv P2 p w'
 | 0,_,_,hg,h=>jA.trans h hg
 | 1,_,_,hg,h=>Moved.trans h (Moved.of_grew (S:=fun _=>False) hg) (fun _ _ e=>e.elim)
 | _+2,_,_,hg,h=>h2 _ _ hg h
theorem ApW.old {vv:Value} {P2:World→Prop} {p:Nat} (h:ApW wa vv P2 p w) (hp:p≤1) {k:Nat} {o:Obj} (ho:wa.heap[k]? = some o) (hne:¬some k=vv.ownBlock):w.heap[k]? = some o:=by
 match p,h,hp with
 | 0,h,_=>exact jA.heap h ho
 | 1,h,_=>exact Moved.heap h ho hne
def ApF (wa:World) (vv:Value) (L':List V3):Nat→Value→World→Prop
 | 0,_,_=>False
 | 1,v,w=>jO w 0 v L'∧zO wa vv.ownBlock v.ownBlock
 | _+2,_,_=>True
theorem ApF.st {vv:Value} {L':List V3}:(∀p v w w',(fun (_:Nat) w w'=>jA w w') p w w'→ApF wa vv L' p v w→ApF wa vv L' p v w')∧∀p v w w',(fun _ _ _=>True:Nat→World→World→Prop) p w w'→ApF wa vv L' p v w→ApF wa vv L' (p+1) v w':=by
 refine⟨fun p v w w' hg h=>?_,fun p v w w' _ h=>?_⟩
 ·match p,h with
  | 1,h=>exact⟨yQ h.1 hg,h.2⟩
  | _+2,_=>trivial
 ·match p,h with
  | 1,_=>trivial
  | _+2,_=>trivial
theorem Bd.setVals {vv v':Value} {L':List V3} (h:Bd B q most flags κ x wa) (hr:wa.heap[q.p]? = some (Y9 q flags vv x.e)) (hm:Moved (fun k=>some k=vv.ownBlock) wa w) (ho:jO w 0 v' L') (hn:zO wa vv.ownBlock v'.ownBlock) (hl:L'.length≤1048577) (hok:∀u∈L',okV u) :
 j1 B q most flags κ {x with vals:=L'} wa (w.setCell ⟨q.p,8,none⟩ v'):=by
 obtain⟨h0,v2,h1,h2,h3⟩:=h.self
 have e:v2=vv:=by
  rw[hr] at h1
  injection h1 with h1
  injection h1 with h1
  exact (Option.some.inj (by exact congrArg (fun a:Array Value=>a[8]?) h1)).symm
 subst e
 have hne:¬some q.p=v2.ownBlock:=fun e=>zZ h2 hr (by decide) e.symm
 have hrw:w.heap[q.p]? = some (Y9 q flags v2 x.e):=hm.heap hr hne
 have hm2:Moved (fun k=>k=q.p) w (w.setCell ⟨q.p,8,none⟩ v'):=zK w q.p 8 _
 have hM:Moved (fun k=>κ k=1) wa (w.setCell ⟨q.p,8,none⟩ v'):=(hm.mono (fun j _ hj=>h3 j hj.symm)).trans hm2 (fun j _ hj=>by show κ j=1;rw[hj];exact h0)
 refine h.self_step (S':=fun k=>κ k=1∨v'.ownBlock=some k) hl hok ⟨.inl h0,v',?_,hm2.owns ho (fun k hk e=>zZ ho hrw (by decide) (by rw[hk,e])),fun g hg=>.inr hg⟩ (fun k hk=>?_) hM
 ·have:=heap_setCell_same w q.p 8 _ _ v' hrw
  simpa using this
 ·rcases hk with hk|hk
  ·exact .inl hk
  ·rcases hn k hk with e|e
   ·exact .inl (h3 k e)
   ·exact .inr ⟨e,Nat.lt_of_lt_of_le (JE ho hk) hm2.size⟩
theorem Env.setVals {vv v':Value} {L':List V3} (h:Env B q most flags w0 κ0 Kp x wa) (hr:wa.heap[q.p]? = some (Y9 q flags vv x.e)) (hm:Moved (fun k=>some k=vv.ownBlock) wa w) (ho:jO w 0 v' L') (hn:zO wa vv.ownBlock v'.ownBlock) (hl:L'.length≤1048577) (hok:∀u∈L',okV u) :
 Env B q most flags w0 κ0 Kp {x with vals:=L'} (w.setCell ⟨q.p,8,none⟩ v'):=h.after fun κ hb _=>hb.setVals hr hm ho hn hl hok
theorem Env.mono {Kp':List (Nat × Obj)} (h:Env B q most flags w0 κ0 Kp' x w) (hs:∀z∈Kp,z∈Kp'):Env B q most flags w0 κ0 Kp x w:=by
 obtain⟨κ,h1,h2,h3⟩:=h
 exact⟨κ,h1,h2,fun z hz=>h3 z (hs z hz)⟩
theorem Env.mkeys {lv:Value} {l:List V3} (h:Env B q most flags w0 κ0 Kp x w) (hv:ValsAt w0 lv l) (ha:zW κ0 w0 lv) (j8:l.length≤1048576) (hok:∀v∈l,okV v) (hs:x.s.2=0) :
 Calls prog 80 #[jF q.b,lv] w fun r w'=>r=.returned (zS (kZ most 4 0 l x.s).1)∧i6 B q most flags w0 κ0 x {x with s:=(kZ most 4 0 l x.s).2} w w':=by
 have HE:Hid (Env B q most flags w0 κ0 ((w.heap.size,.cells #[.int .i64 0,.int .i64 0,.int .u64 0] 65 (0,0))::Kp) x (w.alloc (.cells #[.int .i64 0,.int .i64 0,.int .u64 0] 65))):=h.add _
 have HC:=zh (HE.out.vput (elem:=4) (many:=0) (.inr (.inl ⟨by decide,rfl,by kernel_rfl⟩)) hv ha j8 hok hs)
 obtain⟨a,c,rfl,_⟩:=hv
 clear h ha j8 hok hs
 generalize kZ most 4 0 l x.s=PP at *
 obtain⟨⟨⟨ty,wd,n⟩,ee⟩,s1⟩:=PP
 go_enter func80,ntmps80
 go_wp2_with fail
 refine HC.out.mono ?_
 rintro r w2 ⟨rfl,hA⟩
 have HA:=zh hA
 have jJ:=(hA _ HE.out).kp List.mem_cons_self
 have f0:=jE jJ 0
 have f1:=jE jJ 1
 have f2:=jE jJ 2
 have c0:=jI jJ 0 _ rfl
 have c1:=jI jJ 1 _ rfl
 have c2:=jI jJ 2 _ rfl
 have HR:=zh jJ
 clear hA jJ
 rw[show zS ((ty,wd,n),ee)=.tuple #[.agg #[.int .i64 ty,.int .i64 wd,.int .u64 n],.int .i64 ee] from rfl]
 go_wp2_with fail
 refine bodyPost_ret (v:=.tuple #[.agg #[.int .i64 ty,.int .i64 wd,.int .u64 n],.int .i64 ee]) (by simp[results,results80,go_sem,c0,c1,c2]) rfl ⟨rfl,fun Kp' hE=>?_⟩
 exact (yU.tell (yU.all HA.out _ (hE.newE (.cells #[.int .i64 0,.int .i64 0,.int .u64 0] 65 (0,0)))) (mV w2 w.heap.size (.int .i64 ty) (.int .i64 wd) (.int .u64 n)) (set3 HR.out)).env
end
theorem pQ {B:Nat} {q:kN} {most flags:Int} {κ:Nat→Nat} {x:BS} {w:World} (list:ByteArray) (ka:Option Addr) (kc:Nat) (keys:List V3) (va:Option Addr) (vc:Nat) (vals:List V3) (hk:ValsAt w (.slice ka keys.length kc) keys) (hka:zW κ w (.slice ka keys.length kc)) (hv:ValsAt w (.slice va vals.length vc) vals) (hva:zW κ w (.slice va vals.length vc)) (kQ:∀c,Value.slice va vals.length vc=.slice none 0 c→c=0) (hkl:keys.length≤1048575) (hvl:vals.length≤1048575) (hko:∀v∈keys,okV v) (hvo:∀v∈vals,okV v) (hg:x.Good) (hx:x.e=0) (h:Bd B q most flags κ x w):Calls prog 39 #[jF q.p,.string list,.slice ka keys.length kc,.slice va vals.length vc] w fun r w'=>r=.returned (.tuple #[])∧j1 B q most flags κ (x.table most (onF flags 4) list keys vals) w w':=by
 have HE:Hid (Env B q most flags w κ [(w.heap.size+1,Obj.cells #[.slice va vals.length vc] 57 (0,0)),(w.heap.size,Obj.cells #[jF q.p] 26 (0,0))] x ((w.alloc (.cells #[jF q.p] 26)).alloc (.cells #[.slice va vals.length vc] 57))):=by
  have hh:=((Env.start h).add (.cells #[jF q.p] 26)).add (.cells #[.slice va vals.length vc] 57)
  simp only[World.size_alloc,Nat.add_assoc,Nat.reduceAdd] at hh
  exact hh
 have HM1:Hid ((w.heap.size,Obj.cells #[jF q.p] 26 (0,0))∈([(w.heap.size+1,Obj.cells #[.slice va vals.length vc] 57 (0,0)),(w.heap.size,Obj.cells #[jF q.p] 26 (0,0))]:List (Nat × Obj))):=List.mem_cons_of_mem _ List.mem_cons_self
 have HM2:Hid ((w.heap.size+1,Obj.cells #[.slice va vals.length vc] 57 (0,0))∈([(w.heap.size+1,Obj.cells #[.slice va vals.length vc] 57 (0,0)),(w.heap.size,Obj.cells #[jF q.p] 26 (0,0))]:List (Nat × Obj))):=List.mem_cons_self
 have HTE:=zh (BS.table_eq most (onF flags 4) list keys vals x)
 have HMK:Hid (∀Kp w2,Env B q most flags w κ Kp x w2→Calls prog 80 #[jF q.b,.slice ka keys.length kc] w2 fun r w'=>r=.returned (zS (kZ most 4 0 keys x.s).1)∧i6 B q most flags w κ x {x with s:=(kZ most 4 0 keys x.s).2} w2 w'):=fun Kp w2 h=>h.mkeys hk hka (by omega) hko (hg.s0 hx)
 have HNG:=zh (hg.newList (most:=most) (list:=list) (keys:=keys) hx)
 have HOKN:Hid (okV (kZ most 4 0 keys x.s).1.1):=eM h.ok.len h.ok.m1
 generalize kZ most 4 0 keys x.s=PP at HTE HMK HNG HOKN
 obtain⟨⟨⟨ty,wd,n⟩,ee⟩,s1⟩:=PP
 have HIX:Hid ((yB x.lists list).2=true→∃i:Nat,(yB x.lists list).1=i∧i < x.vals.length):=fun hb=>by
  unfold yB at hb⊢
  split at hb
  ·rename_i hh
   rw[if_pos hh]
   have hlt:=aO hh
   have h1:=hg.ix hx _ (List.getElem_mem hlt)
   have e:(KH x.lists).getD (yJ x.lists list) 0=(x.lists[yJ x.lists list]).2:=by simp[KH,List.getD_eq_getElem?_getD,hlt]
   dsimp only
   rw[e]
   exact⟨_,(Int.toNat_of_nonneg h1.1).symm,by omega⟩
  ·cases hb
 have HLS:Hid (x.lists.length≤1048576):=Nat.le_trans (hg.ls hx) HE.out.len
 have HVS:Hid (x.vals.length≤1048576):=Nat.le_trans (hg.vs hx) HE.out.len
 have HOL:Hid (∀u∈x.vals,okV u):=h.ok.okL
 have HT1:Hid (∀(y:BS) (i:Nat) (κ1:Nat→Nat) (w2:World) (n1 n2 n3:Nat),y.Good→y.e=0→i < y.vals.length→Tn κ κ1 w w2→Env B q most flags w2 κ1 [(n3,Obj.cells #[.slice va vals.length vc] 57 (0,0)),(n2,Obj.cells #[.int .i64 i] 3 (0,0)),(n1,Obj.cells #[jF q.p] 26 (0,0))] y w2→Calls prog 81 #[.pointer (some ⟨n1,0,none⟩),.pointer (some ⟨n2,0,none⟩),.pointer (some ⟨n3,0,none⟩)] w2 fun r w'=>r=.returned (.tuple #[])∧j1 B q most flags κ1 (y.tableEnd most i vals) w2 w'):=fun y i κ1 w2 n1 n2 n3 g1 g2 g3 ht g4=>mZ n1 n2 n3 i _ vals (Q1 hv hva ht) (hva.tn ht) kQ hvl hvo g3 g1 g2 g4
 have HX:=zh hx
 have HG:=zh hg
 clear h hk hka hv hva kQ hko hvo hg hkl hvl hx
 have cb:=Env.cell HE.out HM1.out 0 _ rfl
 have c6:=HE.out.at6
 go_enter func39,ntmps39
 go_wp2_with fail
 generalize (w.alloc (.cells #[jF q.p] 26)).alloc (.cells #[.slice va vals.length vc] 57)=w1 at *
 refine (HE.out.listsGet list).mono ?_
 rintro r w2 ⟨rfl,hg2⟩
 have HE1:=zh (HE.out.grew hg2)
 clear hg2 cb c6
 have HSZ:Hid (w.heap.size < w2.heap.size∧w.heap.size+1 < w2.heap.size):=⟨(Array.getElem?_eq_some_iff.1 (HE1.out.kp HM1.out)).1,(Array.getElem?_eq_some_iff.1 (HE1.out.kp HM2.out)).1⟩
 generalize yB x.lists list=g at *
 obtain⟨ga,gb⟩:=g
 have HB1:=zh (HE1.out.add (.cells #[.int .i64 ga] 3))
 have cb1:=Env.cell HB1.out (List.mem_cons_of_mem _ HM1.out) 0 _ rfl
 have cl1:=Env.cell HB1.out (List.mem_cons_of_mem _ HM2.out) 0 _ rfl
 cases gb with
 | false=>
  have c0:=HB1.out.at0
  go_wp2_with fail
  skip
  refine (HMK.out _ _ HB1.out).mono ?_
  rintro r w4 ⟨rfl,hA⟩
  have HE3:=zh (hA _ HB1.out)
  rw[show zS ((ty,wd,n),ee)=.tuple #[.agg #[.int .i64 ty,.int .i64 wd,.int .u64 n],.int .i64 ee] from rfl]
  clear hA c0 cb1 cl1
  have HB4:=zh (HE3.out.add (.cells #[.int .i64 ty,.int .i64 wd,.int .u64 n] 65))
  have cb4:=Env.cell HB4.out (List.mem_cons_of_mem _ (List.mem_cons_of_mem _ HM1.out)) 0 _ rfl
  have HS4:Hid (w2.heap.size < w4.heap.size∧w.heap.size < w4.heap.size∧w.heap.size+1 < w4.heap.size):=⟨(Array.getElem?_eq_some_iff.1 (HE3.out.kp List.mem_cons_self)).1,(Array.getElem?_eq_some_iff.1 (HE3.out.kp (List.mem_cons_of_mem _ HM1.out))).1,(Array.getElem?_eq_some_iff.1 (HE3.out.kp (List.mem_cons_of_mem _ HM2.out))).1⟩
  go_wp2_with fail
  generalize (w4.alloc (.cells #[.int .i64 ty,.int .i64 wd,.int .u64 n] 65))=w5 at *
  refine (HB4.out.call fun κ1 hb hz=>kV ee hb).mono ?_
  rintro r w6 ⟨rfl,he⟩
  have HE5:=zh he
  clear he cb4
  obtain⟨va6,vc6,hrow6,hown6⟩:=HE5.out.row8
  have c86:w6.cell? ⟨q.p,8,none⟩=some (.slice va6 x.vals.length vc6):=jI hrow6 8 _ rfl
  clear hrow6 hown6
  have cb5:=Env.cell HE5.out (List.mem_cons_of_mem _ (List.mem_cons_of_mem _ HM1.out)) 0 _ rfl
  have hri:=HE5.out.kp (List.mem_cons_of_mem _ List.mem_cons_self)
  have fi:=jE hri 0
  have ci:=jI hri 0 _ rfl
  have HE6:Hid (Env B q most flags w κ ((w2.heap.size,Obj.cells #[.int .i64 x.vals.length] 3 (0,0))::(w4.heap.size,Obj.cells #[.int .i64 ty,.int .i64 wd,.int .u64 n] 65 (0,0))::[(w.heap.size+1,Obj.cells #[.slice va vals.length vc] 57 (0,0)),(w.heap.size,Obj.cells #[jF q.p] 26 (0,0))]) (({x with s:=s1}:BS).fail ee) (w6.setCell ⟨w2.heap.size,0,none⟩ (.int .i64 x.vals.length))):=by
   have ho:=heap_setCell_same w6 w2.heap.size 0 _ _ (.int .i64 x.vals.length) hri
   refine (yU.tell (o:=.cells #[.int .i64 ga] 3 (0,0)) ⟨⟨by have:=HSZ.out.1;omega,fun z hz e=>?_⟩,HE5.out.mono (fun z hz=>?_)⟩ (zK w6 w2.heap.size 0 _) (by simpa using ho)).2
   ·simp only[List.mem_cons,List.not_mem_nil,or_false] at hz
    have h1:=HSZ.out
    have h2:=HS4.out
    rcases hz with rfl|rfl|rfl<;>dsimp only at e<;>omega
   ·simp only[List.mem_cons,List.not_mem_nil,or_false] at hz⊢
    rcases hz with rfl|rfl|rfl|rfl<;>simp
  have HN1:Hid ((w.heap.size,Obj.cells #[jF q.p] 26 (0,0))∈(((w2.heap.size,Obj.cells #[.int .i64 x.vals.length] 3 (0,0))::(w4.heap.size,Obj.cells #[.int .i64 ty,.int .i64 wd,.int .u64 n] 65 (0,0))::[(w.heap.size+1,Obj.cells #[.slice va vals.length vc] 57 (0,0)),(w.heap.size,Obj.cells #[jF q.p] 26 (0,0))]):List (Nat × Obj))):=List.mem_cons_of_mem _ (List.mem_cons_of_mem _ HM1.out)
  have HN3:Hid ((w4.heap.size,Obj.cells #[.int .i64 ty,.int .i64 wd,.int .u64 n] 65 (0,0))∈(((w2.heap.size,Obj.cells #[.int .i64 x.vals.length] 3 (0,0))::(w4.heap.size,Obj.cells #[.int .i64 ty,.int .i64 wd,.int .u64 n] 65 (0,0))::[(w.heap.size+1,Obj.cells #[.slice va vals.length vc] 57 (0,0)),(w.heap.size,Obj.cells #[jF q.p] 26 (0,0))]):List (Nat × Obj))):=List.mem_cons_of_mem _ List.mem_cons_self
  clear hri
  go_wp2_with fail
  generalize (w6.setCell ⟨w2.heap.size,0,none⟩ (.int .i64 x.vals.length))=w7 at *
  clear c86 cb5 fi ci
  refine jM [7] (yD B q most flags w κ ((w2.heap.size,Obj.cells #[.int .i64 x.vals.length] 3 (0,0))::(w4.heap.size,Obj.cells #[.int .i64 ty,.int .i64 wd,.int .u64 n] 65 (0,0))::[(w.heap.size+1,Obj.cells #[.slice va vals.length vc] 57 (0,0)),(w.heap.size,Obj.cells #[jF q.p] 26 (0,0))]) [({x with s:=s1}:BS).fail ee] ({({x with s:=s1}:BS).fail ee with lists:=zL list x.vals.length x.lists})) (fun _ w w'=>jA w w') ((fun p (_:Nat→Value)=>(fun _ _ _=>True) p)) [[],[0],[0,1],[0,1,2],[0,1,2,3],[],[],[0,1,2,3,4,5,6]] [[(57,5),(58,6)],[(52,0),(57,5),(58,6)],[(52,0),(53,1),(57,5),(58,6)],[(52,0),(53,1),(54,2),(57,5),(58,6)],[(52,0),(53,1),(54,2),(55,3),(57,5),(58,6)],[(52,0),(53,1),(54,2),(55,3),(56,4),(58,6)],[(52,0),(53,1),(54,2),(55,3),(56,4),(57,5)],[(52,0),(53,1),(54,2),(55,3),(56,4),(57,5),(58,6)]] [(52,0),(53,1),(54,2),(55,3),(56,4),(57,5),(58,6),(59,7)]
   [IsP (jF q.p),IsP (jF q.p),IsP (.pointer (some ⟨q.p,3,none⟩)),IsP (.pointer (some ⟨q.p,6,none⟩)),IsP (jF q.l),IsP (.string list),IsP (.int .i64 x.vals.length),IsP (.int .i64 (qY list x.vals.length x.lists))]
   zk (yD.grew) (HE6.out.grew (jA.refl _).drew) zk zk ⟨jC,jC,jC,jC,jC,jC,jC,jC,trivial⟩ rfl ?_ ?_
  ·intro y wr6 hW hF
   simp only[zB,IsP,Nat.reduceAdd,List.length_cons,List.length_nil] at hF hW
   have h0:=hF.1
   have h1:=hF.2.1
   have h2:=hF.2.2.1
   have h3:=hF.2.2.2.1
   have h4:=hF.2.2.2.2.1
   have h5:=hF.2.2.2.2.2.1
   have h6:=hF.2.2.2.2.2.2.1
   have h7:=hF.2.2.2.2.2.2.2.1
   clear hF
   simp only[jB,Act.put,zq1,zq2,zq3,zq4,zq5]
   simp only[h0,h1,h2,h3,h4,h5,h6,h7]
   clear h0 h1 h2 h3 h4 h5 h6 h7
   have HE7:Hid (Env B q most flags w κ ((w2.heap.size,Obj.cells #[.int .i64 x.vals.length] 3 (0,0))::(w4.heap.size,Obj.cells #[.int .i64 ty,.int .i64 wd,.int .u64 n] 65 (0,0))::[(w.heap.size+1,Obj.cells #[.slice va vals.length vc] 57 (0,0)),(w.heap.size,Obj.cells #[jF q.p] 26 (0,0))]) ({({x with s:=s1}:BS).fail ee with lists:=zL list x.vals.length x.lists}) wr6):=hW
   have HLV:Hid ((x.vals++[(ty,wd,n)]).length≤1048577):=by show _≤_;rw[List.length_append];have:=HVS.out;simp;omega
   have HOV:Hid (∀u∈x.vals++[((ty,wd,n):V3)],okV u):=by
    intro u hu
    rcases List.mem_append.1 hu with hu|hu
    ·exact HOL.out u hu
    ·simp at hu;subst hu;exact HOKN.out
   obtain⟨va8,vc8,hrow8,hown8⟩:=HE7.out.row8
   have HR8:=zh hrow8
   have HO8:Hid (jO wr6 0 (.slice va8 x.vals.length vc8) x.vals):=hown8
   have c8:wr6.cell? ⟨q.p,8,none⟩=some (.slice va8 x.vals.length vc8):=jI hrow8 8 _ rfl
   clear hrow8 hown8
   go_wp2_with fail
   refine jM [8,12] (ApW wr6 (.slice va8 x.vals.length vc8) (fun w'=>Env B q most flags w κ ((w2.heap.size,Obj.cells #[.int .i64 x.vals.length] 3 (0,0))::(w4.heap.size,Obj.cells #[.int .i64 ty,.int .i64 wd,.int .u64 n] 65 (0,0))::[(w.heap.size+1,Obj.cells #[.slice va vals.length vc] 57 (0,0)),(w.heap.size,Obj.cells #[jF q.p] 26 (0,0))]) ({({({x with s:=s1}:BS).fail ee with lists:=zL list x.vals.length x.lists}:BS) with vals:=x.vals++[(ty,wd,n)]}) w')) (fun _ w w'=>jA w w') ((fun p (_:Nat→Value)=>(fun _ _ _=>True) p)) [[],[],[1],[1,2],[1,2,3],[1,2,3,4],[],[6],[1,2,3,4,5,6,7],[0,1,2,3,4,5,6,7,8],[0,1,2,3,4,5,6,7,8,9],[0,1,2,3,4,5,6,7,8,9,10],[0,1,2,3,4,5,6,7,8,9,10,11]] [[(61,1),(62,2),(63,3),(64,4),(65,5),(66,6),(67,7),(68,8)],[(60,0),(66,6),(67,7)],[(60,0),(61,1),(66,6),(67,7)],[(60,0),(61,1),(62,2),(66,6),(67,7)],[(60,0),(61,1),(62,2),(63,3),(66,6),(67,7)],[(60,0),(61,1),(62,2),(63,3),(64,4),(66,6),(67,7)],[(60,0),(61,1),(62,2),(63,3),(64,4),(65,5)],[(60,0),(61,1),(62,2),(63,3),(64,4),(65,5),(66,6)],[(60,0),(61,1),(62,2),(63,3),(64,4),(65,5),(66,6),(67,7)],[(60,0),(61,1),(62,2),(63,3),(64,4),(65,5),(66,6),(67,7),(68,8)],[(60,0),(61,1),(62,2),(63,3),(64,4),(65,5),(66,6),(67,7),(68,8),(69,9)],[(60,0),(61,1),(62,2),(63,3),(64,4),(65,5),(66,6),(67,7),(68,8),(69,9),(70,10)],[(60,0),(61,1),(62,2),(63,3),(64,4),(65,5),(66,6),(67,7),(68,8),(69,9),(70,10),(71,11)]] [(60,0),(61,1),(62,2),(63,3),(64,4),(65,5),(66,6),(67,7),(68,8),(69,9),(70,10),(71,11)]
    [IsP (jF q.p),IsP (jF q.p),IsP (jF q.p),IsP (.pointer (some ⟨q.p,3,none⟩)),IsP (.pointer (some ⟨q.p,8,none⟩)),IsP (.slice va8 x.vals.length vc8),IsP (.agg #[.int .i64 ty,.int .i64 wd,.int .u64 n]),q7 0 (fun v w=>(∃g,v=.slice (some ⟨g,0,none⟩) 1 1)∧ValsAt w v [(ty,wd,n)]),ApF wr6 (.slice va8 x.vals.length vc8) (x.vals++[(ty,wd,n)]),IsP (jF q.p),IsP (.pointer (some ⟨q.p,3,none⟩)),IsP (.pointer (some ⟨q.p,8,none⟩)),fun _ _ _=>True]
    zk (ApW.grew (fun w1 w2 hg h=>Env.grew h hg)) ((jA.refl _).drew) zk zk ⟨jC,jC,jC,jC,jC,jC,jC,q9 (q7.st (fun v w w' hg h=>⟨h.1,h.2.grew hg⟩)),q9 (ApF.st),jC,jC,jC,⟨fun _ _ _ _ _ h=>h,fun _ _ _ _ _ h=>h⟩,trivial⟩ rfl ?_ ?_
   ·intro y w5 hW hF
    simp only[zB,IsP,Nat.reduceAdd,List.length_cons,List.length_nil] at hF hW
    have h0:=hF.1
    have h1:=hF.2.1
    have h2:=hF.2.2.1
    have h3:=hF.2.2.2.1
    have h4:=hF.2.2.2.2.1
    have h5:=hF.2.2.2.2.2.1
    have h6:=hF.2.2.2.2.2.2.1
    have h7:=hF.2.2.2.2.2.2.2.1
    have h8:=hF.2.2.2.2.2.2.2.2.1
    have h9:=hF.2.2.2.2.2.2.2.2.2.1
    have h10:=hF.2.2.2.2.2.2.2.2.2.2.1
    have h11:=hF.2.2.2.2.2.2.2.2.2.2.2.1
    clear hF
    simp only[jB,Act.put,zq1,zq2,zq3,zq4,zq5]
    simp only[h0,h1,h2,h3,h4,h5,h6,h9,h10,h11]
    clear h0 h1 h2 h3 h4 h5 h6 h9 h10 h11
    have HE8:Hid (Env B q most flags w κ ((w2.heap.size,Obj.cells #[.int .i64 x.vals.length] 3 (0,0))::(w4.heap.size,Obj.cells #[.int .i64 ty,.int .i64 wd,.int .u64 n] 65 (0,0))::[(w.heap.size+1,Obj.cells #[.slice va vals.length vc] 57 (0,0)),(w.heap.size,Obj.cells #[jF q.p] 26 (0,0))]) (({x with s:=s1,e:=kL x.e ee,lists:=zL list x.vals.length x.lists,vals:=x.vals++[(ty,wd,n)]}:BS)) w5):=hW
    clear hW h7 h8
    have cb8:=Env.cell HE8.out HN1.out 0 _ rfl
    go_wp2_with fail
    have HT:Hid (∀κ1 wz,Tn κ κ1 w wz→Env B q most flags wz κ1 (((w2.heap.size,Obj.cells #[.int .i64 x.vals.length] 3 (0,0))::(w4.heap.size,Obj.cells #[.int .i64 ty,.int .i64 wd,.int .u64 n] 65 (0,0))::[(w.heap.size+1,Obj.cells #[.slice va vals.length vc] 57 (0,0)),(w.heap.size,Obj.cells #[jF q.p] 26 (0,0))])) (({x with s:=s1,e:=kL x.e ee,lists:=zL list x.vals.length x.lists,vals:=x.vals++[(ty,wd,n)]}:BS)) wz→(({x with s:=s1,e:=kL x.e ee,lists:=zL list x.vals.length x.lists,vals:=x.vals++[(ty,wd,n)]}:BS)).e=0→Calls prog 81 #[.pointer (some ⟨w.heap.size,0,none⟩),.pointer (some ⟨w2.heap.size,0,none⟩),.pointer (some ⟨w.heap.size+1,0,none⟩)] wz fun r w'=>r=.returned (.tuple #[])∧j1 B q most flags κ1 ((({x with s:=s1,e:=kL x.e ee,lists:=zL list x.vals.length x.lists,vals:=x.vals++[(ty,wd,n)]}:BS)).tableEnd most x.vals.length vals) wz w'):=fun κ1 wz ht he he0=>HT1.out _ (x.vals.length) κ1 wz _ _ _ HNG.out he0 (by show _ < (x.vals++[(ty,wd,n)]).length;rw[List.length_append];simp) ht (he.mono (fun z hz=>by simp only[List.mem_cons,List.not_mem_nil,or_false] at hz⊢;rcases hz with rfl | rfl | rfl<;>simp))
    refine (HE8.out.callT fun κ1 hb ht he=>zG hb _ _ ((({x with s:=s1,e:=kL x.e ee,lists:=zL list x.vals.length x.lists,vals:=x.vals++[(ty,wd,n)]}:BS)).tableEnd most x.vals.length vals) (fun hne=>by unfold BS.tableEnd;rw[if_neg hne]) (fun _=>enters_of func81 zk rfl _ _) (fun he0=>HT.out κ1 _ ht he he0)).mono ?_
    rintro r w9 ⟨rfl,he⟩
    have HF:=zh he
    clear he
    go_wp2
    go_end0
    exact⟨rfl,by rw[HTE.out.trans (if_neg (by simp))];exact HF.out.turn⟩
   refine⟨?_,?_⟩
   ·refine jH 0 1 ?_
    intro y w5 p hlo hhi hW hD K hK
    have dq:=jI (ApW.old hW hhi (HE7.out.kp HN1.out) (fun e=>zZ HO8.out (HE7.out.kp HN1.out) (by decide) e.symm)) 0 _ rfl
    clear hD
    generalize hAA:jB y _ _=AA at hK⊢
    simp only[jB,Act.put,zq1,zq2,zq3,zq4,zq5,IsP] at hAA
    subst hAA
    simp only[zq4,zq5,IsP] at hK
    refine jL ?_
    go_simp
    exact hK _ _ _ rfl (jA.refl _) rfl
   refine⟨?_,?_⟩
   ·refine jH 0 0 ?_
    intro y w5 p hlo hhi hW hD K hK
    obtain rfl:p=0:=by omega
    have dq:=Env.cell ((HE7.out).grew (show jA wr6 w5 from hW)) HN1.out 0 _ rfl
    clear hD
    generalize hAA:jB y _ _=AA at hK⊢
    simp only[jB,Act.put,zq1,zq2,zq3,zq4,zq5,IsP] at hAA
    subst hAA
    simp only[zq4,zq5,IsP] at hK
    refine jL ?_
    go_simp
    exact hK _ _ _ rfl (jA.refl _) rfl
   refine⟨?_,?_⟩
   ·refine jH 0 0 ?_
    intro y w5 p hlo hhi hW hD K hK
    simp only[jV,zq4,zq5,IsP] at hD
    have h1:=hD.1
    clear hD
    generalize hAA:jB y _ _=AA at hK⊢
    simp only[jB,Act.put,zq1,zq2,zq3,zq4,zq5,IsP] at hAA
    subst hAA
    simp only[zq4,zq5,IsP] at hK
    simp only[h1] at hK⊢
    clear h1
    refine jL ?_
    go_simp
    exact hK _ _ _ rfl (jA.refl _) rfl
   refine⟨?_,?_⟩
   ·refine jH 0 0 ?_
    intro y w5 p hlo hhi hW hD K hK
    simp only[jV,zq4,zq5,IsP] at hD
    have h1:=hD.1
    have h2:=hD.2.1
    clear hD
    generalize hAA:jB y _ _=AA at hK⊢
    simp only[jB,Act.put,zq1,zq2,zq3,zq4,zq5,IsP] at hAA
    subst hAA
    simp only[zq4,zq5,IsP] at hK
    simp only[h1,h2] at hK⊢
    clear h1 h2
    refine jL ?_
    go_simp
    exact hK _ _ _ rfl (jA.refl _) rfl
   refine⟨?_,?_⟩
   ·refine jH 0 0 ?_
    intro y w5 p hlo hhi hW hD K hK
    simp only[jV,zq4,zq5,IsP] at hD
    have h1:=hD.1
    have h2:=hD.2.1
    have h3:=hD.2.2.1
    clear hD
    generalize hAA:jB y _ _=AA at hK⊢
    simp only[jB,Act.put,zq1,zq2,zq3,zq4,zq5,IsP] at hAA
    subst hAA
    simp only[zq4,zq5,IsP] at hK
    simp only[h1,h2,h3] at hK⊢
    clear h1 h2 h3
    refine jL ?_
    go_simp
    exact hK _ _ _ rfl (jA.refl _) rfl
   refine⟨?_,?_⟩
   ·refine jH 0 0 ?_
    intro y w5 p hlo hhi hW hD K hK
    obtain rfl:p=0:=by omega
    have dd:=jA.cell (show jA wr6 w5 from hW) c8
    simp only[jV,zq4,zq5,IsP] at hD
    have h1:=hD.1
    have h2:=hD.2.1
    have h3:=hD.2.2.1
    have h4:=hD.2.2.2.1
    clear hD
    generalize hAA:jB y _ _=AA at hK⊢
    simp only[jB,Act.put,zq1,zq2,zq3,zq4,zq5,IsP] at hAA
    subst hAA
    simp only[zq4,zq5,IsP] at hK
    simp only[h1,h2,h3,h4] at hK⊢
    clear h1 h2 h3 h4
    refine jL ?_
    go_simp
    exact hK _ _ _ rfl (jA.refl _) rfl
   refine⟨?_,?_⟩
   ·refine jH 0 0 ?_
    intro y w5 p hlo hhi hW hD K hK
    obtain rfl:p=0:=by omega
    have dv0:=Env.cell (HE7.out.grew (show jA wr6 w5 from hW)) HN3.out 0 _ rfl
    have dv1:=Env.cell (HE7.out.grew (show jA wr6 w5 from hW)) HN3.out 1 _ rfl
    have dv2:=Env.cell (HE7.out.grew (show jA wr6 w5 from hW)) HN3.out 2 _ rfl
    clear hD
    generalize hAA:jB y _ _=AA at hK⊢
    simp only[jB,Act.put,zq1,zq2,zq3,zq4,zq5,IsP] at hAA
    subst hAA
    simp only[zq4,zq5,IsP] at hK
    refine jL ?_
    go_simp
    exact hK _ _ _ rfl (jA.refl _) rfl
   refine⟨?_,?_⟩
   ·refine jH 0 0 ?_
    intro y w5 p hlo hhi hW hD K hK
    simp only[jV,zq4,zq5,IsP] at hD
    have h6:=hD.1
    clear hD
    generalize hAA:jB y _ _=AA at hK⊢
    simp only[jB,Act.put,zq1,zq2,zq3,zq4,zq5,IsP] at hAA
    subst hAA
    simp only[zq4,zq5,IsP] at hK
    simp only[h6] at hK⊢
    clear h6
    refine jL ?_
    go_simp
    obtain rfl:p=0:=by omega
    exact hK _ _ _ rfl ((jA.refl _).alloc _) (fun _=>⟨⟨_,rfl⟩,vQ w5 (ty,wd,n)⟩)
   refine⟨?_,?_⟩
   ·refine jN 0 rfl ?_
    intro y w5 hW hD K hK
    simp only[jV,zq4,zq5,IsP] at hD
    have h1:=hD.1
    have h2:=hD.2.1
    have h3:=hD.2.2.1
    have h4:=hD.2.2.2.1
    have h5:=hD.2.2.2.2.1
    have h6:=hD.2.2.2.2.2.1
    have h7:=hD.2.2.2.2.2.2.1
    clear hD
    generalize hAA:jB y _ _=AA at hK⊢
    simp only[jB,Act.put,zq1,zq2,zq3,zq4,zq5,IsP] at hAA
    subst hAA
    simp only[zq4,zq5,IsP] at hK
    simp only[h1,h2,h3,h4,h5,h6] at hK⊢
    clear h1 h2 h3 h4 h5 h6
    obtain⟨⟨g7,e7⟩,hv7⟩:=h7 (Nat.le_refl _)
    rw[e7] at hK hv7⊢
    refine jL ?_
    refine lE w5 _ _ rfl (.slice va8 x.vals.length vc8) x.vals rfl (yQ HO8.out (show jA wr6 w5 from hW)) _ (ty,wd,n) g7 rfl hv7 rfl (by have:=HVS.out;omega) ?_
    intro v' w' ho hgr hnx
    exact hK _ _ _ rfl trivial (Moved.trans (Moved.of_grew (S:=fun k=>some k=(Value.slice va8 x.vals.length vc8).ownBlock) (show jA wr6 w5 from hW)) (Moved.of_grown hgr) (fun _ _ e=>e)) ⟨ho,fun k hk=>(hnx k hk).imp id (fun e=>Nat.le_trans (jA.size (show jA wr6 w5 from hW)) e)⟩
   refine⟨?_,?_⟩
   ·refine jH 1 1 ?_
    intro y w5 p hlo hhi hW hD K hK
    simp only[jV,zq4,zq5,IsP] at hD
    have h0:=hD.1
    have h1:=hD.2.1
    have h2:=hD.2.2.1
    have h3:=hD.2.2.2.1
    have h4:=hD.2.2.2.2.1
    have h5:=hD.2.2.2.2.2.1
    have h6:=hD.2.2.2.2.2.2.1
    have h7:=hD.2.2.2.2.2.2.2.1
    have h8:=hD.2.2.2.2.2.2.2.2.1
    clear hD
    generalize hAA:jB y _ _=AA at hK⊢
    simp only[jB,Act.put,zq1,zq2,zq3,zq4,zq5,IsP] at hAA
    subst hAA
    simp only[zq4,zq5,IsP] at hK
    simp only[h0,h1,h2,h3,h4,h5,h6] at hK⊢
    clear h0 h1 h2 h3 h4 h5 h6
    refine jL ?_
    go_simp
    exact hK _ _ _ rfl (jA.refl _) rfl
   refine⟨?_,?_⟩
   ·refine jH 1 1 ?_
    intro y w5 p hlo hhi hW hD K hK
    simp only[jV,zq4,zq5,IsP] at hD
    have h0:=hD.1
    have h1:=hD.2.1
    have h2:=hD.2.2.1
    have h3:=hD.2.2.2.1
    have h4:=hD.2.2.2.2.1
    have h5:=hD.2.2.2.2.2.1
    have h6:=hD.2.2.2.2.2.2.1
    have h7:=hD.2.2.2.2.2.2.2.1
    have h8:=hD.2.2.2.2.2.2.2.2.1
    have h9:=hD.2.2.2.2.2.2.2.2.2.1
    clear hD
    generalize hAA:jB y _ _=AA at hK⊢
    simp only[jB,Act.put,zq1,zq2,zq3,zq4,zq5,IsP] at hAA
    subst hAA
    simp only[zq4,zq5,IsP] at hK
    simp only[h0,h1,h2,h3,h4,h5,h6,h9] at hK⊢
    clear h0 h1 h2 h3 h4 h5 h6 h9
    refine jL ?_
    go_simp
    exact hK _ _ _ rfl (jA.refl _) rfl
   refine⟨?_,?_⟩
   ·refine jH 1 1 ?_
    intro y w5 p hlo hhi hW hD K hK
    simp only[jV,zq4,zq5,IsP] at hD
    have h0:=hD.1
    have h1:=hD.2.1
    have h2:=hD.2.2.1
    have h3:=hD.2.2.2.1
    have h4:=hD.2.2.2.2.1
    have h5:=hD.2.2.2.2.2.1
    have h6:=hD.2.2.2.2.2.2.1
    have h7:=hD.2.2.2.2.2.2.2.1
    have h8:=hD.2.2.2.2.2.2.2.2.1
    have h9:=hD.2.2.2.2.2.2.2.2.2.1
    have h10:=hD.2.2.2.2.2.2.2.2.2.2.1
    clear hD
    generalize hAA:jB y _ _=AA at hK⊢
    simp only[jB,Act.put,zq1,zq2,zq3,zq4,zq5,IsP] at hAA
    subst hAA
    simp only[zq4,zq5,IsP] at hK
    simp only[h0,h1,h2,h3,h4,h5,h6,h9,h10] at hK⊢
    clear h0 h1 h2 h3 h4 h5 h6 h9 h10
    refine jL ?_
    go_simp
    exact hK _ _ _ rfl (jA.refl _) rfl
   refine⟨?_,?_⟩
   ·refine jN 1 rfl ?_
    intro y w5 hW hD K hK
    have hrp:w5.heap[q.p]? = some (Y9 q flags (.slice va8 x.vals.length vc8) ({({x with s:=s1}:BS).fail ee with lists:=zL list x.vals.length x.lists}).e):=Moved.heap (show Moved _ wr6 w5 from hW) HR8.out (fun e=>zZ HO8.out HR8.out (by decide) e.symm)
    have dd:=jI hrp 8 _ rfl
    have ff:=jE hrp 8
    simp only[jV,zq4,zq5,IsP] at hD
    have h0:=hD.1
    have h1:=hD.2.1
    have h2:=hD.2.2.1
    have h3:=hD.2.2.2.1
    have h4:=hD.2.2.2.2.1
    have h5:=hD.2.2.2.2.2.1
    have h6:=hD.2.2.2.2.2.2.1
    have h7:=hD.2.2.2.2.2.2.2.1
    have h8:=hD.2.2.2.2.2.2.2.2.1
    have h9:=hD.2.2.2.2.2.2.2.2.2.1
    have h10:=hD.2.2.2.2.2.2.2.2.2.2.1
    have h11:=hD.2.2.2.2.2.2.2.2.2.2.2.1
    clear hD
    generalize hAA:jB y _ _=AA at hK⊢
    simp only[jB,Act.put,zq1,zq2,zq3,zq4,zq5,IsP] at hAA
    subst hAA
    simp only[zq4,zq5,IsP] at hK
    simp only[h0,h1,h2,h3,h4,h5,h6,h9,h10,h11] at hK⊢
    clear h0 h1 h2 h3 h4 h5 h6 h9 h10 h11
    have hq:jO w5 0 _ _∧zO wr6 _ _:=h8
    obtain⟨a8,c8',e8,_⟩:=kD hq.1
    replace e8:y 8=.slice a8 (x.vals.length+1) c8':=by rw[e8];simp
    rw[e8] at hK hq⊢
    clear e8 h8
    refine jL ?_
    go_simp
    exact hK _ undef _ rfl trivial (HE7.out.setVals HR8.out (show Moved _ wr6 w5 from hW) hq.1 hq.2 HLV.out HOV.out) trivial
   trivial
  refine⟨?_,?_⟩
  ·refine jH 0 0 ?_
   intro y wr6 p hlo hhi hW hD K hK
   have dq:=Env.cell hW HN1.out 0 _ rfl
   clear hD
   generalize hAA:jB y _ _=AA at hK⊢
   simp only[jB,Act.put,zq1,zq2,zq3,zq4,zq5,IsP] at hAA
   subst hAA
   simp only[zq4,zq5,IsP] at hK
   refine jL ?_
   go_simp
   exact hK _ _ _ rfl (jA.refl _) rfl
  refine⟨?_,?_⟩
  ·refine jH 0 0 ?_
   intro y wr6 p hlo hhi hW hD K hK
   simp only[jV,zq4,zq5,IsP] at hD
   have h0:=hD.1
   clear hD
   generalize hAA:jB y _ _=AA at hK⊢
   simp only[jB,Act.put,zq1,zq2,zq3,zq4,zq5,IsP] at hAA
   subst hAA
   simp only[zq4,zq5,IsP] at hK
   simp only[h0] at hK⊢
   clear h0
   refine jL ?_
   go_simp
   exact hK _ _ _ rfl (jA.refl _) rfl
  refine⟨?_,?_⟩
  ·refine jH 0 0 ?_
   intro y wr6 p hlo hhi hW hD K hK
   simp only[jV,zq4,zq5,IsP] at hD
   have h0:=hD.1
   have h1:=hD.2.1
   clear hD
   generalize hAA:jB y _ _=AA at hK⊢
   simp only[jB,Act.put,zq1,zq2,zq3,zq4,zq5,IsP] at hAA
   subst hAA
   simp only[zq4,zq5,IsP] at hK
   simp only[h0,h1] at hK⊢
   clear h0 h1
   refine jL ?_
   go_simp
   exact hK _ _ _ rfl (jA.refl _) rfl
  refine⟨?_,?_⟩
  ·refine jH 0 0 ?_
   intro y wr6 p hlo hhi hW hD K hK
   simp only[jV,zq4,zq5,IsP] at hD
   have h0:=hD.1
   have h1:=hD.2.1
   have h2:=hD.2.2.1
   clear hD
   generalize hAA:jB y _ _=AA at hK⊢
   simp only[jB,Act.put,zq1,zq2,zq3,zq4,zq5,IsP] at hAA
   subst hAA
   simp only[zq4,zq5,IsP] at hK
   simp only[h0,h1,h2] at hK⊢
   clear h0 h1 h2
   refine jL ?_
   go_simp
   exact hK _ _ _ rfl (jA.refl _) rfl
  refine⟨?_,?_⟩
  ·refine jH 0 0 ?_
   intro y wr6 p hlo hhi hW hD K hK
   have dd:=Env.at6 hW
   simp only[jV,zq4,zq5,IsP] at hD
   have h0:=hD.1
   have h1:=hD.2.1
   have h2:=hD.2.2.1
   have h3:=hD.2.2.2.1
   clear hD
   generalize hAA:jB y _ _=AA at hK⊢
   simp only[jB,Act.put,zq1,zq2,zq3,zq4,zq5,IsP] at hAA
   subst hAA
   simp only[zq4,zq5,IsP] at hK
   simp only[h0,h1,h2,h3] at hK⊢
   clear h0 h1 h2 h3
   refine jL ?_
   go_simp
   exact hK _ _ _ rfl (jA.refl _) rfl
  refine⟨?_,?_⟩
  ·refine jH 0 0 ?_
   intro y wr6 p hlo hhi hW hD K hK
   clear hD
   generalize hAA:jB y _ _=AA at hK⊢
   simp only[jB,Act.put,zq1,zq2,zq3,zq4,zq5,IsP] at hAA
   subst hAA
   simp only[zq4,zq5,IsP] at hK
   refine jL ?_
   go_simp
   exact hK _ _ _ rfl (jA.refl _) rfl
  refine⟨?_,?_⟩
  ·refine jH 0 0 ?_
   intro y wr6 p hlo hhi hW hD K hK
   have di:=Env.cell hW List.mem_cons_self 0 _ rfl
   clear hD
   generalize hAA:jB y _ _=AA at hK⊢
   simp only[jB,Act.put,zq1,zq2,zq3,zq4,zq5,IsP] at hAA
   subst hAA
   simp only[zq4,zq5,IsP] at hK
   refine jL ?_
   go_simp
   exact hK _ _ _ rfl (jA.refl _) rfl
  refine⟨?_,?_⟩
  ·refine jN 0 rfl ?_
   intro y wr6 hW hD K hK
   simp only[jV,zq4,zq5,IsP] at hD
   have h0:=hD.1
   have h1:=hD.2.1
   have h2:=hD.2.2.1
   have h3:=hD.2.2.2.1
   have h4:=hD.2.2.2.2.1
   have h5:=hD.2.2.2.2.2.1
   have h6:=hD.2.2.2.2.2.2.1
   clear hD
   generalize hAA:jB y _ _=AA at hK⊢
   simp only[jB,Act.put,zq1,zq2,zq3,zq4,zq5,IsP] at hAA
   subst hAA
   simp only[zq4,zq5,IsP] at hK
   simp only[h0,h1,h2,h3,h4,h5,h6] at hK⊢
   clear h0 h1 h2 h3 h4 h5 h6
   refine jL ?_
   go_simp
   refine (Env.listsPut (x:=({x with s:=s1}:BS).fail ee) list (x.vals.length:Int) HLS.out hW).mono ?_
   rintro r w3 ⟨rfl,he⟩
   exact hK _ _ _ rfl trivial he rfl
  trivial
 | true=>
  cases ho:onF flags 4 with
  | false=>
   have HO:=zh ho
   have HTE2:Hid (x.table most (onF flags 4) list keys vals=({x with s:=s1,e:=kL x.e ee,lists:=zL list x.vals.length x.lists,vals:=x.vals++[(ty,wd,n)]}:BS).tableEnd most x.vals.length vals):=by have h:=HTE.out;show _=_;rw[ho] at h⊢;simpa using h
   clear ho
   go_wp2_with fail
   generalize (w2.alloc (.cells #[.int .i64 ga] 3))=w3 at *
   refine (HB1.out.onE 4).mono ?_
   rw[HO.out]
   rintro r w9 ⟨rfl,hw9⟩
   obtain rfl:w3=w9:=hw9.symm
   have c0:=HB1.out.at0
   go_wp2_with fail
   skip
   refine (HMK.out _ _ HB1.out).mono ?_
   rintro r w4 ⟨rfl,hA⟩
   have HE3:=zh (hA _ HB1.out)
   rw[show zS ((ty,wd,n),ee)=.tuple #[.agg #[.int .i64 ty,.int .i64 wd,.int .u64 n],.int .i64 ee] from rfl]
   clear hA c0 cb1 cl1
   have HB4:=zh (HE3.out.add (.cells #[.int .i64 ty,.int .i64 wd,.int .u64 n] 65))
   have cb4:=Env.cell HB4.out (List.mem_cons_of_mem _ (List.mem_cons_of_mem _ HM1.out)) 0 _ rfl
   have HS4:Hid (w2.heap.size < w4.heap.size∧w.heap.size < w4.heap.size∧w.heap.size+1 < w4.heap.size):=⟨(Array.getElem?_eq_some_iff.1 (HE3.out.kp List.mem_cons_self)).1,(Array.getElem?_eq_some_iff.1 (HE3.out.kp (List.mem_cons_of_mem _ HM1.out))).1,(Array.getElem?_eq_some_iff.1 (HE3.out.kp (List.mem_cons_of_mem _ HM2.out))).1⟩
   go_wp2_with fail
   generalize (w4.alloc (.cells #[.int .i64 ty,.int .i64 wd,.int .u64 n] 65))=w5 at *
   refine (HB4.out.call fun κ1 hb hz=>kV ee hb).mono ?_
   rintro r w6 ⟨rfl,he⟩
   have HE5:=zh he
   clear he cb4
   obtain⟨va6,vc6,hrow6,hown6⟩:=HE5.out.row8
   have c86:w6.cell? ⟨q.p,8,none⟩=some (.slice va6 x.vals.length vc6):=jI hrow6 8 _ rfl
   clear hrow6 hown6
   have cb5:=Env.cell HE5.out (List.mem_cons_of_mem _ (List.mem_cons_of_mem _ HM1.out)) 0 _ rfl
   have hri:=HE5.out.kp (List.mem_cons_of_mem _ List.mem_cons_self)
   have fi:=jE hri 0
   have ci:=jI hri 0 _ rfl
   have HE6:Hid (Env B q most flags w κ ((w2.heap.size,Obj.cells #[.int .i64 x.vals.length] 3 (0,0))::(w4.heap.size,Obj.cells #[.int .i64 ty,.int .i64 wd,.int .u64 n] 65 (0,0))::[(w.heap.size+1,Obj.cells #[.slice va vals.length vc] 57 (0,0)),(w.heap.size,Obj.cells #[jF q.p] 26 (0,0))]) (({x with s:=s1}:BS).fail ee) (w6.setCell ⟨w2.heap.size,0,none⟩ (.int .i64 x.vals.length))):=by
    have ho:=heap_setCell_same w6 w2.heap.size 0 _ _ (.int .i64 x.vals.length) hri
    refine (yU.tell (o:=.cells #[.int .i64 ga] 3 (0,0)) ⟨⟨by have:=HSZ.out.1;omega,fun z hz e=>?_⟩,HE5.out.mono (fun z hz=>?_)⟩ (zK w6 w2.heap.size 0 _) (by simpa using ho)).2
    ·simp only[List.mem_cons,List.not_mem_nil,or_false] at hz
     have h1:=HSZ.out
     have h2:=HS4.out
     rcases hz with rfl|rfl|rfl<;>dsimp only at e<;>omega
    ·simp only[List.mem_cons,List.not_mem_nil,or_false] at hz⊢
     rcases hz with rfl|rfl|rfl|rfl<;>simp
   have HN1:Hid ((w.heap.size,Obj.cells #[jF q.p] 26 (0,0))∈(((w2.heap.size,Obj.cells #[.int .i64 x.vals.length] 3 (0,0))::(w4.heap.size,Obj.cells #[.int .i64 ty,.int .i64 wd,.int .u64 n] 65 (0,0))::[(w.heap.size+1,Obj.cells #[.slice va vals.length vc] 57 (0,0)),(w.heap.size,Obj.cells #[jF q.p] 26 (0,0))]):List (Nat × Obj))):=List.mem_cons_of_mem _ (List.mem_cons_of_mem _ HM1.out)
   have HN3:Hid ((w4.heap.size,Obj.cells #[.int .i64 ty,.int .i64 wd,.int .u64 n] 65 (0,0))∈(((w2.heap.size,Obj.cells #[.int .i64 x.vals.length] 3 (0,0))::(w4.heap.size,Obj.cells #[.int .i64 ty,.int .i64 wd,.int .u64 n] 65 (0,0))::[(w.heap.size+1,Obj.cells #[.slice va vals.length vc] 57 (0,0)),(w.heap.size,Obj.cells #[jF q.p] 26 (0,0))]):List (Nat × Obj))):=List.mem_cons_of_mem _ List.mem_cons_self
   clear hri
   go_wp2_with fail
   generalize (w6.setCell ⟨w2.heap.size,0,none⟩ (.int .i64 x.vals.length))=w7 at *
   clear c86 cb5 fi ci
   refine jM [7] (yD B q most flags w κ ((w2.heap.size,Obj.cells #[.int .i64 x.vals.length] 3 (0,0))::(w4.heap.size,Obj.cells #[.int .i64 ty,.int .i64 wd,.int .u64 n] 65 (0,0))::[(w.heap.size+1,Obj.cells #[.slice va vals.length vc] 57 (0,0)),(w.heap.size,Obj.cells #[jF q.p] 26 (0,0))]) [({x with s:=s1}:BS).fail ee] ({({x with s:=s1}:BS).fail ee with lists:=zL list x.vals.length x.lists})) (fun _ w w'=>jA w w') ((fun p (_:Nat→Value)=>(fun _ _ _=>True) p)) [[],[0],[0,1],[0,1,2],[0,1,2,3],[],[],[0,1,2,3,4,5,6]] [[(57,5),(58,6)],[(52,0),(57,5),(58,6)],[(52,0),(53,1),(57,5),(58,6)],[(52,0),(53,1),(54,2),(57,5),(58,6)],[(52,0),(53,1),(54,2),(55,3),(57,5),(58,6)],[(52,0),(53,1),(54,2),(55,3),(56,4),(58,6)],[(52,0),(53,1),(54,2),(55,3),(56,4),(57,5)],[(52,0),(53,1),(54,2),(55,3),(56,4),(57,5),(58,6)]] [(52,0),(53,1),(54,2),(55,3),(56,4),(57,5),(58,6),(59,7)]
    [IsP (jF q.p),IsP (jF q.p),IsP (.pointer (some ⟨q.p,3,none⟩)),IsP (.pointer (some ⟨q.p,6,none⟩)),IsP (jF q.l),IsP (.string list),IsP (.int .i64 x.vals.length),IsP (.int .i64 (qY list x.vals.length x.lists))]
    zk (yD.grew) (HE6.out.grew (jA.refl _).drew) zk zk ⟨jC,jC,jC,jC,jC,jC,jC,jC,trivial⟩ rfl ?_ ?_
   ·intro y wr6 hW hF
    simp only[zB,IsP,Nat.reduceAdd,List.length_cons,List.length_nil] at hF hW
    have h0:=hF.1
    have h1:=hF.2.1
    have h2:=hF.2.2.1
    have h3:=hF.2.2.2.1
    have h4:=hF.2.2.2.2.1
    have h5:=hF.2.2.2.2.2.1
    have h6:=hF.2.2.2.2.2.2.1
    have h7:=hF.2.2.2.2.2.2.2.1
    clear hF
    simp only[jB,Act.put,zq1,zq2,zq3,zq4,zq5]
    simp only[h0,h1,h2,h3,h4,h5,h6,h7]
    clear h0 h1 h2 h3 h4 h5 h6 h7
    have HE7:Hid (Env B q most flags w κ ((w2.heap.size,Obj.cells #[.int .i64 x.vals.length] 3 (0,0))::(w4.heap.size,Obj.cells #[.int .i64 ty,.int .i64 wd,.int .u64 n] 65 (0,0))::[(w.heap.size+1,Obj.cells #[.slice va vals.length vc] 57 (0,0)),(w.heap.size,Obj.cells #[jF q.p] 26 (0,0))]) ({({x with s:=s1}:BS).fail ee with lists:=zL list x.vals.length x.lists}) wr6):=hW
    have HLV:Hid ((x.vals++[(ty,wd,n)]).length≤1048577):=by show _≤_;rw[List.length_append];have:=HVS.out;simp;omega
    have HOV:Hid (∀u∈x.vals++[((ty,wd,n):V3)],okV u):=by
     intro u hu
     rcases List.mem_append.1 hu with hu|hu
     ·exact HOL.out u hu
     ·simp at hu;subst hu;exact HOKN.out
    obtain⟨va8,vc8,hrow8,hown8⟩:=HE7.out.row8
    have HR8:=zh hrow8
    have HO8:Hid (jO wr6 0 (.slice va8 x.vals.length vc8) x.vals):=hown8
    have c8:wr6.cell? ⟨q.p,8,none⟩=some (.slice va8 x.vals.length vc8):=jI hrow8 8 _ rfl
    clear hrow8 hown8
    go_wp2_with fail
    refine jM [8,12] (ApW wr6 (.slice va8 x.vals.length vc8) (fun w'=>Env B q most flags w κ ((w2.heap.size,Obj.cells #[.int .i64 x.vals.length] 3 (0,0))::(w4.heap.size,Obj.cells #[.int .i64 ty,.int .i64 wd,.int .u64 n] 65 (0,0))::[(w.heap.size+1,Obj.cells #[.slice va vals.length vc] 57 (0,0)),(w.heap.size,Obj.cells #[jF q.p] 26 (0,0))]) ({({({x with s:=s1}:BS).fail ee with lists:=zL list x.vals.length x.lists}:BS) with vals:=x.vals++[(ty,wd,n)]}) w')) (fun _ w w'=>jA w w') ((fun p (_:Nat→Value)=>(fun _ _ _=>True) p)) [[],[],[1],[1,2],[1,2,3],[1,2,3,4],[],[6],[1,2,3,4,5,6,7],[0,1,2,3,4,5,6,7,8],[0,1,2,3,4,5,6,7,8,9],[0,1,2,3,4,5,6,7,8,9,10],[0,1,2,3,4,5,6,7,8,9,10,11]] [[(61,1),(62,2),(63,3),(64,4),(65,5),(66,6),(67,7),(68,8)],[(60,0),(66,6),(67,7)],[(60,0),(61,1),(66,6),(67,7)],[(60,0),(61,1),(62,2),(66,6),(67,7)],[(60,0),(61,1),(62,2),(63,3),(66,6),(67,7)],[(60,0),(61,1),(62,2),(63,3),(64,4),(66,6),(67,7)],[(60,0),(61,1),(62,2),(63,3),(64,4),(65,5)],[(60,0),(61,1),(62,2),(63,3),(64,4),(65,5),(66,6)],[(60,0),(61,1),(62,2),(63,3),(64,4),(65,5),(66,6),(67,7)],[(60,0),(61,1),(62,2),(63,3),(64,4),(65,5),(66,6),(67,7),(68,8)],[(60,0),(61,1),(62,2),(63,3),(64,4),(65,5),(66,6),(67,7),(68,8),(69,9)],[(60,0),(61,1),(62,2),(63,3),(64,4),(65,5),(66,6),(67,7),(68,8),(69,9),(70,10)],[(60,0),(61,1),(62,2),(63,3),(64,4),(65,5),(66,6),(67,7),(68,8),(69,9),(70,10),(71,11)]] [(60,0),(61,1),(62,2),(63,3),(64,4),(65,5),(66,6),(67,7),(68,8),(69,9),(70,10),(71,11)]
     [IsP (jF q.p),IsP (jF q.p),IsP (jF q.p),IsP (.pointer (some ⟨q.p,3,none⟩)),IsP (.pointer (some ⟨q.p,8,none⟩)),IsP (.slice va8 x.vals.length vc8),IsP (.agg #[.int .i64 ty,.int .i64 wd,.int .u64 n]),q7 0 (fun v w=>(∃g,v=.slice (some ⟨g,0,none⟩) 1 1)∧ValsAt w v [(ty,wd,n)]),ApF wr6 (.slice va8 x.vals.length vc8) (x.vals++[(ty,wd,n)]),IsP (jF q.p),IsP (.pointer (some ⟨q.p,3,none⟩)),IsP (.pointer (some ⟨q.p,8,none⟩)),fun _ _ _=>True]
     zk (ApW.grew (fun w1 w2 hg h=>Env.grew h hg)) ((jA.refl _).drew) zk zk ⟨jC,jC,jC,jC,jC,jC,jC,q9 (q7.st (fun v w w' hg h=>⟨h.1,h.2.grew hg⟩)),q9 (ApF.st),jC,jC,jC,⟨fun _ _ _ _ _ h=>h,fun _ _ _ _ _ h=>h⟩,trivial⟩ rfl ?_ ?_
    ·intro y w5 hW hF
     simp only[zB,IsP,Nat.reduceAdd,List.length_cons,List.length_nil] at hF hW
     have h0:=hF.1
     have h1:=hF.2.1
     have h2:=hF.2.2.1
     have h3:=hF.2.2.2.1
     have h4:=hF.2.2.2.2.1
     have h5:=hF.2.2.2.2.2.1
     have h6:=hF.2.2.2.2.2.2.1
     have h7:=hF.2.2.2.2.2.2.2.1
     have h8:=hF.2.2.2.2.2.2.2.2.1
     have h9:=hF.2.2.2.2.2.2.2.2.2.1
     have h10:=hF.2.2.2.2.2.2.2.2.2.2.1
     have h11:=hF.2.2.2.2.2.2.2.2.2.2.2.1
     clear hF
     simp only[jB,Act.put,zq1,zq2,zq3,zq4,zq5]
     simp only[h0,h1,h2,h3,h4,h5,h6,h9,h10,h11]
     clear h0 h1 h2 h3 h4 h5 h6 h9 h10 h11
     have HE8:Hid (Env B q most flags w κ ((w2.heap.size,Obj.cells #[.int .i64 x.vals.length] 3 (0,0))::(w4.heap.size,Obj.cells #[.int .i64 ty,.int .i64 wd,.int .u64 n] 65 (0,0))::[(w.heap.size+1,Obj.cells #[.slice va vals.length vc] 57 (0,0)),(w.heap.size,Obj.cells #[jF q.p] 26 (0,0))]) (({x with s:=s1,e:=kL x.e ee,lists:=zL list x.vals.length x.lists,vals:=x.vals++[(ty,wd,n)]}:BS)) w5):=hW
     clear hW h7 h8
     have cb8:=Env.cell HE8.out HN1.out 0 _ rfl
     go_wp2_with fail
     have HT:Hid (∀κ1 wz,Tn κ κ1 w wz→Env B q most flags wz κ1 (((w2.heap.size,Obj.cells #[.int .i64 x.vals.length] 3 (0,0))::(w4.heap.size,Obj.cells #[.int .i64 ty,.int .i64 wd,.int .u64 n] 65 (0,0))::[(w.heap.size+1,Obj.cells #[.slice va vals.length vc] 57 (0,0)),(w.heap.size,Obj.cells #[jF q.p] 26 (0,0))])) (({x with s:=s1,e:=kL x.e ee,lists:=zL list x.vals.length x.lists,vals:=x.vals++[(ty,wd,n)]}:BS)) wz→(({x with s:=s1,e:=kL x.e ee,lists:=zL list x.vals.length x.lists,vals:=x.vals++[(ty,wd,n)]}:BS)).e=0→Calls prog 81 #[.pointer (some ⟨w.heap.size,0,none⟩),.pointer (some ⟨w2.heap.size,0,none⟩),.pointer (some ⟨w.heap.size+1,0,none⟩)] wz fun r w'=>r=.returned (.tuple #[])∧j1 B q most flags κ1 ((({x with s:=s1,e:=kL x.e ee,lists:=zL list x.vals.length x.lists,vals:=x.vals++[(ty,wd,n)]}:BS)).tableEnd most x.vals.length vals) wz w'):=fun κ1 wz ht he he0=>HT1.out _ (x.vals.length) κ1 wz _ _ _ HNG.out he0 (by show _ < (x.vals++[(ty,wd,n)]).length;rw[List.length_append];simp) ht (he.mono (fun z hz=>by simp only[List.mem_cons,List.not_mem_nil,or_false] at hz⊢;rcases hz with rfl | rfl | rfl<;>simp))
     refine (HE8.out.callT fun κ1 hb ht he=>zG hb _ _ ((({x with s:=s1,e:=kL x.e ee,lists:=zL list x.vals.length x.lists,vals:=x.vals++[(ty,wd,n)]}:BS)).tableEnd most x.vals.length vals) (fun hne=>by unfold BS.tableEnd;rw[if_neg hne]) (fun _=>enters_of func81 zk rfl _ _) (fun he0=>HT.out κ1 _ ht he he0)).mono ?_
     rintro r w9 ⟨rfl,he⟩
     have HF:=zh he
     clear he
     go_wp2
     go_end0
     exact⟨rfl,by rw[HTE2.out];exact HF.out.turn⟩
    refine⟨?_,?_⟩
    ·refine jH 0 1 ?_
     intro y w5 p hlo hhi hW hD K hK
     have dq:=jI (ApW.old hW hhi (HE7.out.kp HN1.out) (fun e=>zZ HO8.out (HE7.out.kp HN1.out) (by decide) e.symm)) 0 _ rfl
     clear hD
     generalize hAA:jB y _ _=AA at hK⊢
     simp only[jB,Act.put,zq1,zq2,zq3,zq4,zq5,IsP] at hAA
     subst hAA
     simp only[zq4,zq5,IsP] at hK
     refine jL ?_
     go_simp
     exact hK _ _ _ rfl (jA.refl _) rfl
    refine⟨?_,?_⟩
    ·refine jH 0 0 ?_
     intro y w5 p hlo hhi hW hD K hK
     obtain rfl:p=0:=by omega
     have dq:=Env.cell ((HE7.out).grew (show jA wr6 w5 from hW)) HN1.out 0 _ rfl
     clear hD
     generalize hAA:jB y _ _=AA at hK⊢
     simp only[jB,Act.put,zq1,zq2,zq3,zq4,zq5,IsP] at hAA
     subst hAA
     simp only[zq4,zq5,IsP] at hK
     refine jL ?_
     go_simp
     exact hK _ _ _ rfl (jA.refl _) rfl
    refine⟨?_,?_⟩
    ·refine jH 0 0 ?_
     intro y w5 p hlo hhi hW hD K hK
     simp only[jV,zq4,zq5,IsP] at hD
     have h1:=hD.1
     clear hD
     generalize hAA:jB y _ _=AA at hK⊢
     simp only[jB,Act.put,zq1,zq2,zq3,zq4,zq5,IsP] at hAA
     subst hAA
     simp only[zq4,zq5,IsP] at hK
     simp only[h1] at hK⊢
     clear h1
     refine jL ?_
     go_simp
     exact hK _ _ _ rfl (jA.refl _) rfl
    refine⟨?_,?_⟩
    ·refine jH 0 0 ?_
     intro y w5 p hlo hhi hW hD K hK
     simp only[jV,zq4,zq5,IsP] at hD
     have h1:=hD.1
     have h2:=hD.2.1
     clear hD
     generalize hAA:jB y _ _=AA at hK⊢
     simp only[jB,Act.put,zq1,zq2,zq3,zq4,zq5,IsP] at hAA
     subst hAA
     simp only[zq4,zq5,IsP] at hK
     simp only[h1,h2] at hK⊢
     clear h1 h2
     refine jL ?_
     go_simp
     exact hK _ _ _ rfl (jA.refl _) rfl
    refine⟨?_,?_⟩
    ·refine jH 0 0 ?_
     intro y w5 p hlo hhi hW hD K hK
     simp only[jV,zq4,zq5,IsP] at hD
     have h1:=hD.1
     have h2:=hD.2.1
     have h3:=hD.2.2.1
     clear hD
     generalize hAA:jB y _ _=AA at hK⊢
     simp only[jB,Act.put,zq1,zq2,zq3,zq4,zq5,IsP] at hAA
     subst hAA
     simp only[zq4,zq5,IsP] at hK
     simp only[h1,h2,h3] at hK⊢
     clear h1 h2 h3
     refine jL ?_
     go_simp
     exact hK _ _ _ rfl (jA.refl _) rfl
    refine⟨?_,?_⟩
    ·refine jH 0 0 ?_
     intro y w5 p hlo hhi hW hD K hK
     obtain rfl:p=0:=by omega
     have dd:=jA.cell (show jA wr6 w5 from hW) c8
     simp only[jV,zq4,zq5,IsP] at hD
     have h1:=hD.1
     have h2:=hD.2.1
     have h3:=hD.2.2.1
     have h4:=hD.2.2.2.1
     clear hD
     generalize hAA:jB y _ _=AA at hK⊢
     simp only[jB,Act.put,zq1,zq2,zq3,zq4,zq5,IsP] at hAA
     subst hAA
     simp only[zq4,zq5,IsP] at hK
     simp only[h1,h2,h3,h4] at hK⊢
     clear h1 h2 h3 h4
     refine jL ?_
     go_simp
     exact hK _ _ _ rfl (jA.refl _) rfl
    refine⟨?_,?_⟩
    ·refine jH 0 0 ?_
     intro y w5 p hlo hhi hW hD K hK
     obtain rfl:p=0:=by omega
     have dv0:=Env.cell (HE7.out.grew (show jA wr6 w5 from hW)) HN3.out 0 _ rfl
     have dv1:=Env.cell (HE7.out.grew (show jA wr6 w5 from hW)) HN3.out 1 _ rfl
     have dv2:=Env.cell (HE7.out.grew (show jA wr6 w5 from hW)) HN3.out 2 _ rfl
     clear hD
     generalize hAA:jB y _ _=AA at hK⊢
     simp only[jB,Act.put,zq1,zq2,zq3,zq4,zq5,IsP] at hAA
     subst hAA
     simp only[zq4,zq5,IsP] at hK
     refine jL ?_
     go_simp
     exact hK _ _ _ rfl (jA.refl _) rfl
    refine⟨?_,?_⟩
    ·refine jH 0 0 ?_
     intro y w5 p hlo hhi hW hD K hK
     simp only[jV,zq4,zq5,IsP] at hD
     have h6:=hD.1
     clear hD
     generalize hAA:jB y _ _=AA at hK⊢
     simp only[jB,Act.put,zq1,zq2,zq3,zq4,zq5,IsP] at hAA
     subst hAA
     simp only[zq4,zq5,IsP] at hK
     simp only[h6] at hK⊢
     clear h6
     refine jL ?_
     go_simp
     obtain rfl:p=0:=by omega
     exact hK _ _ _ rfl ((jA.refl _).alloc _) (fun _=>⟨⟨_,rfl⟩,vQ w5 (ty,wd,n)⟩)
    refine⟨?_,?_⟩
    ·refine jN 0 rfl ?_
     intro y w5 hW hD K hK
     simp only[jV,zq4,zq5,IsP] at hD
     have h1:=hD.1
     have h2:=hD.2.1
     have h3:=hD.2.2.1
     have h4:=hD.2.2.2.1
     have h5:=hD.2.2.2.2.1
     have h6:=hD.2.2.2.2.2.1
     have h7:=hD.2.2.2.2.2.2.1
     clear hD
     generalize hAA:jB y _ _=AA at hK⊢
     simp only[jB,Act.put,zq1,zq2,zq3,zq4,zq5,IsP] at hAA
     subst hAA
     simp only[zq4,zq5,IsP] at hK
     simp only[h1,h2,h3,h4,h5,h6] at hK⊢
     clear h1 h2 h3 h4 h5 h6
     obtain⟨⟨g7,e7⟩,hv7⟩:=h7 (Nat.le_refl _)
     rw[e7] at hK hv7⊢
     refine jL ?_
     refine lE w5 _ _ rfl (.slice va8 x.vals.length vc8) x.vals rfl (yQ HO8.out (show jA wr6 w5 from hW)) _ (ty,wd,n) g7 rfl hv7 rfl (by have:=HVS.out;omega) ?_
     intro v' w' ho hgr hnx
     exact hK _ _ _ rfl trivial (Moved.trans (Moved.of_grew (S:=fun k=>some k=(Value.slice va8 x.vals.length vc8).ownBlock) (show jA wr6 w5 from hW)) (Moved.of_grown hgr) (fun _ _ e=>e)) ⟨ho,fun k hk=>(hnx k hk).imp id (fun e=>Nat.le_trans (jA.size (show jA wr6 w5 from hW)) e)⟩
    refine⟨?_,?_⟩
    ·refine jH 1 1 ?_
     intro y w5 p hlo hhi hW hD K hK
     simp only[jV,zq4,zq5,IsP] at hD
     have h0:=hD.1
     have h1:=hD.2.1
     have h2:=hD.2.2.1
     have h3:=hD.2.2.2.1
     have h4:=hD.2.2.2.2.1
     have h5:=hD.2.2.2.2.2.1
     have h6:=hD.2.2.2.2.2.2.1
     have h7:=hD.2.2.2.2.2.2.2.1
     have h8:=hD.2.2.2.2.2.2.2.2.1
     clear hD
     generalize hAA:jB y _ _=AA at hK⊢
     simp only[jB,Act.put,zq1,zq2,zq3,zq4,zq5,IsP] at hAA
     subst hAA
     simp only[zq4,zq5,IsP] at hK
     simp only[h0,h1,h2,h3,h4,h5,h6] at hK⊢
     clear h0 h1 h2 h3 h4 h5 h6
     refine jL ?_
     go_simp
     exact hK _ _ _ rfl (jA.refl _) rfl
    refine⟨?_,?_⟩
    ·refine jH 1 1 ?_
     intro y w5 p hlo hhi hW hD K hK
     simp only[jV,zq4,zq5,IsP] at hD
     have h0:=hD.1
     have h1:=hD.2.1
     have h2:=hD.2.2.1
     have h3:=hD.2.2.2.1
     have h4:=hD.2.2.2.2.1
     have h5:=hD.2.2.2.2.2.1
     have h6:=hD.2.2.2.2.2.2.1
     have h7:=hD.2.2.2.2.2.2.2.1
     have h8:=hD.2.2.2.2.2.2.2.2.1
     have h9:=hD.2.2.2.2.2.2.2.2.2.1
     clear hD
     generalize hAA:jB y _ _=AA at hK⊢
     simp only[jB,Act.put,zq1,zq2,zq3,zq4,zq5,IsP] at hAA
     subst hAA
     simp only[zq4,zq5,IsP] at hK
     simp only[h0,h1,h2,h3,h4,h5,h6,h9] at hK⊢
     clear h0 h1 h2 h3 h4 h5 h6 h9
     refine jL ?_
     go_simp
     exact hK _ _ _ rfl (jA.refl _) rfl
    refine⟨?_,?_⟩
    ·refine jH 1 1 ?_
     intro y w5 p hlo hhi hW hD K hK
     simp only[jV,zq4,zq5,IsP] at hD
     have h0:=hD.1
     have h1:=hD.2.1
     have h2:=hD.2.2.1
     have h3:=hD.2.2.2.1
     have h4:=hD.2.2.2.2.1
     have h5:=hD.2.2.2.2.2.1
     have h6:=hD.2.2.2.2.2.2.1
     have h7:=hD.2.2.2.2.2.2.2.1
     have h8:=hD.2.2.2.2.2.2.2.2.1
     have h9:=hD.2.2.2.2.2.2.2.2.2.1
     have h10:=hD.2.2.2.2.2.2.2.2.2.2.1
     clear hD
     generalize hAA:jB y _ _=AA at hK⊢
     simp only[jB,Act.put,zq1,zq2,zq3,zq4,zq5,IsP] at hAA
     subst hAA
     simp only[zq4,zq5,IsP] at hK
     simp only[h0,h1,h2,h3,h4,h5,h6,h9,h10] at hK⊢
     clear h0 h1 h2 h3 h4 h5 h6 h9 h10
     refine jL ?_
     go_simp
     exact hK _ _ _ rfl (jA.refl _) rfl
    refine⟨?_,?_⟩
    ·refine jN 1 rfl ?_
     intro y w5 hW hD K hK
     have hrp:w5.heap[q.p]? = some (Y9 q flags (.slice va8 x.vals.length vc8) ({({x with s:=s1}:BS).fail ee with lists:=zL list x.vals.length x.lists}).e):=Moved.heap (show Moved _ wr6 w5 from hW) HR8.out (fun e=>zZ HO8.out HR8.out (by decide) e.symm)
     have dd:=jI hrp 8 _ rfl
     have ff:=jE hrp 8
     simp only[jV,zq4,zq5,IsP] at hD
     have h0:=hD.1
     have h1:=hD.2.1
     have h2:=hD.2.2.1
     have h3:=hD.2.2.2.1
     have h4:=hD.2.2.2.2.1
     have h5:=hD.2.2.2.2.2.1
     have h6:=hD.2.2.2.2.2.2.1
     have h7:=hD.2.2.2.2.2.2.2.1
     have h8:=hD.2.2.2.2.2.2.2.2.1
     have h9:=hD.2.2.2.2.2.2.2.2.2.1
     have h10:=hD.2.2.2.2.2.2.2.2.2.2.1
     have h11:=hD.2.2.2.2.2.2.2.2.2.2.2.1
     clear hD
     generalize hAA:jB y _ _=AA at hK⊢
     simp only[jB,Act.put,zq1,zq2,zq3,zq4,zq5,IsP] at hAA
     subst hAA
     simp only[zq4,zq5,IsP] at hK
     simp only[h0,h1,h2,h3,h4,h5,h6,h9,h10,h11] at hK⊢
     clear h0 h1 h2 h3 h4 h5 h6 h9 h10 h11
     have hq:jO w5 0 _ _∧zO wr6 _ _:=h8
     obtain⟨a8,c8',e8,_⟩:=kD hq.1
     replace e8:y 8=.slice a8 (x.vals.length+1) c8':=by rw[e8];simp
     rw[e8] at hK hq⊢
     clear e8 h8
     refine jL ?_
     go_simp
     exact hK _ undef _ rfl trivial (HE7.out.setVals HR8.out (show Moved _ wr6 w5 from hW) hq.1 hq.2 HLV.out HOV.out) trivial
    trivial
   refine⟨?_,?_⟩
   ·refine jH 0 0 ?_
    intro y wr6 p hlo hhi hW hD K hK
    have dq:=Env.cell hW HN1.out 0 _ rfl
    clear hD
    generalize hAA:jB y _ _=AA at hK⊢
    simp only[jB,Act.put,zq1,zq2,zq3,zq4,zq5,IsP] at hAA
    subst hAA
    simp only[zq4,zq5,IsP] at hK
    refine jL ?_
    go_simp
    exact hK _ _ _ rfl (jA.refl _) rfl
   refine⟨?_,?_⟩
   ·refine jH 0 0 ?_
    intro y wr6 p hlo hhi hW hD K hK
    simp only[jV,zq4,zq5,IsP] at hD
    have h0:=hD.1
    clear hD
    generalize hAA:jB y _ _=AA at hK⊢
    simp only[jB,Act.put,zq1,zq2,zq3,zq4,zq5,IsP] at hAA
    subst hAA
    simp only[zq4,zq5,IsP] at hK
    simp only[h0] at hK⊢
    clear h0
    refine jL ?_
    go_simp
    exact hK _ _ _ rfl (jA.refl _) rfl
   refine⟨?_,?_⟩
   ·refine jH 0 0 ?_
    intro y wr6 p hlo hhi hW hD K hK
    simp only[jV,zq4,zq5,IsP] at hD
    have h0:=hD.1
    have h1:=hD.2.1
    clear hD
    generalize hAA:jB y _ _=AA at hK⊢
    simp only[jB,Act.put,zq1,zq2,zq3,zq4,zq5,IsP] at hAA
    subst hAA
    simp only[zq4,zq5,IsP] at hK
    simp only[h0,h1] at hK⊢
    clear h0 h1
    refine jL ?_
    go_simp
    exact hK _ _ _ rfl (jA.refl _) rfl
   refine⟨?_,?_⟩
   ·refine jH 0 0 ?_
    intro y wr6 p hlo hhi hW hD K hK
    simp only[jV,zq4,zq5,IsP] at hD
    have h0:=hD.1
    have h1:=hD.2.1
    have h2:=hD.2.2.1
    clear hD
    generalize hAA:jB y _ _=AA at hK⊢
    simp only[jB,Act.put,zq1,zq2,zq3,zq4,zq5,IsP] at hAA
    subst hAA
    simp only[zq4,zq5,IsP] at hK
    simp only[h0,h1,h2] at hK⊢
    clear h0 h1 h2
    refine jL ?_
    go_simp
    exact hK _ _ _ rfl (jA.refl _) rfl
   refine⟨?_,?_⟩
   ·refine jH 0 0 ?_
    intro y wr6 p hlo hhi hW hD K hK
    have dd:=Env.at6 hW
    simp only[jV,zq4,zq5,IsP] at hD
    have h0:=hD.1
    have h1:=hD.2.1
    have h2:=hD.2.2.1
    have h3:=hD.2.2.2.1
    clear hD
    generalize hAA:jB y _ _=AA at hK⊢
    simp only[jB,Act.put,zq1,zq2,zq3,zq4,zq5,IsP] at hAA
    subst hAA
    simp only[zq4,zq5,IsP] at hK
    simp only[h0,h1,h2,h3] at hK⊢
    clear h0 h1 h2 h3
    refine jL ?_
    go_simp
    exact hK _ _ _ rfl (jA.refl _) rfl
   refine⟨?_,?_⟩
   ·refine jH 0 0 ?_
    intro y wr6 p hlo hhi hW hD K hK
    clear hD
    generalize hAA:jB y _ _=AA at hK⊢
    simp only[jB,Act.put,zq1,zq2,zq3,zq4,zq5,IsP] at hAA
    subst hAA
    simp only[zq4,zq5,IsP] at hK
    refine jL ?_
    go_simp
    exact hK _ _ _ rfl (jA.refl _) rfl
   refine⟨?_,?_⟩
   ·refine jH 0 0 ?_
    intro y wr6 p hlo hhi hW hD K hK
    have di:=Env.cell hW List.mem_cons_self 0 _ rfl
    clear hD
    generalize hAA:jB y _ _=AA at hK⊢
    simp only[jB,Act.put,zq1,zq2,zq3,zq4,zq5,IsP] at hAA
    subst hAA
    simp only[zq4,zq5,IsP] at hK
    refine jL ?_
    go_simp
    exact hK _ _ _ rfl (jA.refl _) rfl
   refine⟨?_,?_⟩
   ·refine jN 0 rfl ?_
    intro y wr6 hW hD K hK
    simp only[jV,zq4,zq5,IsP] at hD
    have h0:=hD.1
    have h1:=hD.2.1
    have h2:=hD.2.2.1
    have h3:=hD.2.2.2.1
    have h4:=hD.2.2.2.2.1
    have h5:=hD.2.2.2.2.2.1
    have h6:=hD.2.2.2.2.2.2.1
    clear hD
    generalize hAA:jB y _ _=AA at hK⊢
    simp only[jB,Act.put,zq1,zq2,zq3,zq4,zq5,IsP] at hAA
    subst hAA
    simp only[zq4,zq5,IsP] at hK
    simp only[h0,h1,h2,h3,h4,h5,h6] at hK⊢
    clear h0 h1 h2 h3 h4 h5 h6
    refine jL ?_
    go_simp
    refine (Env.listsPut (x:=({x with s:=s1}:BS).fail ee) list (x.vals.length:Int) HLS.out hW).mono ?_
    rintro r w3 ⟨rfl,he⟩
    exact hK _ _ _ rfl trivial he rfl
   trivial
  | true=>
   have HO:=zh ho
   have HTE2:Hid (x.table most (onF flags 4) list keys vals=x.tableEnd most ga vals):=by have h:=HTE.out;show _=_;rw[ho] at h⊢;simpa using h
   clear ho
   go_wp2_with fail
   generalize (w2.alloc (.cells #[.int .i64 ga] 3))=w3 at *
   refine (HB1.out.onE 4).mono ?_
   rw[HO.out]
   rintro r w9 ⟨rfl,hw9⟩
   obtain rfl:w3=w9:=hw9.symm
   have hix:=HIX.out trivial
   obtain⟨i,hi1,hi2⟩:=hix
   subst hi1
   have HI:=zh hi2
   clear hi2
   have HB2:=HB1
   go_wp2_with fail
   have HT:Hid (∀κ1 wz,Tn κ κ1 w wz→Env B q most flags wz κ1 (((w2.heap.size,Obj.cells #[.int .i64 i] 3 (0,0))::[(w.heap.size+1,Obj.cells #[.slice va vals.length vc] 57 (0,0)),(w.heap.size,Obj.cells #[jF q.p] 26 (0,0))])) (x) wz→(x).e=0→Calls prog 81 #[.pointer (some ⟨w.heap.size,0,none⟩),.pointer (some ⟨w2.heap.size,0,none⟩),.pointer (some ⟨w.heap.size+1,0,none⟩)] wz fun r w'=>r=.returned (.tuple #[])∧j1 B q most flags κ1 ((x).tableEnd most i vals) wz w'):=fun κ1 wz ht he he0=>HT1.out _ (i) κ1 wz _ _ _ HG.out he0 (HI.out) ht (he.mono (fun z hz=>by simp only[List.mem_cons,List.not_mem_nil,or_false] at hz⊢;rcases hz with rfl | rfl | rfl<;>simp))
   refine (HB2.out.callT fun κ1 hb ht he=>zG hb _ _ ((x).tableEnd most i vals) (fun hne=>by unfold BS.tableEnd;rw[if_neg hne]) (fun _=>enters_of func81 zk rfl _ _) (fun he0=>HT.out κ1 _ ht he he0)).mono ?_
   rintro r w9 ⟨rfl,he⟩
   have HF:=zh he
   clear he
   go_wp2
   go_end0
   exact⟨rfl,by rw[HTE2.out];exact HF.out.turn⟩
end Go.Proofs.YtjnpcddbgfmpcaaGreatDoor
