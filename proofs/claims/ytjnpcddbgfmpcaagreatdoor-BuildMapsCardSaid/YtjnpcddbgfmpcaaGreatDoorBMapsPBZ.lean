/-
  Texts of the proof.
-/
import Derived.Test.YtjnpcddbgfmpcaaGreatDoorBMapsPBY
import Derived.Lib.ReplaceLaws
set_option linter.unusedVariables false
set_option linter.unusedSimpArgs false
set_option maxHeartbeats 16000000
set_option maxRecDepth 100000
namespace Go.Proofs.YtjnpcddbgfmpcaaGreatDoor
open Go Go.ChangeShapes Go.WideShapes Go.ChangeAt Go.RowKit Go.Joins Go.Deep
open Go.Proofs.YtjnpcddbgfmpcaaGreatDoor.Ft (V3 vV okV ValsAt inlineB legalB packF codeF typedF allF)
theorem tK (s:ByteArray) (mx:Int) (w:World) (hs:s.size≤1000) (hm:w.cell? ⟨0,0,none⟩=some (.int .i64 mx)) :
 Calls Tryz.prog 6 #[.string s,.string ⟨#[0]⟩,.string ⟨#[45]⟩] w fun r w'=>r=.returned (.string (Q4 s))∧jA w w':=by
 have hc:=Lib.countB_mul_le ⟨#[0]⟩ (by decide) s.size s (Nat.le_refl _)
 have h:=Tryz.strings_ReplaceAll s ⟨#[0]⟩ ⟨#[45]⟩ mx w (by omega) hm (by decide) (by
  have e:(⟨#[45]⟩:ByteArray).size=(⟨#[0]⟩:ByteArray).size:=rfl
  rw[e];omega)
 rw[show (⟨#[0]⟩:ByteArray).data.toList=[0] from rfl,show (⟨#[45]⟩:ByteArray).data.toList=[45] from rfl,rC] at h
 exact h
theorem rH {d:List UInt8} {at_ X:Int} {i:Nat} {k:ByteArray} {a:Option Addr} {c:Nat} {W:World} (hb:kB W (.slice a d.length c) d) (h:lZ d at_ X i k) (hz:(0:UInt8)∉k.data.toList) (hd:d.length≤1073741824) (hX:isW X=true) (h0:0≤at_) (h1:at_≤1073741824) (hi:i≤1000) :
 Calls Tryz.prog 19 #[.slice a d.length c,.int .i64 at_,.int .i64 X,.int .i64 i] W fun r W'=>r=.returned (.tuple #[.string k,.bool true])∧jA W W':=by
 obtain⟨off,hl,o0,o1,tl,ht⟩:=h.num
 have hXp:=kI hX
 obtain⟨y,hy⟩:∃y,(i:Int)*X=y:=⟨_,rfl⟩
 have y0:0≤y:=by rw[← hy];exact Int.mul_nonneg (by omega) (by omega)
 have y1:y≤8000:=by
  have:=Int.mul_le_mul (show (i:Int)≤1000 by omega) hXp.2 (by omega) (by omega)
  omega
 rw[hy] at hl o1 ht
 obtain⟨j,hj⟩:∃j:Nat,at_+y - off=(j:Int):=⟨(at_+y - off).toNat,by omega⟩
 rw[hj,Int.toNat_natCast] at ht
 have hjl:j < d.length:=by
  refine Nat.lt_of_not_le fun e=>?_
  rw[List.drop_of_length_le e] at ht
  exact absurd (congrArg List.length ht) (by simp)
 obtain⟨b,o,rfl,hbl,j2⟩:=QD hb (by intro e;rw[e] at hjl;simp at hjl)
 have HL:Hid (Calls Tryz.prog 18 #[.slice (some ⟨b,o,none⟩) d.length c,.int .i64 (at_+y),.int .i64 X] W fun r w3=>r=.returned (.tuple #[.int .u64 off,.int .i64 0])∧jA W w3):=by
  have h':=VB (w:=W) _ d hb hd (at_+y) X (by first | omega | (unfold JN;omega)) (fun ad n c e=>by cases e;exact hbl)
  rw[hl] at h'
  exact h'
 have hcl:d.length≤c:=by obtain⟨_,_,e,h2,_⟩:=hb;injection e with e1 e2 e3;omega
 have hdl:d.length - j=(k.data.toList++0::tl).length:=by rw[← ht,List.length_drop]
 have HB:Hid (kB W (.slice (some ⟨b,o+j,none⟩) (d.length - j) (c - j)) (k.data.toList++0::tl)):=by
  rw[hdl]
  refine⟨_,c - j,rfl,by omega,(fun h=>by cases h),fun i x hx=>⟨_,_,rfl,?_⟩⟩
  rw[Nat.add_assoc]
  refine j2 _ _ ?_
  rw[← ht,List.getElem?_drop] at hx
  exact hx
 have HI:=zh (YS k.data.toList tl hz)
 have hkl:k.data.toList.length=k.size:=by rw[Array.length_toList];rfl
 have hks:k.size < d.length - j:=by rw[hdl,List.length_append,hkl];simp
 have hwm:IntKind.i64.wrap ((i:Int)*X)=y:=by rw[hy,IntKind.wrap_i64];omega
 have hwa:IntKind.i64.wrap (at_+y)=at_+y:=by rw[IntKind.wrap_i64];omega
 have hwo:IntKind.i64.wrap off=off:=by rw[IntKind.wrap_i64];omega
 have hwu:IntKind.u64.wrap (at_+y)=at_+y:=by first | (rw[IntKind.wrap_u64];omega) | (simp[IntKind.wrap,IntKind.bits,IntKind.signed];omega)
 have hws:IntKind.i64.wrap (at_+y - off)=(j:Int):=by rw[hj,IntKind.wrap_i64];omega
 have HKX:Hid ((⟨(k.data.toList++0::tl).toArray⟩:ByteArray).extract 0 k.size=k):=by
  show _=_
  apply ByteArray.ext
  apply Array.ext'
  rw[ByteArray.data_extract,← hkl]
  simp
 clear hl ht j2 hb h hdl hy hX
 go_enter Tryz.func19,Tryz.ntmps19
 go_wp2_with fail
 refine HL.out.mono ?_
 rintro r w1 ⟨rfl,hg⟩
 have HG:=zh hg
 clear hg HL
 have hst:=yK (HB.out.grew HG.out)
 go_wp2_with fail
 have hix:=Tryz.strings_IndexByte ⟨(k.data.toList++0::tl).toArray⟩ 0 w1
 rw[show (⟨(k.data.toList++0::tl).toArray⟩:ByteArray).data.toList=k.data.toList++0::tl by simp,show (Int.toNat 0).toUInt8=(0:UInt8) from rfl,HI.out,hkl] at hix
 refine hix.mono ?_
 clear hix hst
 rintro r w2 ⟨rfl,e⟩
 subst e
 have hsz:(⟨(k.data.toList++0::tl).toArray⟩:ByteArray).size=k.size+1+tl.length:=by
  show (k.data.toList++0::tl).toArray.size=_
  rw[List.size_toArray,List.length_append,hkl,List.length_cons];omega
 have hkx:=HKX.out
 generalize (⟨(k.data.toList++0::tl).toArray⟩:ByteArray)=s at *
 have hk0:¬(k.size:Int) < 0:=by omega
 go_wp2
 try simp only[Exit.inBlock,Exit.then]
 go_ret2
 exact⟨by first | rfl | rw[hkx],HG.out⟩
end Go.Proofs.YtjnpcddbgfmpcaaGreatDoor
