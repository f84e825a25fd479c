/-
  Texts of the proof.
-/
import Derived.Test.YtjnpcddbgfmpcaaGreatDoorBKeysPBR
import Derived.Test.YtjnpcddbgfmpcaaGreatDoorBKeysPBV
set_option linter.unusedVariables false
set_option linter.unusedSimpArgs false
namespace Go.Proofs.YtjnpcddbgfmpcaaGreatDoor
open Go Go.ChangeShapes Go.WideShapes Go.ChangeAt Go.RowKit Go.Joins Go.Deep
open Go.Proofs.YtjnpcddbgfmpcaaGreatDoor.Ft (V3 vV okV ValsAt inlineB legalB packF codeF typedF allF oneF allAt headF fitsL fitsV fitsF belowW isA unpackF)
theorem pA:KL []:=List.Pairwise.nil
structure cA (d:List UInt8) (at_ X:Int) (i:Nat) (k:ByteArray):Prop where
 num:∃off:Int,kP d (at_+i*X) X=(off,0)∧0≤off∧off≤at_+i*X∧∃t,d.drop (at_+i*X - off).toNat=k.data.toList++0::t
theorem sG {d:List UInt8} {at_ X:Int} {l:List ByteArray} (h:QR d X at_ l=true) (hX:isW X=true) {i:Nat} {k:ByteArray} (hi:l[i]? = some k):cA d at_ X i k:=by
 unfold QR at h
 simp only[Bool.and_eq_true] at h
 have hk:=names_iff.1 h.2 i k hi
 rw[Nat.zero_add] at hk
 unfold V4 at hk
 simp only[Bool.and_eq_true,decide_eq_true_eq] at hk
 obtain⟨⟨hf,_⟩,hh⟩:=hk
 unfold VZ at hf
 simp only[Bool.and_eq_true,decide_eq_true_eq] at hf
 obtain⟨⟨hn,hle⟩,_⟩:=hf
 have hpos:=nL d (at_+(i:Int)*X) X
 unfold qG at hn hle hh
 simp only[Bool.and_eq_true,decide_eq_true_eq] at hn
 have hm:min (kP d (at_+(i:Int)*X) X).1 9007199254740992=(kP d (at_+(i:Int)*X) X).1:=by omega
 dsimp only at hle hh
 rw[hm] at hle hh
 refine⟨⟨(kP d (at_+(i:Int)*X) X).1,Prod.ext rfl hn.1,hpos.1,hle,?_⟩⟩
 unfold gB at hh
 simp only[Bool.and_eq_true,decide_eq_true_eq] at hh
 obtain⟨⟨_,_⟩,he⟩:=hh
 refine⟨(d.drop (at_+(i:Int)*X - (kP d (at_+(i:Int)*X) X).1).toNat).drop (Y0 k).size,?_⟩
 have e:=List.take_append_drop (Y0 k).size (d.drop (at_+(i:Int)*X - (kP d (at_+(i:Int)*X) X).1).toNat)
 rw[he] at e
 have e2:(Y0 k).data.toList=k.data.toList++[0]:=by simp[Y0]
 rw[e2,List.append_assoc] at e
 exact e.symm
theorem sH {l:List ByteArray} (hk:∀k∈l,qA k=0) (hc:vS l≤2000) (hl:l.length≤40) :
 ∃(d t:List UInt8) (X p:Int),((BS.new.keyVec 1048576 true l).finish 1048576).1=(d,0)∧d=wantB [] l++t∧isW X=true∧((wantB [] l).length:Int)≤p - X∧p - X < (wantB [] l).length+X ∧
  (∃(m w T:Nat) (off:Int),fQ d m w T off 14 X∧(m:Int) - w - off=p)∧∀(i:Nat) k,l[i]? = some k→cA d p X i k:=by
 obtain⟨e,h1,h2,h3,h4,h5,h6,h7⟩:=bQ (most:=1048576) (sh:=true) l Inv.new hk (by show ((0:Nat):Int)+vS l≤_;omega)
 have hW:=VP (most:=1048576) (by omega) l Inv.new pA hk (by show ((0:Nat):Int)+vS l≤_;omega)
 have hn:(BS.new.putAll 1048576 true l).1.length=l.length:=by rw[h5.1,List.length_map]
 have hW0:(BS.new.putAll 1048576 true l).2.s.1=wantB [] l:=by rw[hW];rfl
 have he:e.length=(wantB [] l).length:=by rw[← hW0,h2];rfl
 have hbl:(wantB [] l).length≤2000:=by omega
 have hkv:BS.new.keyVec 1048576 true l=(BS.new.putAll 1048576 true l).2.vector 1048576 4 0 (BS.new.putAll 1048576 true l).1:=by unfold BS.keyVec;rw[if_pos (show BS.new.e=0 from rfl)]
 rw[hkv]
 generalize hY:BS.new.putAll 1048576 true l=Y at *
 obtain⟨vs,x⟩:=Y
 dsimp only at *
 obtain⟨b,hb⟩:∃b,wantB [] l=b:=⟨_,rfl⟩
 rw[hb] at hW0 hbl⊢
 have hxs:x.s=(b,0):=by rw[h1.s,hW0]
 rw[hW0] at h5
 have hnear:=h5.near (show b.length≤1048576 by omega)
 obtain⟨X,hX⟩:∃X,allF vs (0,0,0) b.length (if true then 1 else 0)=X:=⟨_,rfl⟩
 obtain⟨p,hp⟩:∃p,(b.length:Int)+kF b X+(if true then X else 0)=p:=⟨_,rfl⟩
 obtain⟨hw,hH,hmod,hge,hlt,j7,hin⟩:=heldB (len:=true) (jW:=false) (show b.length≤1048576 by omega) (show vs.length≤1048576 by omega) hnear hX hp
 have hwp:=zF hw
 have hle:=p6 hw true false b vs
 have hput:=putF_ok (most:=1048576) (T:=j4 4) (len:=true) (jW:=false) (kind:=14) (fun v hv=>l6 (h6 v hv) (hnear v hv).1) (show b.length≤1048576 by omega) (show vs.length≤1048576 by omega) hnear hX (by omega)
 have hpl:=Z5 hw true false b vs
 have hnames:=l4 h5 h6 (show b.length≤1048576 by omega) (show vs.length≤65536 by omega) (by simpa using hX) (by simpa using hp)
 rw[hp] at hput
 obtain⟨R,hR⟩:∃R,(qB X true false b vs).flatten=R:=⟨_,rfl⟩
 rw[hR] at hput hpl hnames
 have hI:=h1.ext R x.stk
 rw[hW0] at hI
 have hst:x.stk=[]:=h4
 have hx:x.vector 1048576 4 0 vs={x with s:=(b++R,0),stk:=[(14,X,p)]}:=by
  unfold BS.vector
  rw[if_pos h1.e0,vp_of (typ:=14) (show (4:Int)≠-1 by decide) (by decide +kernel) vs x.s,hxs]
  rw[show (decide ((0:Int)=0))=true from rfl,hput]
  dsimp only
  rw[l5 (x:={x with s:=(b++R,0)}) h1.e0]
  have:=r8 (x:={x with s:=(b++R,0)}) hI (14,X,p) (by rw[hst];show 0+1≤65536;omega)
  rw[this,hst]
  rfl
 rw[hx]
 have hplen:((b++R).length:Int)=VJ X true false b vs:=by rw[List.length_append,← hpl];omega
 have hmul0:0≤X*(vs.length:Int):=Int.mul_nonneg (by omega) (by omega)
 simp only[if_true] at hge hlt hp
 have hp1:p≤((b++R).length:Int):=by
  rw[hplen]
  unfold VJ
  simp only[if_true]
  simp
  omega
 have hnv:YI (b++R).length (14,X,p):=by
  have hl14:jX (14,X,p)=0:=by
   have h1:legalB 14=true:=by decide
   unfold jX
   rw[if_pos h1,if_neg (by rw[show ((14:Int),X,p).1=14 from rfl];decide),if_pos hw]
  exact rL hl14 (by decide) (by omega) hp1 (by omega)
 have hone:=ZE (show (b++R).length≤1048576 by omega) hnv
 have hdl:=YL hone.1
 have hop:=zF hone.1
 have hpad:=padN_le (b++R) hone.1
 have hfin:=n8 (most:=1048576) (x:={x with s:=(b++R,0),stk:=[(14,X,p)]}) h1.e0 rfl rfl (by omega) hnv (by rw[hdl];omega)
 obtain⟨m,w,T,off,hr,ho⟩:=mG (show (b++R).length≤1048576 by omega) hnv (show inlineB 14=false by decide)
 obtain⟨tl,htl⟩:∃tl,Q1 (b++R) (14,X,p)=b++R++tl:=⟨_,rfl⟩
 refine⟨Q1 (b++R) (14,X,p),R++tl,X,p,hfin,by rw[htl,List.append_assoc],hw,hge,hlt,⟨m,w,T,off,hr,ho⟩,fun i k hi=>?_⟩
 have hnn:=hnames tl
 rw[← htl] at hnn
 exact sG hnn hw hi
end Go.Proofs.YtjnpcddbgfmpcaaGreatDoor
