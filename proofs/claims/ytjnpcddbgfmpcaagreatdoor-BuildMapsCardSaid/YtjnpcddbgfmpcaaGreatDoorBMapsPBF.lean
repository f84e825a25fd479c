/-
  Texts of the proof.
-/
import Derived.Test.YtjnpcddbgfmpcaaGreatDoorBMapsPAC
import Derived.Test.YtjnpcddbgfmpcaaGreatDoorBMapsPAK
set_option maxHeartbeats 1600000
namespace Go.Proofs.YtjnpcddbgfmpcaaGreatDoor.Ft
open Go Go.RowKit
def leastW (m:Int):Int:=if m≤8 then 1 else if m≤16 then 2 else if m≤32 then 4 else 8
def widthOf (n:Nat):Int:=if n < 2 ^ 8 then 1 else if n < 2 ^ 16 then 2 else if n < 2 ^ 32 then 4 else 8
theorem least_any (m:Int) (w:World) :
 Calls Tryz.prog 148 #[.int .i64 m] w fun e w'=>e=.returned (.int .i64 (leastW m))∧w=w':=by
 go_enter Tryz.func148,Tryz.ntmps148
 go_wp2
 go_loop [3,4,5] (fun _ _ c=>c=.int .i64 0∨(c=.int .i64 1∧8 < m)∨(c=.int .i64 2∧16 < m)∨(c=.int .i64 3∧32 < m)∨(c=.int .i64 4∧32 < m)) (fun _ _ c=>4 - (intOf c).toNat)
 case atStart=>exact Or.inl rfl
 case round=>
  rcases hrel with rfl|⟨rfl,h⟩|⟨rfl,h⟩|⟨rfl,h⟩|⟨rfl,h⟩
  all_goals go_wp2
  all_goals first
   | (go_round
      case rel=>simp;try omega
      case measure=>simp[intOf])
   | (go_ret
      exact⟨qA (by unfold leastW;repeat' split<;>omega),rfl⟩)
theorem QR:∀(f n k:Nat),n < 2 ^ f→(Lib.bitLenAux f n≤k↔n < 2 ^ k)
 | 0,n,k,h=>by
  have h0:n=0:=by simpa using h
  subst h0
  simp[Lib.bitLenAux,Nat.pow_pos]
 | f+1,n,k,h=>by
  unfold Lib.bitLenAux
  by_cases h0:n=0
  ·subst h0;simp[Nat.pow_pos]
  ·rw[if_neg h0]
   have ih:=QR f (n / 2) (k - 1) (by rw[Nat.pow_succ] at h;omega)
   cases k with
   | zero=>simp;omega
   | succ k=>
    rw[Nat.add_sub_cancel] at ih
    rw[Nat.pow_succ]
    constructor
    ·intro hle;have:=ih.1 (by omega);omega
    ·intro hlt;have:=ih.2 (by omega);omega
theorem bitLen_le (n k:Nat) (h:n < 2 ^ 64):Lib.bitLen n≤k↔n < 2 ^ k:=QR 64 n k h
theorem widthOf_any (u:Int) (w:World) (h0:0≤u) (h1:u≤18446744073709551615) :
 Calls Tryz.prog 103 #[.int .u64 u] w fun e w'=>e=.returned (.int .i64 (widthOf u.toNat))∧w=w':=by
 go_enter Tryz.func103,Tryz.ntmps103
 go_wp2_with fail
 refine (Tryz.bits_Len64 u _ h0 h1).mono ?_
 rintro e w1 ⟨rfl,rfl⟩
 go_wp2_with fail
 refine (least_any _ _).mono ?_
 rintro e w1 ⟨rfl,rfl⟩
 go_wp2
 go_ret
 refine⟨qA ?_,rfl⟩
 have hu:u.toNat < 2 ^ 64:=by omega
 have a:=bitLen_le u.toNat 8 hu
 have b:=bitLen_le u.toNat 16 hu
 have c:=bitLen_le u.toNat 32 hu
 unfold leastW widthOf
 by_cases h8:u.toNat < 2 ^ 8
 ·rw[if_pos h8,if_pos (by have:=a.2 h8;omega)]
 ·rw[if_neg h8,if_neg (by intro h;exact h8 (a.1 (by omega)))]
  by_cases h16:u.toNat < 2 ^ 16
  ·rw[if_pos h16,if_pos (by have:=b.2 h16;omega)]
  ·rw[if_neg h16,if_neg (by intro h;exact h16 (b.1 (by omega)))]
   by_cases h32:u.toNat < 2 ^ 32
   ·rw[if_pos h32,if_pos (by have:=c.2 h32;omega)]
   ·rw[if_neg h32,if_neg (by intro h;exact h32 (c.1 (by omega)))]
end Go.Proofs.YtjnpcddbgfmpcaaGreatDoor.Ft
