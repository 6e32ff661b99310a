/- Sch1 Sch2 Sch3 -/
import Derived.Test.YtjlhbfbdcfajfaaGreatDoorB13
import Derived.Test.YtjlhbfbdcfajfaaGreatDoorB08
namespace Go.Proofs.YtjlhbfbdcfajfaaGreatDoor
open Go.RowKit
def iQ (k:ByteArray):Int:=
 if k=(⟨#[99,111,110,116,101,115,116]⟩:ByteArray) then 4 else
 6
set_option maxRecDepth 20000 in
set_option maxHeartbeats 1000000 in
theorem I7 (k:ByteArray) (w:World):Calls Tryz.prog 122 #[.string k] w (gq w (.int .i64 (iQ k))):=by
 by_cases h1:k=(⟨#[99,111,110,116,101,115,116]⟩:ByteArray)
 ·subst h1;have hv:iQ (⟨#[99,111,110,116,101,115,116]⟩:ByteArray)=4:=rfl;rw[hv];go_enter Tryz.func122,Tryz.ntmps122;go_wp2_with fail;go_ret
  exact⟨rfl,rfl⟩
 ·have hv:iQ k=6:=by unfold iQ;simp[h1]
  rw[hv];have eh1:(k.toList==[99,111,110,116,101,115,116])=false:=aC (l:=[99,111,110,116,101,115,116]) h1;clear hv h1;go_enter Tryz.func122,Tryz.ntmps122;go_wp2_with fail;go_ret
  exact⟨rfl,rfl⟩
def fU (k:ByteArray):Int:=
 if k=(⟨#[110,97,109,101,115]⟩:ByteArray)∨k=(⟨#[112,114,101,99,105,110,99,116,115]⟩:ByteArray) then 12 else
 if k=(⟨#[99,111,110,116,101,115,116,115]⟩:ByteArray) then 4 else
 if k=(⟨#[99,97,110,100,105,100,97,116,101,115]⟩:ByteArray) then 7 else
 0
set_option maxRecDepth 20000 in
set_option maxHeartbeats 1000000 in
theorem Nr (k:ByteArray) (w:World):Calls Tryz.prog 123 #[.string k] w (gq w (.int .i64 (fU k))):=by
 by_cases h1:k=(⟨#[110,97,109,101,115]⟩:ByteArray)
 ·subst h1;have hv:fU (⟨#[110,97,109,101,115]⟩:ByteArray)=12:=rfl;rw[hv];go_enter Tryz.func123,Tryz.ntmps123;go_wp2_with fail;go_ret
  exact⟨rfl,rfl⟩
 ·
  by_cases h2:k=(⟨#[112,114,101,99,105,110,99,116,115]⟩:ByteArray)
  ·subst h2;have hv:fU (⟨#[112,114,101,99,105,110,99,116,115]⟩:ByteArray)=12:=rfl;rw[hv];go_enter Tryz.func123,Tryz.ntmps123;go_wp2_with fail;go_ret
   exact⟨rfl,rfl⟩
  ·
   by_cases h3:k=(⟨#[99,111,110,116,101,115,116,115]⟩:ByteArray)
   ·subst h3;have hv:fU (⟨#[99,111,110,116,101,115,116,115]⟩:ByteArray)=4:=rfl;rw[hv];go_enter Tryz.func123,Tryz.ntmps123;go_wp2_with fail;go_ret
    exact⟨rfl,rfl⟩
   ·
    by_cases h4:k=(⟨#[99,97,110,100,105,100,97,116,101,115]⟩:ByteArray)
    ·subst h4;have hv:fU (⟨#[99,97,110,100,105,100,97,116,101,115]⟩:ByteArray)=7:=rfl;rw[hv];go_enter Tryz.func123,Tryz.ntmps123;go_wp2_with fail;go_ret
     exact⟨rfl,rfl⟩
    ·have hv:fU k=0:=by unfold fU;simp[h1,h2,h3,h4]
     rw[hv];have eh1:(k.toList==[110,97,109,101,115])=false:=aC (l:=[110,97,109,101,115]) h1;have eh2:(k.toList==[112,114,101,99,105,110,99,116,115])=false:=aC (l:=[112,114,101,99,105,110,99,116,115]) h2;have eh3:(k.toList==[99,111,110,116,101,115,116,115])=false:=aC (l:=[99,111,110,116,101,115,116,115]) h3;have eh4:(k.toList==[99,97,110,100,105,100,97,116,101,115])=false:=aC (l:=[99,97,110,100,105,100,97,116,101,115]) h4;clear hv h1 h2 h3 h4;go_enter Tryz.func123,Tryz.ntmps123;go_wp2_with fail;go_ret
     exact⟨rfl,rfl⟩
def tk (k:ByteArray):Bool:=
 if k=(⟨#[99,111,110,116,101,115,116]⟩:ByteArray) then true else
 if k=(⟨#[115,116,121,108,101]⟩:ByteArray) then true else
 false
set_option maxRecDepth 20000 in
set_option maxHeartbeats 1000000 in
theorem Qj (k:ByteArray) (w:World):Calls Tryz.prog 119 #[.string k] w (gq w (.bool (tk k))):=by
 by_cases h1:k=(⟨#[99,111,110,116,101,115,116]⟩:ByteArray)
 ·subst h1;have hv:tk (⟨#[99,111,110,116,101,115,116]⟩:ByteArray)=true:=rfl;rw[hv];go_enter Tryz.func119,Tryz.ntmps119;go_wp2_with fail;go_ret
  exact⟨rfl,rfl⟩
 ·
  by_cases h2:k=(⟨#[115,116,121,108,101]⟩:ByteArray)
  ·subst h2;have hv:tk (⟨#[115,116,121,108,101]⟩:ByteArray)=true:=rfl;rw[hv];go_enter Tryz.func119,Tryz.ntmps119;go_wp2_with fail;go_ret
   exact⟨rfl,rfl⟩
  ·have hv:tk k=false:=by unfold tk;simp[h1,h2]
   rw[hv];have eh1:(k.toList==[99,111,110,116,101,115,116])=false:=aC (l:=[99,111,110,116,101,115,116]) h1;have eh2:(k.toList==[115,116,121,108,101])=false:=aC (l:=[115,116,121,108,101]) h2;clear hv h1 h2;go_enter Tryz.func119,Tryz.ntmps119;go_wp2_with fail;go_ret
   exact⟨rfl,rfl⟩
def jb (k:ByteArray):Int×Int:=
 if k=(⟨#[100,111,116,115]⟩:ByteArray) then(2,7) else
 if k=(⟨#[98,108,97,110,107]⟩:ByteArray)∨k=(⟨#[109,97,114,107,101,100]⟩:ByteArray) then(1,100) else
 if k=(⟨#[99,111,117,110,116]⟩:ByteArray) then(1,6) else
 if k=(⟨#[98,97,116,99,104]⟩:ByteArray) then(1,16) else
 if k=(⟨#[115,101,97,116,115]⟩:ByteArray) then(1,5) else
 if k=(⟨#[114,97,110,107,115]⟩:ByteArray) then(1,7) else
 if k=(⟨#[100,105,103,105,116,115]⟩:ByteArray) then(1,6) else
 if k=(⟨#[99,101,108,108]⟩:ByteArray) then(1,400) else
 (0,0)
set_option maxRecDepth 20000 in
set_option maxHeartbeats 1000000 in
theorem Ow (k:ByteArray) (w:World):Calls Tryz.prog 151 #[.string k] w (gq w (.tuple #[.int .i64 (jb k).1,.int .i64 (jb k).2])):=by
 by_cases h1:k=(⟨#[100,111,116,115]⟩:ByteArray)
 ·subst h1;have hv:jb (⟨#[100,111,116,115]⟩:ByteArray)=(2,7):=rfl;rw[hv];go_enter Tryz.func151,Tryz.ntmps151;go_wp2_with fail;go_ret2
  exact⟨rfl,rfl⟩
 ·
  by_cases h2:k=(⟨#[98,108,97,110,107]⟩:ByteArray)
  ·subst h2;have hv:jb (⟨#[98,108,97,110,107]⟩:ByteArray)=(1,100):=rfl;rw[hv];go_enter Tryz.func151,Tryz.ntmps151;go_wp2_with fail;go_ret2
   exact⟨rfl,rfl⟩
  ·
   by_cases h3:k=(⟨#[109,97,114,107,101,100]⟩:ByteArray)
   ·subst h3;have hv:jb (⟨#[109,97,114,107,101,100]⟩:ByteArray)=(1,100):=rfl;rw[hv];go_enter Tryz.func151,Tryz.ntmps151;go_wp2_with fail;go_ret2
    exact⟨rfl,rfl⟩
   ·
    by_cases h4:k=(⟨#[99,111,117,110,116]⟩:ByteArray)
    ·subst h4;have hv:jb (⟨#[99,111,117,110,116]⟩:ByteArray)=(1,6):=rfl;rw[hv];go_enter Tryz.func151,Tryz.ntmps151;go_wp2_with fail;go_ret2
     exact⟨rfl,rfl⟩
    ·
     by_cases h5:k=(⟨#[98,97,116,99,104]⟩:ByteArray)
     ·subst h5;have hv:jb (⟨#[98,97,116,99,104]⟩:ByteArray)=(1,16):=rfl;rw[hv];go_enter Tryz.func151,Tryz.ntmps151;go_wp2_with fail;go_ret2
      exact⟨rfl,rfl⟩
     ·
      by_cases h6:k=(⟨#[115,101,97,116,115]⟩:ByteArray)
      ·subst h6;have hv:jb (⟨#[115,101,97,116,115]⟩:ByteArray)=(1,5):=rfl;rw[hv];go_enter Tryz.func151,Tryz.ntmps151;go_wp2_with fail;go_ret2
       exact⟨rfl,rfl⟩
      ·
       by_cases h7:k=(⟨#[114,97,110,107,115]⟩:ByteArray)
       ·subst h7;have hv:jb (⟨#[114,97,110,107,115]⟩:ByteArray)=(1,7):=rfl;rw[hv];go_enter Tryz.func151,Tryz.ntmps151;go_wp2_with fail;go_ret2
        exact⟨rfl,rfl⟩
       ·
        by_cases h8:k=(⟨#[100,105,103,105,116,115]⟩:ByteArray)
        ·subst h8;have hv:jb (⟨#[100,105,103,105,116,115]⟩:ByteArray)=(1,6):=rfl;rw[hv];go_enter Tryz.func151,Tryz.ntmps151;go_wp2_with fail;go_ret2
         exact⟨rfl,rfl⟩
        ·
         by_cases h9:k=(⟨#[99,101,108,108]⟩:ByteArray)
         ·subst h9;have hv:jb (⟨#[99,101,108,108]⟩:ByteArray)=(1,400):=rfl;rw[hv];go_enter Tryz.func151,Tryz.ntmps151;go_wp2_with fail;go_ret2
          exact⟨rfl,rfl⟩
         ·have hv:jb k=(0,0):=by unfold jb;simp[h1,h2,h3,h4,h5,h6,h7,h8,h9]
          rw[hv];have eh1:(k.toList==[100,111,116,115])=false:=aC (l:=[100,111,116,115]) h1;have eh2:(k.toList==[98,108,97,110,107])=false:=aC (l:=[98,108,97,110,107]) h2;have eh3:(k.toList==[109,97,114,107,101,100])=false:=aC (l:=[109,97,114,107,101,100]) h3;have eh4:(k.toList==[99,111,117,110,116])=false:=aC (l:=[99,111,117,110,116]) h4;have eh5:(k.toList==[98,97,116,99,104])=false:=aC (l:=[98,97,116,99,104]) h5;have eh6:(k.toList==[115,101,97,116,115])=false:=aC (l:=[115,101,97,116,115]) h6;have eh7:(k.toList==[114,97,110,107,115])=false:=aC (l:=[114,97,110,107,115]) h7;have eh8:(k.toList==[100,105,103,105,116,115])=false:=aC (l:=[100,105,103,105,116,115]) h8;have eh9:(k.toList==[99,101,108,108])=false:=aC (l:=[99,101,108,108]) h9;clear hv h1 h2 h3 h4 h5 h6 h7 h8 h9;go_enter Tryz.func151,Tryz.ntmps151;go_wp2_with fail;go_ret2
          exact⟨rfl,rfl⟩
def EM (w:World) (xs:List ByteArray) (e:Ending) (w':World):Prop:=∃A n c,e=.returned (.slice A n c)∧RS w' (bz w w') A n c xs∧(A=none↔xs=[])∧Below w.heap.size w w'
theorem dI (w:World) (x:ByteArray) (xs:List ByteArray) (hx:(x::xs).length≤maxLen):EM w (x::xs) (.returned (.slice (some ⟨w.heap.size,0,none⟩) (x::xs).length (x::xs).length)) (w.alloc (.cells ((x::xs).map Value.string).toArray 9)):=by
 have ho:=Own.lit w 9 ((x::xs).map Value.string) (x::xs) (by simp) rfl hx (Flat.strs _);exact⟨_,_,_,rfl,ho.fresh (Nat.le_refl _),⟨fun h=>by simp at h,fun h=>by simp at h⟩,(Below.refl _ _).alloc (Nat.le_refl _) _⟩
def aN (k:ByteArray):List ByteArray:=
 if k=(⟨#[115,99,97,110]⟩:ByteArray) then[(⟨#[100,111,116,115]⟩:ByteArray),(⟨#[98,108,97,110,107]⟩:ByteArray),(⟨#[109,97,114,107,101,100]⟩:ByteArray)] else
 if k=(⟨#[115,99,97,110,110,101,114,115]⟩:ByteArray) then[(⟨#[99,111,117,110,116]⟩:ByteArray),(⟨#[98,97,116,99,104]⟩:ByteArray)] else
 if k=(⟨#[112,114,101,99,105,110,99,116,115]⟩:ByteArray) then[(⟨#[110,97,109,101,115]⟩:ByteArray)] else
 if k=(⟨#[99,111,110,116,101,115,116]⟩:ByteArray) then[(⟨#[109,101,116,104,111,100]⟩:ByteArray),(⟨#[115,101,97,116,115]⟩:ByteArray),(⟨#[114,97,110,107,115]⟩:ByteArray),(⟨#[100,105,103,105,116,115]⟩:ByteArray),(⟨#[116,105,101,115]⟩:ByteArray),(⟨#[111,118,101,114,118,111,116,101]⟩:ByteArray),(⟨#[115,107,105,112]⟩:ByteArray),(⟨#[99,97,110,100,105,100,97,116,101,115]⟩:ByteArray)] else
 if k=(⟨#[115,116,121,108,101]⟩:ByteArray) then[(⟨#[112,114,101,99,105,110,99,116,115]⟩:ByteArray),(⟨#[99,111,110,116,101,115,116,115]⟩:ByteArray)] else
 if k=(⟨#[97,117,100,105,116]⟩:ByteArray) then[(⟨#[114,105,115,107]⟩:ByteArray),(⟨#[115,101,101,100]⟩:ByteArray)] else
 if k=(⟨#[112,114,105,118,97,99,121]⟩:ByteArray) then[(⟨#[99,101,108,108]⟩:ByteArray)] else
 []
set_option maxRecDepth 20000 in
set_option maxHeartbeats 1000000 in
theorem D5 (k:ByteArray) (w:World):Calls Tryz.prog 118 #[.string k] w (EM w (aN k)):=by
 by_cases h1:k=(⟨#[115,99,97,110]⟩:ByteArray)
 ·subst h1;have hv:aN (⟨#[115,99,97,110]⟩:ByteArray)=[(⟨#[100,111,116,115]⟩:ByteArray),(⟨#[98,108,97,110,107]⟩:ByteArray),(⟨#[109,97,114,107,101,100]⟩:ByteArray)]:=rfl;rw[hv];go_enter Tryz.func118,Tryz.ntmps118;go_wp2_with fail;go_ret
  exact dI w _ _ (by decide)
 ·
  by_cases h2:k=(⟨#[115,99,97,110,110,101,114,115]⟩:ByteArray)
  ·subst h2;have hv:aN (⟨#[115,99,97,110,110,101,114,115]⟩:ByteArray)=[(⟨#[99,111,117,110,116]⟩:ByteArray),(⟨#[98,97,116,99,104]⟩:ByteArray)]:=rfl;rw[hv];go_enter Tryz.func118,Tryz.ntmps118;go_wp2_with fail;go_ret
   exact dI w _ _ (by decide)
  ·
   by_cases h3:k=(⟨#[112,114,101,99,105,110,99,116,115]⟩:ByteArray)
   ·subst h3;have hv:aN (⟨#[112,114,101,99,105,110,99,116,115]⟩:ByteArray)=[(⟨#[110,97,109,101,115]⟩:ByteArray)]:=rfl;rw[hv];go_enter Tryz.func118,Tryz.ntmps118;go_wp2_with fail;go_ret
    exact dI w _ _ (by decide)
   ·
    by_cases h4:k=(⟨#[99,111,110,116,101,115,116]⟩:ByteArray)
    ·subst h4;have hv:aN (⟨#[99,111,110,116,101,115,116]⟩:ByteArray)=[(⟨#[109,101,116,104,111,100]⟩:ByteArray),(⟨#[115,101,97,116,115]⟩:ByteArray),(⟨#[114,97,110,107,115]⟩:ByteArray),(⟨#[100,105,103,105,116,115]⟩:ByteArray),(⟨#[116,105,101,115]⟩:ByteArray),(⟨#[111,118,101,114,118,111,116,101]⟩:ByteArray),(⟨#[115,107,105,112]⟩:ByteArray),(⟨#[99,97,110,100,105,100,97,116,101,115]⟩:ByteArray)]:=rfl;rw[hv];go_enter Tryz.func118,Tryz.ntmps118;go_wp2_with fail;go_ret
     exact dI w _ _ (by decide)
    ·
     by_cases h5:k=(⟨#[115,116,121,108,101]⟩:ByteArray)
     ·subst h5;have hv:aN (⟨#[115,116,121,108,101]⟩:ByteArray)=[(⟨#[112,114,101,99,105,110,99,116,115]⟩:ByteArray),(⟨#[99,111,110,116,101,115,116,115]⟩:ByteArray)]:=rfl;rw[hv];go_enter Tryz.func118,Tryz.ntmps118;go_wp2_with fail;go_ret
      exact dI w _ _ (by decide)
     ·
      by_cases h6:k=(⟨#[97,117,100,105,116]⟩:ByteArray)
      ·subst h6;have hv:aN (⟨#[97,117,100,105,116]⟩:ByteArray)=[(⟨#[114,105,115,107]⟩:ByteArray),(⟨#[115,101,101,100]⟩:ByteArray)]:=rfl;rw[hv];go_enter Tryz.func118,Tryz.ntmps118;go_wp2_with fail;go_ret
       exact dI w _ _ (by decide)
      ·
       by_cases h7:k=(⟨#[112,114,105,118,97,99,121]⟩:ByteArray)
       ·subst h7;have hv:aN (⟨#[112,114,105,118,97,99,121]⟩:ByteArray)=[(⟨#[99,101,108,108]⟩:ByteArray)]:=rfl;rw[hv];go_enter Tryz.func118,Tryz.ntmps118;go_wp2_with fail;go_ret
        exact dI w _ _ (by decide)
       ·have hv:aN k=[]:=by unfold aN;simp[h1,h2,h3,h4,h5,h6,h7]
        rw[hv];have eh1:(k.toList==[115,99,97,110])=false:=aC (l:=[115,99,97,110]) h1;have eh2:(k.toList==[115,99,97,110,110,101,114,115])=false:=aC (l:=[115,99,97,110,110,101,114,115]) h2;have eh3:(k.toList==[112,114,101,99,105,110,99,116,115])=false:=aC (l:=[112,114,101,99,105,110,99,116,115]) h3;have eh4:(k.toList==[99,111,110,116,101,115,116])=false:=aC (l:=[99,111,110,116,101,115,116]) h4;have eh5:(k.toList==[115,116,121,108,101])=false:=aC (l:=[115,116,121,108,101]) h5;have eh6:(k.toList==[97,117,100,105,116])=false:=aC (l:=[97,117,100,105,116]) h6;have eh7:(k.toList==[112,114,105,118,97,99,121])=false:=aC (l:=[112,114,105,118,97,99,121]) h7;clear hv h1 h2 h3 h4 h5 h6 h7;go_enter Tryz.func118,Tryz.ntmps118;go_wp2_with fail;go_ret
        exact⟨none,0,0,rfl,RS.nil _ _,⟨fun _=>rfl,fun _=>rfl⟩,Below.refl _ _⟩
def cU (k:ByteArray):List ByteArray:=
 if k=(⟨#[109,101,116,104,111,100]⟩:ByteArray) then[(⟨#[105,114,118]⟩:ByteArray),(⟨#[109,101,101,107]⟩:ByteArray),(⟨#[103,114,101,103,111,114,121]⟩:ByteArray)] else
 if k=(⟨#[116,105,101,115]⟩:ByteArray) then[(⟨#[98,97,99,107,119,97,114,100,115]⟩:ByteArray),(⟨#[102,111,114,119,97,114,100,115]⟩:ByteArray),(⟨#[108,111,116]⟩:ByteArray)] else
 if k=(⟨#[111,118,101,114,118,111,116,101]⟩:ByteArray) then[(⟨#[115,116,111,112]⟩:ByteArray),(⟨#[115,107,105,112]⟩:ByteArray)] else
 if k=(⟨#[115,107,105,112]⟩:ByteArray) then[(⟨#[99,108,111,115,101]⟩:ByteArray),(⟨#[115,116,111,112]⟩:ByteArray),(⟨#[116,119,111]⟩:ByteArray)] else
 []
set_option maxRecDepth 20000 in
set_option maxHeartbeats 1000000 in
theorem BH (k:ByteArray) (w:World):Calls Tryz.prog 128 #[.string k] w (EM w (cU k)):=by
 by_cases h1:k=(⟨#[109,101,116,104,111,100]⟩:ByteArray)
 ·subst h1;have hv:cU (⟨#[109,101,116,104,111,100]⟩:ByteArray)=[(⟨#[105,114,118]⟩:ByteArray),(⟨#[109,101,101,107]⟩:ByteArray),(⟨#[103,114,101,103,111,114,121]⟩:ByteArray)]:=rfl;rw[hv];go_enter Tryz.func128,Tryz.ntmps128;go_wp2_with fail;go_ret
  exact dI w _ _ (by decide)
 ·
  by_cases h2:k=(⟨#[116,105,101,115]⟩:ByteArray)
  ·subst h2;have hv:cU (⟨#[116,105,101,115]⟩:ByteArray)=[(⟨#[98,97,99,107,119,97,114,100,115]⟩:ByteArray),(⟨#[102,111,114,119,97,114,100,115]⟩:ByteArray),(⟨#[108,111,116]⟩:ByteArray)]:=rfl;rw[hv];go_enter Tryz.func128,Tryz.ntmps128;go_wp2_with fail;go_ret
   exact dI w _ _ (by decide)
  ·
   by_cases h3:k=(⟨#[111,118,101,114,118,111,116,101]⟩:ByteArray)
   ·subst h3;have hv:cU (⟨#[111,118,101,114,118,111,116,101]⟩:ByteArray)=[(⟨#[115,116,111,112]⟩:ByteArray),(⟨#[115,107,105,112]⟩:ByteArray)]:=rfl;rw[hv];go_enter Tryz.func128,Tryz.ntmps128;go_wp2_with fail;go_ret
    exact dI w _ _ (by decide)
   ·
    by_cases h4:k=(⟨#[115,107,105,112]⟩:ByteArray)
    ·subst h4;have hv:cU (⟨#[115,107,105,112]⟩:ByteArray)=[(⟨#[99,108,111,115,101]⟩:ByteArray),(⟨#[115,116,111,112]⟩:ByteArray),(⟨#[116,119,111]⟩:ByteArray)]:=rfl;rw[hv];go_enter Tryz.func128,Tryz.ntmps128;go_wp2_with fail;go_ret
     exact dI w _ _ (by decide)
    ·have hv:cU k=[]:=by unfold cU;simp[h1,h2,h3,h4]
     rw[hv];have eh1:(k.toList==[109,101,116,104,111,100])=false:=aC (l:=[109,101,116,104,111,100]) h1;have eh2:(k.toList==[116,105,101,115])=false:=aC (l:=[116,105,101,115]) h2;have eh3:(k.toList==[111,118,101,114,118,111,116,101])=false:=aC (l:=[111,118,101,114,118,111,116,101]) h3;have eh4:(k.toList==[115,107,105,112])=false:=aC (l:=[115,107,105,112]) h4;clear hv h1 h2 h3 h4;go_enter Tryz.func128,Tryz.ntmps128;go_wp2_with fail;go_ret
     exact⟨none,0,0,rfl,RS.nil _ _,⟨fun _=>rfl,fun _=>rfl⟩,Below.refl _ _⟩
def pD:List ByteArray:=[(⟨#[115,99,97,110]⟩:ByteArray),(⟨#[115,99,97,110,110,101,114,115]⟩:ByteArray),(⟨#[112,114,101,99,105,110,99,116,115]⟩:ByteArray),(⟨#[99,111,110,116,101,115,116]⟩:ByteArray),(⟨#[115,116,121,108,101]⟩:ByteArray),(⟨#[97,117,100,105,116]⟩:ByteArray),(⟨#[112,114,105,118,97,99,121]⟩:ByteArray)]
theorem Um (w:World):Calls Tryz.prog 66 #[] w (EM w pD):=by
 go_enter Tryz.func66,Tryz.ntmps66;go_wp2_with fail;go_ret
 exact dI w _ _ (by decide)
def jh (s:ByteArray) (lo hi:Int):Bool:=lN s.data.toList&&(decide (lo≤(s.size:Int))&&decide ((s.size:Int)≤hi))
theorem Dx (s:ByteArray) (lo hi:Int) (w:World) (hs:s.size≤17592186044416):Calls Tryz.prog 64 #[.string s,.int .i64 lo,.int .i64 hi] w (gy w (.bool (jh s lo hi))):=by
 have hq:=TF s w hs;obtain⟨b,hb⟩:∃b,lN s.data.toList=b:=⟨_,rfl⟩;rw[hb] at hq;obtain⟨t,ht⟩:∃t:ByteArray,(if b then⟨(Ir s.data.toList).toArray⟩ else⟨#[]⟩)=t:=⟨_,rfl⟩;rw[ht] at hq;have HQ:=zH hq;obtain⟨z,hz⟩:∃z,jh s lo hi=z:=⟨_,rfl⟩;have eh:(b&&(decide (lo≤(s.size:Int))&&decide ((s.size:Int)≤hi)))=z:=by rw[←hb];exact hz
 rw[hz];have HZ:=zH eh;clear hq hb ht hz eh;go_enter Tryz.func64,Tryz.ntmps64;go_wp2_with fail;refine HQ.out.mono ?_;rintro e w2 ⟨rfl,hb⟩;have HB:=zH hb;clear hb;cases b with
 | false=>
  have av:z=false:=by rw[←HZ.out];rfl
  have bm:=zH av;clear av;go_wp2_with fail;go_ret
  exact⟨by rw[bm.out];rfl,HB.out⟩
 | true=>
  by_cases h1:lo≤(s.size:Int)
  ·have d1:(lo≤(s.size:Int))=True:=eq_true h1;by_cases h2:(s.size:Int)≤hi
   ·have av:z=true:=by rw[←HZ.out,decide_eq_true h1,decide_eq_true h2];rfl
    have bm:=zH av;have d2:((s.size:Int)≤hi)=True:=eq_true h2;clear av h1 h2;go_wp2_with fail;go_ret
    exact⟨by rw[bm.out];rfl,HB.out⟩
   ·have av:z=false:=by rw[←HZ.out,decide_eq_true h1,decide_eq_false h2];rfl
    have bm:=zH av;have d2:((s.size:Int)≤hi)=False:=eq_false h2;clear av h1 h2;go_wp2_with fail;go_ret
    exact⟨by rw[bm.out];rfl,HB.out⟩
  ·have av:z=false:=by rw[←HZ.out,decide_eq_false h1];simp
   have bm:=zH av;have d1:(lo≤(s.size:Int))=False:=eq_false h1;clear av h1;go_wp2_with fail;go_ret
   exact⟨by rw[bm.out];rfl,HB.out⟩
def mS (l:List UInt8):Bool:=decide (l≠[])&&decide (kZ l=l.length)
def jX (l:List UInt8):Int×Bool:=if mS l then(((Lib.decNat l).getD 0:Nat),true) else(0,false)
theorem sd {p:UInt8→Bool}:∀{l:List UInt8},(l.takeWhile p).length=l.length→∀x∈l,p x=true
 | [],_=>by simp
 | y::l,h=>by
  rw[List.takeWhile_cons] at h;split at h
  ·rename_i hy;simp only[List.length_cons] at h;intro x hx;rcases List.mem_cons.1 hx with rfl|hx
   ·exact hy
   ·exact sd (by omega) x hx
  ·simp at h
theorem mI {l:List UInt8} (h:mS l=true):l≠[]∧l.length≤6∧∀x∈l,digitB x=true:=by
 unfold mS at h;rw[Bool.and_eq_true,decide_eq_true_iff,decide_eq_true_iff] at h;obtain⟨h0,h1⟩:=h;have hp:0<l.length:=List.length_pos_iff.2 h0;unfold kZ at h1;split at h1
 ·omega
 ·rename_i hn;refine⟨h0,by omega,sd h1⟩
theorem Lq {x:UInt8} (h:digitB x=true):∃d,Lib.digitVal x=some d:=by
 unfold digitB at h;rw[Bool.and_eq_true,decide_eq_true_iff,decide_eq_true_iff] at h;unfold Lib.digitVal;exact⟨_,if_pos ⟨h.1,h.2⟩⟩
theorem ry:∀(l:List UInt8) (lR:Nat),(∀x∈l,digitB x=true)→∃n,Lib.decFrom lR l=some n
 | [],lR,_=>⟨lR,rfl⟩
 | x::l,lR,h=>by
  obtain⟨d,hd⟩:=Lq (h x (by simp));obtain⟨n,hn⟩:=ry l (lR*10+d) (fun y hy=>h y (by simp[hy]));exact⟨n,by simp[Lib.decFrom,hd,hn]⟩
theorem V3 {l:List UInt8} (h:mS l=true):Lib.atoi l=some (((Lib.decNat l).getD 0:Nat):Int):=by
 obtain⟨h0,_,h2⟩:=mI h;cases l with
 | nil=>exact absurd rfl h0
 | cons x l=>
  obtain⟨n,hn⟩:=ry (x::l) 0 h2;have hx:=h2 x (by simp);unfold digitB at hx;rw[Bool.and_eq_true,decide_eq_true_iff,decide_eq_true_iff] at hx;have e1:(x==45)=false:=by rw[beq_eq_false_iff_ne];rintro rfl;simp at hx
  have e2:(x==43)=false:=by rw[beq_eq_false_iff_ne];rintro rfl;simp at hx
  have e3:Lib.decNat (x::l)=some n:=by simpa[Lib.decNat] using hn
  unfold Lib.atoi;simp[e1,e2,e3]
theorem PZ (l:List UInt8):decide (0≤Lib.indexByte l 47)=qg l:=by
 rcases pE l with h|⟨k,hk,h1,h2,_⟩
 ·rw[h,(Ex h).2.2];rfl
 ·rw[hk,(zh h1 h2).2.2];simp
theorem PQ {x:UInt8} {l:List UInt8} (h:pT (x::l)=(x::l).length):57<x.toNat:=by
 unfold pT at h;simp only at h;split at h
 ·rename_i hl;unfold kK at hl;rw[Bool.and_eq_true,decide_eq_true_iff,decide_eq_true_iff] at hl;omega
 ·simp at h
theorem Qt {x:UInt8} {l:List UInt8}:mS (x::l)=(pq (x::l)&&(decide (x.toNat≤57)&&!qg (x::l))):=by
 rw[Bool.eq_iff_iff];constructor
 ·intro h;obtain⟨_,_,h2⟩:=mI h;have hn:kZ (x::l)=(x::l).length:=by
   unfold mS at h;rw[Bool.and_eq_true,decide_eq_true_iff,decide_eq_true_iff] at h;exact h.2
  have hb:pq (x::l)=true:=by unfold pq;rw[if_neg (by simp),if_pos (.inr hn)]
  have hx:=h2 x (by simp);unfold digitB at hx;rw[Bool.and_eq_true,decide_eq_true_iff,decide_eq_true_iff] at hx;have hc:qg (x::l)=false:=by
   unfold qg;rw[Bool.eq_false_iff];intro hc;have:=h2 _ (List.contains_iff_mem.1 hc);simp[digitB] at this
  rw[hb,hc,decide_eq_true hx.2];rfl
 ·intro h;simp only[Bool.and_eq_true,decide_eq_true_iff,Bool.not_eq_true'] at h;obtain⟨h1,h2,h3⟩:=h;unfold pq at h1;rw[if_neg (by simp)] at h1;split at h1
  ·rename_i hw;rcases hw with hw|hw
   ·have:=PQ hw;omega
   ·unfold mS;rw[decide_eq_true hw];simp
  ·rw[h3] at h1;simp at h1
theorem Nk (s:ByteArray) (w:World) (hs:s.size≤9223372036854775807):Calls Tryz.prog 150 #[.string s] w (gy w (.tuple #[.int .i64 (jX s.data.toList).1,.bool (jX s.data.toList).2])):=by
 have hb:=Py s w hs;by_cases h0:s=⟨#[]⟩
 ·subst h0;have Vm:pq (⟨#[]⟩:ByteArray).data.toList=false:=rfl;rw[Vm] at hb;have HB:=zH hb;clear hb Vm;go_enter Tryz.func150,Tryz.ntmps150;go_wp2_with fail;refine HB.out.mono ?_;rintro e w2 ⟨rfl,hb⟩;have bX:=zH hb;clear hb;go_wp2_with fail;go_ret2
  exact⟨rfl,bX.out⟩
 ·have xo:0<s.size:=by
   rcases Nat.eq_zero_or_pos s.size with h|h
   ·exact absurd (ByteArray.ext (Array.eq_empty_of_size_eq_zero h)) h0
   ·exact h
  have hx:=str_at xo;obtain⟨x,rh⟩:∃x,s[0]=x:=⟨_,rfl⟩;rw[rh] at hx;obtain⟨l,hl⟩:∃l,s.data.toList=x::l:=by
   cases hd:s.data.toList with
   | nil=>rw[hd] at hx;cases hx
   | cons y l=>rw[hd] at hx;simp at hx;subst hx;exact⟨l,rfl⟩
  have hni:=@Qt x l;rw[←hl] at hni;obtain⟨b,bq⟩:∃b,pq s.data.toList=b:=⟨_,rfl⟩;obtain⟨r,hr⟩:∃r,jX s.data.toList=r:=⟨_,rfl⟩;have hnp:r=if mS s.data.toList then((((Lib.decNat s.data.toList).getD 0:Nat):Int),true) else(0,false):=by rw[←hr];rfl
  rw[bq] at hb hni;rw[hr];have hc:∀w,Calls Tryz.prog 179 #[.string s,.string ⟨#[47]⟩] w (gq w (.bool (qg s.data.toList))):=fun w=>
   (Tryz.strings_Contains_one s 47 w).mono fun e w' h=>⟨by rw[h.1,PZ],h.2.symm⟩
  obtain⟨n,hn⟩:∃n,x.toNat=n:=⟨_,rfl⟩;have hn2:n<256:=by rw[←hn];exact x.toNat_lt
  rw[hn] at hni;obtain⟨c,sC⟩:∃c,qg s.data.toList=c:=⟨_,rfl⟩;rw[sC] at hc hni;have kD:mS s.data.toList=true→∀w,Calls Tryz.prog 180 #[.string s] w (gy w (.tuple #[.int .i64 (((Lib.decNat s.data.toList).getD 0:Nat):Int),.nilIface])):=fun h w=>by
   refine(Tryz.strconv_Atoi s _ (by have:=(mI h).2.1;rw[fo] at this;omega) (V3 h) w).mono ?_;rintro e w' ⟨h1,t,rfl⟩;exact⟨h1,⟨rfl,rfl,rfl,by rw[Lib.bytesWorld_size];exact Nat.le_succ _,fun k hk=>Lib.bytesWorld_at_old w _ t k hk⟩⟩
  have HB:=zH hb;have HNI:=zH hni;have HNP:=zH hnp;have HC:=zH hc;have ZV:=zH kD;clear hb hni hnp hc kD bq hr sC hx hl h0;go_enter Tryz.func150,Tryz.ntmps150;go_wp2_with fail;refine HB.out.mono ?_;rintro e w2 ⟨rfl,bY⟩;have bX:=zH bY;clear bY;cases b with
  | false=>
   have qA:r=(0,false):=by rw[HNP.out,if_neg (by rw[HNI.out];simp)]
   have ET:=zH qA;clear qA;go_wp2_with fail;go_ret2
   exact⟨by rw[ET.out];rfl,bX.out⟩
  | true=>
   by_cases h57:n≤57
   ·have d57:(57<(n:Int))=False:=eq_false (by omega);cases c with
    | true=>
     have qA:r=(0,false):=by rw[HNP.out,if_neg (by rw[HNI.out];simp)]
     have ET:=zH qA;clear qA h57;go_wp2_with fail;refine(HC.out _).mono ?_;rintro e w' ⟨rfl,rfl⟩;go_wp2_with fail;go_ret2
     exact⟨by rw[ET.out];rfl,bX.out⟩
    | false=>
     have ed:mS s.data.toList=true:=by rw[HNI.out,decide_eq_true h57];rfl
     have qA:r=((((Lib.decNat s.data.toList).getD 0:Nat):Int),true):=by rw[HNP.out,if_pos ed]
     have kD:=ZV.out ed;obtain⟨m,hm⟩:∃m,(Lib.decNat s.data.toList).getD 0=m:=⟨_,rfl⟩;rw[hm] at qA kD;have ET:=zH qA;have HA:=zH kD;clear qA h57 ed kD hm;go_wp2_with fail;refine(HC.out _).mono ?_;rintro e w' ⟨rfl,rfl⟩;go_wp2_with fail;refine(HA.out _).mono ?_;rintro e w3 ⟨rfl,ey⟩;have iT:=zH (ae bX.out ey);clear ey;go_wp2_with fail;go_quiet (fail)
     go_wp2_with fail;go_ret2
     exact⟨by rw[ET.out];rfl,below_drewN iT.out _⟩
   ·have qA:r=(0,false):=by rw[HNP.out,if_neg (by rw[HNI.out,decide_eq_false h57];simp)]
    have d57:(57<(n:Int))=True:=eq_true (by omega);have ET:=zH qA;clear qA h57;go_wp2_with fail;go_ret2
    exact⟨by rw[ET.out];rfl,bX.out⟩
def jS (gJ:Int):List ByteArray→List ByteArray→Int
 | _,[]=>0
 | pre,s::r=>if(pre.length:Int)=gJ then 7 else if jh s 1 24=false then 8 else if Lib.containsS pre s then 3 else jS gJ (pre++[s]) r
def fS (l:List ByteArray) (gJ:Int):Int:=if l=[] then 7 else jS gJ [] l
def fG (s:ByteArray):Prop:=s.size≤17592186044416
set_option maxRecDepth 20000 in
set_option maxHeartbeats 1000000 in
theorem X7 {S:Nat→Prop} {A:Option Addr} {n c:Nat} {xs:List ByteArray} {w:World} (gJ:Int) (h:RS w S A n c xs) (hS:∀b,S b→b<w.heap.size) (hs:∀s∈xs,fG s) : Calls Tryz.prog 124 #[.slice A n c,.int .i64 gJ] w (gy w (.int .i64 (fS xs gJ))):=by
 have hm:=h.max;have H:=zH h;have HL:=zH h.len;have HSA:=zH hs;obtain⟨z,hz⟩:∃z,fS xs gJ=z:=⟨_,rfl⟩;have eh:z=if xs=[] then 7 else jS gJ [] xs:=hz.symm
 rw[hz];have HZ:=zH eh;clear h hs hz eh;go_enter Tryz.func124,Tryz.ntmps124;rcases Nat.eq_zero_or_pos n with h0|h0
 ·subst h0;have av:z=7:=by rw[HZ.out,if_pos (List.length_eq_zero_iff.1 HL.out)]
  have bm:=zH av;clear av;go_wp2_with fail;go_ret
  exact⟨by rw[bm.out];rfl,Below.refl _ _⟩
 ·have hb0:((n:Int)==0)=false:=by rw[beq_eq_false_iff_ne];omega
  have eQ:z=jS gJ [] xs:=by
   rw[HZ.out,if_neg];intro e;have:=HL.out;rw[e] at this;simp at this;omega
  have fy:=zH eQ;clear eQ;go_wp2_with fail;go_loopw [12] (fun iv wr=>∃k:Nat,iv=.int .i64 k∧k≤n∧z=jS gJ (xs.take k) (xs.drop k)∧Below w.heap.size w wr) (fun iv _=>n-(intOf iv).toNat)
  case atStart=>exact⟨0,rfl,Nat.zero_le _,by simpa using fy.out,Below.refl _ _⟩
  case round=>
   clear fy HZ;obtain⟨k,rfl,hk,pF,hb⟩:=hrel;have ql:=zH pF;have HB:=zH hb;have HR:=zH (H.out.below hb hS);clear pF hb;by_cases bn:k<n
   ·have dK:(k:Int)<(n:Int):=by omega
    have gO:(k:Int)≤(c:Int):=by have:=H.out.cap;omega
    have xp:k≤c:=by omega
    obtain⟨b,o,x,rfl,_,hx,e1⟩:=HR.out.str_at bn;have hxm:x∈xs:=List.mem_of_getElem? hx;have hp:=Dx x 1 24 wr (HSA.out x hxm);have aaH:=vM hx;have Pj:(xs.take k).length=k:=by rw[List.length_take,HL.out];omega
    have pF:z=if(k:Int)=gJ then 7 else if jh x 1 24=false then 8 else if Lib.containsS (xs.take k) x then 3 else jS gJ (xs.take (k+1)) (xs.drop (k+1)):=by
     rw[ql.out,aaH,jS,Pj,du hx]
    obtain⟨pb,Sm⟩:∃pb,jh x 1 24=pb:=⟨_,rfl⟩;obtain⟨cb,hcb⟩:∃cb,Lib.containsS (xs.take k) x=cb:=⟨_,rfl⟩;rw[Sm] at hp;rw[Sm,hcb] at pF;have HP:=zH hp;have jg:=zH pF;have HCB:=zH hcb;clear hp pF hx aaH Pj Sm hcb hxm;by_cases h1:(k:Int)=gJ
    ·have hq:((k:Int)==gJ)=true:=by rw[beq_iff_eq];exact h1
     have av:z=7:=by rw[jg.out,if_pos h1]
     have bm:=zH av;clear av h1;go_wp2_with fail;go_ret
     exact⟨by rw[bm.out];rfl,HB.out⟩
    ·have hq:((k:Int)==gJ)=false:=by rw[beq_eq_false_iff_ne];exact h1
     have jE:=jg.out;rw[if_neg h1] at jE;have un:=zH jE;clear jE h1;go_wp2_with fail;refine HP.out.mono ?_;rintro e w2 ⟨rfl,bY⟩;have bX:=zH (ae HB.out bY);clear bY;cases pb with
     | false=>
      have av:z=8:=by rw[un.out,if_pos rfl]
      have bm:=zH av;clear av;go_wp2_with fail;go_ret
      exact⟨by rw[bm.out];rfl,bX.out⟩
     | true=>
      have hc:=tI ((H.out.below bX.out hS).take (k:=k) hk) x;rw[HCB.out] at hc;have HC:=zH hc;clear hc;go_wp2_with fail;refine HC.out.mono ?_;rintro e w' ⟨rfl,rfl⟩;cases cb with
      | true=>
       have av:z=3:=by rw[un.out,if_neg (by simp),if_pos rfl]
       have bm:=zH av;clear av;go_wp2_with fail;go_ret
       exact⟨by rw[bm.out];rfl,bX.out⟩
      | false=>
       go_wp2_with fail;go_roundw
       case rel=>exact⟨k+1,by go_num,by omega,by rw[un.out,if_neg (by simp),if_neg (by simp)],bX.out⟩
       case measure=>simp[intOf];omega
   ·have fI:k=n:=by omega
    have av:z=0:=by
     rw[ql.out,List.drop_eq_nil_of_le (by rw[HL.out];omega)];rfl
    have bm:=zH av;clear av fI;go_wp2_with fail;go_ret
    exact⟨by rw[bm.out];rfl,HB.out⟩
end Go.Proofs.YtjlhbfbdcfajfaaGreatDoor
