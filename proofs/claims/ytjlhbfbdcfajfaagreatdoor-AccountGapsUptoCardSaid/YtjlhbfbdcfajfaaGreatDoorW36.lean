/- Tm13 Tm14 Tm15 -/
import Derived.Test.YtjlhbfbdcfajfaaGreatDoorW00
import Derived.Test.YtjlhbfbdcfajfaaGreatDoorW35
set_option maxHeartbeats 8000000
set_option maxRecDepth 100000
namespace Go.Proofs.YtjlhbfbdcfajfaaGreatDoor
open Go Go.RowKit
noncomputable def Wj (t:TypeId):Option Ty:=List.lookup t [(9,.str),(3,tI),(4,.bool)]
noncomputable def C8:hZ Tryz.prog:=dj Wj [⟨_,_,_,find_ok⟩] [⟨_,_,_,_,_,kI⟩]
noncomputable abbrev lfn:=Tryz.f49
abbrev stZ:List CS:=[.d .str,.d tI,.d tI,.d tI,.d (.list .str),.own (.st 3) 95,.zc (.st 4) (.st 10) 97,.d tI,.d tI,.d .bool,.d (.list .limb),.d (.list .limb),.d tI,.d .str,.own .str 9,.own (.st 7) 152,.own (.st 6) 151,.d tI,.d tI]
abbrev stO:List CS:=[.d .str,.d tI,.d tI,.d tI,.d (.list .str),.own (.st 3) 95,.zip (.st 4) (.st 10) 97 [.d .str,.own tI 3,.own tI 3],.d tI,.d tI,.d .bool,.d (.list .limb),.d (.list .limb),.d tI,.d .str,.own .str 9,.own (.st 7) 152,.own (.st 6) 151,.d tI,.d tI]
abbrev sZ:SS:=.box 104 stZ
abbrev sO:SS:=.box 104 stO
abbrev iC:=eY stZ
abbrev j8:=eY stO
abbrev sOB:SS:=.c (.own .bool 4)
noncomputable abbrev K1:Rg Tryz.prog lfn.ntmps:=BE (LB C8 lfn [0]) [(8,oD 0 6)] [(6,Qf 0 6 (.st 4) (.st 10)),(9,Xd 0 6),(14,oD 0 6),(16,oD 0 6),(25,oD 0 6)]
abbrev ZcC:=Nat×List ax×List ByteArray
abbrev ZoC:=Nat×List ax×(ByteArray×List Int×List Int×Unit)×List ByteArray
def j8.z (x:j8):ZoC:=x.2.2.2.2.2.2.1
def j8.setZ (x:j8) (z:ZoC):j8:=(x.1,x.2.1,x.2.2.1,x.2.2.2.1,x.2.2.2.2.1,x.2.2.2.2.2.1,z,x.2.2.2.2.2.2.2.1,x.2.2.2.2.2.2.2.2.1,x.2.2.2.2.2.2.2.2.2.1,x.2.2.2.2.2.2.2.2.2.2.1,x.2.2.2.2.2.2.2.2.2.2.2.1,x.2.2.2.2.2.2.2.2.2.2.2.2.1,x.2.2.2.2.2.2.2.2.2.2.2.2.2.1,x.2.2.2.2.2.2.2.2.2.2.2.2.2.2.1,x.2.2.2.2.2.2.2.2.2.2.2.2.2.2.2.1,x.2.2.2.2.2.2.2.2.2.2.2.2.2.2.2.2.1,x.2.2.2.2.2.2.2.2.2.2.2.2.2.2.2.2.2.1,x.2.2.2.2.2.2.2.2.2.2.2.2.2.2.2.2.2.2.1,())
def j8.prec (x:j8):List ByteArray:=x.2.2.2.2.1
def j8.rl (x:j8):List (Int×Int):=x.2.2.2.2.2.2.2.2.2.2.2.2.2.2.2.1
def j8.ln (x:j8) (i:Int):Int×Int:=x.rl.reverse.getD i.toNat (0,0)
def j8.done (x:j8):List ax:=x.z.2.1
def j8.ps (x:j8):List Int:=x.z.2.2.1.2.1
def j8.cs (x:j8):List Int:=x.z.2.2.1.2.2.1
def j8.nm (x:j8):ByteArray:=x.z.2.2.1.1
def j8.withP (x:j8) (ps cs:List Int):j8:=x.setZ (x.z.1,x.z.2.1,(x.z.2.2.1.1,ps,cs,()),x.z.2.2.2)
def iC.z (x:iC):ZcC:=x.2.2.2.2.2.2.1
def iC.setZ (x:iC) (z:ZcC):iC:=(x.1,x.2.1,x.2.2.1,x.2.2.2.1,x.2.2.2.2.1,x.2.2.2.2.2.1,z,x.2.2.2.2.2.2.2.1,x.2.2.2.2.2.2.2.2.1,x.2.2.2.2.2.2.2.2.2.1,x.2.2.2.2.2.2.2.2.2.2.1,x.2.2.2.2.2.2.2.2.2.2.2.1,x.2.2.2.2.2.2.2.2.2.2.2.2.1,x.2.2.2.2.2.2.2.2.2.2.2.2.2.1,x.2.2.2.2.2.2.2.2.2.2.2.2.2.2.1,x.2.2.2.2.2.2.2.2.2.2.2.2.2.2.2.1,x.2.2.2.2.2.2.2.2.2.2.2.2.2.2.2.2.1,x.2.2.2.2.2.2.2.2.2.2.2.2.2.2.2.2.2.1,x.2.2.2.2.2.2.2.2.2.2.2.2.2.2.2.2.2.2.1,())
def iC.setF (x:iC) (p:Int×Int):iC:=(x.1,x.2.1,x.2.2.1,x.2.2.2.1,x.2.2.2.2.1,x.2.2.2.2.2.1,x.2.2.2.2.2.2.1,x.2.2.2.2.2.2.2.1,x.2.2.2.2.2.2.2.2.1,x.2.2.2.2.2.2.2.2.2.1,x.2.2.2.2.2.2.2.2.2.2.1,x.2.2.2.2.2.2.2.2.2.2.2.1,x.2.2.2.2.2.2.2.2.2.2.2.2.1,x.2.2.2.2.2.2.2.2.2.2.2.2.2.1,x.2.2.2.2.2.2.2.2.2.2.2.2.2.2.1,x.2.2.2.2.2.2.2.2.2.2.2.2.2.2.2.1,x.2.2.2.2.2.2.2.2.2.2.2.2.2.2.2.2.1,p.1,p.2,())
def iC.f (x:iC):Int×Int:=(x.2.2.2.2.2.2.2.2.2.2.2.2.2.2.2.2.2.1,x.2.2.2.2.2.2.2.2.2.2.2.2.2.2.2.2.2.2.1)
def iC.note (x:iC) (no line:Int):iC:=x.setF (nt x.f no line)
def j8.cl (x:j8):iC:=(x.1,x.2.1,x.2.2.1,x.2.2.2.1,x.2.2.2.2.1,x.2.2.2.2.2.1,(x.z.1,x.z.2.1++[⟨x.nm,x.ps.reverse,x.cs.reverse⟩],x.z.2.2.2),x.2.2.2.2.2.2.2.1,x.2.2.2.2.2.2.2.2.1,x.2.2.2.2.2.2.2.2.2.1,x.2.2.2.2.2.2.2.2.2.2.1,x.2.2.2.2.2.2.2.2.2.2.2.1,x.2.2.2.2.2.2.2.2.2.2.2.2.1,x.2.2.2.2.2.2.2.2.2.2.2.2.2.1,x.2.2.2.2.2.2.2.2.2.2.2.2.2.2.1,x.2.2.2.2.2.2.2.2.2.2.2.2.2.2.2.1,x.2.2.2.2.2.2.2.2.2.2.2.2.2.2.2.2.1,x.2.2.2.2.2.2.2.2.2.2.2.2.2.2.2.2.2.1,x.2.2.2.2.2.2.2.2.2.2.2.2.2.2.2.2.2.2.1,())
def iC.op (x:iC):j8:=(x.1,x.2.1,x.2.2.1,x.2.2.2.1,x.2.2.2.2.1,x.2.2.2.2.2.1,(x.z.1,x.z.2.1,(x.z.2.2.getD 0 ⟨#[]⟩,[],[],()),x.z.2.2.drop 1),x.2.2.2.2.2.2.2.1,x.2.2.2.2.2.2.2.2.1,x.2.2.2.2.2.2.2.2.2.1,x.2.2.2.2.2.2.2.2.2.2.1,x.2.2.2.2.2.2.2.2.2.2.2.1,x.2.2.2.2.2.2.2.2.2.2.2.2.1,x.2.2.2.2.2.2.2.2.2.2.2.2.2.1,x.2.2.2.2.2.2.2.2.2.2.2.2.2.2.1,x.2.2.2.2.2.2.2.2.2.2.2.2.2.2.2.1,x.2.2.2.2.2.2.2.2.2.2.2.2.2.2.2.2.1,x.2.2.2.2.2.2.2.2.2.2.2.2.2.2.2.2.2.1,x.2.2.2.2.2.2.2.2.2.2.2.2.2.2.2.2.2.2.1,())
def bh.zb (x:bh):iC:=(x.1,x.2.1,x.2.2.1,x.2.2.2.1,x.2.2.2.2.1,x.2.2.2.2.2.1,(x.rs.length,[],x.rs.reverse),x.2.2.2.2.2.2.2.1,x.2.2.2.2.2.2.2.2.1,x.2.2.2.2.2.2.2.2.2.1,x.2.2.2.2.2.2.2.2.2.2.1,x.2.2.2.2.2.2.2.2.2.2.2.1,x.2.2.2.2.2.2.2.2.2.2.2.2.1,x.2.2.2.2.2.2.2.2.2.2.2.2.2.1,x.2.2.2.2.2.2.2.2.2.2.2.2.2.2.1,x.2.2.2.2.2.2.2.2.2.2.2.2.2.2.2.1,x.2.2.2.2.2.2.2.2.2.2.2.2.2.2.2.2.1,x.2.2.2.2.2.2.2.2.2.2.2.2.2.2.2.2.2.1,x.2.2.2.2.2.2.2.2.2.2.2.2.2.2.2.2.2.2.1,())
section
variable (sl:List (Nat×SS)) {L:Type} (back:j8→List Bool→L) (out:j8→L) (ret:iC→L) (x:j8) (us:List Bool) (i:Int) (l:List ByteArray) (n j:Int)
def lkE (no line:Int):T L:=.nd (0≤i∧i<x.rl.length) (.nd ((0:Int)≠no) (.lf (ret (x.cl.note no line))))
def YR:T L:=.br (decide (j<n)) (.nd (0≤j∧j<l.length) (.br (decide (Lib.idxOfS x.prec (l.getD j.toNat ⟨#[]⟩)<0)) (lkE ret x i 2 (x.ln i).1)
 (.nd (0≤Lib.idxOfS x.prec (l.getD j.toNat ⟨#[]⟩)∧Lib.idxOfS x.prec (l.getD j.toNat ⟨#[]⟩)<us.length) (.br (us.reverse.getD (Lib.idxOfS x.prec (l.getD j.toNat ⟨#[]⟩)).toNat false) (lkE ret x i 3 (x.ln i).1)
 (.nd (0≤Lib.idxOfS x.prec (l.getD j.toNat ⟨#[]⟩)∧Lib.idxOfS x.prec (l.getD j.toNat ⟨#[]⟩)<us.length) (.nd (i=x.done.length) (.nd ((x.ps.length+1)*9≤140737488355328) (.nd (i=x.done.length) (.nd (cN (j+1))
  (.lf (back (x.withP (Lib.idxOfS x.prec (l.getD j.toNat ⟨#[]⟩)::x.ps) x.cs) (us.reverse.set (Lib.idxOfS x.prec (l.getD j.toNat ⟨#[]⟩)).toNat true).reverse))))))))))) (.lf (out x))
def YQ (cn:List ByteArray):T L:=.br (decide (j<n)) (.nd (0≤j∧j<l.length) (.br (decide (Lib.idxOfS cn.reverse (l.getD j.toNat ⟨#[]⟩)<0)) (lkE ret x i 2 (x.ln i).2)
 (.nd (i=x.done.length) (.nd ((x.cs.length+1)*9≤140737488355328) (.nd (i=x.done.length) (.nd (cN (j+1)) (.lf (back (x.withP x.ps (Lib.idxOfS cn.reverse (l.getD j.toNat ⟨#[]⟩)::x.cs)) us)))))))) (.lf (out x))
end
abbrev l2L:List (Nat×SS):=[(0,sO),(2,R0),(4,sOB),(5,sI),(58,sL),(59,sI),(60,sI)]
abbrev l3L:List (Nat×SS):=[(0,sO),(2,R0),(4,sOB),(5,sI),(128,sL),(129,sI),(130,sI)]
abbrev OX:List (Nat×SS):=[(0,sO),(2,R0),(4,sOB),(5,sI)]
def Y5 (cn:List ByteArray) (i:Int) (l:List ByteArray) (n j:Int) (x:j8) (us:List Bool):LE l2L OX [(0,sZ)]:=.back (x,cn,us,i,l,n,j+1,())
def I0 (cn:List ByteArray) (us:List Bool) (i:Int) (x:j8):LE l2L OX [(0,sZ)]:=.out (x,cn,us,i,())
def DT (x:iC):LE l2L OX [(0,sZ)]:=.ret (.tup []) (x,())
def Y4 (cn:List ByteArray) (i:Int) (l:List ByteArray) (n j:Int) (x:j8) (us:List Bool):LE l3L OX [(0,sZ)]:=.back (x,cn,us,i,l,n,j+1,())
def OW (cn:List ByteArray) (us:List Bool) (i:Int) (x:j8):LE l3L OX [(0,sZ)]:=.out (x,cn,us,i,())
def OV (x:iC):LE l3L OX [(0,sZ)]:=.ret (.tup []) (x,())
def cm (prec:List ByteArray) (line:Int):List ByteArray→List Bool→List Int→(List Bool×List Int)×eM
 | [],u,a=>((u,a),⟨0,0⟩)
 | s::l,u,a=>if Lib.idxOfS prec s<0 then((u,a),⟨2,line⟩) else if u.getD (Lib.idxOfS prec s).toNat false=true then((u,a),⟨3,line⟩) else cm prec line l (u.set (Lib.idxOfS prec s).toNat true) (a++[Lib.idxOfS prec s])
def eA (cn:List ByteArray) (line:Int):List ByteArray→List Int→List Int×eM
 | [],a=>(a,⟨0,0⟩)
 | s::l,a=>if Lib.idxOfS cn s<0 then(a,⟨2,line⟩) else eA cn line l (a++[Lib.idxOfS cn s])
def lkF {L:Type} (out:j8→List Bool→L) (ret:iC→L) (x:j8) (u:List Bool) (ps cs:List Int) (e:eM):T L:=.br (decide (e.no=0)) (.lf (out (x.withP ps.reverse cs.reverse) u.reverse)) (.lf (ret ((x.withP ps.reverse cs.reverse).cl.note e.no e.line)))
def lkP (x:j8) (us:List Bool) (a:List Int) (i:Int) (l:List ByteArray) (n j:Int):Prop:=0≤j∧j≤l.length∧n=l.length∧i=x.done.length∧i<x.rl.length∧us.length=x.prec.length∧(a.length:Int)=j∧l.length≤1099511627776
theorem Lc (l:List ByteArray) (s:ByteArray):Lib.idxOfS l s<0∨(0≤Lib.idxOfS l s∧Lib.idxOfS l s<l.length):=by
 have:∀(l:List ByteArray) (i:Nat),Lib.idxFromS l s i<0∨(0≤Lib.idxFromS l s i∧Lib.idxFromS l s i<i+l.length):=by
  intro l;induction l with
  | nil=>intro i;exact .inl (by show(-1:Int)<0;omega)
  | cons x l ih=>
   intro i;unfold Lib.idxFromS;split
   ·exact .inr ⟨by omega,by rw[abp];omega⟩
   ·rcases ih (i+1) with h|h
    ·exact .inl h
    ·exact .inr ⟨h.1,by rw[abp];omega⟩
 have:=this l 0;unfold Lib.idxOfS;omega
theorem OK:eD K1 2 4 l2L OX [(0,sZ)] fun((x:j8),(cn:List ByteArray),(us:List Bool),(i:Int),(l:List ByteArray),(n:Int),(j:Int),_)=>
 .nd (lkP x us x.ps i l n j) (lkF (fun x u=>I0 cn u i x) DT x (cm x.prec (x.ln i).1 (l.drop j.toNat) us.reverse x.ps.reverse).1.1 (cm x.prec (x.ln i).1 (l.drop j.toNat) us.reverse x.ps.reverse).1.2 x.cs.reverse (cm x.prec (x.ln i).1 (l.drop j.toNat) us.reverse x.ps.reverse).2):=by
  refine eG _ (nL _ _) 99 2 4 l2L OX [(0,sZ)] (fun((x:j8),(cn:List ByteArray),(us:List Bool),(i:Int),(l:List ByteArray),(n:Int),(j:Int),_)=>YR (Y5 cn i l n j) (I0 cn us i) DT x us i l n j)
   (fun(_,_,_,_,(l:List ByteArray),_,(j:Int),_)=>l.length-j.toNat) ?_
  rintro⟨(x:j8),(cn:List ByteArray),(us:List Bool),(i:Int),(l:List ByteArray),(n:Int),(j:Int),_⟩ r _ ⟨⟨h0,h1,rfl,rfl,h4,h5,h6,h7⟩,hr⟩;have hr:(lkF (fun x u=>I0 cn u _ x) DT x _ _ _ _).hit r:=hr;obtain⟨k,rfl⟩:∃k:Nat,j=k:=⟨j.toNat,by omega⟩;rw[aaR] at hr;show∃q,(YR _ _ _ x us _ l l.length k).hit q∧_;have Pg:x.withP x.ps.reverse.reverse x.cs.reverse.reverse=x:=by rw[aa7,aa7];rfl
  unfold YR;by_cases hk:k<l.length
  ·rw[getD_drop (⟨#[]⟩:ByteArray) hk,cm] at hr;rw[aaR];have hE:∀no line:Int,no≠0→(lkF (fun x u=>I0 cn u x.done.length x) DT x us.reverse x.ps.reverse x.cs.reverse ⟨no,line⟩).hit r→(lkE (L:=LE l2L OX [(0,sZ)]) DT x x.done.length no line).hit r∧(match r with|.back x'=>False|q=>q=r):=fun no line hn h=>by
    have h:=h.2 (decide_eq_false hn);rw[Pg] at h;obtain rfl:=h;exact⟨⟨⟨by omega,h4⟩,aca hn,rfl⟩,rfl⟩
   split at hr
   ·rename_i hlt;obtain⟨q1,q2⟩:=hE 2 _ (by decide) hr;refine⟨r,aX (decide_eq_true (by omega)) ⟨⟨by omega,by omega⟩,aX (decide_eq_true hlt) q1⟩,?_⟩
    revert q2;cases r<;>intro q2<;>first|exact q2|exact q2.elim
   ·rename_i hge;have hx:=(Lc x.prec (l.getD k ⟨#[]⟩)).resolve_left hge;split at hr
    ·rename_i hu;obtain⟨q1,q2⟩:=hE 3 _ (by decide) hr;refine⟨r,aX (decide_eq_true (by omega)) ⟨⟨by omega,by omega⟩,bg (decide_eq_false hge) ⟨⟨hx.1,by omega⟩,aX hu q1⟩⟩,?_⟩
     revert q2;cases r<;>intro q2<;>first|exact q2|exact q2.elim
    ·rename_i hu;refine⟨_,aX (decide_eq_true (by omega)) ⟨⟨by omega,by omega⟩,bg (decide_eq_false hge) ⟨⟨hx.1,by omega⟩,bg (by simpa using hu) ⟨⟨hx.1,by omega⟩,rfl,by omega,rfl,⟨by omega,by omega⟩,rfl⟩⟩⟩,?_,?_⟩
     ·show l.length-(k+1)<l.length-k;omega
     ·refine⟨⟨by omega,by omega,rfl,rfl,h4,?_,?_,h7⟩,?_⟩
      ·rw[aa9,abF,aa9];exact h5
      ·show((x.ps.length+1:Nat):Int)=(k:Int)+1;omega
      ·show(lkF _ _ _ _ _ _ _).hit r;rw[aa7];have e:(Lib.idxOfS x.prec (l.getD k ⟨#[]⟩)::x.ps).reverse=x.ps.reverse++[Lib.idxOfS x.prec (l.getD k ⟨#[]⟩)]:=by simp
       rw[←e] at hr;exact hr
  ·rw[abg (by omega),cm] at hr;have h:=hr.1 (decide_eq_true rfl);refine⟨r,bg (decide_eq_false (by omega)) ?_,?_⟩
   ·rw[Pg,aa7] at h;exact h
   ·obtain rfl:=h;rfl
theorem OJ:eD K1 3 6 l3L OX [(0,sZ)] fun((x:j8),(cn:List ByteArray),(us:List Bool),(i:Int),(l:List ByteArray),(n:Int),(j:Int),_)=>
 .nd (lkP x us x.cs i l n j) (lkF (fun x u=>OW cn u i x) OV x us.reverse x.ps.reverse (eA cn.reverse (x.ln i).2 (l.drop j.toNat) x.cs.reverse).1 (eA cn.reverse (x.ln i).2 (l.drop j.toNat) x.cs.reverse).2):=by
  refine eG _ (nL _ _) 99 3 6 l3L OX [(0,sZ)] (fun((x:j8),(cn:List ByteArray),(us:List Bool),(i:Int),(l:List ByteArray),(n:Int),(j:Int),_)=>YQ (Y4 cn i l n j) (OW cn us i) OV x us i l n j cn)
   (fun(_,_,_,_,(l:List ByteArray),_,(j:Int),_)=>l.length-j.toNat) ?_
  rintro⟨(x:j8),(cn:List ByteArray),(us:List Bool),(i:Int),(l:List ByteArray),(n:Int),(j:Int),_⟩ r _ ⟨⟨h0,h1,rfl,rfl,h4,h5,h6,h7⟩,hr⟩;have hr:(lkF (fun x u=>OW cn u _ x) OV x _ _ _ _).hit r:=hr;obtain⟨k,rfl⟩:∃k:Nat,j=k:=⟨j.toNat,by omega⟩;rw[aaR] at hr;show∃q,(YQ _ _ _ x us _ l l.length k cn).hit q∧_;have Pg:x.withP x.ps.reverse.reverse x.cs.reverse.reverse=x:=by rw[aa7,aa7];rfl
  unfold YQ;by_cases hk:k<l.length
  ·rw[getD_drop (⟨#[]⟩:ByteArray) hk,eA] at hr;rw[aaR];split at hr
   ·rename_i hlt;have h:=hr.2 (decide_eq_false (by show¬(2:Int)=0;decide));rw[Pg] at h;obtain rfl:=h;exact⟨_,aX (decide_eq_true (by omega)) ⟨⟨by omega,by omega⟩,aX (decide_eq_true hlt) ⟨⟨by omega,h4⟩,by decide,rfl⟩⟩,rfl⟩
   ·rename_i hge;refine⟨_,aX (decide_eq_true (by omega)) ⟨⟨by omega,by omega⟩,bg (decide_eq_false hge) ⟨rfl,by omega,rfl,⟨by omega,by omega⟩,rfl⟩⟩,?_,?_⟩
    ·show l.length-(k+1)<l.length-k;omega
    ·refine⟨⟨by omega,by omega,rfl,rfl,h4,h5,?_,h7⟩,?_⟩
     ·show((x.cs.length+1:Nat):Int)=(k:Int)+1;omega
     ·have e:(Lib.idxOfS cn.reverse (l.getD k ⟨#[]⟩)::x.cs).reverse=x.cs.reverse++[Lib.idxOfS cn.reverse (l.getD k ⟨#[]⟩)]:=by simp
      rw[←e] at hr;exact hr
  ·rw[abg (by omega),eA] at hr;have h:=hr.1 (decide_eq_true rfl);refine⟨r,bg (decide_eq_false (by omega)) ?_,?_⟩
   ·rw[Pg,aa7] at h;exact h
   ·obtain rfl:=h;rfl
abbrev l0L:List (Nat×SS):=[(0,sT),(2,R0),(3,sI)]
abbrev l0O:List (Nat×SS):=[(0,sT),(2,R0)]
def Y6 (x:bh) (cn:List ByteArray) (i:Int):LE l0L l0O [(0,sZ)]:=.back (x,cn,i,())
def OZ (x:bh) (cn:List ByteArray):LE l0L l0O [(0,sZ)]:=.out (x,cn,())
theorem OM:eD K1 0 0 l0L l0O [(0,sZ)] fun((x:bh),(cn:List ByteArray),(i:Int),_)=>.nd (0≤i∧i≤x.cont.length∧(cn.length:Int)=i∧x.cont.length≤1099511627776) (.lf (OZ x (((x.cont.drop i.toNat).map (·.name)).reverse++cn))):=by
 refine eG _ (nL _ _) 99 0 0 l0L l0O [(0,sZ)] (fun((x:bh),(cn:List ByteArray),(i:Int),_)=>.br (decide (i<x.rc.length)) (.nd (0≤i∧i<x.rc.length) (.nd ((cn.length+1)*17≤140737488355328) (.nd (cN (i+1)) (.lf (Y6 x ((x.cont.getD i.toNat ai.zero).name::cn) (i+1)))))) (.lf (OZ x cn)))
  (fun((x:bh),_,(i:Int),_)=>x.cont.length-i.toNat) ?_
 rintro⟨(x:bh),(cn:List ByteArray),(i:Int),_⟩ r _ ⟨⟨h0,h1,h2,h3⟩,hr⟩;obtain rfl:=hr;obtain⟨k,rfl⟩:∃k:Nat,i=k:=⟨i.toNat,by omega⟩;have hl:x.rc.length=x.cont.length:=(aa9 (α:=ai)).symm;show∃q,(T.br (decide ((k:Int)<x.rc.length)) _ _).hit q∧_;rw[hl,aaR];by_cases hk:k<x.cont.length
 ·refine⟨_,aX (decide_eq_true (by omega)) ⟨⟨by omega,by omega⟩,by omega,⟨by omega,by omega⟩,rfl⟩,?_,⟨by omega,by omega,?_,h3⟩,?_⟩
  ·show x.cont.length-(k+1)<x.cont.length-k;omega
  ·rw[abp];omega
  ·show OZ x (((x.cont.drop (k+1)).map (·.name)).reverse++((x.cont.getD k ai.zero).name::cn))=_;rw[getD_drop ai.zero hk,abY,abL,abD];rfl
 ·refine⟨_,bg (decide_eq_false (by omega)) rfl,?_⟩;rw[abg (by omega)];rfl
abbrev l4L:List (Nat×SS):=[(0,sZ),(4,sOB),(12,sI)]
abbrev l4O:List (Nat×SS):=[(0,sZ)]
def OU (x:iC) (us:List Bool) (i:Int):LE l4L l4O [(0,sZ)]:=.back (x,us,i,())
def DR (x:iC):LE l4L l4O [(0,sZ)]:=.out (x,())
theorem TD {x:iC} {c d line xb:Int} (hc:c≠0):(x.note c line).note d xb=x.note c line:=congrArg x.setF (adu hc)
theorem TE {x:iC} (line:Int):x.note 0 line=x:=congrArg x.setF (Of line)
theorem OI:eD K1 4 8 l4L l4O [(0,sZ)] fun((x:iC),(us:List Bool),(i:Int),_)=>.nd (0≤i∧i≤us.length) (.lf (DR (x.note (if(us.reverse.drop i.toNat).contains false then 6 else 0) 0))):=by
 refine eG _ (nL _ _) 99 4 8 l4L l4O [(0,sZ)] (fun((x:iC),(us:List Bool),(i:Int),_)=>.br (decide (i<us.length)) (.nd (0≤i∧i<us.length) (.br (!(us.reverse.getD i.toNat false)) (.nd ((0:Int)≠6) (.nd (cN (i+1)) (.lf (OU (x.note 6 0) us (i+1))))) (.nd (cN (i+1)) (.lf (OU x us (i+1)))))) (.lf (DR x)))
  (fun(_,(us:List Bool),(i:Int),_)=>us.length-i.toNat) ?_
 rintro⟨(x:iC),(us:List Bool),(i:Int),_⟩ r sJ ⟨⟨h0,h1⟩,hr⟩;obtain rfl:=hr;have hl:us.length≤9223372036854775807:=sJ.2.1;obtain⟨k,rfl⟩:∃k:Nat,i=k:=⟨i.toNat,by omega⟩;rw[aaR];by_cases hk:k<us.length
 ·have hd:us.length-(k+1)<us.length-k:=by omega
  have di:cN ((k:Int)+1):=⟨by omega,by omega⟩;have hx:=getD_drop (xs:=us.reverse) (i:=k) false (by rw[aa9];exact hk);rw[hx];cases hb:us.reverse.getD k false with
  | false=>
   refine⟨_,aX (decide_eq_true (by omega)) ⟨⟨by omega,by omega⟩,aX (by rw[aaR,hb];rfl) ⟨by decide,di,rfl⟩⟩,hd,⟨by omega,by omega⟩,?_⟩;show DR ((x.note 6 0).note _ 0)=_;rw[TD (by decide)];simp
  | true=>
   refine⟨_,aX (decide_eq_true (by omega)) ⟨⟨by omega,by omega⟩,bg (by rw[aaR,hb];rfl) ⟨di,rfl⟩⟩,hd,⟨by omega,by omega⟩,?_⟩;show DR (x.note (if(us.reverse.drop (k+1)).contains false then 6 else 0) 0)=_;simp
 ·refine⟨_,bg (decide_eq_false (by omega)) rfl,?_⟩;rw[abg (by rw[aa9];omega)];exact congrArg DR (TE _).symm
abbrev R4:List (Nat×SS):=[(0,sZ),(2,R0),(4,sOB),(5,sI)]
abbrev R3:List (Nat×SS):=[(0,sZ),(4,sOB)]
def OY (cn:List ByteArray) (i:Int) (x:iC) (us:List Bool):LE R4 R3 [(0,sZ)]:=.back (x,cn,us,i+1,())
def I1 (x:iC) (us:List Bool):LE R4 R3 [(0,sZ)]:=.out (x,us,())
def xh (x:iC):LE R4 R3 [(0,sZ)]:=.ret (.tup []) (x,())
def iC.rm (x:iC):List (List ByteArray×List ByteArray):=x.2.2.2.2.2.2.2.2.2.2.2.2.2.2.2.2.1
def j8.nmAt (x:j8) (i:Int):List ByteArray×List ByteArray:=List.getD (List.reverse (α:=List ByteArray×List ByteArray) x.2.2.2.2.2.2.2.2.2.2.2.2.2.2.2.2.1) i.toNat ([],[])
def j8.rm (x:j8):List (List ByteArray×List ByteArray):=x.2.2.2.2.2.2.2.2.2.2.2.2.2.2.2.2.1
def T9 {L:Type} (out:j8→List Bool→T L) (ret:iC→L) (x:j8) (u:List Bool) (ps cs:List Int) (e:eM):T L:=.br (decide (e.no=0)) (out (x.withP ps.reverse cs.reverse) u.reverse) (.lf (ret ((x.withP ps.reverse cs.reverse).cl.note e.no e.line)))
section
variable (cn:List ByteArray) (i:Int)
def adO (y:j8) (us:List Bool):T (LE R4 R3 [(0,sZ)]):=.nd (cN (i+1)) (.lf (OY cn i y.cl us))
def adP (y:j8) (us:List Bool):T (LE R4 R3 [(0,sZ)]):=.nd (0≤i∧i<y.rm.length) (.nd (lkP y us y.cs i (y.nmAt i).2 (y.nmAt i).2.length 0) (T9 (adO cn i) xh y us.reverse y.ps.reverse (eA cn.reverse (y.ln i).2 ((y.nmAt i).2.drop (Int.toNat 0)) y.cs.reverse).1 (eA cn.reverse (y.ln i).2 ((y.nmAt i).2.drop (Int.toNat 0)) y.cs.reverse).2))
def ajj (y:j8) (us:List Bool):T (LE R4 R3 [(0,sZ)]):=.nd (lkP y us y.ps i (y.nmAt i).1 (y.nmAt i).1.length 0) (T9 (adP cn i) xh y (cm y.prec (y.ln i).1 ((y.nmAt i).1.drop (Int.toNat 0)) us.reverse y.ps.reverse).1.1 (cm y.prec (y.ln i).1 ((y.nmAt i).1.drop (Int.toNat 0)) us.reverse y.ps.reverse).1.2 y.cs.reverse (cm y.prec (y.ln i).1 ((y.nmAt i).1.drop (Int.toNat 0)) us.reverse y.ps.reverse).2)
def OG (x:iC) (us:List Bool):T (LE R4 R3 [(0,sZ)]):=.br (decide (i<x.rm.length)) (.nd (0≤i∧i<x.rm.length) (.nd (x.z.2.1.length<x.z.1) (ajj cn i x.op us))) (.lf (I1 x us))
end
def qw (prec cn:List ByteArray):List (List ByteArray×List ByteArray)→List (Int×Int)→List ax→List ByteArray→List Bool→(List ax×List ByteArray×List Bool)×eM
 | [],_,done,rest,u=>((done,rest,u),⟨0,0⟩)
 | v::vs,ls,done,rest,u=>
  if(cm prec (ls.getD 0 (0,0)).1 v.1 u []).2.no=0 then
   if(eA cn (ls.getD 0 (0,0)).2 v.2 []).2.no=0 then qw prec cn vs (ls.drop 1) (done++[⟨rest.getD 0 ⟨#[]⟩,(cm prec (ls.getD 0 (0,0)).1 v.1 u []).1.2,(eA cn (ls.getD 0 (0,0)).2 v.2 []).1⟩]) (rest.drop 1) (cm prec (ls.getD 0 (0,0)).1 v.1 u []).1.1
   else((done++[⟨rest.getD 0 ⟨#[]⟩,(cm prec (ls.getD 0 (0,0)).1 v.1 u []).1.2,(eA cn (ls.getD 0 (0,0)).2 v.2 []).1⟩],rest.drop 1,(cm prec (ls.getD 0 (0,0)).1 v.1 u []).1.1),(eA cn (ls.getD 0 (0,0)).2 v.2 []).2)
  else((done++[⟨rest.getD 0 ⟨#[]⟩,(cm prec (ls.getD 0 (0,0)).1 v.1 u []).1.2,[]⟩],rest.drop 1,(cm prec (ls.getD 0 (0,0)).1 v.1 u []).1.1),(cm prec (ls.getD 0 (0,0)).1 v.1 u []).2)
def iC.rl (x:iC):List (Int×Int):=x.2.2.2.2.2.2.2.2.2.2.2.2.2.2.2.1
def iC.prec (x:iC):List ByteArray:=x.2.2.2.2.1
def iC.go (x:iC) (cn:List ByteArray) (us:List Bool) (i:Int):(List ax×List ByteArray×List Bool)×eM:=qw x.prec cn.reverse (x.rm.reverse.drop i.toNat) (x.rl.reverse.drop i.toNat) x.z.2.1 x.z.2.2 us.reverse
def iC.withZ (x:iC) (d:List ax) (r:List ByteArray):iC:=x.setZ (x.z.1,d,r)
def YT (x:iC) (g:(List ax×List ByteArray×List Bool)×eM):T (LE R4 R3 [(0,sZ)]):=.br (decide (g.2.no=0)) (.lf (I1 (x.withZ g.1.1 g.1.2.1) g.1.2.2.reverse)) (.lf (xh ((x.withZ g.1.1 g.1.2.1).note g.2.no g.2.line)))
def adN (x:iC) (us:List Bool) (i:Int):Prop:=0≤i∧i≤x.rm.length∧i=x.z.2.1.length∧x.rl.length=x.rm.length∧x.z.1=x.rm.length∧us.length=x.prec.length∧x.rm.length≤1099511627776∧∀p∈x.rm.reverse,p.1.length≤1099511627776∧p.2.length≤1099511627776
theorem wX (prec:List ByteArray) (line:Int):∀(l:List ByteArray) (u:List Bool) (a:List Int),(cm prec line l u a).1.1.length=u.length
 | [],_,_=>rfl
 | s::l,u,a=>by
  unfold cm;split
  ·rfl
  ·split
   ·rfl
   ·rw[wX];exact abF
theorem OL:eD K1 1 2 R4 R3 [(0,sZ)] fun((x:iC),(cn:List ByteArray),(us:List Bool),(i:Int),_)=>.nd (adN x us i) (YT x (x.go cn us i)):=by
 refine eG _ (((nL _ _).add 2 _ OK).add 3 _ OJ) 99 1 2 R4 R3 [(0,sZ)] (fun((x:iC),(cn:List ByteArray),(us:List Bool),(i:Int),_)=>OG cn i x us)
  (fun((x:iC),_,_,(i:Int),_)=>x.rm.length-i.toNat) ?_
 rintro⟨(x:iC),(cn:List ByteArray),(us:List Bool),(i:Int),_⟩ r _ ⟨⟨h0,h1,h2,h3,h4,h5,h6,h7⟩,hr⟩;obtain⟨k,rfl⟩:∃k:Nat,i=k:=⟨i.toNat,by omega⟩;show∃q,(OG cn k x us).hit q∧_;have hr:(YT x (x.go cn us k)).hit r:=hr;unfold OG;have zP:x.rm.reverse.length=x.rm.length:=aa9;have Sl:x.rl.reverse.length=x.rl.length:=aa9;by_cases hk:k<x.rm.length
 ·unfold iC.go at hr;rw[aaR,getD_drop (([],[]):List ByteArray×List ByteArray) (by rw[zP];exact hk),qw] at hr;have hm:=h7 (x.rm.reverse.getD k ([],[])) (by rw[aaQ,aac (by rw[zP];exact hk)];exact abI _);have Mn:x.op.nmAt k=x.rm.reverse.getD k ([],[]):=rfl;have Fi:(x.rl.reverse.drop k).getD 0 (0,0)=x.op.ln k:=by
   show _=x.rl.reverse.getD k (0,0);rw[aaQ,ab5,aaQ,acX]
  rw[Fi,←Mn] at hr;rw[←Mn] at hm;have tH:=wX x.prec (x.op.ln k).1 (x.op.nmAt k).1 us.reverse [];have aep:lkP x.op us x.op.ps k (x.op.nmAt k).1 (x.op.nmAt k).1.length 0:=⟨by omega,by omega,rfl,h2,by show(k:Int)<x.rl.length;omega,h5,rfl,hm.1⟩;have hC:∀{q},(T9 (adP cn k) xh x.op (cm x.prec (x.op.ln k).1 (x.op.nmAt k).1 us.reverse []).1.1 (cm x.prec (x.op.ln k).1 (x.op.nmAt k).1 us.reverse []).1.2 [] (cm x.prec (x.op.ln k).1 (x.op.nmAt k).1 us.reverse []).2).hit q→(OG cn k x us).hit q:=fun h=>aX (decide_eq_true (by omega)) ⟨⟨by omega,by omega⟩,by omega,aep,h⟩;generalize cm x.prec (x.op.ln k).1 (x.op.nmAt k).1 us.reverse []=p at*;obtain⟨⟨u,ps⟩,e⟩:=p;simp only at hr hC tH;by_cases he:e.no=0
  ·rw[if_pos he] at hr;have aeo:lkP (x.op.withP ps.reverse [].reverse) u.reverse [] k (x.op.nmAt k).2 (x.op.nmAt k).2.length 0:=⟨by omega,by omega,rfl,h2,by show(k:Int)<x.rl.length;omega,by rw[aa9,tH,aa9];exact h5,rfl,hm.2⟩;have hD:∀{q},(T9 (adO cn k) xh (x.op.withP ps.reverse [].reverse) u.reverse.reverse ps.reverse.reverse (eA cn.reverse (x.op.ln k).2 (x.op.nmAt k).2 []).1 (eA cn.reverse (x.op.ln k).2 (x.op.nmAt k).2 []).2).hit q→(OG cn k x us).hit q:=fun h=>hC (aX (decide_eq_true he) ⟨⟨by omega,by show(k:Int)<x.rm.length;omega⟩,aeo,h⟩);generalize eA cn.reverse (x.op.ln k).2 (x.op.nmAt k).2 []=c at*;obtain⟨cs,e2⟩:=c;simp only at hr hD;rw[aa7,aa7] at hD;by_cases he2:e2.no=0
   ·rw[if_pos he2] at hr;have uZ:((x.op.withP ps.reverse [].reverse).withP ps.reverse cs.reverse).cl=x.withZ (x.z.2.1++[⟨x.z.2.2.getD 0 ⟨#[]⟩,ps,cs⟩]) (x.z.2.2.drop 1):=by
     show x.withZ (x.z.2.1++[⟨x.z.2.2.getD 0 ⟨#[]⟩,ps.reverse.reverse,cs.reverse.reverse⟩]) (x.z.2.2.drop 1)=_;rw[aa7,aa7]
    have Zz:(x.op.nm:ByteArray)=x.z.2.2.getD 0 ⟨#[]⟩:=rfl;generalize x.z.2.2.getD 0 ⟨#[]⟩=nm at*;generalize hD3:x.z.2.1++[⟨nm,ps,cs⟩]=d at*;generalize x.z.2.2.drop 1=rest at*;refine⟨OY cn k (x.withZ d rest) u.reverse,hD (aX (decide_eq_true he2) ⟨⟨by omega,by omega⟩,by rw[←uZ];rfl⟩),?_,?_,?_⟩
    ·show x.rm.length-(k+1)<x.rm.length-k;omega
    ·refine⟨by omega,by show((k:Int)+1)≤x.rm.length;omega,?_,h3,h4,?_,h6,h7⟩
     ·show((k:Int)+1)=(d.length:Nat);rw[←hD3,abm,abN];omega
     ·show u.reverse.length=x.prec.length;rw[aa9,tH,aa9];exact h5
    ·have hgo:(x.withZ d rest).go cn u.reverse ((k:Int)+1)=qw x.prec cn.reverse (x.rm.reverse.drop (k+1)) ((x.rl.reverse.drop k).drop 1) d rest u:=by
      rw[ad5];show qw x.prec cn.reverse (x.rm.reverse.drop (k+1)) (x.rl.reverse.drop (k+1)) d rest u.reverse.reverse=_;rw[aa7]
     show(YT (x.withZ d rest) ((x.withZ d rest).go cn u.reverse ((k:Int)+1))).hit r;rw[hgo];exact hr
   ·rw[if_neg he2] at hr;have h:=hr.2 (decide_eq_false he2);refine⟨_,hD (bg (decide_eq_false he2) rfl),?_⟩;rw[←h];show xh (iC.note (x.withZ (x.z.2.1++[⟨x.z.2.2.getD 0 ⟨#[]⟩,ps.reverse.reverse,cs.reverse.reverse⟩]) (x.z.2.2.drop 1)) e2.no e2.line)=_;rw[aa7,aa7]
  ·rw[if_neg he] at hr;have h:=hr.2 (decide_eq_false he);refine⟨_,hC (bg (decide_eq_false he) rfl),?_⟩;rw[←h];show xh (iC.note (x.withZ (x.z.2.1++[⟨x.z.2.2.getD 0 ⟨#[]⟩,ps.reverse.reverse,[]⟩]) (x.z.2.2.drop 1)) e.no e.line)=_;rw[aa7]
 ·unfold iC.go at hr;rw[aaR,abg (by omega),qw] at hr;have h:=hr.1 (decide_eq_true rfl);refine⟨_,bg (decide_eq_false (by omega)) rfl,?_⟩;rw[←h];show I1 x us=I1 x us.reverse.reverse;rw[aa7]
def bh.cn (x:bh):List ByteArray:=((x.cont.drop (Int.toNat 0)).map (·.name)).reverse++[]
def bh.prec (x:bh):List ByteArray:=x.2.2.2.2.1
def bh.us (x:bh):List Bool:=List.replicate (x.prec.length:Int).toNat false
def bh.go (x:bh):(List ax×List ByteArray×List Bool)×eM:=x.zb.go x.cn x.us 0
def zo (x:bh):iC:=if x.go.2.no=0 then(x.zb.withZ x.go.1.1 x.go.1.2.1).note (if x.go.1.2.2.contains false then 6 else 0) 0 else(x.zb.withZ x.go.1.1 x.go.1.2.1).note x.go.2.no x.go.2.line
abbrev SRZ:=XV×iC×Unit
def anZ (x:iC):SRZ:=(.tup [],x,())
def lkB (x:bh):T SRZ:=.nd ((0:Int)≤0∧(0:Int)≤x.cont.length∧(([]:List ByteArray).length:Int)=0∧x.cont.length≤1099511627776) (.nd ((0:Int)≤(x.prec.length:Int)∧(x.prec.length:Int)=x.prec.length∧(x.prec.length:Int)*(1+1)≤281474976710656)
 (.nd (adN x.zb x.us 0) (.br (decide (x.go.2.no=0)) (.nd ((0:Int)≤0∧(0:Int)≤x.go.1.2.2.reverse.length) (.lf (anZ ((x.zb.withZ x.go.1.1 x.go.1.2.1).note (if(x.go.1.2.2.reverse.reverse.drop (Int.toNat 0)).contains false then 6 else 0) 0)))) (.lf (anZ ((x.zb.withZ x.go.1.1 x.go.1.2.1).note x.go.2.no x.go.2.line))))))
def IU (x:bh):Prop:=x.cont.length≤1099511627776∧x.prec.length≤1099511627776∧x.lines.length=x.names.length∧x.snm.length=x.names.length∧x.names.length≤1099511627776∧∀p∈x.names,p.1.length≤1099511627776∧p.2.length≤1099511627776
theorem OO:gh Tryz.prog 49 [0] [(0,sT)] [(0,sZ)] fun((x:bh),_)=>.nd (IU x) (.lf (anZ (zo x))):=by
 refine QG (R:=K1) ((((nL _ _).add 0 _ OM).add 1 _ OL).add 4 _ OI) 99 [(0,sT)] [(0,sZ)] (fun((x:bh),_)=>lkB x) ?_ Tryz.func49;rintro⟨(x:bh),_⟩ r _ ⟨⟨h1,h2,h3,h4,h5,h6⟩,hr⟩;obtain rfl:=hr;have hl:∀{α:Type} (l:List α),l.reverse.length=l.length:=fun l=>aa9;have e1:x.zb.rm.length=x.names.length:=(hl x.rm).symm;have e2:x.zb.rl.length=x.lines.length:=(hl x.rl).symm;have e3:x.rs.length=x.snm.length:=(hl x.rs).symm;refine⟨⟨by omega,by omega,rfl,h1⟩,⟨by omega,rfl,by omega⟩,⟨by omega,by omega,rfl,by omega,?_,?_,by omega,h6⟩,?_⟩
 ·show x.rs.length=_;omega
 ·show(List.replicate _ false).length=x.prec.length;rw[acc];omega
 ·unfold zo;by_cases h:x.go.2.no=0
  ·rw[if_pos h];refine aX (decide_eq_true h) ⟨⟨by omega,by omega⟩,?_⟩;rw[aa7];rfl
  ·rw[if_neg h];exact bg (decide_eq_false h) rfl
noncomputable def lkS:bh→iC:=shut zo
theorem YS (x:bh):lkS x=zo x:=congrFun (mQ zo) x
theorem K4:gh Tryz.prog 49 [0] [(0,sT)] [(0,sZ)] fun((x:bh),_)=>.nd (IU x) (.lf (anZ (lkS x))):=by
 unfold lkS;rw[mQ];exact OO
noncomputable def C9:hZ Tryz.prog:=dj Wj [⟨_,_,_,find_ok⟩,⟨_,_,_,og⟩] [⟨_,_,_,_,_,kI⟩,⟨_,_,_,_,_,L0⟩,⟨_,_,_,_,_,K4⟩]
noncomputable abbrev cfn:=Tryz.f31
abbrev elC:List CS:=[.d .str,.d tI,.d tI,.d tI,.d (.list .str),.d (.list (.st 3)),.d (.list (.st 4)),.d tI,.d tI,.d .bool,.d (.list .limb),.d (.list .limb),.d tI,.d .str]
abbrev sEb:SS:=.box 30 elC
abbrev sGb:SS:=.box 76 [.d tI,.d tI]
abbrev sUb:SS:=.box 81 [.d .str,.d (.list (.st 1))]
abbrev Mx:=eY elC
abbrev Mw:=eY [.d tI,.d tI]
abbrev Xv:=eY [.d .str,.d (.list (.st 1))]
def Xv.bs (u:Xv):List aw:=u.2.1
noncomputable abbrev aaJ:Rg Tryz.prog cfn.ntmps:=BE (sG C9 cfn) [(19,ae8 0 6)] []
abbrev c0L:List (Nat×SS):=[(4,sT),(1,sUb),(2,sEb),(3,sGb),(5,sI)]
abbrev Sy:List (Nat×SS):=[(4,sT),(2,sEb),(3,sGb)]
def aaS (x:bh) (u:Xv) (e:Mx) (g:Mw) (i:Int):LE c0L Sy []:=.back (x,u,e,g,i,())
def EK (x:bh) (e:Mx) (g:Mw):LE c0L Sy []:=.out (x,e,g,())
def aw.zero:aw:=⟨⟨#[]⟩,⟨#[]⟩,[],0⟩
def c0T (x:bh) (u:Xv) (e:Mx) (g:Mw) (i:Int):T (LE c0L Sy []):=.br (decide (i<u.bs.length)) (.br (x.err==0) (.nd (0≤i∧i<u.bs.length) (.nd (G9 x (u.bs.getD i.toNat aw.zero)) (.nd (cN (i+1)) (.lf (aaS (.ofR (gm x.r (u.bs.getD i.toNat aw.zero))) u e g (i+1)))))) (.lf (EK x e g))) (.lf (EK x e g))
abbrev c1L:List (Nat×SS):=[(4,sT),(2,sEb),(3,sGb),(50,R0),(51,sI),(52,sI)]
def Q6 (x:bh) (e:Mx) (g:Mw) (l:List ByteArray) (n i:Int):LE c1L Sy []:=.back (x,e,g,l,n,i,())
def EJ (x:bh) (e:Mx) (g:Mw):LE c1L Sy []:=.out (x,e,g,())
def c1T (x:bh) (e:Mx) (g:Mw) (l:List ByteArray) (n i:Int):T (LE c1L Sy []):=.br (decide (i<n)) (.nd (0≤i∧i<l.length) (.br (decide (Lib.idxOfS x.seen (l.reverse.getD i.toNat ⟨#[]⟩)<0)) (.nd ((0:Int)≠6) (.nd (cN (i+1)) (.lf (Q6 (x.note 6 0) e g l n (i+1))))) (.nd (cN (i+1)) (.lf (Q6 x e g l n (i+1)))))) (.lf (EJ x e g))
def gY (t:fc):Prop:=t.e.styl=(ic t.e.styl).map fun n=>⟨n,[],[]⟩
theorem Wr (x:bh):bh.ofR x.r=x:=(oc x x.e x.er rfl rfl).symm
theorem Ix (x:bh):gY x.r:=by
 show x.styl=(ic x.styl).map _;unfold bh.styl;rw[Bj]
theorem za {t:fc} (h:gY t):(bh.ofR t).r=t:=by
 obtain⟨e,seen,lines,names,f⟩:=t;obtain⟨t1,t2,t3,t4,t5,t6,t7,t8,t9,t10,t11,t12⟩:=e;have h:t7=(ic t7).map fun n=>⟨n,[],[]⟩:=h;show(⟨⟨t1,t2,t3,t4,t5,t6.reverse.reverse,(ic t7).reverse.reverse.map fun n=>⟨n,[],[]⟩,t8,t9,t10,t11,t12⟩,seen.reverse.reverse,lines.reverse.reverse,names.reverse.reverse,f⟩:fc)=_;simp only[aa7];rw[←h]
def grT (t t':fc):Prop:=t'.seen.length≤t.seen.length+1∧t'.e.cont.length≤t.e.cont.length+1∧t'.e.styl.length≤t.e.styl.length+1∧t'.names.length≤t.names.length+1∧t'.lines.length≤t.lines.length+1
def py (t:fc):Prop:=t.names.length=t.e.styl.length∧t.lines.length=t.e.styl.length
theorem On (a b:List ax):ic (a++b)=ic a++ic b:=acV
theorem GL (t:fc) (b:aw) (y:dd) (h1:y.e.cont=t.e.cont) (h2:y.e.styl=t.e.styl):grT t (tQ t b y)∧(gY t→gY (tQ t b y))∧(py t→py (tQ t b y)):=by
 unfold tQ;simp only;have e1:(t.seen++[b.kind]).length=t.seen.length+1:=by simp
 split
 ·exact⟨⟨by simp,by simp[h1],by simp[h2],by simp,by simp⟩,fun h=>by unfold gY at h ⊢;simp only[h2];exact h,fun h=>by unfold py at h ⊢;simp only[h2];exact h⟩
 split
 ·exact⟨⟨by simp,by simp[h1],by simp[h2],by simp,by simp⟩,fun h=>by unfold gY at h ⊢;simp only[h2];exact h,fun h=>by unfold py at h ⊢;simp only[h2];exact h⟩
 split
 ·refine⟨⟨by simp,by simp[h1],by simp[h2],by simp,by simp⟩,fun h=>?_,fun h=>?_⟩
  ·unfold gY at h ⊢;simp only[h2,On,acV];rw[←h];rfl
  ·unfold py at h ⊢;simp only[h2,abm,abN];omega
 split
 ·exact⟨⟨by simp[fc.note],by simp[h1,fc.note],by simp[h2,fc.note],by simp[fc.note],by simp[fc.note]⟩,fun h=>by unfold gY fc.note at*;simp only[h2];exact h,fun h=>by unfold py fc.note at*;simp only[h2];exact h⟩
 ·exact⟨⟨by simp,by simp[h1],by simp[h2],by simp,by simp⟩,fun h=>by unfold gY at h ⊢;simp only[h2];exact h,fun h=>by unfold py at h ⊢;simp only[h2];exact h⟩
theorem ki (t:fc) (b:aw):grT t (gm t b)∧(gY t→gY (gm t b))∧(py t→py (gm t b)):=by
 obtain⟨r1,r2⟩:=nX b.kind b.fields (dd.start t b);exact GL t b _ r1 r2
def bOk (b:aw):Prop:=b.name.size≤9223372036854775807∧b.fields.length≤1099511627776∧∀f∈b.fields,Lu b.kind f
def kV (t:fc) (k:Nat):Prop:=t.seen.length+k≤1099511627776∧t.e.cont.length+k≤1099511627776∧t.e.styl.length+k≤1099511627776∧t.names.length+k≤1099511627776∧t.lines.length+k≤1099511627776
theorem kV.blk {x:bh} {b:aw} {k:Nat} (h:kV x.r k) (hb:bOk b):G9 x b:=by
 obtain⟨h1,h2,h3,h4,h5⟩:=h;have hlr:∀{α:Type} (l:List α),l.reverse.length=l.length:=fun l=>aa9;have l1:x.rn.length=x.r.seen.length:=(hlr x.rn).symm;have l2:x.rc.length=x.r.e.cont.length:=(hlr x.rc).symm;have l3:x.rs.length=x.r.e.styl.length:=by
  show _=(x.snm.map _).length;rw[abU];exact(hlr x.rs).symm
 have l4:x.rm.length=x.r.names.length:=(hlr x.rm).symm;have l5:x.rl.length=x.r.lines.length:=(hlr x.rl).symm;exact⟨hb.1,hb.2.1,hb.2.2,by omega,by omega,by omega,by omega,by omega⟩
theorem kV.next {t:fc} {b:aw} {k:Nat} (h:kV t (k+1)):kV (gm t b) k:=by
 obtain⟨h1,h2,h3,h4,h5⟩:=h;obtain⟨g1,g2,g3,g4,g5⟩:=(ki t b).1;exact⟨by omega,by omega,by omega,by omega,by omega⟩
noncomputable def c0S:List aw→bh→bh:=shut fun l x=>.ofR (df l x.r)
theorem GZ (l:List aw) (x:bh):c0S l x=.ofR (df l x.r):=by unfold c0S;rw[mQ]
theorem EC:eD aaJ 0 0 c0L Sy [] fun((x:bh),(u:Xv),(e:Mx),(g:Mw),(i:Int),_)=>.nd (0≤i∧i≤u.bs.length∧u.bs.length≤1099511627776∧(∀b∈u.bs,bOk b)∧kV x.r (u.bs.length-i.toNat)) (.lf (EK (c0S (u.bs.drop i.toNat) x) e g)):=by
 refine eG _ (nL _ _) 99 0 0 c0L Sy [] (fun((x:bh),(u:Xv),(e:Mx),(g:Mw),(i:Int),_)=>c0T x u e g i)
  (fun(_,(u:Xv),_,_,(i:Int),_)=>u.bs.length-i.toNat) ?_
 rintro⟨(x:bh),(u:Xv),(e:Mx),(g:Mw),(i:Int),_⟩ r _ ⟨⟨h0,h1,h2,h3,h4⟩,hr⟩;have hr:EK (c0S (u.bs.drop i.toNat) x) e g=r:=hr;rw[GZ] at hr;obtain rfl:=hr;obtain⟨k,rfl⟩:∃k:Nat,i=k:=⟨i.toNat,by omega⟩;rw[aaR] at h4 ⊢;show∃q,(c0T x u e g k).hit q∧_;unfold c0T;by_cases hk:k<u.bs.length
 ·rw[getD_drop aw.zero hk,df];have hb:=h3 (u.bs.getD k aw.zero) (by rw[aaQ,aac hk];exact abI hk);by_cases he:x.err=0
  ·rw[if_neg (by simpa using(show x.r.f.no=0 from he))];refine⟨_,aX (decide_eq_true (by omega)) (aX (beq_iff_eq.2 he) ⟨⟨by omega,by omega⟩,h4.blk (by rw[aaR];exact hb),⟨by omega,by omega⟩,rfl⟩),?_,⟨by omega,by omega,h2,h3,?_⟩,?_⟩
   ·show u.bs.length-(k+1)<u.bs.length-k;omega
   ·rw[aaR];have hp:=(ki x.r (u.bs.getD k aw.zero)).2.1 (Ix x);rw[za hp];have:u.bs.length-k=(u.bs.length-((k:Int)+1).toNat)+1:=by omega
    rw[this] at h4;exact h4.next
   ·rw[aaR];have hp:=(ki x.r (u.bs.getD k aw.zero)).2.1 (Ix x);show EK (c0S (u.bs.drop (k+1)) (bh.ofR (gm x.r (u.bs.getD k aw.zero)))) e g=_;rw[GZ,za hp]
  ·rw[if_pos (by exact he),Wr];exact⟨_,aX (decide_eq_true (by omega)) (bg (beq_eq_false_iff_ne.2 he) rfl),rfl⟩
 ·rw[abg (by omega),df,Wr];exact⟨_,bg (decide_eq_false (by omega)) rfl,rfl⟩
def IN (seen:List ByteArray) (l:List ByteArray) (f:eM):eM:=l.foldl (fun f k=>f.note (if bH seen k=true then 0 else 6) 0) f
noncomputable def c1S:bh→List ByteArray→bh:=shut fun x l=>x.setE x.e (IN x.seen l x.er)
theorem GY (x:bh) (l:List ByteArray):c1S x l=x.setE x.e (IN x.seen l x.er):=by unfold c1S;rw[mQ]
theorem EB:eD aaJ 1 2 c1L Sy [] fun((x:bh),(e:Mx),(g:Mw),(l:List ByteArray),(n:Int),(i:Int),_)=>.nd (0≤i∧i≤l.length∧n=l.length) (.lf (EJ (c1S x (l.reverse.drop i.toNat)) e g)):=by
 refine eG _ (nL _ _) 99 1 2 c1L Sy [] (fun((x:bh),(e:Mx),(g:Mw),(l:List ByteArray),(n:Int),(i:Int),_)=>c1T x e g l n i)
  (fun(_,_,_,(l:List ByteArray),_,(i:Int),_)=>l.length-i.toNat) ?_
 rintro⟨(x:bh),(e:Mx),(g:Mw),(l:List ByteArray),(n:Int),(i:Int),_⟩ r sJ ⟨⟨h0,h1,rfl⟩,hr⟩;have hr:EJ (c1S x (l.reverse.drop i.toNat)) e g=r:=hr;rw[GY] at hr;obtain rfl:=hr;have hl:l.length≤9223372036854775807:=sJ.2.2.2.1;obtain⟨k,rfl⟩:∃k:Nat,i=k:=⟨i.toNat,by omega⟩;rw[aaR];show∃q,(c1T x e g l l.length k).hit q∧_;unfold c1T;by_cases hk:k<l.length
 ·rw[getD_drop (⟨#[]⟩:ByteArray) (by rw[aa9];exact hk)];have hd:l.length-(k+1)<l.length-k:=by omega
  have di:cN ((k:Int)+1):=⟨by omega,by omega⟩;have key:∀no,(if bH x.seen (l.reverse.getD k ⟨#[]⟩)=true then(0:Int) else 6)=no→EJ (c1S (x.note no 0) (l.reverse.drop (k+1))) e g=EJ (x.setE x.e (IN x.seen (l.reverse.getD k ⟨#[]⟩::l.reverse.drop (k+1)) x.er)) e g:=by
   rintro no rfl;rw[GY,o7];rfl
  by_cases h:bH x.seen (l.reverse.getD k ⟨#[]⟩)=true
  ·refine⟨_,aX (decide_eq_true (by omega)) ⟨⟨by omega,by omega⟩,bg (by rw[aaR];unfold bH at h;simpa using h) ⟨di,rfl⟩⟩,hd,⟨by omega,by omega,rfl⟩,?_⟩;have:=key 0 (if_pos h);rw[vj] at this;exact this
  ·exact⟨_,aX (decide_eq_true (by omega)) ⟨⟨by omega,by omega⟩,aX (by rw[aaR];unfold bH at h;simpa using h) ⟨by decide,di,rfl⟩⟩,hd,⟨by omega,by omega,rfl⟩,key 6 (if_neg h)⟩
 ·rw[abg (by rw[aa9];omega)];exact⟨_,bg (decide_eq_false (by omega)) rfl,rfl⟩
def cp0 (t:ByteArray):bh:=(t,(0:Int),(0:Int),(0:Int),[],[],[],(0:Int),(0:Int),false,[],[],(0:Int),⟨#[]⟩,[],[],[],(0:Int),(0:Int),())
def Oo:AV:=.val (.slice none 0 0)
def Jz (f:Int×Int):XV:=.tup [(true,[.sym (.string ⟨#[]⟩),.sym (.int .i64 0),.sym (.int .i64 0),.sym (.int .i64 0),Oo,Oo,Oo,.sym (.int .i64 0),.sym (.int .i64 0),.sym (.bool false),Oo,Oo,.sym (.int .i64 0),.sym (.string ⟨#[]⟩)]),(true,[.sym (.int .i64 f.1),.sym (.int .i64 f.2)])]
def iC.rc (x:iC):List ai:=x.2.2.2.2.2.1
def cpO (x:iC):XV:=.tup [(true,[.sym (.string x.1),.sym (.int .i64 x.2.1),.sym (.int .i64 x.2.2.1),.sym (.int .i64 x.2.2.2.1),.list .str x.2.2.2.2.1 false,.list (.st 3) x.rc.reverse !x.rc.isEmpty,.list (.st 4) x.z.2.1.reverse.reverse !x.z.2.1.reverse.isEmpty,.sym (.int .i64 x.2.2.2.2.2.2.2.1),.sym (.int .i64 x.2.2.2.2.2.2.2.2.1),.sym (.bool x.2.2.2.2.2.2.2.2.2.1),.list .limb x.2.2.2.2.2.2.2.2.2.2.1 false,.list .limb x.2.2.2.2.2.2.2.2.2.2.2.1 false,.sym (.int .i64 x.2.2.2.2.2.2.2.2.2.2.2.2.1),.sym (.string x.2.2.2.2.2.2.2.2.2.2.2.2.2.1)]),(true,[.sym (.int .i64 0),.sym (.int .i64 0)])]
noncomputable def cpN (x:iC):T XV:=.br (!(x.f.1==0)) (.lf (Jz x.f)) (.nd (x.z.1=x.z.2.1.length) (.lf (cpO x)))
noncomputable def cpM (x:bh):T XV:=.br (x.err==0) (.nd (IU x) (cpN (lkS x))) (.br (!(x.err==0)) (.lf (Jz x.f)) .bad)
noncomputable def cpL (bs:List aw) (x:bh):T XV:=.nd ((0:Int)≤0∧(0:Int)≤bs.length∧bs.length≤1099511627776∧(∀b∈bs,bOk b)∧kV x.r (bs.length-Int.toNat 0)) (.nd ((0:Int)≤0∧(0:Int)≤jb.reverse.length∧(jb.reverse.length:Int)=jb.reverse.length)
 (cpM (c1S (c0S (bs.drop (Int.toNat 0)) x) (jb.reverse.reverse.drop (Int.toNat 0)))))
noncomputable def cpB (s:cO):T XV:=.br (decide ((s.title.size:Int)>60)) (.nd ((0:Int)≠8) (cpL s.blocks ((cp0 s.title).note 8 0))) (.nd (s.title.size≤9223372036854775807) (.br (!fP s.title.data.toList) (.nd ((0:Int)≠8) (cpL s.blocks ((cp0 s.title).note 8 0))) (cpL s.blocks (cp0 s.title))))
def shT (t:fc):Prop:=t.e.prec.length≤1099511627776∧∀p∈t.names,p.1.length≤1099511627776∧p.2.length≤1099511627776
def shL (y:dd):Prop:=y.e.prec.length≤1099511627776∧y.n0.length≤1099511627776∧y.n1.length≤1099511627776
theorem Lt (k:ByteArray) (e:aa) (f:ao) (h:e.prec.length≤1099511627776) (hf:f.vals.length≤1099511627776):(dp k e f).1.prec.length≤1099511627776:=by
 unfold dp;repeat (split;· first|exact h|exact hf)
 exact h
theorem Ni (k:ByteArray) (y:dd) (f:ao) (h:shL y) (hf:f.vals.length≤1099511627776):shL (aW k y f):=by
 unfold aW;simp only;generalize (y.f.note (if bH (aM k) f.key=true then 0 else 2) f.line).note (if bH y.known f.key=true then 3 else 0) f.line=f2;obtain⟨h1,h2,h3⟩:=h;split
 ·exact⟨h1,h2,h3⟩
 split
 ·exact⟨h1,h2,h3⟩
 split
 ·exact⟨h1,hf,h3⟩
 split
 ·exact⟨h1,h2,hf⟩
 ·exact⟨Lt k y.e f h1 hf,h2,h3⟩
theorem yR (k:ByteArray):∀(l:List ao) (y:dd),shL y→(∀f∈l,f.vals.length≤1099511627776)→shL (dQ k l y)
 | [],_,h,_=>h
 | f::l,y,h,hf=>by
  unfold dQ;split
  ·exact h
  ·exact yR k l _ (Ni k y f h (hf f abh)) fun g hg=>hf g (abr _ hg)
theorem L3 (t:fc) (b:aw) (h:shT t) (hb:bOk b):shT (gm t b):=by
 obtain⟨g1,g2,g3⟩:=yR b.kind b.fields (dd.start t b) ⟨h.1,abK _,abK _⟩ fun f hf=>(hb.2.2 f hf).1.2;unfold gm;generalize dQ b.kind b.fields (dd.start t b)=y at*;unfold tQ;simp only;split
 ·exact⟨g1,h.2⟩
 split
 ·exact⟨g1,h.2⟩
 split
 ·refine⟨g1,fun p hp=>?_⟩;rcases abR.1 hp with hp|hp
  ·exact h.2 p hp
  ·obtain rfl:p=(y.n0,y.n1):=by simpa using hp
   exact⟨g2,g3⟩
 split
 ·exact⟨g1,h.2⟩
 ·exact⟨g1,h.2⟩
theorem lO:∀(l:List aw) (t:fc),(∀b∈l,bOk b)→shT t→gY t→py t→kV t l.length→shT (df l t)∧gY (df l t)∧py (df l t)∧kV (df l t) 0
 | [],t,_,h1,h2,h3,h4=>⟨h1,h2,h3,h4⟩
 | b::l,t,hb,h1,h2,h3,h4=>by
  unfold df;split
  ·obtain⟨q1,q2,q3,q4,q5⟩:=h4;exact⟨h1,h2,h3,by unfold kV;omega⟩
  ·obtain⟨_,g2,g3⟩:=ki t b;exact lO l _ (fun c hc=>hb c (abr _ hc)) (L3 t b h1 (hb b abh)) (g2 h2) (g3 h3) h4.next
theorem zm (prec:List ByteArray) (line:Int):∀(l:List ByteArray) (u:List Bool) (a:List Int),eS prec line l u a=if(cm prec line l u a).2.no=0 then .ok (cm prec line l u a).1 else .error (cm prec line l u a).2
 | [],u,a=>by rw[eS,cm,if_pos rfl]
 | s::l,u,a=>by
  unfold eS cm;split
  ·rw[if_neg (by show¬(2:Int)=0;decide)]
  ·split
   ·rw[if_neg (by show¬(3:Int)=0;decide)]
   ·exact zm prec line l _ _
theorem zn (cn:List ByteArray) (line:Int):∀(l:List ByteArray) (a:List Int),qx cn line l a=if(eA cn line l a).2.no=0 then .ok (eA cn line l a).1 else .error (eA cn line l a).2
 | [],a=>by rw[qx,eA,if_pos rfl]
 | s::l,a=>by
  unfold qx eA;split
  ·rw[if_neg (by show¬(2:Int)=0;decide)]
  ·exact zn cn line l _
def ub (g:(List ax×List ByteArray×List Bool)×eM):Except eM (List ax):=if g.2.no=0 then(if g.1.2.2.contains false then .error ⟨6,0⟩ else .ok g.1.1) else .error g.2
theorem Br (prec cn:List ByteArray):∀(vs:List (List ByteArray×List ByteArray)) (ls:List (Int×Int)) (ss done:List ax) (u:List Bool),vs.length=ss.length→ls.length=ss.length→jE prec cn vs ls ss u done=ub (qw prec cn vs ls done (ic ss) u)
 | [],ls,ss,done,u,_,_=>by
  have e:jE prec cn [] ls ss u done=if u.contains false then .error ⟨6,0⟩ else .ok done:=by unfold jE;rfl
  rw[e];rfl
 | v::vs,[],ss,_,_,h1,h2=>by simp at h1 h2;omega
 | v::vs,ln::ls,[],_,_,h1,_=>by simp at h1
 | v::vs,ln::ls,s::ss,done,u,h1,h2=>by
  have ih:=fun d u=>Br prec cn vs ls ss d u (by simpa using h1) (by simpa using h2);unfold jE;rw[zm];unfold qw;show _=ub (if(cm prec ln.1 v.1 u []).2.no=0 then if(eA cn ln.2 v.2 []).2.no=0 then qw prec cn vs ls (done++[⟨s.name,(cm prec ln.1 v.1 u []).1.2,(eA cn ln.2 v.2 []).1⟩]) (ic ss) (cm prec ln.1 v.1 u []).1.1 else((done++[⟨s.name,(cm prec ln.1 v.1 u []).1.2,(eA cn ln.2 v.2 []).1⟩],ic ss,(cm prec ln.1 v.1 u []).1.1),(eA cn ln.2 v.2 []).2) else((done++[⟨s.name,(cm prec ln.1 v.1 u []).1.2,[]⟩],ic ss,(cm prec ln.1 v.1 u []).1.1),(cm prec ln.1 v.1 u []).2));by_cases e1:(cm prec ln.1 v.1 u []).2.no=0
  ·rw[if_pos e1,if_pos e1];simp only;rw[zn];by_cases e2:(eA cn ln.2 v.2 []).2.no=0
   ·rw[if_pos e2,if_pos e2];exact ih _ _
   ·rw[if_neg e2,if_neg e2];unfold ub;rw[if_neg (by exact e2)]
  ·rw[if_neg e1,if_neg e1];unfold ub;rw[if_neg (by exact e1)]
theorem DD (prec cn:List ByteArray):∀(vs:List (List ByteArray×List ByteArray)) (ls:List (Int×Int)) (done:List ax) (rest:List ByteArray) (u:List Bool),(qw prec cn vs ls done rest u).2.no=0→(qw prec cn vs ls done rest u).1.1.length=done.length+vs.length
 | [],_,_,_,_,_=>rfl
 | v::vs,ls,done,rest,u,h=>by
  unfold qw at h ⊢;by_cases e1:(cm prec (ls.getD 0 (0,0)).1 v.1 u []).2.no=0
  ·rw[if_pos e1] at h ⊢;by_cases e2:(eA cn (ls.getD 0 (0,0)).2 v.2 []).2.no=0
   ·rw[if_pos e2] at h ⊢;rw[DD prec cn vs _ _ _ _ h,abm,abN,abp];omega
   ·rw[if_neg e2] at h;exact absurd h e2
  ·rw[if_neg e1] at h;exact absurd h e1
def GR (e:aa):XV:=.tup [(true,lJ (.st 5) e),(true,[.sym (.int .i64 0),.sym (.int .i64 0)])]
def QP (r:aa×eM):T XV:=.br (decide (r.2.no=0)) (.lf (GR r.1)) (.lf (Jz (r.2.no,r.2.line)))
def FN (s:cO):Prop:=s.title.size≤9223372036854775807∧s.blocks.length≤1099511627776∧∀b∈s.blocks,bOk b
theorem XE (T:fc) (d:List ax):Ht (cpO ((bh.ofR T).zb.withZ d []))=GR { T.e with styl:=d }:=by
 show XV.tup [(true,[AV.sym (.string T.e.title),_,_,_,.list .str T.e.prec false,.list (.st 3) T.e.cont.reverse.reverse false,.list (.st 4) d.reverse.reverse false,_,_,_,_,_,_,_]),_]=_;rw[aa7,aa7];rfl
theorem LO (x:iC) (d:List ax) (r r':List ByteArray) (p:Int×Int):cpO ((x.withZ d r).setF p)=cpO (x.withZ d r'):=rfl
theorem Vt {T:fc} (hf:T.f.no=0) (hl:py T):∃q,(cpN (lkS (.ofR T))).hit q∧Ht q=(match lj T with|.ok l=>GR { T.e with styl:=l }|.error e=>Jz (e.no,e.line)):=by
 have hgo:(bh.ofR T).go=qw T.e.prec (T.e.cont.map fun c:ai=>c.name) T.names T.lines [] (ic T.e.styl) (List.replicate T.e.prec.length false):=by
  show qw T.e.prec (((T.e.cont.reverse.reverse.drop 0).map fun c:ai=>c.name).reverse++[]).reverse (T.names.reverse.reverse.drop 0) (T.lines.reverse.reverse.drop 0) [] (ic T.e.styl).reverse.reverse (List.replicate T.e.prec.length false).reverse=_;simp only[aa7,ab2,abZ,adC]
 have hR:lj T=ub (bh.ofR T).go:=by
  rw[hgo];exact Br _ _ _ _ _ _ _ hl.1 hl.2
 have bO:(bh.ofR T).go.2.no=0→(bh.ofR T).go.1.1.length=T.names.length:=fun h=>by
  rw[hgo] at h ⊢;rw[DD _ _ _ _ _ _ _ h];simp
 have ajJ:(bh.ofR T).zb.z.1=T.names.length:=by
  show(ic T.e.styl).reverse.length=_;rw[aa9];unfold ic;rw[abU];exact hl.1.symm
 have BI:∀(d:List ax) (r:List ByteArray),((bh.ofR T).zb.withZ d r).f.1=0:=fun d r=>hf;rw[hR,YS];unfold zo ub;generalize (bh.ofR T).go=g at*;obtain⟨⟨d,r,u⟩,e⟩:=g;simp only at bO ⊢;unfold cpN;by_cases he:e.no=0
 ·rw[if_pos he,if_pos he];by_cases hu:u.contains false=true
  ·rw[if_pos hu,if_pos hu];refine⟨_,aX ?_ rfl,?_⟩
   ·show(!((nt _ 6 0).1==0))=true;rw[KS 0 (BI d r) (by decide)];rfl
   ·show Ht (Jz (nt _ 6 0))=_;rw[KS 0 (BI d r) (by decide)];rfl
  ·rw[if_neg hu,if_neg hu];refine⟨_,bg ?_ ⟨?_,rfl⟩,?_⟩
   ·show(!((nt _ 0 0).1==0))=false;rw[Of,BI d r];rfl
   ·show(bh.ofR T).zb.z.1=d.length;rw[ajJ,bO he]
   ·exact(congrArg Ht (LO (bh.ofR T).zb d r [] _)).trans (XE T d)
 ·rw[if_neg he,if_neg he];refine⟨_,aX ?_ rfl,?_⟩
  ·show(!((nt _ e.no e.line).1==0))=true;rw[KS _ (BI d r) he];simpa using he
  ·show Ht (Jz (nt _ e.no e.line))=_;rw[KS _ (BI d r) he];rfl
theorem Vu {T:fc} (hp:gY T) (hl:py T) (hs:shT T) (hr:kV T 0):∃q,(cpM (.ofR T)).hit q∧Ht q=(if T.f.no≠0 then Jz (T.f.no,T.f.line) else match lj T with|.ok l=>GR { T.e with styl:=l }|.error e=>Jz (e.no,e.line)):=by
 have hR:(bh.ofR T).r=T:=za hp;unfold cpM;by_cases hf:T.f.no=0
 ·rw[if_neg (by simpa using hf)];obtain⟨q,h1,h2⟩:=Vt hf hl;refine⟨q,aX (beq_iff_eq.2 hf) ⟨?_,h1⟩,h2⟩;obtain⟨q1,q2,q3,q4,q5⟩:=hr;have e1:(bh.ofR T).cont=T.e.cont:=congrArg (fun t:fc=>t.e.cont) hR;have e2:(bh.ofR T).lines=T.lines:=congrArg (fun t:fc=>t.lines) hR;have e3:(bh.ofR T).names=T.names:=congrArg (fun t:fc=>t.names) hR;have e4:(bh.ofR T).snm.length=T.e.styl.length:=by
   show(ic T.e.styl).reverse.reverse.length=_;rw[aa7];unfold ic;rw[abU]
  unfold IU;rw[e1,e2,e3,e4];exact⟨by omega,hs.1,by rw[hl.1,hl.2],hl.1.symm,by omega,hs.2⟩
 ·rw[if_pos hf];exact⟨_,bg (beq_eq_false_iff_ne.2 hf) (aX (by show(!(T.f.no==0))=true;simpa using hf) rfl),rfl⟩
theorem ED (s:cO):gK s=if(cK s).f.no≠0 then(aa.zero,(cK s).f) else match lj (cK s) with|.error e=>(aa.zero,e)|.ok l=>({ (cK s).e with styl:=l },⟨0,0⟩):=rfl
theorem K5 {T:fc} {e:eM} (hl:py T) (h:lj T=.error e):e.no≠0:=by
 have hR:lj T=ub (qw T.e.prec (T.e.cont.map fun c:ai=>c.name) T.names T.lines [] (ic T.e.styl) (List.replicate T.e.prec.length false)):=Br _ _ _ _ _ _ _ hl.1 hl.2;rw[hR] at h;unfold ub at h;split at h
 ·split at h
  ·injection h with h;rw[←h];decide
  ·cases h
 ·rename_i hn;injection h with h;rw[←h];exact hn
theorem EE:av Tryz.prog 31 true (aU [(0,.st 2)] fun((s:cO),_)=>.nd (FN s) (QP (gK s))):=by
 refine av.imp (l0:=[(0,.st 2)]) (F:=fun((s:cO),_)=>cpB s) (vg (R:=aaJ) (((nL _ _).add 0 _ EC).add 1 _ EB) true 99 [(0,.st 2)] (fun((s:cO),_)=>cpB s) (fun x r _ h=>⟨h,.inl rfl⟩) Tryz.func31) ?_;rintro⟨(s:cO),_⟩ r ⟨⟨h1,h2,h3⟩,hr⟩;have hr:(QP (gK s)).hit r:=hr;have fa:∀no,no=(if 60<s.title.size∨fP s.title.data.toList=false then(8:Int) else 0)→∃q,(cpL s.blocks ((cp0 s.title).note no 0)).hit q∧Ht q=(if(cK s).f.no≠0 then Jz ((cK s).f.no,(cK s).f.line) else match lj (cK s) with|.ok l=>GR { (cK s).e with styl:=l }|.error e=>Jz (e.no,e.line)):=by
  rintro no rfl;have h0:(cp0 s.title).note (if 60<s.title.size∨fP s.title.data.toList=false then(8:Int) else 0) 0=.ofR (fc.start s.title):=by
   rw[oY,oc _ _ _ rfl rfl];rfl
  have Jc:gY (fc.start s.title):=rfl;have zQ:kV (fc.start s.title) s.blocks.length:=⟨by show 0+_≤_;omega,by show 0+_≤_;omega,by show 0+_≤_;omega,by show 0+_≤_;omega,by show 0+_≤_;omega⟩;obtain⟨f1,f2,f3,f4⟩:=lO s.blocks (fc.start s.title) h3 ⟨abK _,fun p hp=>by cases hp⟩ Jc ⟨rfl,rfl⟩ zQ;rw[h0];have P0:c0S (s.blocks.drop (Int.toNat 0)) (.ofR (fc.start s.title))=.ofR (df s.blocks (fc.start s.title)):=by
   rw[GZ,za Jc];rfl
  have hb:cK s={ df s.blocks (fc.start s.title) with f:=IN (df s.blocks (fc.start s.title)).seen jb (df s.blocks (fc.start s.title)).f }:=rfl;have hc1:c1S (.ofR (df s.blocks (fc.start s.title))) (jb.reverse.reverse.drop (Int.toNat 0))=.ofR (cK s):=by
   have hR:=za f2;rw[GY,oc _ _ _ rfl rfl,aa7,hb];generalize df s.blocks (fc.start s.title)=T at*;have e1:(bh.ofR T).e=T.e:=congrArg fc.e hR;have e2:(bh.ofR T).seen=T.seen:=congrArg fc.seen hR;have e3:(bh.ofR T).lines=T.lines:=congrArg fc.lines hR;have e4:(bh.ofR T).names=T.names:=congrArg fc.names hR;have e5:(bh.ofR T).er=T.f:=rfl;rw[e1,e2,e3,e4,e5];rfl
  have BL:gY (cK s)∧py (cK s)∧shT (cK s)∧kV (cK s) 0:=by rw[hb];exact⟨f2,f3,f1,f4⟩
  obtain⟨q,q1,q2⟩:=Vu BL.1 BL.2.1 BL.2.2.1 BL.2.2.2;refine⟨q,⟨⟨by omega,by omega,h2,h3,?_⟩,⟨by decide,by decide,rfl⟩,?_⟩,q2⟩
  ·rw[za Jc];exact zQ
  ·rw[P0,hc1];exact q1
 have bO:py (cK s):=by
  have zQ:kV (fc.start s.title) s.blocks.length:=⟨by show 0+_≤_;omega,by show 0+_≤_;omega,by show 0+_≤_;omega,by show 0+_≤_;omega,by show 0+_≤_;omega⟩;exact(lO s.blocks (fc.start s.title) h3 ⟨abK _,fun p hp=>by cases hp⟩ rfl ⟨rfl,rfl⟩ zQ).2.2.1
 have akO:(if(cK s).f.no≠0 then Jz ((cK s).f.no,(cK s).f.line) else match lj (cK s) with|.ok l=>GR { (cK s).e with styl:=l }|.error e=>Jz (e.no,e.line))=r:=by
  rw[ED] at hr;unfold QP at hr;by_cases h0:(cK s).f.no≠0
  ·rw[if_pos h0] at hr ⊢;exact hr.2 (decide_eq_false h0)
  ·rw[if_neg h0] at hr ⊢;cases hL:lj (cK s) with
   | ok l=>rw[hL] at hr;exact hr.1 (decide_eq_true rfl)
   | error e=>rw[hL] at hr;exact hr.2 (decide_eq_false (K5 bO hL))
 have fin:∀{q},(cpB s).hit q→Ht q=(if(cK s).f.no≠0 then Jz ((cK s).f.no,(cK s).f.line) else match lj (cK s) with|.ok l=>GR { (cK s).e with styl:=l }|.error e=>Jz (e.no,e.line))→∃q,(cpB s).hit q∧∀(w:World) (S:Nat→Prop) (v:Value),XR [] w S q v→XR [] w S r v:=fun {q} h1 h2=>⟨q,h1,fun w S v hv=>by rw[←akO,←h2];exact sP hv⟩;by_cases jN:60<s.title.size
 ·obtain⟨q,q1,q2⟩:=fa 8 (by rw[if_pos (.inl jN)]);exact fin (aX (decide_eq_true (by omega)) ⟨by decide,q1⟩) q2
 ·by_cases yE:fP s.title.data.toList=false
  ·obtain⟨q,q1,q2⟩:=fa 8 (by rw[if_pos (.inr yE)]);exact fin (bg (decide_eq_false (by omega)) ⟨h1,aX (by rw[yE];rfl) ⟨by decide,q1⟩⟩) q2
  ·obtain⟨q,q1,q2⟩:=fa 0 (by rw[if_neg fun h=>h.elim jN yE]);rw[vj] at q1;exact fin (bg (decide_eq_false (by omega)) ⟨h1,bg (by simpa using yE) q1⟩) q2
end Go.Proofs.YtjlhbfbdcfajfaaGreatDoor
