/- Tm13 Tm14 Tm15 -/
import Derived.Test.YtdbpbfglhbiadaaGreatDoorL00
import Derived.Test.YtdbpbfglhbiadaaGreatDoorL36
set_option maxHeartbeats 8000000
set_option maxRecDepth 100000
namespace Go.Proofs.YtdbpbfglhbiadaaGreatDoor
open Go Go.RowKit
noncomputable def Wq (t:TypeId):Option Ty:=List.lookup t [(9,.str),(3,tI),(4,.bool)]
noncomputable def C8:ik Tryz.prog:=dE Wq [⟨_,_,_,find_ok⟩] [⟨_,_,_,_,_,kK⟩]
noncomputable abbrev lfn:=Tryz.f65
abbrev stZ:List CS:=[.d .str,.d tI,.d tI,.d tI,.d (.list .str),.own (.st 3) 87,.zc (.st 4) (.st 10) 42,.d tI,.d tI,.d .bool,.d (.list .limb),.d (.list .limb),.d tI,.d .str,.own .str 9,.own (.st 7) 189,.own (.st 6) 188,.d tI,.d tI]
abbrev stO:List CS:=[.d .str,.d tI,.d tI,.d tI,.d (.list .str),.own (.st 3) 87,.zip (.st 4) (.st 10) 42 [.d .str,.own tI 3,.own tI 3],.d tI,.d tI,.d .bool,.d (.list .limb),.d (.list .limb),.d tI,.d .str,.own .str 9,.own (.st 7) 189,.own (.st 6) 188,.d tI,.d tI]
abbrev sZ:SS:=.box 118 stZ
abbrev sO:SS:=.box 118 stO
abbrev iA:=eT stZ
abbrev kb:=eT stO
abbrev sOB:SS:=.c (.own .bool 4)
noncomputable abbrev Lb:Rg Tryz.prog lfn.ntmps:=BP (LU C8 lfn [0]) [(8,oG 0 6)] [(6,Qs 0 6 (.st 4) (.st 10)),(9,Xh 0 6),(14,oG 0 6),(16,oG 0 6),(25,oG 0 6)]
abbrev ZcC:=Nat×List aj×List ByteArray
abbrev ZoC:=Nat×List aj×(ByteArray×List Int×List Int×Unit)×List ByteArray
def kb.z (x:kb):ZoC:=x.2.2.2.2.2.2.1
def kb.setZ (x:kb) (z:ZoC):kb:=(x.1,x.2.1,x.2.2.1,x.2.2.2.1,x.2.2.2.2.1,x.2.2.2.2.2.1,z,x.2.2.2.2.2.2.2.1,x.2.2.2.2.2.2.2.2.1,x.2.2.2.2.2.2.2.2.2.1,x.2.2.2.2.2.2.2.2.2.2.1,x.2.2.2.2.2.2.2.2.2.2.2.1,x.2.2.2.2.2.2.2.2.2.2.2.2.1,x.2.2.2.2.2.2.2.2.2.2.2.2.2.1,x.2.2.2.2.2.2.2.2.2.2.2.2.2.2.1,x.2.2.2.2.2.2.2.2.2.2.2.2.2.2.2.1,x.2.2.2.2.2.2.2.2.2.2.2.2.2.2.2.2.1,x.2.2.2.2.2.2.2.2.2.2.2.2.2.2.2.2.2.1,x.2.2.2.2.2.2.2.2.2.2.2.2.2.2.2.2.2.2.1,())
def kb.prec (x:kb):List ByteArray:=x.2.2.2.2.1
def kb.rl (x:kb):List (Int×Int):=x.2.2.2.2.2.2.2.2.2.2.2.2.2.2.2.1
def kb.ln (x:kb) (i:Int):Int×Int:=x.rl.reverse.getD i.toNat (0,0)
def kb.done (x:kb):List aj:=x.z.2.1
def kb.ps (x:kb):List Int:=x.z.2.2.1.2.1
def kb.cs (x:kb):List Int:=x.z.2.2.1.2.2.1
def kb.nm (x:kb):ByteArray:=x.z.2.2.1.1
def kb.withP (x:kb) (ps cs:List Int):kb:=x.setZ (x.z.1,x.z.2.1,(x.z.2.2.1.1,ps,cs,()),x.z.2.2.2)
def iA.z (x:iA):ZcC:=x.2.2.2.2.2.2.1
def iA.setZ (x:iA) (z:ZcC):iA:=(x.1,x.2.1,x.2.2.1,x.2.2.2.1,x.2.2.2.2.1,x.2.2.2.2.2.1,z,x.2.2.2.2.2.2.2.1,x.2.2.2.2.2.2.2.2.1,x.2.2.2.2.2.2.2.2.2.1,x.2.2.2.2.2.2.2.2.2.2.1,x.2.2.2.2.2.2.2.2.2.2.2.1,x.2.2.2.2.2.2.2.2.2.2.2.2.1,x.2.2.2.2.2.2.2.2.2.2.2.2.2.1,x.2.2.2.2.2.2.2.2.2.2.2.2.2.2.1,x.2.2.2.2.2.2.2.2.2.2.2.2.2.2.2.1,x.2.2.2.2.2.2.2.2.2.2.2.2.2.2.2.2.1,x.2.2.2.2.2.2.2.2.2.2.2.2.2.2.2.2.2.1,x.2.2.2.2.2.2.2.2.2.2.2.2.2.2.2.2.2.2.1,())
def iA.setF (x:iA) (p:Int×Int):iA:=(x.1,x.2.1,x.2.2.1,x.2.2.2.1,x.2.2.2.2.1,x.2.2.2.2.2.1,x.2.2.2.2.2.2.1,x.2.2.2.2.2.2.2.1,x.2.2.2.2.2.2.2.2.1,x.2.2.2.2.2.2.2.2.2.1,x.2.2.2.2.2.2.2.2.2.2.1,x.2.2.2.2.2.2.2.2.2.2.2.1,x.2.2.2.2.2.2.2.2.2.2.2.2.1,x.2.2.2.2.2.2.2.2.2.2.2.2.2.1,x.2.2.2.2.2.2.2.2.2.2.2.2.2.2.1,x.2.2.2.2.2.2.2.2.2.2.2.2.2.2.2.1,x.2.2.2.2.2.2.2.2.2.2.2.2.2.2.2.2.1,p.1,p.2,())
def iA.f (x:iA):Int×Int:=(x.2.2.2.2.2.2.2.2.2.2.2.2.2.2.2.2.2.1,x.2.2.2.2.2.2.2.2.2.2.2.2.2.2.2.2.2.2.1)
def iA.note (x:iA) (no line:Int):iA:=x.setF (nt x.f no line)
def kb.cl (x:kb):iA:=(x.1,x.2.1,x.2.2.1,x.2.2.2.1,x.2.2.2.2.1,x.2.2.2.2.2.1,(x.z.1,x.z.2.1++[⟨x.nm,x.ps.reverse,x.cs.reverse⟩],x.z.2.2.2),x.2.2.2.2.2.2.2.1,x.2.2.2.2.2.2.2.2.1,x.2.2.2.2.2.2.2.2.2.1,x.2.2.2.2.2.2.2.2.2.2.1,x.2.2.2.2.2.2.2.2.2.2.2.1,x.2.2.2.2.2.2.2.2.2.2.2.2.1,x.2.2.2.2.2.2.2.2.2.2.2.2.2.1,x.2.2.2.2.2.2.2.2.2.2.2.2.2.2.1,x.2.2.2.2.2.2.2.2.2.2.2.2.2.2.2.1,x.2.2.2.2.2.2.2.2.2.2.2.2.2.2.2.2.1,x.2.2.2.2.2.2.2.2.2.2.2.2.2.2.2.2.2.1,x.2.2.2.2.2.2.2.2.2.2.2.2.2.2.2.2.2.2.1,())
def iA.op (x:iA):kb:=(x.1,x.2.1,x.2.2.1,x.2.2.2.1,x.2.2.2.2.1,x.2.2.2.2.2.1,(x.z.1,x.z.2.1,(x.z.2.2.getD 0 ⟨#[]⟩,[],[],()),x.z.2.2.drop 1),x.2.2.2.2.2.2.2.1,x.2.2.2.2.2.2.2.2.1,x.2.2.2.2.2.2.2.2.2.1,x.2.2.2.2.2.2.2.2.2.2.1,x.2.2.2.2.2.2.2.2.2.2.2.1,x.2.2.2.2.2.2.2.2.2.2.2.2.1,x.2.2.2.2.2.2.2.2.2.2.2.2.2.1,x.2.2.2.2.2.2.2.2.2.2.2.2.2.2.1,x.2.2.2.2.2.2.2.2.2.2.2.2.2.2.2.1,x.2.2.2.2.2.2.2.2.2.2.2.2.2.2.2.2.1,x.2.2.2.2.2.2.2.2.2.2.2.2.2.2.2.2.2.1,x.2.2.2.2.2.2.2.2.2.2.2.2.2.2.2.2.2.2.1,())
def bf.zb (x:bf):iA:=(x.1,x.2.1,x.2.2.1,x.2.2.2.1,x.2.2.2.2.1,x.2.2.2.2.2.1,(x.rs.length,[],x.rs.reverse),x.2.2.2.2.2.2.2.1,x.2.2.2.2.2.2.2.2.1,x.2.2.2.2.2.2.2.2.2.1,x.2.2.2.2.2.2.2.2.2.2.1,x.2.2.2.2.2.2.2.2.2.2.2.1,x.2.2.2.2.2.2.2.2.2.2.2.2.1,x.2.2.2.2.2.2.2.2.2.2.2.2.2.1,x.2.2.2.2.2.2.2.2.2.2.2.2.2.2.1,x.2.2.2.2.2.2.2.2.2.2.2.2.2.2.2.1,x.2.2.2.2.2.2.2.2.2.2.2.2.2.2.2.2.1,x.2.2.2.2.2.2.2.2.2.2.2.2.2.2.2.2.2.1,x.2.2.2.2.2.2.2.2.2.2.2.2.2.2.2.2.2.2.1,())
section
variable (sl:List (Nat×SS)) {L:Type} (back:kb→List Bool→L) (out:kb→L) (ret:iA→L) (x:kb) (us:List Bool) (i:Int) (l:List ByteArray) (n j:Int)
def lkE (no line:Int):T L:=.nd (0≤i∧i<x.rl.length) (.nd ((0:Int)≠no) (.lf (ret (x.cl.note no line))))
def Zc:T L:=.br (decide (j<n)) (.nd (0≤j∧j<l.length) (.br (decide (Lib.idxOfS x.prec (l.getD j.toNat ⟨#[]⟩)<0)) (lkE ret x i 2 (x.ln i).1)
 (.nd (0≤Lib.idxOfS x.prec (l.getD j.toNat ⟨#[]⟩)∧Lib.idxOfS x.prec (l.getD j.toNat ⟨#[]⟩)<us.length) (.br (us.reverse.getD (Lib.idxOfS x.prec (l.getD j.toNat ⟨#[]⟩)).toNat false) (lkE ret x i 3 (x.ln i).1)
 (.nd (0≤Lib.idxOfS x.prec (l.getD j.toNat ⟨#[]⟩)∧Lib.idxOfS x.prec (l.getD j.toNat ⟨#[]⟩)<us.length) (.nd (i=x.done.length) (.nd ((x.ps.length+1)*9≤140737488355328) (.nd (i=x.done.length) (.nd (cf (j+1))
  (.lf (back (x.withP (Lib.idxOfS x.prec (l.getD j.toNat ⟨#[]⟩)::x.ps) x.cs) (us.reverse.set (Lib.idxOfS x.prec (l.getD j.toNat ⟨#[]⟩)).toNat true).reverse))))))))))) (.lf (out x))
def Zb (cn:List ByteArray):T L:=.br (decide (j<n)) (.nd (0≤j∧j<l.length) (.br (decide (Lib.idxOfS cn.reverse (l.getD j.toNat ⟨#[]⟩)<0)) (lkE ret x i 2 (x.ln i).2)
 (.nd (i=x.done.length) (.nd ((x.cs.length+1)*9≤140737488355328) (.nd (i=x.done.length) (.nd (cf (j+1)) (.lf (back (x.withP x.ps (Lib.idxOfS cn.reverse (l.getD j.toNat ⟨#[]⟩)::x.cs)) us)))))))) (.lf (out x))
end
abbrev l2L:List (Nat×SS):=[(0,sO),(2,R4),(4,sOB),(5,sI),(58,sL),(59,sI),(60,sI)]
abbrev l3L:List (Nat×SS):=[(0,sO),(2,R4),(4,sOB),(5,sI),(128,sL),(129,sI),(130,sI)]
abbrev Pg:List (Nat×SS):=[(0,sO),(2,R4),(4,sOB),(5,sI)]
def Zx (cn:List ByteArray) (i:Int) (l:List ByteArray) (n j:Int) (x:kb) (us:List Bool):LE l2L Pg [(0,sZ)]:=.back (x,cn,us,i,l,n,j+1,())
def I8 (cn:List ByteArray) (us:List Bool) (i:Int) (x:kb):LE l2L Pg [(0,sZ)]:=.out (x,cn,us,i,())
def D6 (x:iA):LE l2L Pg [(0,sZ)]:=.ret (.tup []) (x,())
def Zw (cn:List ByteArray) (i:Int) (l:List ByteArray) (n j:Int) (x:kb) (us:List Bool):LE l3L Pg [(0,sZ)]:=.back (x,cn,us,i,l,n,j+1,())
def Pf (cn:List ByteArray) (us:List Bool) (i:Int) (x:kb):LE l3L Pg [(0,sZ)]:=.out (x,cn,us,i,())
def Pe (x:iA):LE l3L Pg [(0,sZ)]:=.ret (.tup []) (x,())
def cw (prec:List ByteArray) (line:Int):List ByteArray→List Bool→List Int→(List Bool×List Int)×eE
 | [],u,a=>((u,a),⟨0,0⟩)
 | s::l,u,a=>if Lib.idxOfS prec s<0 then((u,a),⟨2,line⟩) else if u.getD (Lib.idxOfS prec s).toNat false=true then((u,a),⟨3,line⟩) else cw prec line l (u.set (Lib.idxOfS prec s).toNat true) (a++[Lib.idxOfS prec s])
def eC (cn:List ByteArray) (line:Int):List ByteArray→List Int→List Int×eE
 | [],a=>(a,⟨0,0⟩)
 | s::l,a=>if Lib.idxOfS cn s<0 then(a,⟨2,line⟩) else eC cn line l (a++[Lib.idxOfS cn s])
def lkF {L:Type} (out:kb→List Bool→L) (ret:iA→L) (x:kb) (u:List Bool) (ps cs:List Int) (e:eE):T L:=.br (decide (e.no=0)) (.lf (out (x.withP ps.reverse cs.reverse) u.reverse)) (.lf (ret ((x.withP ps.reverse cs.reverse).cl.note e.no e.line)))
def lkP (x:kb) (us:List Bool) (a:List Int) (i:Int) (l:List ByteArray) (n j:Int):Prop:=0≤j∧j≤l.length∧n=l.length∧i=x.done.length∧i<x.rl.length∧us.length=x.prec.length∧(a.length:Int)=j∧l.length≤1099511627776
theorem Lq (l:List ByteArray) (s:ByteArray):Lib.idxOfS l s<0∨(0≤Lib.idxOfS l s∧Lib.idxOfS l s<l.length):=by
 have:∀(l:List ByteArray) (i:Nat),Lib.idxFromS l s i<0∨(0≤Lib.idxFromS l s i∧Lib.idxFromS l s i<i+l.length):=by
  intro l;induction l with
  | nil=>intro i;exact .inl (by show(-1:Int)<0;omega)
  | cons x l ih=>
   intro i;unfold Lib.idxFromS;split
   ·exact .inr ⟨by omega,by rw[aaO];omega⟩
   ·rcases ih (i+1) with h|h
    ·exact .inl h
    ·exact .inr ⟨h.1,by rw[aaO];omega⟩
 have:=this l 0;unfold Lib.idxOfS;omega
theorem O1:eS Lb 2 4 l2L Pg [(0,sZ)] fun((x:kb),(cn:List ByteArray),(us:List Bool),(i:Int),(l:List ByteArray),(n:Int),(j:Int),_)=>
 .nd (lkP x us x.ps i l n j) (lkF (fun x u=>I8 cn u i x) D6 x (cw x.prec (x.ln i).1 (l.drop j.toNat) us.reverse x.ps.reverse).1.1 (cw x.prec (x.ln i).1 (l.drop j.toNat) us.reverse x.ps.reverse).1.2 x.cs.reverse (cw x.prec (x.ln i).1 (l.drop j.toNat) us.reverse x.ps.reverse).2):=by
  refine eY _ (nL _ _) 99 2 4 l2L Pg [(0,sZ)] (fun((x:kb),(cn:List ByteArray),(us:List Bool),(i:Int),(l:List ByteArray),(n:Int),(j:Int),_)=>Zc (Zx cn i l n j) (I8 cn us i) D6 x us i l n j)
   (fun(_,_,_,_,(l:List ByteArray),_,(j:Int),_)=>l.length-j.toNat) ?_
  rintro⟨(x:kb),(cn:List ByteArray),(us:List Bool),(i:Int),(l:List ByteArray),(n:Int),(j:Int),_⟩ r _ ⟨⟨h0,h1,rfl,rfl,h4,h5,h6,h7⟩,hr⟩;have hr:(lkF (fun x u=>I8 cn u _ x) D6 x _ _ _ _).hit r:=hr;obtain⟨k,rfl⟩:∃k:Nat,j=k:=⟨j.toNat,by omega⟩;rw[aak] at hr;show∃q,(Zc _ _ _ x us _ l l.length k).hit q∧_;have PD:x.withP x.ps.reverse.reverse x.cs.reverse.reverse=x:=by rw[aap,aap];rfl
  unfold Zc;by_cases hk:k<l.length
  ·rw[getD_drop (⟨#[]⟩:ByteArray) hk,cw] at hr;rw[aak];have hE:∀no line:Int,no≠0→(lkF (fun x u=>I8 cn u x.done.length x) D6 x us.reverse x.ps.reverse x.cs.reverse ⟨no,line⟩).hit r→(lkE (L:=LE l2L Pg [(0,sZ)]) D6 x x.done.length no line).hit r∧(match r with|.back x'=>False|q=>q=r):=fun no line hn h=>by
    have h:=h.2 (decide_eq_false hn);rw[PD] at h;obtain rfl:=h;exact⟨⟨⟨by omega,h4⟩,acp hn,rfl⟩,rfl⟩
   split at hr
   ·rename_i hlt;obtain⟨q1,q2⟩:=hE 2 _ (by decide) hr;refine⟨r,aZ (decide_eq_true (by omega)) ⟨⟨by omega,by omega⟩,aZ (decide_eq_true hlt) q1⟩,?_⟩
    revert q2;cases r<;>intro q2<;>first|exact q2|exact q2.elim
   ·rename_i hge;have hx:=(Lq x.prec (l.getD k ⟨#[]⟩)).resolve_left hge;split at hr
    ·rename_i hu;obtain⟨q1,q2⟩:=hE 3 _ (by decide) hr;refine⟨r,aZ (decide_eq_true (by omega)) ⟨⟨by omega,by omega⟩,bh (decide_eq_false hge) ⟨⟨hx.1,by omega⟩,aZ hu q1⟩⟩,?_⟩
     revert q2;cases r<;>intro q2<;>first|exact q2|exact q2.elim
    ·rename_i hu;refine⟨_,aZ (decide_eq_true (by omega)) ⟨⟨by omega,by omega⟩,bh (decide_eq_false hge) ⟨⟨hx.1,by omega⟩,bh (by simpa using hu) ⟨⟨hx.1,by omega⟩,rfl,by omega,rfl,⟨by omega,by omega⟩,rfl⟩⟩⟩,?_,?_⟩
     ·show l.length-(k+1)<l.length-k;omega
     ·refine⟨⟨by omega,by omega,rfl,rfl,h4,?_,?_,h7⟩,?_⟩
      ·rw[aaH,abY,aaH];exact h5
      ·show((x.ps.length+1:Nat):Int)=(k:Int)+1;omega
      ·show(lkF _ _ _ _ _ _ _).hit r;rw[aap];have e:(Lib.idxOfS x.prec (l.getD k ⟨#[]⟩)::x.ps).reverse=x.ps.reverse++[Lib.idxOfS x.prec (l.getD k ⟨#[]⟩)]:=by simp
       rw[←e] at hr;exact hr
  ·rw[aaL (by omega),cw] at hr;have h:=hr.1 (decide_eq_true rfl);refine⟨r,bh (decide_eq_false (by omega)) ?_,?_⟩
   ·rw[PD,aap] at h;exact h
   ·obtain rfl:=h;rfl
theorem O0:eS Lb 3 6 l3L Pg [(0,sZ)] fun((x:kb),(cn:List ByteArray),(us:List Bool),(i:Int),(l:List ByteArray),(n:Int),(j:Int),_)=>
 .nd (lkP x us x.cs i l n j) (lkF (fun x u=>Pf cn u i x) Pe x us.reverse x.ps.reverse (eC cn.reverse (x.ln i).2 (l.drop j.toNat) x.cs.reverse).1 (eC cn.reverse (x.ln i).2 (l.drop j.toNat) x.cs.reverse).2):=by
  refine eY _ (nL _ _) 99 3 6 l3L Pg [(0,sZ)] (fun((x:kb),(cn:List ByteArray),(us:List Bool),(i:Int),(l:List ByteArray),(n:Int),(j:Int),_)=>Zb (Zw cn i l n j) (Pf cn us i) Pe x us i l n j cn)
   (fun(_,_,_,_,(l:List ByteArray),_,(j:Int),_)=>l.length-j.toNat) ?_
  rintro⟨(x:kb),(cn:List ByteArray),(us:List Bool),(i:Int),(l:List ByteArray),(n:Int),(j:Int),_⟩ r _ ⟨⟨h0,h1,rfl,rfl,h4,h5,h6,h7⟩,hr⟩;have hr:(lkF (fun x u=>Pf cn u _ x) Pe x _ _ _ _).hit r:=hr;obtain⟨k,rfl⟩:∃k:Nat,j=k:=⟨j.toNat,by omega⟩;rw[aak] at hr;show∃q,(Zb _ _ _ x us _ l l.length k cn).hit q∧_;have PD:x.withP x.ps.reverse.reverse x.cs.reverse.reverse=x:=by rw[aap,aap];rfl
  unfold Zb;by_cases hk:k<l.length
  ·rw[getD_drop (⟨#[]⟩:ByteArray) hk,eC] at hr;rw[aak];split at hr
   ·rename_i hlt;have h:=hr.2 (decide_eq_false (by show¬(2:Int)=0;decide));rw[PD] at h;obtain rfl:=h;exact⟨_,aZ (decide_eq_true (by omega)) ⟨⟨by omega,by omega⟩,aZ (decide_eq_true hlt) ⟨⟨by omega,h4⟩,by decide,rfl⟩⟩,rfl⟩
   ·rename_i hge;refine⟨_,aZ (decide_eq_true (by omega)) ⟨⟨by omega,by omega⟩,bh (decide_eq_false hge) ⟨rfl,by omega,rfl,⟨by omega,by omega⟩,rfl⟩⟩,?_,?_⟩
    ·show l.length-(k+1)<l.length-k;omega
    ·refine⟨⟨by omega,by omega,rfl,rfl,h4,h5,?_,h7⟩,?_⟩
     ·show((x.cs.length+1:Nat):Int)=(k:Int)+1;omega
     ·have e:(Lib.idxOfS cn.reverse (l.getD k ⟨#[]⟩)::x.cs).reverse=x.cs.reverse++[Lib.idxOfS cn.reverse (l.getD k ⟨#[]⟩)]:=by simp
      rw[←e] at hr;exact hr
  ·rw[aaL (by omega),eC] at hr;have h:=hr.1 (decide_eq_true rfl);refine⟨r,bh (decide_eq_false (by omega)) ?_,?_⟩
   ·rw[PD,aap] at h;exact h
   ·obtain rfl:=h;rfl
abbrev l0L:List (Nat×SS):=[(0,sT),(2,R4),(3,sI)]
abbrev l0O:List (Nat×SS):=[(0,sT),(2,R4)]
def Zy (x:bf) (cn:List ByteArray) (i:Int):LE l0L l0O [(0,sZ)]:=.back (x,cn,i,())
def Pj (x:bf) (cn:List ByteArray):LE l0L l0O [(0,sZ)]:=.out (x,cn,())
theorem O3:eS Lb 0 0 l0L l0O [(0,sZ)] fun((x:bf),(cn:List ByteArray),(i:Int),_)=>.nd (0≤i∧i≤x.cont.length∧(cn.length:Int)=i∧x.cont.length≤1099511627776) (.lf (Pj x (((x.cont.drop i.toNat).map (·.name)).reverse++cn))):=by
 refine eY _ (nL _ _) 99 0 0 l0L l0O [(0,sZ)] (fun((x:bf),(cn:List ByteArray),(i:Int),_)=>.br (decide (i<x.rc.length)) (.nd (0≤i∧i<x.rc.length) (.nd ((cn.length+1)*17≤140737488355328) (.nd (cf (i+1)) (.lf (Zy x ((x.cont.getD i.toNat ae.zero).name::cn) (i+1)))))) (.lf (Pj x cn)))
  (fun((x:bf),_,(i:Int),_)=>x.cont.length-i.toNat) ?_
 rintro⟨(x:bf),(cn:List ByteArray),(i:Int),_⟩ r _ ⟨⟨h0,h1,h2,h3⟩,hr⟩;obtain rfl:=hr;obtain⟨k,rfl⟩:∃k:Nat,i=k:=⟨i.toNat,by omega⟩;have hl:x.rc.length=x.cont.length:=(aaH (α:=ae)).symm;show∃q,(T.br (decide ((k:Int)<x.rc.length)) _ _).hit q∧_;rw[hl,aak];by_cases hk:k<x.cont.length
 ·refine⟨_,aZ (decide_eq_true (by omega)) ⟨⟨by omega,by omega⟩,by omega,⟨by omega,by omega⟩,rfl⟩,?_,⟨by omega,by omega,?_,h3⟩,?_⟩
  ·show x.cont.length-(k+1)<x.cont.length-k;omega
  ·rw[aaO];omega
  ·show Pj x (((x.cont.drop (k+1)).map (·.name)).reverse++((x.cont.getD k ae.zero).name::cn))=_;rw[getD_drop ae.zero hk,acg,ab8,abP];rfl
 ·refine⟨_,bh (decide_eq_false (by omega)) rfl,?_⟩;rw[aaL (by omega)];rfl
abbrev l4L:List (Nat×SS):=[(0,sZ),(4,sOB),(12,sI)]
abbrev l4O:List (Nat×SS):=[(0,sZ)]
def Pd (x:iA) (us:List Bool) (i:Int):LE l4L l4O [(0,sZ)]:=.back (x,us,i,())
def D5 (x:iA):LE l4L l4O [(0,sZ)]:=.out (x,())
theorem TH {x:iA} {c d line xq:Int} (hc:c≠0):(x.note c line).note d xq=x.note c line:=congrArg x.setF (ad8 hc)
theorem TI {x:iA} (line:Int):x.note 0 line=x:=congrArg x.setF (Ow line)
theorem OZ:eS Lb 4 8 l4L l4O [(0,sZ)] fun((x:iA),(us:List Bool),(i:Int),_)=>.nd (0≤i∧i≤us.length) (.lf (D5 (x.note (if(us.reverse.drop i.toNat).contains false then 6 else 0) 0))):=by
 refine eY _ (nL _ _) 99 4 8 l4L l4O [(0,sZ)] (fun((x:iA),(us:List Bool),(i:Int),_)=>.br (decide (i<us.length)) (.nd (0≤i∧i<us.length) (.br (!(us.reverse.getD i.toNat false)) (.nd ((0:Int)≠6) (.nd (cf (i+1)) (.lf (Pd (x.note 6 0) us (i+1))))) (.nd (cf (i+1)) (.lf (Pd x us (i+1)))))) (.lf (D5 x)))
  (fun(_,(us:List Bool),(i:Int),_)=>us.length-i.toNat) ?_
 rintro⟨(x:iA),(us:List Bool),(i:Int),_⟩ r tj ⟨⟨h0,h1⟩,hr⟩;obtain rfl:=hr;have hl:us.length≤9223372036854775807:=tj.2.1;obtain⟨k,rfl⟩:∃k:Nat,i=k:=⟨i.toNat,by omega⟩;rw[aak];by_cases hk:k<us.length
 ·have hd:us.length-(k+1)<us.length-k:=by omega
  have dj:cf ((k:Int)+1):=⟨by omega,by omega⟩;have hx:=getD_drop (xs:=us.reverse) (i:=k) false (by rw[aaH];exact hk);rw[hx];cases hb:us.reverse.getD k false with
  | false=>
   refine⟨_,aZ (decide_eq_true (by omega)) ⟨⟨by omega,by omega⟩,aZ (by rw[aak,hb];rfl) ⟨by decide,dj,rfl⟩⟩,hd,⟨by omega,by omega⟩,?_⟩;show D5 ((x.note 6 0).note _ 0)=_;rw[TH (by decide)];simp
  | true=>
   refine⟨_,aZ (decide_eq_true (by omega)) ⟨⟨by omega,by omega⟩,bh (by rw[aak,hb];rfl) ⟨dj,rfl⟩⟩,hd,⟨by omega,by omega⟩,?_⟩;show D5 (x.note (if(us.reverse.drop (k+1)).contains false then 6 else 0) 0)=_;simp
 ·refine⟨_,bh (decide_eq_false (by omega)) rfl,?_⟩;rw[aaL (by rw[aaH];omega)];exact congrArg D5 (TI _).symm
abbrev Se:List (Nat×SS):=[(0,sZ),(2,R4),(4,sOB),(5,sI)]
abbrev Sd:List (Nat×SS):=[(0,sZ),(4,sOB)]
def Ph (cn:List ByteArray) (i:Int) (x:iA) (us:List Bool):LE Se Sd [(0,sZ)]:=.back (x,cn,us,i+1,())
def I9 (x:iA) (us:List Bool):LE Se Sd [(0,sZ)]:=.out (x,us,())
def xx (x:iA):LE Se Sd [(0,sZ)]:=.ret (.tup []) (x,())
def iA.rm (x:iA):List (List ByteArray×List ByteArray):=x.2.2.2.2.2.2.2.2.2.2.2.2.2.2.2.2.1
def kb.nmAt (x:kb) (i:Int):List ByteArray×List ByteArray:=List.getD (List.reverse (α:=List ByteArray×List ByteArray) x.2.2.2.2.2.2.2.2.2.2.2.2.2.2.2.2.1) i.toNat ([],[])
def kb.rm (x:kb):List (List ByteArray×List ByteArray):=x.2.2.2.2.2.2.2.2.2.2.2.2.2.2.2.2.1
def Uf {L:Type} (out:kb→List Bool→T L) (ret:iA→L) (x:kb) (u:List Bool) (ps cs:List Int) (e:eE):T L:=.br (decide (e.no=0)) (out (x.withP ps.reverse cs.reverse) u.reverse) (.lf (ret ((x.withP ps.reverse cs.reverse).cl.note e.no e.line)))
section
variable (cn:List ByteArray) (i:Int)
def aes (y:kb) (us:List Bool):T (LE Se Sd [(0,sZ)]):=.nd (cf (i+1)) (.lf (Ph cn i y.cl us))
def aet (y:kb) (us:List Bool):T (LE Se Sd [(0,sZ)]):=.nd (0≤i∧i<y.rm.length) (.nd (lkP y us y.cs i (y.nmAt i).2 (y.nmAt i).2.length 0) (Uf (aes cn i) xx y us.reverse y.ps.reverse (eC cn.reverse (y.ln i).2 ((y.nmAt i).2.drop (Int.toNat 0)) y.cs.reverse).1 (eC cn.reverse (y.ln i).2 ((y.nmAt i).2.drop (Int.toNat 0)) y.cs.reverse).2))
def ajt (y:kb) (us:List Bool):T (LE Se Sd [(0,sZ)]):=.nd (lkP y us y.ps i (y.nmAt i).1 (y.nmAt i).1.length 0) (Uf (aet cn i) xx y (cw y.prec (y.ln i).1 ((y.nmAt i).1.drop (Int.toNat 0)) us.reverse y.ps.reverse).1.1 (cw y.prec (y.ln i).1 ((y.nmAt i).1.drop (Int.toNat 0)) us.reverse y.ps.reverse).1.2 y.cs.reverse (cw y.prec (y.ln i).1 ((y.nmAt i).1.drop (Int.toNat 0)) us.reverse y.ps.reverse).2)
def OX (x:iA) (us:List Bool):T (LE Se Sd [(0,sZ)]):=.br (decide (i<x.rm.length)) (.nd (0≤i∧i<x.rm.length) (.nd (x.z.2.1.length<x.z.1) (ajt cn i x.op us))) (.lf (I9 x us))
end
def qE (prec cn:List ByteArray):List (List ByteArray×List ByteArray)→List (Int×Int)→List aj→List ByteArray→List Bool→(List aj×List ByteArray×List Bool)×eE
 | [],_,done,rest,u=>((done,rest,u),⟨0,0⟩)
 | v::vs,ls,done,rest,u=>
  if(cw prec (ls.getD 0 (0,0)).1 v.1 u []).2.no=0 then
   if(eC cn (ls.getD 0 (0,0)).2 v.2 []).2.no=0 then qE prec cn vs (ls.drop 1) (done++[⟨rest.getD 0 ⟨#[]⟩,(cw prec (ls.getD 0 (0,0)).1 v.1 u []).1.2,(eC cn (ls.getD 0 (0,0)).2 v.2 []).1⟩]) (rest.drop 1) (cw prec (ls.getD 0 (0,0)).1 v.1 u []).1.1
   else((done++[⟨rest.getD 0 ⟨#[]⟩,(cw prec (ls.getD 0 (0,0)).1 v.1 u []).1.2,(eC cn (ls.getD 0 (0,0)).2 v.2 []).1⟩],rest.drop 1,(cw prec (ls.getD 0 (0,0)).1 v.1 u []).1.1),(eC cn (ls.getD 0 (0,0)).2 v.2 []).2)
  else((done++[⟨rest.getD 0 ⟨#[]⟩,(cw prec (ls.getD 0 (0,0)).1 v.1 u []).1.2,[]⟩],rest.drop 1,(cw prec (ls.getD 0 (0,0)).1 v.1 u []).1.1),(cw prec (ls.getD 0 (0,0)).1 v.1 u []).2)
def iA.rl (x:iA):List (Int×Int):=x.2.2.2.2.2.2.2.2.2.2.2.2.2.2.2.1
def iA.prec (x:iA):List ByteArray:=x.2.2.2.2.1
def iA.go (x:iA) (cn:List ByteArray) (us:List Bool) (i:Int):(List aj×List ByteArray×List Bool)×eE:=qE x.prec cn.reverse (x.rm.reverse.drop i.toNat) (x.rl.reverse.drop i.toNat) x.z.2.1 x.z.2.2 us.reverse
def iA.withZ (x:iA) (d:List aj) (r:List ByteArray):iA:=x.setZ (x.z.1,d,r)
def Ze (x:iA) (g:(List aj×List ByteArray×List Bool)×eE):T (LE Se Sd [(0,sZ)]):=.br (decide (g.2.no=0)) (.lf (I9 (x.withZ g.1.1 g.1.2.1) g.1.2.2.reverse)) (.lf (xx ((x.withZ g.1.1 g.1.2.1).note g.2.no g.2.line)))
def aer (x:iA) (us:List Bool) (i:Int):Prop:=0≤i∧i≤x.rm.length∧i=x.z.2.1.length∧x.rl.length=x.rm.length∧x.z.1=x.rm.length∧us.length=x.prec.length∧x.rm.length≤1099511627776∧∀p∈x.rm.reverse,p.1.length≤1099511627776∧p.2.length≤1099511627776
theorem xm (prec:List ByteArray) (line:Int):∀(l:List ByteArray) (u:List Bool) (a:List Int),(cw prec line l u a).1.1.length=u.length
 | [],_,_=>rfl
 | s::l,u,a=>by
  unfold cw;split
  ·rfl
  ·split
   ·rfl
   ·rw[xm];exact abY
theorem O2:eS Lb 1 2 Se Sd [(0,sZ)] fun((x:iA),(cn:List ByteArray),(us:List Bool),(i:Int),_)=>.nd (aer x us i) (Ze x (x.go cn us i)):=by
 refine eY _ (((nL _ _).add 2 _ O1).add 3 _ O0) 99 1 2 Se Sd [(0,sZ)] (fun((x:iA),(cn:List ByteArray),(us:List Bool),(i:Int),_)=>OX cn i x us)
  (fun((x:iA),_,_,(i:Int),_)=>x.rm.length-i.toNat) ?_
 rintro⟨(x:iA),(cn:List ByteArray),(us:List Bool),(i:Int),_⟩ r _ ⟨⟨h0,h1,h2,h3,h4,h5,h6,h7⟩,hr⟩;obtain⟨k,rfl⟩:∃k:Nat,i=k:=⟨i.toNat,by omega⟩;show∃q,(OX cn k x us).hit q∧_;have hr:(Ze x (x.go cn us k)).hit r:=hr;unfold OX;have Af:x.rm.reverse.length=x.rm.length:=aaH;have Sx:x.rl.reverse.length=x.rl.length:=aaH;by_cases hk:k<x.rm.length
 ·unfold iA.go at hr;rw[aak,getD_drop (([],[]):List ByteArray×List ByteArray) (by rw[Af];exact hk),qE] at hr;have hm:=h7 (x.rm.reverse.getD k ([],[])) (by rw[aai,aae (by rw[Af];exact hk)];exact abF _);have MC:x.op.nmAt k=x.rm.reverse.getD k ([],[]):=rfl;have BR:(x.rl.reverse.drop k).getD 0 (0,0)=x.op.ln k:=by
   show _=x.rl.reverse.getD k (0,0);rw[aai,acl,aai,ac7]
  rw[BR,←MC] at hr;rw[←MC] at hm;have tX:=xm x.prec (x.op.ln k).1 (x.op.nmAt k).1 us.reverse [];have afb:lkP x.op us x.op.ps k (x.op.nmAt k).1 (x.op.nmAt k).1.length 0:=⟨by omega,by omega,rfl,h2,by show(k:Int)<x.rl.length;omega,h5,rfl,hm.1⟩;have hC:∀{q},(Uf (aet cn k) xx x.op (cw x.prec (x.op.ln k).1 (x.op.nmAt k).1 us.reverse []).1.1 (cw x.prec (x.op.ln k).1 (x.op.nmAt k).1 us.reverse []).1.2 [] (cw x.prec (x.op.ln k).1 (x.op.nmAt k).1 us.reverse []).2).hit q→(OX cn k x us).hit q:=fun h=>aZ (decide_eq_true (by omega)) ⟨⟨by omega,by omega⟩,by omega,afb,h⟩;generalize cw x.prec (x.op.ln k).1 (x.op.nmAt k).1 us.reverse []=p at*;obtain⟨⟨u,ps⟩,e⟩:=p;simp only at hr hC tX;by_cases he:e.no=0
  ·rw[if_pos he] at hr;have afa:lkP (x.op.withP ps.reverse [].reverse) u.reverse [] k (x.op.nmAt k).2 (x.op.nmAt k).2.length 0:=⟨by omega,by omega,rfl,h2,by show(k:Int)<x.rl.length;omega,by rw[aaH,tX,aaH];exact h5,rfl,hm.2⟩;have hD:∀{q},(Uf (aes cn k) xx (x.op.withP ps.reverse [].reverse) u.reverse.reverse ps.reverse.reverse (eC cn.reverse (x.op.ln k).2 (x.op.nmAt k).2 []).1 (eC cn.reverse (x.op.ln k).2 (x.op.nmAt k).2 []).2).hit q→(OX cn k x us).hit q:=fun h=>hC (aZ (decide_eq_true he) ⟨⟨by omega,by show(k:Int)<x.rm.length;omega⟩,afa,h⟩);generalize eC cn.reverse (x.op.ln k).2 (x.op.nmAt k).2 []=c at*;obtain⟨cs,e2⟩:=c;simp only at hr hD;rw[aap,aap] at hD;by_cases he2:e2.no=0
   ·rw[if_pos he2] at hr;have vn:((x.op.withP ps.reverse [].reverse).withP ps.reverse cs.reverse).cl=x.withZ (x.z.2.1++[⟨x.z.2.2.getD 0 ⟨#[]⟩,ps,cs⟩]) (x.z.2.2.drop 1):=by
     show x.withZ (x.z.2.1++[⟨x.z.2.2.getD 0 ⟨#[]⟩,ps.reverse.reverse,cs.reverse.reverse⟩]) (x.z.2.2.drop 1)=_;rw[aap,aap]
    have Z7:(x.op.nm:ByteArray)=x.z.2.2.getD 0 ⟨#[]⟩:=rfl;generalize x.z.2.2.getD 0 ⟨#[]⟩=nm at*;generalize hD3:x.z.2.1++[⟨nm,ps,cs⟩]=d at*;generalize x.z.2.2.drop 1=rest at*;refine⟨Ph cn k (x.withZ d rest) u.reverse,hD (aZ (decide_eq_true he2) ⟨⟨by omega,by omega⟩,by rw[←vn];rfl⟩),?_,?_,?_⟩
    ·show x.rm.length-(k+1)<x.rm.length-k;omega
    ·refine⟨by omega,by show((k:Int)+1)≤x.rm.length;omega,?_,h3,h4,?_,h6,h7⟩
     ·show((k:Int)+1)=(d.length:Nat);rw[←hD3,aaD,abE];omega
     ·show u.reverse.length=x.prec.length;rw[aaH,tX,aaH];exact h5
    ·have hgo:(x.withZ d rest).go cn u.reverse ((k:Int)+1)=qE x.prec cn.reverse (x.rm.reverse.drop (k+1)) ((x.rl.reverse.drop k).drop 1) d rest u:=by
      rw[adW];show qE x.prec cn.reverse (x.rm.reverse.drop (k+1)) (x.rl.reverse.drop (k+1)) d rest u.reverse.reverse=_;rw[aap]
     show(Ze (x.withZ d rest) ((x.withZ d rest).go cn u.reverse ((k:Int)+1))).hit r;rw[hgo];exact hr
   ·rw[if_neg he2] at hr;have h:=hr.2 (decide_eq_false he2);refine⟨_,hD (bh (decide_eq_false he2) rfl),?_⟩;rw[←h];show xx (iA.note (x.withZ (x.z.2.1++[⟨x.z.2.2.getD 0 ⟨#[]⟩,ps.reverse.reverse,cs.reverse.reverse⟩]) (x.z.2.2.drop 1)) e2.no e2.line)=_;rw[aap,aap]
  ·rw[if_neg he] at hr;have h:=hr.2 (decide_eq_false he);refine⟨_,hC (bh (decide_eq_false he) rfl),?_⟩;rw[←h];show xx (iA.note (x.withZ (x.z.2.1++[⟨x.z.2.2.getD 0 ⟨#[]⟩,ps.reverse.reverse,[]⟩]) (x.z.2.2.drop 1)) e.no e.line)=_;rw[aap]
 ·unfold iA.go at hr;rw[aak,aaL (by omega),qE] at hr;have h:=hr.1 (decide_eq_true rfl);refine⟨_,bh (decide_eq_false (by omega)) rfl,?_⟩;rw[←h];show I9 x us=I9 x us.reverse.reverse;rw[aap]
def bf.cn (x:bf):List ByteArray:=((x.cont.drop (Int.toNat 0)).map (·.name)).reverse++[]
def bf.prec (x:bf):List ByteArray:=x.2.2.2.2.1
def bf.us (x:bf):List Bool:=List.replicate (x.prec.length:Int).toNat false
def bf.go (x:bf):(List aj×List ByteArray×List Bool)×eE:=x.zb.go x.cn x.us 0
def zI (x:bf):iA:=if x.go.2.no=0 then(x.zb.withZ x.go.1.1 x.go.1.2.1).note (if x.go.1.2.2.contains false then 6 else 0) 0 else(x.zb.withZ x.go.1.1 x.go.1.2.1).note x.go.2.no x.go.2.line
abbrev SRZ:=XV×iA×Unit
def anZ (x:iA):SRZ:=(.tup [],x,())
def lkB (x:bf):T SRZ:=.nd ((0:Int)≤0∧(0:Int)≤x.cont.length∧(([]:List ByteArray).length:Int)=0∧x.cont.length≤1099511627776) (.nd ((0:Int)≤(x.prec.length:Int)∧(x.prec.length:Int)=x.prec.length∧(x.prec.length:Int)*(1+1)≤281474976710656)
 (.nd (aer x.zb x.us 0) (.br (decide (x.go.2.no=0)) (.nd ((0:Int)≤0∧(0:Int)≤x.go.1.2.2.reverse.length) (.lf (anZ ((x.zb.withZ x.go.1.1 x.go.1.2.1).note (if(x.go.1.2.2.reverse.reverse.drop (Int.toNat 0)).contains false then 6 else 0) 0)))) (.lf (anZ ((x.zb.withZ x.go.1.1 x.go.1.2.1).note x.go.2.no x.go.2.line))))))
def I1 (x:bf):Prop:=x.cont.length≤1099511627776∧x.prec.length≤1099511627776∧x.lines.length=x.names.length∧x.snm.length=x.names.length∧x.names.length≤1099511627776∧∀p∈x.names,p.1.length≤1099511627776∧p.2.length≤1099511627776
theorem O5:gi Tryz.prog 65 [0] [(0,sT)] [(0,sZ)] fun((x:bf),_)=>.nd (I1 x) (.lf (anZ (zI x))):=by
 refine QL (R:=Lb) ((((nL _ _).add 0 _ O3).add 1 _ O2).add 4 _ OZ) 99 [(0,sT)] [(0,sZ)] (fun((x:bf),_)=>lkB x) ?_ Tryz.func65;rintro⟨(x:bf),_⟩ r _ ⟨⟨h1,h2,h3,h4,h5,h6⟩,hr⟩;obtain rfl:=hr;have hl:∀{α:Type} (l:List α),l.reverse.length=l.length:=fun l=>aaH;have e1:x.zb.rm.length=x.names.length:=(hl x.rm).symm;have e2:x.zb.rl.length=x.lines.length:=(hl x.rl).symm;have e3:x.rs.length=x.snm.length:=(hl x.rs).symm;refine⟨⟨by omega,by omega,rfl,h1⟩,⟨by omega,rfl,by omega⟩,⟨by omega,by omega,rfl,by omega,?_,?_,by omega,h6⟩,?_⟩
 ·show x.rs.length=_;omega
 ·show(List.replicate _ false).length=x.prec.length;rw[ac6];omega
 ·unfold zI;by_cases h:x.go.2.no=0
  ·rw[if_pos h];refine aZ (decide_eq_true h) ⟨⟨by omega,by omega⟩,?_⟩;rw[aap];rfl
  ·rw[if_neg h];exact bh (decide_eq_false h) rfl
noncomputable def lkS:bf→iA:=shut zI
theorem Zd (x:bf):lkS x=zI x:=congrFun (mT zI) x
theorem Ld:gi Tryz.prog 65 [0] [(0,sT)] [(0,sZ)] fun((x:bf),_)=>.nd (I1 x) (.lf (anZ (lkS x))):=by
 unfold lkS;rw[mT];exact O5
noncomputable def C9:ik Tryz.prog:=dE Wq [⟨_,_,_,find_ok⟩,⟨_,_,_,ol⟩] [⟨_,_,_,_,_,kK⟩,⟨_,_,_,_,_,Mj⟩,⟨_,_,_,_,_,Ld⟩]
noncomputable abbrev cfn:=Tryz.f24
abbrev elC:List CS:=[.d .str,.d tI,.d tI,.d tI,.d (.list .str),.d (.list (.st 3)),.d (.list (.st 4)),.d tI,.d tI,.d .bool,.d (.list .limb),.d (.list .limb),.d tI,.d .str]
abbrev sEb:SS:=.box 30 elC
abbrev sGb:SS:=.box 48 [.d tI,.d tI]
abbrev sUb:SS:=.box 33 [.d .str,.d (.list (.st 1))]
abbrev ML:=eT elC
abbrev MK:=eT [.d tI,.d tI]
abbrev Xy:=eT [.d .str,.d (.list (.st 1))]
def Xy.bs (u:Xy):List aw:=u.2.1
noncomputable abbrev abk:Rg Tryz.prog cfn.ntmps:=BP (vI C9 cfn) [(19,afS 0 6)] []
abbrev c0L:List (Nat×SS):=[(4,sT),(1,sUb),(2,sEb),(3,sGb),(5,sI)]
abbrev SF:List (Nat×SS):=[(4,sT),(2,sEb),(3,sGb)]
def abx (x:bf) (u:Xy) (e:ML) (g:MK) (i:Int):LE c0L SF []:=.back (x,u,e,g,i,())
def E1 (x:bf) (e:ML) (g:MK):LE c0L SF []:=.out (x,e,g,())
def aw.zero:aw:=⟨⟨#[]⟩,⟨#[]⟩,[],0⟩
def c0T (x:bf) (u:Xy) (e:ML) (g:MK) (i:Int):T (LE c0L SF []):=.br (decide (i<u.bs.length)) (.br (x.err==0) (.nd (0≤i∧i<u.bs.length) (.nd (Hm x (u.bs.getD i.toNat aw.zero)) (.nd (cf (i+1)) (.lf (abx (.ofR (gp x.r (u.bs.getD i.toNat aw.zero))) u e g (i+1)))))) (.lf (E1 x e g))) (.lf (E1 x e g))
abbrev c1L:List (Nat×SS):=[(4,sT),(2,sEb),(3,sGb),(50,R4),(51,sI),(52,sI)]
def Rb (x:bf) (e:ML) (g:MK) (l:List ByteArray) (n i:Int):LE c1L SF []:=.back (x,e,g,l,n,i,())
def E0 (x:bf) (e:ML) (g:MK):LE c1L SF []:=.out (x,e,g,())
def c1T (x:bf) (e:ML) (g:MK) (l:List ByteArray) (n i:Int):T (LE c1L SF []):=.br (decide (i<n)) (.nd (0≤i∧i<l.length) (.br (decide (Lib.idxOfS x.seen (l.reverse.getD i.toNat ⟨#[]⟩)<0)) (.nd ((0:Int)≠6) (.nd (cf (i+1)) (.lf (Rb (x.note 6 0) e g l n (i+1))))) (.nd (cf (i+1)) (.lf (Rb x e g l n (i+1)))))) (.lf (E0 x e g))
def gZ (t:fe):Prop:=t.e.styl=(ic t.e.styl).map fun n=>⟨n,[],[]⟩
theorem Wz (x:bf):bf.ofR x.r=x:=(oh x x.e x.er rfl rfl).symm
theorem II (x:bf):gZ x.r:=by
 show x.styl=(ic x.styl).map _;unfold bf.styl;rw[Bw]
theorem zr {t:fe} (h:gZ t):(bf.ofR t).r=t:=by
 obtain⟨e,seen,lines,names,f⟩:=t;obtain⟨t1,t2,t3,t4,t5,t6,t7,t8,t9,t10,t11,t12⟩:=e;have h:t7=(ic t7).map fun n=>⟨n,[],[]⟩:=h;show(⟨⟨t1,t2,t3,t4,t5,t6.reverse.reverse,(ic t7).reverse.reverse.map fun n=>⟨n,[],[]⟩,t8,t9,t10,t11,t12⟩,seen.reverse.reverse,lines.reverse.reverse,names.reverse.reverse,f⟩:fe)=_;simp only[aap];rw[←h]
def grT (t t':fe):Prop:=t'.seen.length≤t.seen.length+1∧t'.e.cont.length≤t.e.cont.length+1∧t'.e.styl.length≤t.e.styl.length+1∧t'.names.length≤t.names.length+1∧t'.lines.length≤t.lines.length+1
def pA (t:fe):Prop:=t.names.length=t.e.styl.length∧t.lines.length=t.e.styl.length
theorem OD (a b:List aj):ic (a++b)=ic a++ic b:=acR
theorem GX (t:fe) (b:aw) (y:dc) (h1:y.e.cont=t.e.cont) (h2:y.e.styl=t.e.styl):grT t (ug t b y)∧(gZ t→gZ (ug t b y))∧(pA t→pA (ug t b y)):=by
 unfold ug;simp only;have e1:(t.seen++[b.kind]).length=t.seen.length+1:=by simp
 split
 ·exact⟨⟨by simp,by simp[h1],by simp[h2],by simp,by simp⟩,fun h=>by unfold gZ at h ⊢;simp only[h2];exact h,fun h=>by unfold pA at h ⊢;simp only[h2];exact h⟩
 split
 ·exact⟨⟨by simp,by simp[h1],by simp[h2],by simp,by simp⟩,fun h=>by unfold gZ at h ⊢;simp only[h2];exact h,fun h=>by unfold pA at h ⊢;simp only[h2];exact h⟩
 split
 ·refine⟨⟨by simp,by simp[h1],by simp[h2],by simp,by simp⟩,fun h=>?_,fun h=>?_⟩
  ·unfold gZ at h ⊢;simp only[h2,OD,acR];rw[←h];rfl
  ·unfold pA at h ⊢;simp only[h2,aaD,abE];omega
 split
 ·exact⟨⟨by simp[fe.note],by simp[h1,fe.note],by simp[h2,fe.note],by simp[fe.note],by simp[fe.note]⟩,fun h=>by unfold gZ fe.note at*;simp only[h2];exact h,fun h=>by unfold pA fe.note at*;simp only[h2];exact h⟩
 ·exact⟨⟨by simp,by simp[h1],by simp[h2],by simp,by simp⟩,fun h=>by unfold gZ at h ⊢;simp only[h2];exact h,fun h=>by unfold pA at h ⊢;simp only[h2];exact h⟩
theorem kj (t:fe) (b:aw):grT t (gp t b)∧(gZ t→gZ (gp t b))∧(pA t→pA (gp t b)):=by
 obtain⟨r1,r2⟩:=oc b.kind b.fields (dc.start t b);exact GX t b _ r1 r2
def bOk (b:aw):Prop:=b.name.size≤9223372036854775807∧b.fields.length≤1099511627776∧∀f∈b.fields,LK b.kind f
def kY (t:fe) (k:Nat):Prop:=t.seen.length+k≤1099511627776∧t.e.cont.length+k≤1099511627776∧t.e.styl.length+k≤1099511627776∧t.names.length+k≤1099511627776∧t.lines.length+k≤1099511627776
theorem kY.blk {x:bf} {b:aw} {k:Nat} (h:kY x.r k) (hb:bOk b):Hm x b:=by
 obtain⟨h1,h2,h3,h4,h5⟩:=h;have hlr:∀{α:Type} (l:List α),l.reverse.length=l.length:=fun l=>aaH;have l1:x.rn.length=x.r.seen.length:=(hlr x.rn).symm;have l2:x.rc.length=x.r.e.cont.length:=(hlr x.rc).symm;have l3:x.rs.length=x.r.e.styl.length:=by
  show _=(x.snm.map _).length;rw[ace];exact(hlr x.rs).symm
 have l4:x.rm.length=x.r.names.length:=(hlr x.rm).symm;have l5:x.rl.length=x.r.lines.length:=(hlr x.rl).symm;exact⟨hb.1,hb.2.1,hb.2.2,by omega,by omega,by omega,by omega,by omega⟩
theorem kY.next {t:fe} {b:aw} {k:Nat} (h:kY t (k+1)):kY (gp t b) k:=by
 obtain⟨h1,h2,h3,h4,h5⟩:=h;obtain⟨g1,g2,g3,g4,g5⟩:=(kj t b).1;exact⟨by omega,by omega,by omega,by omega,by omega⟩
noncomputable def c0S:List aw→bf→bf:=shut fun l x=>.ofR (dh l x.r)
theorem Hg (l:List aw) (x:bf):c0S l x=.ofR (dh l x.r):=by unfold c0S;rw[mT]
theorem EN:eS abk 0 0 c0L SF [] fun((x:bf),(u:Xy),(e:ML),(g:MK),(i:Int),_)=>.nd (0≤i∧i≤u.bs.length∧u.bs.length≤1099511627776∧(∀b∈u.bs,bOk b)∧kY x.r (u.bs.length-i.toNat)) (.lf (E1 (c0S (u.bs.drop i.toNat) x) e g)):=by
 refine eY _ (nL _ _) 99 0 0 c0L SF [] (fun((x:bf),(u:Xy),(e:ML),(g:MK),(i:Int),_)=>c0T x u e g i)
  (fun(_,(u:Xy),_,_,(i:Int),_)=>u.bs.length-i.toNat) ?_
 rintro⟨(x:bf),(u:Xy),(e:ML),(g:MK),(i:Int),_⟩ r _ ⟨⟨h0,h1,h2,h3,h4⟩,hr⟩;have hr:E1 (c0S (u.bs.drop i.toNat) x) e g=r:=hr;rw[Hg] at hr;obtain rfl:=hr;obtain⟨k,rfl⟩:∃k:Nat,i=k:=⟨i.toNat,by omega⟩;rw[aak] at h4 ⊢;show∃q,(c0T x u e g k).hit q∧_;unfold c0T;by_cases hk:k<u.bs.length
 ·rw[getD_drop aw.zero hk,dh];have hb:=h3 (u.bs.getD k aw.zero) (by rw[aai,aae hk];exact abF hk);by_cases he:x.err=0
  ·rw[if_neg (by simpa using(show x.r.f.no=0 from he))];refine⟨_,aZ (decide_eq_true (by omega)) (aZ (beq_iff_eq.2 he) ⟨⟨by omega,by omega⟩,h4.blk (by rw[aak];exact hb),⟨by omega,by omega⟩,rfl⟩),?_,⟨by omega,by omega,h2,h3,?_⟩,?_⟩
   ·show u.bs.length-(k+1)<u.bs.length-k;omega
   ·rw[aak];have hp:=(kj x.r (u.bs.getD k aw.zero)).2.1 (II x);rw[zr hp];have:u.bs.length-k=(u.bs.length-((k:Int)+1).toNat)+1:=by omega
    rw[this] at h4;exact h4.next
   ·rw[aak];have hp:=(kj x.r (u.bs.getD k aw.zero)).2.1 (II x);show E1 (c0S (u.bs.drop (k+1)) (bf.ofR (gp x.r (u.bs.getD k aw.zero)))) e g=_;rw[Hg,zr hp]
  ·rw[if_pos (by exact he),Wz];exact⟨_,aZ (decide_eq_true (by omega)) (bh (beq_eq_false_iff_ne.2 he) rfl),rfl⟩
 ·rw[aaL (by omega),dh,Wz];exact⟨_,bh (decide_eq_false (by omega)) rfl,rfl⟩
def IX (seen:List ByteArray) (l:List ByteArray) (f:eE):eE:=l.foldl (fun f k=>f.note (if bI seen k=true then 0 else 6) 0) f
noncomputable def c1S:bf→List ByteArray→bf:=shut fun x l=>x.setE x.e (IX x.seen l x.er)
theorem He (x:bf) (l:List ByteArray):c1S x l=x.setE x.e (IX x.seen l x.er):=by unfold c1S;rw[mT]
theorem EM:eS abk 1 2 c1L SF [] fun((x:bf),(e:ML),(g:MK),(l:List ByteArray),(n:Int),(i:Int),_)=>.nd (0≤i∧i≤l.length∧n=l.length) (.lf (E0 (c1S x (l.reverse.drop i.toNat)) e g)):=by
 refine eY _ (nL _ _) 99 1 2 c1L SF [] (fun((x:bf),(e:ML),(g:MK),(l:List ByteArray),(n:Int),(i:Int),_)=>c1T x e g l n i)
  (fun(_,_,_,(l:List ByteArray),_,(i:Int),_)=>l.length-i.toNat) ?_
 rintro⟨(x:bf),(e:ML),(g:MK),(l:List ByteArray),(n:Int),(i:Int),_⟩ r tj ⟨⟨h0,h1,rfl⟩,hr⟩;have hr:E0 (c1S x (l.reverse.drop i.toNat)) e g=r:=hr;rw[He] at hr;obtain rfl:=hr;have hl:l.length≤9223372036854775807:=tj.2.2.2.1;obtain⟨k,rfl⟩:∃k:Nat,i=k:=⟨i.toNat,by omega⟩;rw[aak];show∃q,(c1T x e g l l.length k).hit q∧_;unfold c1T;by_cases hk:k<l.length
 ·rw[getD_drop (⟨#[]⟩:ByteArray) (by rw[aaH];exact hk)];have hd:l.length-(k+1)<l.length-k:=by omega
  have dj:cf ((k:Int)+1):=⟨by omega,by omega⟩;have key:∀no,(if bI x.seen (l.reverse.getD k ⟨#[]⟩)=true then(0:Int) else 6)=no→E0 (c1S (x.note no 0) (l.reverse.drop (k+1))) e g=E0 (x.setE x.e (IX x.seen (l.reverse.getD k ⟨#[]⟩::l.reverse.drop (k+1)) x.er)) e g:=by
   rintro no rfl;rw[He,o9];rfl
  by_cases h:bI x.seen (l.reverse.getD k ⟨#[]⟩)=true
  ·refine⟨_,aZ (decide_eq_true (by omega)) ⟨⟨by omega,by omega⟩,bh (by rw[aak];unfold bI at h;simpa using h) ⟨dj,rfl⟩⟩,hd,⟨by omega,by omega,rfl⟩,?_⟩;have:=key 0 (if_pos h);rw[vK] at this;exact this
  ·exact⟨_,aZ (decide_eq_true (by omega)) ⟨⟨by omega,by omega⟩,aZ (by rw[aak];unfold bI at h;simpa using h) ⟨by decide,dj,rfl⟩⟩,hd,⟨by omega,by omega,rfl⟩,key 6 (if_neg h)⟩
 ·rw[aaL (by rw[aaH];omega)];exact⟨_,bh (decide_eq_false (by omega)) rfl,rfl⟩
def cp0 (t:ByteArray):bf:=(t,(0:Int),(0:Int),(0:Int),[],[],[],(0:Int),(0:Int),false,[],[],(0:Int),⟨#[]⟩,[],[],[],(0:Int),(0:Int),())
def OE:AV:=.val (.slice none 0 0)
def JF (f:Int×Int):XV:=.tup [(true,[.sym (.string ⟨#[]⟩),.sym (.int .i64 0),.sym (.int .i64 0),.sym (.int .i64 0),OE,OE,OE,.sym (.int .i64 0),.sym (.int .i64 0),.sym (.bool false),OE,OE,.sym (.int .i64 0),.sym (.string ⟨#[]⟩)]),(true,[.sym (.int .i64 f.1),.sym (.int .i64 f.2)])]
def iA.rc (x:iA):List ae:=x.2.2.2.2.2.1
def cpO (x:iA):XV:=.tup [(true,[.sym (.string x.1),.sym (.int .i64 x.2.1),.sym (.int .i64 x.2.2.1),.sym (.int .i64 x.2.2.2.1),.list .str x.2.2.2.2.1 false,.list (.st 3) x.rc.reverse !x.rc.isEmpty,.list (.st 4) x.z.2.1.reverse.reverse !x.z.2.1.reverse.isEmpty,.sym (.int .i64 x.2.2.2.2.2.2.2.1),.sym (.int .i64 x.2.2.2.2.2.2.2.2.1),.sym (.bool x.2.2.2.2.2.2.2.2.2.1),.list .limb x.2.2.2.2.2.2.2.2.2.2.1 false,.list .limb x.2.2.2.2.2.2.2.2.2.2.2.1 false,.sym (.int .i64 x.2.2.2.2.2.2.2.2.2.2.2.2.1),.sym (.string x.2.2.2.2.2.2.2.2.2.2.2.2.2.1)]),(true,[.sym (.int .i64 0),.sym (.int .i64 0)])]
noncomputable def cpN (x:iA):T XV:=.br (!(x.f.1==0)) (.lf (JF x.f)) (.nd (x.z.1=x.z.2.1.length) (.lf (cpO x)))
noncomputable def cpM (x:bf):T XV:=.br (x.err==0) (.nd (I1 x) (cpN (lkS x))) (.br (!(x.err==0)) (.lf (JF x.f)) .bad)
noncomputable def cpL (bs:List aw) (x:bf):T XV:=.nd ((0:Int)≤0∧(0:Int)≤bs.length∧bs.length≤1099511627776∧(∀b∈bs,bOk b)∧kY x.r (bs.length-Int.toNat 0)) (.nd ((0:Int)≤0∧(0:Int)≤i9.reverse.length∧(i9.reverse.length:Int)=i9.reverse.length)
 (cpM (c1S (c0S (bs.drop (Int.toNat 0)) x) (i9.reverse.reverse.drop (Int.toNat 0)))))
noncomputable def cpB (s:cI):T XV:=.br (decide ((s.title.size:Int)>60)) (.nd ((0:Int)≠8) (cpL s.blocks ((cp0 s.title).note 8 0))) (.nd (s.title.size≤9223372036854775807) (.br (!fQ s.title.data.toList) (.nd ((0:Int)≠8) (cpL s.blocks ((cp0 s.title).note 8 0))) (cpL s.blocks (cp0 s.title))))
def shT (t:fe):Prop:=t.e.prec.length≤1099511627776∧∀p∈t.names,p.1.length≤1099511627776∧p.2.length≤1099511627776
def shL (y:dc):Prop:=y.e.prec.length≤1099511627776∧y.n0.length≤1099511627776∧y.n1.length≤1099511627776
theorem LJ (k:ByteArray) (e:aa) (f:ar) (h:e.prec.length≤1099511627776) (hf:f.vals.length≤1099511627776):(dw k e f).1.prec.length≤1099511627776:=by
 unfold dw;repeat (split;· first|exact h|exact hf)
 exact h
theorem Nx (k:ByteArray) (y:dc) (f:ar) (h:shL y) (hf:f.vals.length≤1099511627776):shL (aV k y f):=by
 unfold aV;simp only;generalize (y.f.note (if bI (aD k) f.key=true then 0 else 2) f.line).note (if bI y.known f.key=true then 3 else 0) f.line=f2;obtain⟨h1,h2,h3⟩:=h;split
 ·exact⟨h1,h2,h3⟩
 split
 ·exact⟨h1,h2,h3⟩
 split
 ·exact⟨h1,hf,h3⟩
 split
 ·exact⟨h1,h2,hf⟩
 ·exact⟨LJ k y.e f h1 hf,h2,h3⟩
theorem zh (k:ByteArray):∀(l:List ar) (y:dc),shL y→(∀f∈l,f.vals.length≤1099511627776)→shL (dS k l y)
 | [],_,h,_=>h
 | f::l,y,h,hf=>by
  unfold dS;split
  ·exact h
  ·exact zh k l _ (Nx k y f h (hf f aaw)) fun g hg=>hf g (aaN _ hg)
theorem Mk (t:fe) (b:aw) (h:shT t) (hb:bOk b):shT (gp t b):=by
 obtain⟨g1,g2,g3⟩:=zh b.kind b.fields (dc.start t b) ⟨h.1,ab0 _,ab0 _⟩ fun f hf=>(hb.2.2 f hf).1.2;unfold gp;generalize dS b.kind b.fields (dc.start t b)=y at*;unfold ug;simp only;split
 ·exact⟨g1,h.2⟩
 split
 ·exact⟨g1,h.2⟩
 split
 ·refine⟨g1,fun p hp=>?_⟩;rcases abW.1 hp with hp|hp
  ·exact h.2 p hp
  ·obtain rfl:p=(y.n0,y.n1):=by simpa using hp
   exact⟨g2,g3⟩
 split
 ·exact⟨g1,h.2⟩
 ·exact⟨g1,h.2⟩
theorem lR:∀(l:List aw) (t:fe),(∀b∈l,bOk b)→shT t→gZ t→pA t→kY t l.length→shT (dh l t)∧gZ (dh l t)∧pA (dh l t)∧kY (dh l t) 0
 | [],t,_,h1,h2,h3,h4=>⟨h1,h2,h3,h4⟩
 | b::l,t,hb,h1,h2,h3,h4=>by
  unfold dh;split
  ·obtain⟨q1,q2,q3,q4,q5⟩:=h4;exact⟨h1,h2,h3,by unfold kY;omega⟩
  ·obtain⟨_,g2,g3⟩:=kj t b;exact lR l _ (fun c hc=>hb c (aaN _ hc)) (Mk t b h1 (hb b aaw)) (g2 h2) (g3 h3) h4.next
theorem zE (prec:List ByteArray) (line:Int):∀(l:List ByteArray) (u:List Bool) (a:List Int),dG prec line l u a=if(cw prec line l u a).2.no=0 then .ok (cw prec line l u a).1 else .error (cw prec line l u a).2
 | [],u,a=>by rw[dG,cw,if_pos rfl]
 | s::l,u,a=>by
  unfold dG cw;split
  ·rw[if_neg (by show¬(2:Int)=0;decide)]
  ·split
   ·rw[if_neg (by show¬(3:Int)=0;decide)]
   ·exact zE prec line l _ _
theorem zG (cn:List ByteArray) (line:Int):∀(l:List ByteArray) (a:List Int),qG cn line l a=if(eC cn line l a).2.no=0 then .ok (eC cn line l a).1 else .error (eC cn line l a).2
 | [],a=>by rw[qG,eC,if_pos rfl]
 | s::l,a=>by
  unfold qG eC;split
  ·rw[if_neg (by show¬(2:Int)=0;decide)]
  ·exact zG cn line l _
def uu (g:(List aj×List ByteArray×List Bool)×eE):Except eE (List aj):=if g.2.no=0 then(if g.1.2.2.contains false then .error ⟨6,0⟩ else .ok g.1.1) else .error g.2
theorem BE (prec cn:List ByteArray):∀(vs:List (List ByteArray×List ByteArray)) (ls:List (Int×Int)) (ss done:List aj) (u:List Bool),vs.length=ss.length→ls.length=ss.length→jC prec cn vs ls ss u done=uu (qE prec cn vs ls done (ic ss) u)
 | [],ls,ss,done,u,_,_=>by
  have e:jC prec cn [] ls ss u done=if u.contains false then .error ⟨6,0⟩ else .ok done:=by unfold jC;rfl
  rw[e];rfl
 | v::vs,[],ss,_,_,h1,h2=>by simp at h1 h2;omega
 | v::vs,ln::ls,[],_,_,h1,_=>by simp at h1
 | v::vs,ln::ls,s::ss,done,u,h1,h2=>by
  have ih:=fun d u=>BE prec cn vs ls ss d u (by simpa using h1) (by simpa using h2);unfold jC;rw[zE];unfold qE;show _=uu (if(cw prec ln.1 v.1 u []).2.no=0 then if(eC cn ln.2 v.2 []).2.no=0 then qE prec cn vs ls (done++[⟨s.name,(cw prec ln.1 v.1 u []).1.2,(eC cn ln.2 v.2 []).1⟩]) (ic ss) (cw prec ln.1 v.1 u []).1.1 else((done++[⟨s.name,(cw prec ln.1 v.1 u []).1.2,(eC cn ln.2 v.2 []).1⟩],ic ss,(cw prec ln.1 v.1 u []).1.1),(eC cn ln.2 v.2 []).2) else((done++[⟨s.name,(cw prec ln.1 v.1 u []).1.2,[]⟩],ic ss,(cw prec ln.1 v.1 u []).1.1),(cw prec ln.1 v.1 u []).2));by_cases e1:(cw prec ln.1 v.1 u []).2.no=0
  ·rw[if_pos e1,if_pos e1];simp only;rw[zG];by_cases e2:(eC cn ln.2 v.2 []).2.no=0
   ·rw[if_pos e2,if_pos e2];exact ih _ _
   ·rw[if_neg e2,if_neg e2];unfold uu;rw[if_neg (by exact e2)]
  ·rw[if_neg e1,if_neg e1];unfold uu;rw[if_neg (by exact e1)]
theorem DW (prec cn:List ByteArray):∀(vs:List (List ByteArray×List ByteArray)) (ls:List (Int×Int)) (done:List aj) (rest:List ByteArray) (u:List Bool),(qE prec cn vs ls done rest u).2.no=0→(qE prec cn vs ls done rest u).1.1.length=done.length+vs.length
 | [],_,_,_,_,_=>rfl
 | v::vs,ls,done,rest,u,h=>by
  unfold qE at h ⊢;by_cases e1:(cw prec (ls.getD 0 (0,0)).1 v.1 u []).2.no=0
  ·rw[if_pos e1] at h ⊢;by_cases e2:(eC cn (ls.getD 0 (0,0)).2 v.2 []).2.no=0
   ·rw[if_pos e2] at h ⊢;rw[DW prec cn vs _ _ _ _ h,aaD,abE,aaO];omega
   ·rw[if_neg e2] at h;exact absurd h e2
  ·rw[if_neg e1] at h;exact absurd h e1
def G3 (e:aa):XV:=.tup [(true,kS (.st 5) e),(true,[.sym (.int .i64 0),.sym (.int .i64 0)])]
def QV (r:aa×eE):T XV:=.br (decide (r.2.no=0)) (.lf (G3 r.1)) (.lf (JF (r.2.no,r.2.line)))
def FZ (s:cI):Prop:=s.title.size≤9223372036854775807∧s.blocks.length≤1099511627776∧∀b∈s.blocks,bOk b
theorem XI (T:fe) (d:List aj):Mw (cpO ((bf.ofR T).zb.withZ d []))=G3 { T.e with styl:=d }:=by
 show XV.tup [(true,[AV.sym (.string T.e.title),_,_,_,.list .str T.e.prec false,.list (.st 3) T.e.cont.reverse.reverse false,.list (.st 4) d.reverse.reverse false,_,_,_,_,_,_,_]),_]=_;rw[aap,aap];rfl
theorem L8 (x:iA) (d:List aj) (r r':List ByteArray) (p:Int×Int):cpO ((x.withZ d r).setF p)=cpO (x.withZ d r'):=rfl
theorem Vv {T:fe} (hf:T.f.no=0) (hl:pA T):∃q,(cpN (lkS (.ofR T))).hit q∧Mw q=(match lm T with|.ok l=>G3 { T.e with styl:=l }|.error e=>JF (e.no,e.line)):=by
 have hgo:(bf.ofR T).go=qE T.e.prec (T.e.cont.map fun c:ae=>c.name) T.names T.lines [] (ic T.e.styl) (List.replicate T.e.prec.length false):=by
  show qE T.e.prec (((T.e.cont.reverse.reverse.drop 0).map fun c:ae=>c.name).reverse++[]).reverse (T.names.reverse.reverse.drop 0) (T.lines.reverse.reverse.drop 0) [] (ic T.e.styl).reverse.reverse (List.replicate T.e.prec.length false).reverse=_;simp only[aap,acr,acn,List.reverse_replicate]
 have hR:lm T=uu (bf.ofR T).go:=by
  rw[hgo];exact BE _ _ _ _ _ _ _ hl.1 hl.2
 have bG:(bf.ofR T).go.2.no=0→(bf.ofR T).go.1.1.length=T.names.length:=fun h=>by
  rw[hgo] at h ⊢;rw[DW _ _ _ _ _ _ _ h];simp
 have ajV:(bf.ofR T).zb.z.1=T.names.length:=by
  show(ic T.e.styl).reverse.length=_;rw[aaH];unfold ic;rw[ace];exact hl.1.symm
 have Ly:∀(d:List aj) (r:List ByteArray),((bf.ofR T).zb.withZ d r).f.1=0:=fun d r=>hf;rw[hR,Zd];unfold zI uu;generalize (bf.ofR T).go=g at*;obtain⟨⟨d,r,u⟩,e⟩:=g;simp only at bG ⊢;unfold cpN;by_cases he:e.no=0
 ·rw[if_pos he,if_pos he];by_cases hu:u.contains false=true
  ·rw[if_pos hu,if_pos hu];refine⟨_,aZ ?_ rfl,?_⟩
   ·show(!((nt _ 6 0).1==0))=true;rw[K1 0 (Ly d r) (by decide)];rfl
   ·show Mw (JF (nt _ 6 0))=_;rw[K1 0 (Ly d r) (by decide)];rfl
  ·rw[if_neg hu,if_neg hu];refine⟨_,bh ?_ ⟨?_,rfl⟩,?_⟩
   ·show(!((nt _ 0 0).1==0))=false;rw[Ow,Ly d r];rfl
   ·show(bf.ofR T).zb.z.1=d.length;rw[ajV,bG he]
   ·exact(congrArg Mw (L8 (bf.ofR T).zb d r [] _)).trans (XI T d)
 ·rw[if_neg he,if_neg he];refine⟨_,aZ ?_ rfl,?_⟩
  ·show(!((nt _ e.no e.line).1==0))=true;rw[K1 _ (Ly d r) he];simpa using he
  ·show Mw (JF (nt _ e.no e.line))=_;rw[K1 _ (Ly d r) he];rfl
theorem Vw {T:fe} (hp:gZ T) (hl:pA T) (hs:shT T) (hr:kY T 0):∃q,(cpM (.ofR T)).hit q∧Mw q=(if T.f.no≠0 then JF (T.f.no,T.f.line) else match lm T with|.ok l=>G3 { T.e with styl:=l }|.error e=>JF (e.no,e.line)):=by
 have hR:(bf.ofR T).r=T:=zr hp;unfold cpM;by_cases hf:T.f.no=0
 ·rw[if_neg (by simpa using hf)];obtain⟨q,h1,h2⟩:=Vv hf hl;refine⟨q,aZ (beq_iff_eq.2 hf) ⟨?_,h1⟩,h2⟩;obtain⟨q1,q2,q3,q4,q5⟩:=hr;have e1:(bf.ofR T).cont=T.e.cont:=congrArg (fun t:fe=>t.e.cont) hR;have e2:(bf.ofR T).lines=T.lines:=congrArg (fun t:fe=>t.lines) hR;have e3:(bf.ofR T).names=T.names:=congrArg (fun t:fe=>t.names) hR;have e4:(bf.ofR T).snm.length=T.e.styl.length:=by
   show(ic T.e.styl).reverse.reverse.length=_;rw[aap];unfold ic;rw[ace]
  unfold I1;rw[e1,e2,e3,e4];exact⟨by omega,hs.1,by rw[hl.1,hl.2],hl.1.symm,by omega,hs.2⟩
 ·rw[if_pos hf];exact⟨_,bh (beq_eq_false_iff_ne.2 hf) (aZ (by show(!(T.f.no==0))=true;simpa using hf) rfl),rfl⟩
theorem EO (s:cI):gM s=if(cJ s).f.no≠0 then(aa.zero,(cJ s).f) else match lm (cJ s) with|.error e=>(aa.zero,e)|.ok l=>({ (cJ s).e with styl:=l },⟨0,0⟩):=rfl
theorem Le {T:fe} {e:eE} (hl:pA T) (h:lm T=.error e):e.no≠0:=by
 have hR:lm T=uu (qE T.e.prec (T.e.cont.map fun c:ae=>c.name) T.names T.lines [] (ic T.e.styl) (List.replicate T.e.prec.length false)):=BE _ _ _ _ _ _ _ hl.1 hl.2;rw[hR] at h;unfold uu at h;split at h
 ·split at h
  ·injection h with h;rw[←h];decide
  ·cases h
 ·rename_i hn;injection h with h;rw[←h];exact hn
theorem EP:av Tryz.prog 24 true (aU [(0,.st 2)] fun((s:cI),_)=>.nd (FZ s) (QV (gM s))):=by
 refine av.imp (l0:=[(0,.st 2)]) (F:=fun((s:cI),_)=>cpB s) (vF (R:=abk) (((nL _ _).add 0 _ EN).add 1 _ EM) true 99 [(0,.st 2)] (fun((s:cI),_)=>cpB s) (fun x r _ h=>⟨h,.inl rfl⟩) Tryz.func24) ?_;rintro⟨(s:cI),_⟩ r ⟨⟨h1,h2,h3⟩,hr⟩;have hr:(QV (gM s)).hit r:=hr;have fb:∀no,no=(if 60<s.title.size∨fQ s.title.data.toList=false then(8:Int) else 0)→∃q,(cpL s.blocks ((cp0 s.title).note no 0)).hit q∧Mw q=(if(cJ s).f.no≠0 then JF ((cJ s).f.no,(cJ s).f.line) else match lm (cJ s) with|.ok l=>G3 { (cJ s).e with styl:=l }|.error e=>JF (e.no,e.line)):=by
  rintro no rfl;have h0:(cp0 s.title).note (if 60<s.title.size∨fQ s.title.data.toList=false then(8:Int) else 0) 0=.ofR (fe.start s.title):=by
   rw[o0,oh _ _ _ rfl rfl];rfl
  have PO:gZ (fe.start s.title):=rfl;have Cz:kY (fe.start s.title) s.blocks.length:=⟨by show 0+_≤_;omega,by show 0+_≤_;omega,by show 0+_≤_;omega,by show 0+_≤_;omega,by show 0+_≤_;omega⟩;obtain⟨f1,f2,f3,f4⟩:=lR s.blocks (fe.start s.title) h3 ⟨ab0 _,fun p hp=>by cases hp⟩ PO ⟨rfl,rfl⟩ Cz;rw[h0];have Ql:c0S (s.blocks.drop (Int.toNat 0)) (.ofR (fe.start s.title))=.ofR (dh s.blocks (fe.start s.title)):=by
   rw[Hg,zr PO];rfl
  have hb:cJ s={ dh s.blocks (fe.start s.title) with f:=IX (dh s.blocks (fe.start s.title)).seen i9 (dh s.blocks (fe.start s.title)).f }:=rfl;have hc1:c1S (.ofR (dh s.blocks (fe.start s.title))) (i9.reverse.reverse.drop (Int.toNat 0))=.ofR (cJ s):=by
   have hR:=zr f2;rw[He,oh _ _ _ rfl rfl,aap,hb];generalize dh s.blocks (fe.start s.title)=T at*;have e1:(bf.ofR T).e=T.e:=congrArg fe.e hR;have e2:(bf.ofR T).seen=T.seen:=congrArg fe.seen hR;have e3:(bf.ofR T).lines=T.lines:=congrArg fe.lines hR;have e4:(bf.ofR T).names=T.names:=congrArg fe.names hR;have e5:(bf.ofR T).er=T.f:=rfl;rw[e1,e2,e3,e4,e5];rfl
  have BW:gZ (cJ s)∧pA (cJ s)∧shT (cJ s)∧kY (cJ s) 0:=by rw[hb];exact⟨f2,f3,f1,f4⟩
  obtain⟨q,q1,q2⟩:=Vw BW.1 BW.2.1 BW.2.2.1 BW.2.2.2;refine⟨q,⟨⟨by omega,by omega,h2,h3,?_⟩,⟨by decide,by decide,rfl⟩,?_⟩,q2⟩
  ·rw[zr PO];exact Cz
  ·rw[Ql,hc1];exact q1
 have bG:pA (cJ s):=by
  have Cz:kY (fe.start s.title) s.blocks.length:=⟨by show 0+_≤_;omega,by show 0+_≤_;omega,by show 0+_≤_;omega,by show 0+_≤_;omega,by show 0+_≤_;omega⟩;exact(lR s.blocks (fe.start s.title) h3 ⟨ab0 _,fun p hp=>by cases hp⟩ rfl ⟨rfl,rfl⟩ Cz).2.2.1
 have akV:(if(cJ s).f.no≠0 then JF ((cJ s).f.no,(cJ s).f.line) else match lm (cJ s) with|.ok l=>G3 { (cJ s).e with styl:=l }|.error e=>JF (e.no,e.line))=r:=by
  rw[EO] at hr;unfold QV at hr;by_cases h0:(cJ s).f.no≠0
  ·rw[if_pos h0] at hr ⊢;exact hr.2 (decide_eq_false h0)
  ·rw[if_neg h0] at hr ⊢;cases hL:lm (cJ s) with
   | ok l=>rw[hL] at hr;exact hr.1 (decide_eq_true rfl)
   | error e=>rw[hL] at hr;exact hr.2 (decide_eq_false (Le bG hL))
 have fin:∀{q},(cpB s).hit q→Mw q=(if(cJ s).f.no≠0 then JF ((cJ s).f.no,(cJ s).f.line) else match lm (cJ s) with|.ok l=>G3 { (cJ s).e with styl:=l }|.error e=>JF (e.no,e.line))→∃q,(cpB s).hit q∧∀(w:World) (S:Nat→Prop) (v:Value),XR [] w S q v→XR [] w S r v:=fun {q} h1 h2=>⟨q,h1,fun w S v hv=>by rw[←akV,←h2];exact AP hv⟩;by_cases jM:60<s.title.size
 ·obtain⟨q,q1,q2⟩:=fb 8 (by rw[if_pos (.inl jM)]);exact fin (aZ (decide_eq_true (by omega)) ⟨by decide,q1⟩) q2
 ·by_cases yS:fQ s.title.data.toList=false
  ·obtain⟨q,q1,q2⟩:=fb 8 (by rw[if_pos (.inr yS)]);exact fin (bh (decide_eq_false (by omega)) ⟨h1,aZ (by rw[yS];rfl) ⟨by decide,q1⟩⟩) q2
  ·obtain⟨q,q1,q2⟩:=fb 0 (by rw[if_neg fun h=>h.elim jM yS]);rw[vK] at q1;exact fin (bh (decide_eq_false (by omega)) ⟨h1,bh (by simpa using yS) q1⟩) q2
end Go.Proofs.YtdbpbfglhbiadaaGreatDoor
