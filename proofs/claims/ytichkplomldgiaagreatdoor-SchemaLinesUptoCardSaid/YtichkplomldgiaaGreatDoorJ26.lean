/- Lx4 Lx5 Lx6 Lx7 Snm -/
import Derived.Test.YtichkplomldgiaaGreatDoorJ25
import Derived.Test.YtichkplomldgiaaGreatDoorJ01
set_option maxHeartbeats 4000000
set_option maxRecDepth 100000
namespace Go.Proofs.YtichkplomldgiaaGreatDoor
open Go Go.RowKit
def db:Nat->List UInt8->Int->List gM×Int×Int
 | 0,_,_=>([],1,0)
 | f+1,t,n=>
  let n2:=n+((t.take (av false t)).count 10:Nat)
  let u:=t.drop (av false t)
  if u=[] then([(5,⟨#[]⟩,n2,())],0,0)
  else if(aW u).2.2=0 then([],1,n2)
  else(if(db f (u.drop (aW u).2.2) n2).2.1=0 then((aW u).1,⟨(aW u).2.1.toArray⟩,n2,())::(db f (u.drop (aW u).2.2) n2).1 else[],(db f (u.drop (aW u).2.2) n2).2.1,(db f (u.drop (aW u).2.2) n2).2.2)
theorem lj:∀(f g:Nat) (t:List UInt8) (n:Int),t.length<f->t.length<g->db f t n=db g t n
 | 0,_,_,_,h,_=>absurd h (by omega)
 | _,0,_,_,_,h=>absurd h (by omega)
 | f+1,g+1,t,n,h,h'=>by
  unfold db;by_cases h1:t.drop (av false t)=[]
  ·simp only[h1,if_true]
  ·by_cases h2:(aW (t.drop (av false t))).2.2=0
   ·simp only[h1,h2,if_false,if_true]
   ·have hl:0<(t.drop (av false t)).length:=List.length_pos_iff.2 h1;rw[List.length_drop] at hl;have e:=lj f g ((t.drop (av false t)).drop (aW (t.drop (av false t))).2.2) (n+((t.take (av false t)).count 10:Nat)) (by rw[List.length_drop,List.length_drop];omega) (by rw[List.length_drop,List.length_drop];omega);simp only[h1,h2,if_false,e]
abbrev OZ:SS:=.box 56 [.d tI,.d tI]
abbrev xd:=eX [.d tI,.d tI]
abbrev Tc:List (Nat×SS):=[(0,sS),(3,OZ),(4,.c (.own (.st 17) 100)),(5,sI)]
abbrev Oj:=LE Tc [] []
noncomputable abbrev alF:=Tryz.f57
def PG (s:ByteArray) (n:Int):Int:=n+((Lib.countByte (s.extract 0 (av false s.data.toList)).data.toList 10:Nat):Int)
def PF (s:ByteArray):ByteArray:=s.extract (av false s.data.toList) s.size
def Jp (l:List gM):Oj:=.ret (.tup [(false,[.list (.st 17) l true]),(true,[.val (.int .i64 0),.val (.int .i64 0)])]) ()
def Fv (n:Int):Oj:=.ret (.tup [(false,[.val (.slice none 0 0)]),(true,[.val (.int .i64 1),.sym (.int .i64 n)])]) ()
def Xc (a:xd) (l:List gM) (u:ByteArray) (n:Int):T Oj:=.br (u.toList==(⟨#[]⟩:ByteArray).toList) (.nd ((l.length+1)*33<=140737488355328) (.lf (Jp (((5,⟨#[]⟩,n,()):gM)::l).reverse)))
 (.nd (u.size<=20000/\1<=u.size) (.br (((aW u.data.toList).2.2:Int)==0) (.lf (Fv n)) (.nd ((l.length+1)*33<=140737488355328) (.nd (0<=((aW u.data.toList).2.2:Int)/\((aW u.data.toList).2.2:Int)<=u.size/\(u.size:Int)<=u.size)
  (.lf (.back (u.extract (aW u.data.toList).2.2 u.size,a,(((aW u.data.toList).1,⟨(aW u.data.toList).2.1.toArray⟩,n,()):gM)::l,n,())))))))
def Xe (s:ByteArray) (a:xd) (l:List gM) (n:Int):T Oj:=.nd (s.size<=9223372036854775807) (.nd ((0:Int)<=0/\(0:Int)<=av false s.data.toList/\(av false s.data.toList:Int)<=s.size) (.nd ((⟨#[10]⟩:ByteArray)=⟨#[10]⟩) (.nd (dD (PG s n)) (.nd ((0:Int)<=av false s.data.toList/\(av false s.data.toList:Int)<=s.size/\(s.size:Int)<=s.size) (Xc a l (PF s) (PG s n))))))
def By (s:ByteArray) (n:Int):List gM×Int×Int:=db (s.size+1) s.data.toList n
def Xd (s:ByteArray) (l:List gM) (n:Int):Prop:=l.length+s.size<=20000/\0<=n/\n+s.size<=20001
def Td (s:ByteArray) (l:List gM) (n:Int):T Oj:=.nd (Xd s l n) (.br ((By s n).2.1==0) (.lf (Jp (l.reverse++(By s n).1))) (.lf (Fv (By s n).2.2)))
def Tb (x:aG Tc):Nat:=ByteArray.size x.1
theorem vH:∀{l:List UInt8} {p:Nat×List UInt8},quo l=some (some p)->p.1<=l.length
 | [],p,h=>by cases h
 | c::l,p,h=>by
  rw[eO] at h;split at h
  ·injection h with h;injection h with h;subst h;exact Nat.le_add_left _ _
  split at h
  ·match l,h with
   | [],h=>cases h
   | d::m,h=>
    simp only at h;split at h
    ·match hq:quo m,h with
     | some (some q),h=>
      injection h with h;injection h with h;subst h
      have:=vH hq;simp only[List.length_cons];omega
     | some none,h=>cases h
     | none,h=>cases h
    ·cases h
  split at h
  ·match hq:quo l,h with
   | some (some q),h=>
    injection h with h;injection h with h;subst h
    have:=vH hq;simp only[List.length_cons];omega
   | some none,h=>cases h
   | none,h=>cases h
  ·cases h
theorem GM (l:List UInt8) (hl:l≠[]):(ma l).1<=l.length:=by
 have h0:0<l.length:=List.length_pos_iff.2 hl;unfold ma
 match hq:quo (l.drop 1) with
 | some (some q)=>have:=vH hq;rw[List.length_drop] at this;show q.1+1<=_;omega
 | some none=>exact Nat.zero_le _
 | none=>exact Nat.zero_le _
theorem De (l:List UInt8) (hl:l≠[]):(aW l).2.2<=l.length:=by
 have h0:0<l.length:=List.length_pos_iff.2 hl;unfold aW;have:=mL l;have:=po l;split
 ·assumption
 split
 ·assumption
 split
 ·exact GM l hl
 split
 ·exact h0
 ·exact Nat.zero_le _
theorem Np:dS (nc R9 alF) 0 0 Tc [] [] λx=>Td x.1 x.2.2.1 x.2.2.2.1:=by
 refine jF _ (nL _ _) 99 0 0 Tc [] [] (λx=>Xe x.1 x.2.1 x.2.2.1 x.2.2.2.1) Tb ?_;rintro⟨(s:ByteArray),(a:xd),(l:List gM),(n:Int),_⟩ r _ ⟨h,hr⟩;obtain⟨h1,h2,h3⟩:Xd s l n:=h;have hr:(T.br ((By s n).2.1==0) (.lf (Jp (l.reverse++(By s n).1))) (.lf (Fv (By s n).2.2))).hit r:=hr;show∃q,(Xe s a l n).hit q/\q.nx Tb (λx=>Td x.1 x.2.2.1 x.2.2.2.1) s.size r;have hb:=fx false s.data.toList;rw[dd] at hb;have eR:(PF s).data.toList=s.data.toList.drop (av false s.data.toList):=by unfold PF;rw[Q6]
 have sR:(PF s).size=s.size-av false s.data.toList:=by rw[<-dd,eR,List.length_drop,dd]
 have eN:PG s n=n+((s.data.toList.take (av false s.data.toList)).count 10:Nat):=by unfold PG;rw[Ob];rfl
 have hc:(s.data.toList.take (av false s.data.toList)).count 10<=av false s.data.toList:=Nat.le_trans List.count_le_length (by rw[List.length_take];omega);unfold By at hr;unfold db at hr;simp only[<-eR,<-eN] at hr;obtain⟨u,hu⟩:∃u,PF s=u:=⟨_,rfl⟩;obtain⟨m,hm⟩:∃m,PG s n=m:=⟨_,rfl⟩;rw[hu] at sR;rw[hm] at eN;unfold Xe;rw[hu,hm];rw[hu,hm] at hr;suffices hs:∃q,(Xc a l u m).hit q/\q.nx Tb (λx=>Td x.1 x.2.2.1 x.2.2.2.1) s.size r by
  obtain⟨q,g1,g2⟩:=hs;exact⟨q,⟨by omega,⟨by omega,by omega,by omega⟩,rfl,⟨by omega,by omega⟩,⟨by omega,by omega,by omega⟩,g1⟩,g2⟩
 unfold Xc;by_cases q1:u.data.toList=[]
 ·rw[if_pos q1] at hr;refine⟨_,aK (by rw[dX];exact decide_eq_true (Rt q1)) ⟨by omega,rfl⟩,?_⟩;have:=hr.1 rfl;rw[List.reverse_cons];exact this
 ·rw[if_neg q1] at hr;have q0:0<u.data.toList.length:=List.length_pos_iff.2 q1;rw[dd] at q0;have hx:=De u.data.toList q1;rw[dd] at hx;suffices hs:∃q:Oj,(T.br (((aW u.data.toList).2.2:Int)==0) (.lf (Fv m)) _).hit q/\q.nx Tb (λx=>Td x.1 x.2.2.1 x.2.2.2.1) s.size r by
   obtain⟨q,g1,g2⟩:=hs;exact⟨q,aQ (by rw[dX];exact decide_eq_false λe=>q1 (by rw[e])) ⟨⟨by omega,by omega⟩,g1⟩,g2⟩
  by_cases q2:(aW u.data.toList).2.2=0
  ·rw[if_pos q2] at hr;exact⟨_,aK (by rw[q2];rfl) rfl,hr.2 rfl⟩
  ·rw[if_neg q2] at hr;refine⟨_,aQ (beq_eq_false_iff_ne.2 (by omega)) ⟨by omega,⟨by omega,by omega,by omega⟩,rfl⟩,?_,?_⟩
   ·show(u.extract (aW u.data.toList).2.2 u.size).size<s.size;rw[Q6,<-dd];show(u.data.toList.drop _).length<_;rw[List.length_drop,dd];omega
   ·have e9:(u.extract (aW u.data.toList).2.2 u.size).data.toList=u.data.toList.drop (aW u.data.toList).2.2:=by rw[Q6]
    have s9:(u.extract (aW u.data.toList).2.2 u.size).size=u.size-(aW u.data.toList).2.2:=by rw[<-dd,e9,List.length_drop,dd]
    have ea:By (u.extract (aW u.data.toList).2.2 u.size) m=db s.size (u.data.toList.drop (aW u.data.toList).2.2) m:=by
     unfold By;rw[e9];exact lj _ _ _ _ (by rw[List.length_drop,dd];omega) (by rw[List.length_drop,dd];omega)
    refine⟨⟨?_,?_,?_⟩,?_⟩
    ·show l.length+1+(u.extract (aW u.data.toList).2.2 u.size).size<=20000;omega
    ·show 0<=m;omega
    ·show m+(u.extract (aW u.data.toList).2.2 u.size).size<=20001;omega
    show(T.br ((By (u.extract (aW u.data.toList).2.2 u.size) m).2.1==0) (.lf (Jp ((((aW u.data.toList).1,⟨(aW u.data.toList).2.1.toArray⟩,m,())::l).reverse++(By (u.extract (aW u.data.toList).2.2 u.size) m).1))) (.lf (Fv (By (u.extract (aW u.data.toList).2.2 u.size) m).2.2))).hit r;rw[ea,List.reverse_cons,List.append_assoc];refine⟨λe=>?_,λe=>hr.2 e⟩;have h9:=hr.1 e;rw[if_pos (eq_of_beq e)] at h9;exact h9
def Rw (q:List gM×Int×Int):T XV:=.br (q.2.1==0) (.lf (.tup [(false,[.list (.st 17) q.1 true]),(true,[.sym (.int .i64 0),.sym (.int .i64 0)])])) (.lf (.tup [(false,[.val (.slice none 0 0)]),(true,[.sym (.int .i64 1),.sym (.int .i64 q.2.2)])]))
theorem Rv:aj Tryz.prog 57 true (az [(0,sS)] λ((s:ByteArray),_)=>.nd (s.size<=20000) (Rw (db (s.size+1) s.data.toList 1))):=
 aJ (C:=R9) ((nL _ _).add 0 _ Np) true 99 [(0,sS)] (λ((s:ByteArray),_)=>.br (decide ((s.size:Int)>20000)) (.lf (.tup [(false,[.val (.slice none 0 0)]),(true,[.sym (.int .i64 7),.sym (.int .i64 0)])])) (.nd (Xd s [] 1) (Rw (db (s.size+1) s.data.toList 1)))) (λ⟨(s:ByteArray),_⟩ r _ ⟨h1,h⟩=>
  ⟨aQ (decide_eq_false (by omega)) ⟨⟨by show 0+s.size<=20000;omega,by decide,by omega⟩,h⟩,.inl rfl⟩) Tryz.func57
abbrev FK:SS:=.box 98 [.d (.list (.st 17)),.d tI,.d tI]
noncomputable def vp (t:TypeId):Option Ty:=List.lookup t [(9,.str),(3,tI),(100,.st 17),(54,tI),(98,.st 24),(129,.st 0),(67,.st 1),(53,.st 2)]
noncomputable def R4:dN Tryz.prog:=bH vp [] []
def Cd:gM:=(0,⟨#[]⟩,0,())
def uW (l:List gM):gM:=l.getD 0 Cd
def isP (x:bh) (k:Int) (s:ByteArray):Bool:=x.2.1==0&&((uW x.1).1==k&&(decide (s=⟨#[]⟩)||decide ((uW x.1).2.1=s)))
def isT (x:bh) (k:Int) (s:ByteArray):T XV:=.nd ((0:Int)<=0/\(0:Int)<(List.length x.1:Int)) (.br (x.2.1==0) (.br ((uW x.1).1==k) (.br (s.toList==(⟨#[]⟩:ByteArray).toList) (.lf (aB true)) (.lf (aB ((uW x.1).2.1.toList==s.toList)))) (.lf (aB false))) (.lf (aB false)))
theorem An:aj Tryz.prog 59 false (az [(0,.rf 24),(1,sI),(2,sS)] λ((x:bh),(k:Int),(s:ByteArray),_)=>.nd (0<List.length x.1) (.lf (aB (isP x k s)))):=
 aJ (C:=R4) (nL _ _) false 99 [(0,.rf 24),(1,sI),(2,sS)] (λ((x:bh),(k:Int),(s:ByteArray),_)=>isT x k s) (λ⟨(x:bh),(k:Int),(s:ByteArray),_⟩ r _ ⟨h1,h⟩=>by
  obtain rfl:aB (isP x k s)=r:=h;refine⟨⟨⟨by decide,by omega⟩,?_⟩,.inr rfl⟩;rw[dX,dX];unfold isP;refine⟨λe=>⟨λe2=>⟨λe3=>?_,λe3=>?_⟩,λe2=>?_⟩,λe=>?_⟩
  ·rw[e,e2,e3];rfl
  ·rw[e,e2,e3];rfl
  ·rw[e,e2];rfl
  ·rw[e];rfl) Tryz.func59
def iT (x:bh):bh:=if x.2.1=0 then(x.1,(1:Int),(uW x.1).2.2.1,()) else x
theorem wC:eB Tryz.prog 103 [0] [(0,FK)] [(0,FK)] λ((x:bh),_)=>.nd (0<List.length x.1) (.lf (.tup [],iT x,())):=
 kI (C:=R4) (nL _ _) 99 [(0,FK)] [(0,FK)] (λ((x:bh),_)=>.br (x.2.1==(0:Int)) (.nd ((0:Int)<=0/\(0:Int)<(List.length x.1:Int)) (.lf (.tup [],(x.1,(1:Int),(uW x.1).2.2.1,()),()))) (.lf (.tup [],x,()))) (λ⟨(x:bh),_⟩ r _ ⟨h1,h⟩=>by
  obtain rfl:=h;unfold iT;refine⟨λe=>⟨⟨by decide,by omega⟩,?_⟩,λe=>?_⟩
  ·rw[if_pos (eq_of_beq e)];rfl
  ·rw[if_neg (λq=>by rw[q] at e;cases e)];rfl) Tryz.func103
noncomputable def Yc:dN Tryz.prog:=bH vp [⟨_,_,_,An⟩] [⟨_,_,_,_,_,wC⟩]
def Cc (t:gM):List AV:=[.sym (.int .i64 t.1),.sym (.string t.2.1),.sym (.int .i64 t.2.2.1)]
def bN (x:bh) (k:Int) (s:ByteArray):gM:=bif isP x k s then uW x.1 else Cd
def aU (x:bh) (k:Int) (s:ByteArray):bh:=bif isP x k s&&!(k==5) then(List.drop 1 x.1,x.2) else x
abbrev Gc:List (Nat×SS):=[(0,FK),(1,sI),(2,sS)]
abbrev pO:List (Nat×SS):=[(0,FK)]
abbrev aP (r:XV) (x:bh):XV×aG pO:=(r,x,())
abbrev Rx (t:gM) (b:Bool):XV:=.tup [(true,Cc t),(false,[.sym (.bool b)])]
def TG (x:bh) (k:Int) (s:ByteArray):T (XV×aG pO):=.nd (0<List.length x.1) (.br (!isP x k s) (.lf (aP (Rx Cd false) x)) (.nd ((0:Int)<=0/\(0:Int)<(List.length x.1:Int))
 (.br (!(k==5)) (.nd ((0:Int)<=1/\(1:Int)<=(List.length x.1:Int)/\(List.length x.1:Int)<=(List.length x.1:Int)) (.lf (aP (Rx (uW x.1) true) ((List.take (List.length x.1:Int).toNat x.1).drop 1,x.2)))) (.lf (aP (Rx (uW x.1) true) x)))))
theorem qA:eB Tryz.prog 102 [0] Gc pO λ((x:bh),(k:Int),(s:ByteArray),_)=>.nd (0<List.length x.1) (.lf (aP (Rx (bN x k s) (isP x k s)) (aU x k s))):=
 kI (C:=Yc) (nL _ _) 99 Gc pO (λ((x:bh),(k:Int),(s:ByteArray),_)=>TG x k s) (λ⟨(x:bh),(k:Int),(s:ByteArray),_⟩ r _ ⟨h1,h⟩=>by
  obtain rfl:aP (Rx (bN x k s) (isP x k s)) (aU x k s)=r:=h;refine⟨h1,?_⟩;unfold bN aU;cases isP x k s with
  | false=>exact aK rfl rfl
  | true=>
   refine aQ rfl ⟨⟨by decide,by omega⟩,?_⟩;cases hk:k==5 with
   | true=>exact aQ rfl rfl
   | false=>
    refine aK rfl ⟨⟨by decide,by omega,Int.le_refl _⟩,?_⟩;rw[Int.toNat_natCast,List.take_of_length_le (Nat.le_refl _)];rfl) Tryz.func102
noncomputable def Yb:dN Tryz.prog:=bH vp [⟨_,_,_,An⟩] [⟨_,_,_,_,_,wC⟩,⟨_,_,_,_,_,qA⟩]
def aw (x:bh) (k:Int) (s:ByteArray):bh:=bif isP x k s then aU x k s else iT x
def Us (x:bh) (k:Int) (s:ByteArray):T (XV×aG pO):=.nd (0<List.length x.1) (.br (!isP x k s) (.nd (0<List.length (aU x k s).1) (.lf (aP (.agg (Cc (bN x k s))) (iT (aU x k s))))) (.lf (aP (.agg (Cc (bN x k s))) (aU x k s))))
theorem rm:eB Tryz.prog 58 [0] Gc pO λ((x:bh),(k:Int),(s:ByteArray),_)=>.nd (0<List.length x.1) (.lf (aP (.agg (Cc (bN x k s))) (aw x k s))):=
 kI (C:=Yb) (nL _ _) 99 Gc pO (λ((x:bh),(k:Int),(s:ByteArray),_)=>Us x k s) (λ⟨(x:bh),(k:Int),(s:ByteArray),_⟩ r _ ⟨h1,h⟩=>by
  obtain rfl:aP (.agg (Cc (bN x k s))) (aw x k s)=r:=h;refine⟨h1,λe=>?_,λe=>?_⟩
  ·have e:isP x k s=false:=by simpa using e
   have e2:aU x k s=x:=by unfold aU;rw[e];rfl
   rw[e2];unfold aw;rw[e];exact⟨h1,rfl⟩
  ·have e:isP x k s=true:=by simpa using e
   unfold aw;rw[e];rfl) Tryz.func58
noncomputable def R3:dN Tryz.prog:=bH vp [⟨_,_,_,An⟩] [⟨_,_,_,_,_,wC⟩,⟨_,_,_,_,_,qA⟩,⟨_,_,_,_,_,rm⟩]
def bO (x:bh):Prop:=(∃l t,x.1=l++[t]/\t.1=5)/\∀t∈x.1,t.2.1.size<=20000
theorem bO.pos {x:bh} (h:bO x):0<List.length x.1:=by obtain⟨⟨l,t,e,_⟩,_⟩:=h;rw[e];simp
theorem bO.take {x:bh} (h:bO x) (k:Int) (s:ByteArray):bO (aU x k s):=by
 unfold aU;cases e:isP x k s&&!(k==5) with
 | false=>exact h
 | true=>
  obtain⟨⟨l,t,e1,e2⟩,h2⟩:=h;simp only[isP,Bool.and_eq_true,Bool.not_eq_true',beq_iff_eq,beq_eq_false_iff_ne] at e;obtain⟨⟨_,e3,_⟩,e4⟩:=e;cases l with
  | nil=>
   rw[e1] at e3;exact absurd (e3.symm.trans e2) e4
  | cons a l=>
   refine⟨⟨l,t,by show List.drop 1 x.1=_;rw[e1];rfl,e2⟩,λu hu=>h2 u ?_⟩;exact List.mem_of_mem_drop hu
theorem bO.fail {x:bh} (h:bO x):bO (iT x):=by unfold iT;split<;>exact h
theorem bO.need {x:bh} (h:bO x) (k:Int) (s:ByteArray):bO (aw x k s):=by
 unfold aw;cases isP x k s with
 | true=>exact h.take k s
 | false=>exact h.fail
theorem bO.text {x:bh} (h:bO x) (k:Int) (s:ByteArray):(bN x k s).2.1.size<=20000:=by
 unfold bN;cases isP x k s with
 | false=>exact Nat.zero_le _
 | true=>
  obtain⟨⟨l,t,e1,_⟩,h2⟩:=h;show(uW x.1).2.1.size<=20000;refine h2 _ ?_;unfold uW;rw[e1];cases l with
  | nil=>simp
  | cons a l=>simp
abbrev nS:ByteArray:=⟨#[]⟩
abbrev TD:List (Nat×SS):=[(0,FK),(10,.c (.own tI 3)),(11,sI),(12,sI)]
abbrev Sd:=LE TD pO pO
noncomputable abbrev vlF:=Tryz.f151
def mM (x:bh) (k:Int):Sd:=.ret (aS (bN x k nS).2.1) (aU x k nS,())
def Yz (x:bh) (l:List Int) (n i:Int):T Sd:=.br (decide (i<n)) (.nd (0<=i/\i<(l.length:Int)) (.nd (0<List.length x.1) (.br (isP x (l.reverse.getD i.toNat 0) nS) (.lf (mM x (l.reverse.getD i.toNat 0))) (.nd (dD (i+1)) (.lf (.back (aU x (l.reverse.getD i.toNat 0) nS,l,n,i+1,()))))))) (.lf (.out (x,())))
def Yy (x:bh) (l:List Int) (n i:Int):T Sd:=.nd (l=[3,1]/\n=2/\0<=i/\i<=2/\0<List.length x.1) (.br (decide (i<=0)&&isP x 1 nS) (.lf (mM x 1)) (.br (decide (i<=1)&&isP x 3 nS) (.lf (mM x 3)) (.lf (.out (x,())))))
theorem qC {x:bh} {k:Int} {s:ByteArray} (h:isP x k s=false):aU x k s=x:=by unfold aU;rw[h];rfl
def OG (x:bh) (i:Int):Sd:=.back (x,([3,1]:List Int),(2:Int),i,())
theorem BR:dS (IW R3 vlF [0]) 0 0 TD pO pO λx=>Yy x.1 x.2.1 x.2.2.1 x.2.2.2.1:=by
 refine jF _ (nL _ _) 99 0 0 TD pO pO (λx=>Yz x.1 x.2.1 x.2.2.1 x.2.2.2.1) (λx=>2-Int.toNat x.2.2.2.1) ?_;rintro⟨(x:bh),(l:List Int),(n:Int),(i:Int),_⟩ r _ ⟨h,hr⟩;obtain⟨rfl,rfl,h0,h1,h2⟩:l=[3,1]/\n=2/\0<=i/\i<=2/\0<List.length x.1:=h;have hr:(T.br (decide (i<=0)&&isP x 1 nS) (.lf (mM x 1)) (.br (decide (i<=1)&&isP x 3 nS) (.lf (mM x 3)) (.lf (.out (x,()))))).hit r:=hr;show∃q,(Yz x [3,1] 2 i).hit q/\q.nx _ (λx=>Yy x.1 x.2.1 x.2.2.1 x.2.2.2.1) (2-i.toNat) r;obtain rfl|rfl|rfl:i=0\/i=1\/i=2:=by omega
 ·cases hp:isP x 1 nS with
  | true=>
   rw[hp] at hr;exact⟨mM x 1,aK rfl ⟨⟨by decide,by decide⟩,h2,aK hp rfl⟩,hr.1 rfl⟩
  | false=>
   rw[hp] at hr;refine⟨OG (aU x 1 nS) (0+1),aK rfl ⟨⟨by decide,by decide⟩,h2,aQ hp ⟨⟨by decide,by decide⟩,rfl⟩⟩,by show 2-Int.toNat (0+1)<2-Int.toNat 0;decide,?_⟩;rw[qC hp];exact⟨⟨rfl,rfl,by show(0:Int)<=0+1;decide,by show(0:Int)+1<=2;decide,h2⟩,(λe=>by cases e),λ_=>hr.2 rfl⟩
 ·have hr:=hr.2 rfl;cases hp:isP x 3 nS with
  | true=>
   rw[hp] at hr;exact⟨mM x 3,aK rfl ⟨⟨by decide,by decide⟩,h2,aK hp rfl⟩,hr.1 rfl⟩
  | false=>
   rw[hp] at hr;refine⟨OG (aU x 3 nS) (1+1),aK rfl ⟨⟨by decide,by decide⟩,h2,aQ hp ⟨⟨by decide,by decide⟩,rfl⟩⟩,by show 2-Int.toNat (1+1)<2-Int.toNat 1;decide,?_⟩;rw[qC hp];exact⟨⟨rfl,rfl,by show(0:Int)<=1+1;decide,by show(1:Int)+1<=2;decide,h2⟩,(λe=>by cases e),λ_=>⟨(λe=>by cases e),λ_=>hr.2 rfl⟩⟩
 ·exact⟨.out (x,()),aQ rfl rfl,(hr.2 rfl).2 rfl⟩
abbrev o6:ByteArray:=⟨#[47]⟩
def oK (x:bh):ByteArray×bh:=
 let y:=aU (aw x 2 nS) 4 o6
 bif isP (aw x 2 nS) 4 o6 then((bN x 2 nS).2.1++(o6++(bN y 2 nS).2.1),aw y 2 nS) else((bN x 2 nS).2.1,y)
def cF (x:bh):ByteArray×bh:=bif isP x 1 nS then((bN x 1 nS).2.1,aU x 1 nS) else bif isP x 3 nS then((bN x 3 nS).2.1,aU x 3 nS) else oK x
def Yx (x:bh):T (XV×aG pO):=.nd (0<List.length x.1) (.nd (0<List.length (aw x 2 nS).1) (.br (isP (aw x 2 nS) 4 o6) (.nd (0<List.length (aU (aw x 2 nS) 4 o6).1) (.nd (o6.size+(bN (aU (aw x 2 nS) 4 o6) 2 nS).2.1.size<=9223372036854775807) (.nd ((bN x 2 nS).2.1.size+(o6++(bN (aU (aw x 2 nS) 4 o6) 2 nS).2.1).size<=9223372036854775807)
 (.lf (aP (aS ((bN x 2 nS).2.1++(o6++(bN (aU (aw x 2 nS) 4 o6) 2 nS).2.1))) (aw (aU (aw x 2 nS) 4 o6) 2 nS)))))) (.lf (aP (aS (bN x 2 nS).2.1) (aU (aw x 2 nS) 4 o6)))))
def TE (x:bh):T (XV×aG pO):=.nd (([1,3]:List Int).reverse=[3,1]/\((([1,3]:List Int).reverse.length:Nat):Int)=2/\(0:Int)<=0/\(0:Int)<=2/\0<List.length x.1) (.br (isP x 1 nS) (.lf (aP (aS (bN x 1 nS).2.1) (aU x 1 nS))) (.br (isP x 3 nS) (.lf (aP (aS (bN x 3 nS).2.1) (aU x 3 nS))) (Yx x)))
theorem F8:eB Tryz.prog 151 [0] pO pO λ((x:bh),_)=>.nd (bO x) (.lf (aP (aS (cF x).1) (cF x).2)):=
 kI (C:=R3) ((nL _ _).add 0 _ BR) 99 pO pO (λ((x:bh),_)=>TE x) (λ⟨(x:bh),_⟩ r _ ⟨h,hr⟩=>by
  obtain rfl:aP (aS (cF x).1) (cF x).2=r:=hr;refine⟨⟨rfl,rfl,by decide,by decide,h.pos⟩,?_⟩;unfold cF;refine⟨λe=>by rw[e];rfl,λe=>?_⟩;rw[e];refine⟨λe=>by rw[e];rfl,λe=>?_⟩;rw[e];show(Yx x).hit (aP (aS (oK x).1) (oK x).2);unfold oK;have h1:=h.need 2 nS;have h2:=h1.take 4 o6;have t1:=h.text 2 nS;have t2:=h2.text 2 nS;refine⟨h.pos,h1.pos,λe=>⟨h2.pos,?_,?_,by rw[e];rfl⟩,λe=>by rw[e];rfl⟩
  ·show 1+_<=_;omega
  ·rw[ByteArray.size_append];show _+(1+_)<=_;omega) Tryz.func151
theorem bO.val {x:bh} (h:bO x):bO (cF x).2/\(cF x).1.size<=40001:=by
 have h1:=h.need 2 nS;have h2:=h1.take 4 o6;have t1:=h.text 2 nS;have t2:=h2.text 2 nS;unfold cF;cases isP x 1 nS with
 | true=>exact⟨h.take 1 nS,Nat.le_trans (h.text 1 nS) (by decide)⟩
 | false=>
  cases isP x 3 nS with
  | true=>exact⟨h.take 3 nS,Nat.le_trans (h.text 3 nS) (by decide)⟩
  | false=>
   show bO (oK x).2/\(oK x).1.size<=40001;unfold oK;cases isP (aw x 2 nS) 4 o6 with
   | true=>
    refine⟨h2.need 2 nS,?_⟩;show((bN x 2 nS).2.1++(o6++_)).size<=_;rw[ByteArray.size_append,ByteArray.size_append];show _+(1+_)<=_;omega
   | false=>exact⟨h2,Nat.le_trans t1 (by decide)⟩
noncomputable def Ya:dN Tryz.prog:=bH vp [⟨_,_,_,An⟩] [⟨_,_,_,_,_,qA⟩,⟨_,_,_,_,_,rm⟩,⟨_,_,_,_,_,F8⟩]
abbrev jM:ByteArray:=⟨#[44]⟩
def bc:Nat->bh->List ByteArray×bh
 | 0,x=>([],x)
 | f+1,x=>bif isP x 4 jM then((cF (aU x 4 jM)).1::(bc f (cF (aU x 4 jM)).2).1,(bc f (cF (aU x 4 jM)).2).2) else([],x)
theorem rM {x:bh} {k:Int} {s:ByteArray} (hk:k≠0) (h:isP x k s=true):0<List.length x.1:=by
 obtain⟨l,y⟩:=x;cases l with
 | nil=>
  simp only[isP,Bool.and_eq_true,beq_iff_eq] at h;exact absurd h.2.1.symm hk
 | cons a l=>exact Nat.zero_lt_succ _
theorem take_len (x:bh) (k:Int) (s:ByteArray):List.length (aU x k s).1<=List.length x.1:=by
 unfold aU;cases isP x k s&&!(k==5) with
 | true=>show List.length (List.drop 1 x.1)<=_;rw[List.length_drop];omega
 | false=>exact Nat.le_refl _
theorem mh {x:bh} {k:Int} {s:ByteArray} (h0:k≠0) (h5:k≠5) (h:isP x k s=true):List.length (aU x k s).1<List.length x.1:=by
 have:=rM h0 h;unfold aU;rw[h,beq_eq_false_iff_ne.2 h5];show List.length (List.drop 1 x.1)<_;rw[List.length_drop];omega
theorem EG (x:bh):List.length (iT x).1=List.length x.1:=by unfold iT;split<;>rfl
theorem ck (x:bh) (k:Int) (s:ByteArray):List.length (aw x k s).1<=List.length x.1:=by
 unfold aw;cases isP x k s with
 | true=>exact take_len x k s
 | false=>exact Nat.le_of_eq (EG x)
theorem jg (x:bh):List.length (cF x).2.1<=List.length x.1:=by
 have h1:=ck x 2 nS;have h2:=Nat.le_trans (take_len (aw x 2 nS) 4 o6) h1;unfold cF;cases isP x 1 nS with
 | true=>exact take_len _ _ _
 | false=>
  cases isP x 3 nS with
  | true=>exact take_len _ _ _
  | false=>
   show List.length (oK x).2.1<=_;unfold oK;cases isP (aw x 2 nS) 4 o6 with
   | true=>exact Nat.le_trans (ck _ _ _) h2
   | false=>exact h2
theorem ve:∀(f g:Nat) (x:bh),List.length x.1<=f->List.length x.1<=g->bc f x=bc g x:=by
 intro f;induction f with
 | zero=>
  intro g x h1 h2;cases g with
  | zero=>rfl
  | succ g=>
   unfold bc;cases e:isP x 4 jM with
   | true=>have:=rM (by decide) e;omega
   | false=>rfl
 | succ f ih=>
  intro g x h1 h2;cases g with
  | zero=>
   unfold bc;cases e:isP x 4 jM with
   | true=>have:=rM (by decide) e;omega
   | false=>rfl
  | succ g=>
   unfold bc;cases e:isP x 4 jM with
   | true=>
    have h3:=mh (by decide) (by decide) e;have h4:=jg (aU x 4 jM);rw[ih g (cF (aU x 4 jM)).2 (by omega) (by omega)]
   | false=>rfl
theorem iG:∀(f:Nat) {x:bh},bO x->bO (bc f x).2/\List.length (bc f x).2.1+(bc f x).1.length<=List.length x.1
 | 0,x,h=>⟨h,by simp[bc]⟩
 | f+1,x,h=>by
  unfold bc;cases e:isP x 4 jM with
  | true=>
   have h3:=mh (by decide) (by decide) e;have h4:=jg (aU x 4 jM);obtain⟨h5,h6⟩:=iG f (h.take 4 jM).val.1;refine⟨h5,?_⟩;show List.length (bc f (cF (aU x 4 jM)).2).2.1+((bc f (cF (aU x 4 jM)).2).1.length+1)<=_;omega
  | false=>exact⟨h,by simp⟩
def MP (t:Nat) (st:bT):bT:=match st.env.lookup t with
 | some (.one (.ptr o _))=>match st.heap[o]? with
  | some (.cells _ cs)=>IL cs st
  | _=>st
 | _=>st
def MI (t:Nat):oY:=⟨λst=>.lf (MP t st),λm cx st bG a w h hs=>by
 obtain rfl:MP t st=bG:=h;unfold MP;split
 ·split
  ·exact sf hs
  ·exact hs
 ·exact hs⟩
abbrev TV:SS:=.box 129 [.d .str,.own .str 9,.d tI]
abbrev sFz:SS:=.box 129 [.d .str,.d (.list .str),.d tI]
abbrev Oa:List (Nat×SS):=[(0,FK),(2,sFz),(4,TV)]
abbrev WC:=LE Oa Oa pO
noncomputable abbrev ZX:=Tryz.f104
abbrev FD:=ByteArray×List ByteArray×Int×Unit
def p9 (x:bh) (z f:FD):WC:=.out (x,z,f,())
def WA (x:bh) (z f:FD):T WC:=.nd (0<List.length x.1) (.br (!isP x 4 jM) (.lf (p9 (aU x 4 jM) z f)) (.nd (bO (aU x 4 jM)) (.nd ((f.2.1.length+1)*17<=140737488355328) (.lf (.back ((cF (aU x 4 jM)).2,z,(f.1,(cF (aU x 4 jM)).1::f.2.1,f.2.2),()))))))
def ZW (x:bh) (z f:FD):T WC:=.nd (bO x/\f.2.1.length+List.length x.1<=30000) (.lf (p9 (bc (List.length x.1) x).2 z (f.1,(bc (List.length x.1) x).1.reverse++f.2.1,f.2.2)))
noncomputable abbrev QZ:Rg Tryz.prog ZX.ntmps:=nH (IW Ya ZX [0]) [] [(6,MI 4)]
theorem EE:dS QZ 0 0 Oa Oa pO λx=>ZW x.1 x.2.1 x.2.2.1:=by
 refine jF _ (nL _ _) 99 0 0 Oa Oa pO (λx=>WA x.1 x.2.1 x.2.2.1) (λx=>List.length x.1.1) ?_;rintro⟨(x:bh),(z:FD),(f:FD),_⟩ r _ ⟨h,hr⟩;obtain⟨h1,h2⟩:bO x/\f.2.1.length+List.length x.1<=30000:=h;obtain rfl:p9 (bc (List.length x.1) x).2 z (f.1,(bc (List.length x.1) x).1.reverse++f.2.1,f.2.2)=r:=hr;show∃q,(WA x z f).hit q/\q.nx _ (λx=>ZW x.1 x.2.1 x.2.2.1) (List.length x.1) _;obtain⟨n,hn⟩:∃n,List.length x.1=n+1:=⟨List.length x.1-1,by have:=h1.pos;omega⟩;rw[hn];unfold bc;cases e:isP x 4 jM with
 | false=>exact⟨p9 (aU x 4 jM) z f,⟨h1.pos,aK (by rw[e];rfl) rfl⟩,by rw[qC e];rfl⟩
 | true=>
  have h3:=mh (by decide) (by decide) e;have h4:=jg (aU x 4 jM);have h5:=(h1.take 4 jM).val.1;have h6:=h1.take 4 jM;unfold WA;obtain⟨⟨v,y⟩,hy⟩:∃y,cF (aU x 4 jM)=y:=⟨_,rfl⟩;rw[hy] at h4 h5 ⊢;have h4:List.length y.1<=_:=h4;refine⟨.back (y,z,(f.1,v::f.2.1,f.2.2),()),⟨h1.pos,aQ (by rw[e];rfl) ⟨h6,by omega,rfl⟩⟩,by show List.length y.1<_;omega,⟨h5,?_⟩,?_⟩
  ·show f.2.1.length+1+List.length y.1<=30000;omega
  ·show p9 (bc (List.length y.1) y).2 z (f.1,(bc (List.length y.1) y).1.reverse++(v::f.2.1),f.2.2)=p9 (bc n y).2 z (f.1,(v::(bc n y).1).reverse++f.2.1,f.2.2);rw[ve _ n _ (Nat.le_refl _) (by omega),List.reverse_cons,List.append_assoc];rfl
abbrev KT:ByteArray:=⟨#[59]⟩
def bL (x:bh):ay×bh:=
 (⟨(bN x 1 nS).2.1,(cF (aw x 1 nS)).1::(bc (List.length (cF (aw x 1 nS)).2.1) (cF (aw x 1 nS)).2).1,(bN x 1 nS).2.2.1⟩,aw (bc (List.length (cF (aw x 1 nS)).2.1) (cF (aw x 1 nS)).2).2 4 KT)
abbrev aFd (f:ay):XV:=.agg [.sym (.string f.key),.list .str f.vals true,.sym (.int .i64 f.line)]
def QX (t:gM) (v:ByteArray×bh):T (XV×aG pO):=.nd (bO v.2/\([v.1]:List ByteArray).reverse.length+List.length v.2.1<=30000) (.nd (0<List.length (bc (List.length v.2.1) v.2).2.1)
 (.lf (aP (.agg [.sym (.string t.2.1),.list .str ((bc (List.length v.2.1) v.2).1.reverse++([v.1]:List ByteArray).reverse).reverse (!((bc (List.length v.2.1) v.2).1.reverse++([v.1]:List ByteArray).reverse).isEmpty),.sym (.int .i64 t.2.2.1)]) (aw (bc (List.length v.2.1) v.2).2 4 KT))))
def MR (x:bh):T (XV×aG pO):=.nd (0<List.length x.1) (.nd (bO (aw x 1 nS)) (QX (bN x 1 nS) (cF (aw x 1 nS))))
theorem IR:eB Tryz.prog 104 [0] pO pO λ((x:bh),_)=>.nd (bO x/\List.length x.1<=20001) (.lf (aP (aFd (bL x).1) (bL x).2)):=
 wI (R:=QZ) ((nL _ _).add 0 _ EE) 99 pO pO (λ((x:bh),_)=>MR x) (λ⟨(x:bh),_⟩ r _ ⟨⟨h,hl⟩,hr⟩=>by
  obtain rfl:aP (aFd (bL x).1) (bL x).2=r:=hr;show(MR x).hit _;have h1:=h.need 1 nS;have l1:=ck x 1 nS;have l2:=jg (aw x 1 nS);unfold MR bL QX;obtain⟨v,hv⟩:∃v,cF (aw x 1 nS)=v:=⟨_,rfl⟩;have h2:=h1.val.1;rw[hv] at h2 l2 ⊢;have h3:=(iG (List.length v.2.1) h2).1;refine⟨h.pos,h1,⟨h2,?_⟩,h3.pos,?_⟩
  ·show 1+_<=30000;omega
  ·have e:((bc (List.length v.2.1) v.2).1.reverse++[v.1]).reverse=v.1::(bc (List.length v.2.1) v.2).1:=by simp
   show aP (.agg [_,.list .str ((bc (List.length v.2.1) v.2).1.reverse++[v.1]).reverse (!((bc (List.length v.2.1) v.2).1.reverse++[v.1]).isEmpty),_]) _=_;rw[e,show((bc (List.length v.2.1) v.2).1.reverse++[v.1]).isEmpty=false by rw[List.isEmpty_eq_false_iff];simp];rfl) Tryz.func104
theorem bO.field {x:bh} (h:bO x):bO (bL x).2:=(iG _ (h.need 1 nS).val.1).1.need 4 KT
theorem AO {x:bh} (h:bO x):List.length (bL x).2.1<=List.length (aw x 1 nS).1:=by
 have h1:=jg (aw x 1 nS);have h2:=(iG (List.length (cF (aw x 1 nS)).2.1) (h.need 1 nS).val.1).2;have h3:=ck (bc (List.length (cF (aw x 1 nS)).2.1) (cF (aw x 1 nS)).2).2 4 KT;show List.length (aw _ 4 KT).1<=_;omega
theorem yd {x:bh} {k:Int} {s:ByteArray} (h0:k≠0) (h5:k≠5) (h:isP x k s=true):List.length (aw x k s).1<List.length x.1:=by
 unfold aw;rw[h];exact mh h0 h5 h
def bI {α:Type} (g:bh->α×bh):Nat->bh->List α×bh
 | 0,x=>([],x)
 | f+1,x=>bif isP x 1 nS then((g x).1::(bI g f (g x).2).1,(bI g f (g x).2).2) else([],x)
structure Jy {α:Type} (g:bh->α×bh):Prop where
 inv:∀{x:bh},bO x->bO (g x).2
 len:∀{x:bh},bO x->isP x 1 nS=true->List.length (g x).2.1<List.length x.1
section
variable {α:Type} {g:bh->α×bh} (G:Jy g)
include G
theorem py:∀(f h:Nat) {x:bh},bO x->List.length x.1<=f->List.length x.1<=h->bI g f x=bI g h x:=by
 intro f;induction f with
 | zero=>intro h x hx h1 _;have:=hx.pos;omega
 | succ f ih=>
  intro h x hx h1 h2;cases h with
  | zero=>have:=hx.pos;omega
  | succ h=>
   unfold bI;cases e:isP x 1 nS with
   | true=>have:=G.len hx e;rw[ih h (G.inv hx) (by omega) (by omega)]
   | false=>rfl
theorem fA:∀(f:Nat) {x:bh},bO x->bO (bI g f x).2/\List.length (bI g f x).2.1+(bI g f x).1.length<=List.length x.1
 | 0,x,h=>⟨h,by simp[bI]⟩
 | f+1,x,h=>by
  unfold bI;cases e:isP x 1 nS with
  | true=>
   have h3:=G.len h e;obtain⟨h5,h6⟩:=fA f (G.inv h);refine⟨h5,?_⟩;show List.length (bI g f (g x).2).2.1+((bI g f (g x).2).1.length+1)<=_;omega
  | false=>exact⟨h,by simp⟩
end
theorem dx:Jy bL:=⟨λh=>h.field,λ{x} h e=>Nat.lt_of_le_of_lt (AO h) (yd (by decide) (by decide) e)⟩
noncomputable def X9:dN Tryz.prog:=bH vp [⟨_,_,_,An⟩] [⟨_,_,_,_,_,qA⟩,⟨_,_,_,_,_,rm⟩,⟨_,_,_,_,_,IR⟩]
abbrev T0:SS:=.box 67 [.d .str,.d .str,.d (.list (.st 0)),.d tI]
abbrev TZ:SS:=.box 67 [.d .str,.d .str,.own (.st 0) 129,.d tI]
abbrev Be:List (Nat×SS):=[(0,FK),(2,T0),(6,TZ)]
abbrev W5:=LE Be Be pO
noncomputable abbrev blF:=Tryz.f60
abbrev BK:=ByteArray×ByteArray×List ay×Int×Unit
noncomputable abbrev Rp:Rg Tryz.prog blF.ntmps:=nH (IW X9 blF [0]) [] [(7,MI 6)]
def qt (x:bh) (z f:BK):W5:=.out (x,z,f,())
def WZ (x:bh) (z f:BK):T W5:=.nd (0<List.length x.1) (.br (isP x 1 nS) (.nd (bO x/\List.length x.1<=20001) (.nd ((f.2.2.1.length+1)*49<=140737488355328) (.lf (.back ((bL x).2,z,(f.1,f.2.1,(bL x).1::f.2.2.1,f.2.2.2),()))))) (.lf (qt x z f)))
def bkG (x:bh) (z f:BK):T W5:=.nd (bO x/\List.length x.1<=20001/\f.2.2.1.length+List.length x.1<=30000) (.lf (qt (bI bL (List.length x.1) x).2 z (f.1,f.2.1,(bI bL (List.length x.1) x).1.reverse++f.2.2.1,f.2.2.2)))
theorem Fe:dS Rp 0 0 Be Be pO λx=>bkG x.1 x.2.1 x.2.2.1:=by
 refine jF _ (nL _ _) 99 0 0 Be Be pO (λx=>WZ x.1 x.2.1 x.2.2.1) (λx=>List.length x.1.1) ?_;rintro⟨(x:bh),(z:BK),(f:BK),_⟩ r _ ⟨h,hr⟩;obtain⟨h1,h2,h3⟩:bO x/\List.length x.1<=20001/\f.2.2.1.length+List.length x.1<=30000:=h;obtain rfl:qt (bI bL (List.length x.1) x).2 z (f.1,f.2.1,(bI bL (List.length x.1) x).1.reverse++f.2.2.1,f.2.2.2)=r:=hr;show∃q,(WZ x z f).hit q/\q.nx _ (λx=>bkG x.1 x.2.1 x.2.2.1) (List.length x.1) _;obtain⟨n,hn⟩:∃n,List.length x.1=n+1:=⟨List.length x.1-1,by have:=h1.pos;omega⟩;rw[hn];unfold bI;cases e:isP x 1 nS with
 | false=>exact⟨qt x z f,⟨h1.pos,aQ e rfl⟩,rfl⟩
 | true=>
  have h4:=dx.len h1 e;have h5:=dx.inv h1;unfold WZ;obtain⟨⟨v,y⟩,hy⟩:∃y,bL x=y:=⟨_,rfl⟩;rw[hy] at h4 h5 ⊢;have h4:List.length y.1<_:=h4;refine⟨.back (y,z,(f.1,f.2.1,v::f.2.2.1,f.2.2.2),()),⟨h1.pos,aK e ⟨⟨h1,by omega⟩,by omega,rfl⟩⟩,by show List.length y.1<_;omega,⟨h5,?_,?_⟩,?_⟩
  ·show List.length y.1<=20001;omega
  ·show f.2.2.1.length+1+List.length y.1<=30000;omega
  ·show qt (bI bL (List.length y.1) y).2 z (f.1,f.2.1,(bI bL (List.length y.1) y).1.reverse++(v::f.2.2.1),f.2.2.2)=qt (bI bL n y).2 z (f.1,f.2.1,(v::(bI bL n y).1).reverse++f.2.2.1,f.2.2.2);rw[py dx _ n h5 (Nat.le_refl _) (by omega),List.reverse_cons,List.append_assoc];rfl
abbrev Lo:ByteArray:=⟨#[123]⟩
abbrev Bw:ByteArray:=⟨#[125]⟩
def iB (x:bh):bh:=aw (aU (aw x 1 nS) 1 nS) 4 Lo
def Dn (y:bh):List ay×bh:=bI bL (List.length y.1) y
def cN (x:bh):ao×bh:=(⟨(bN x 1 nS).2.1,(bN (aw x 1 nS) 1 nS).2.1,(Dn (iB x)).1,(bN x 1 nS).2.2.1⟩,aw (Dn (iB x)).2 4 Bw)
abbrev aBk (b:ao):XV:=.agg [.sym (.string b.kind),.sym (.string b.name),.list (.st 0) b.fields (!b.fields.isEmpty),.sym (.int .i64 b.line)]
def WW (t u:gM) (y:bh):T (XV×aG pO):=.nd (bO y/\List.length y.1<=20001/\([]:List ay).length+List.length y.1<=30000) (.nd (0<List.length (Dn y).2.1)
 (.lf (aP (.agg [.sym (.string t.2.1),.sym (.string u.2.1),.list (.st 0) ((Dn y).1.reverse++([]:List ay)).reverse (!((Dn y).1.reverse++([]:List ay)).isEmpty),.sym (.int .i64 t.2.2.1)]) (aw (Dn y).2 4 Bw))))
def Rn (x:bh):T (XV×aG pO):=.nd (0<List.length x.1) (.nd (0<List.length (aw x 1 nS).1) (.nd (0<List.length (aU (aw x 1 nS) 1 nS).1) (WW (bN x 1 nS) (bN (aw x 1 nS) 1 nS) (iB x))))
theorem ot (x:bh):List.length (iB x).1<=List.length (aw x 1 nS).1:=Nat.le_trans (ck _ _ _) (take_len _ _ _)
theorem bO.blk {x:bh} (h:bO x):bO (iB x):=((h.need 1 nS).take 1 nS).need 4 Lo
theorem Je:eB Tryz.prog 60 [0] pO pO λ((x:bh),_)=>.nd (bO x/\List.length x.1<=20001) (.lf (aP (aBk (cN x).1) (cN x).2)):=
 wI (R:=Rp) ((nL _ _).add 0 _ Fe) 99 pO pO (λ((x:bh),_)=>Rn x) (λ⟨(x:bh),_⟩ r _ ⟨⟨h,hl⟩,hr⟩=>by
  obtain rfl:aP (aBk (cN x).1) (cN x).2=r:=hr;show(Rn x).hit _;have l1:=Nat.le_trans (ot x) (ck x 1 nS);have h1:=(fA dx (List.length (iB x).1) h.blk).1;refine⟨h.pos,(h.need 1 nS).pos,((h.need 1 nS).take 1 nS).pos,⟨h.blk,by omega,by show 0+_<=30000;omega⟩,h1.pos,?_⟩;unfold cN;rw[List.append_nil,List.reverse_reverse,List.isEmpty_reverse];rfl) Tryz.func60
theorem eG:Jy cN:=⟨λh=>(fA dx _ h.blk).1.need 4 Bw,λ{x} h e=>by
 have h1:=yd (x:=x) (s:=nS) (by decide) (by decide) e;have h2:=ot x;have h3:=(fA dx (List.length (iB x).1) h.blk).2;have h4:=ck (Dn (iB x)).2 4 Bw;show List.length (aw (Dn (iB x)).2 4 Bw).1<_;have h5:List.length (Dn (iB x)).2.1+(Dn (iB x)).1.length<=_:=h3;omega⟩
noncomputable def X8:dN Tryz.prog:=bH vp [⟨_,_,_,An⟩,⟨_,_,_,Rv⟩] [⟨_,_,_,_,_,rm⟩,⟨_,_,_,_,_,Je⟩]
abbrev TU:SS:=.box 53 [.d .str,.d (.list (.st 1))]
abbrev TT:SS:=.box 53 [.d .str,.own (.st 1) 67]
abbrev NP:List (Nat×SS):=[(2,TU),(3,OZ),(6,FK),(7,TT)]
abbrev Uf:=LE NP NP []
noncomputable abbrev YM:=Tryz.f27
abbrev uL:=ByteArray×List ao×Unit
def pk (z:uL) (a:xd) (x:bh) (f:uL):Uf:=.out (z,a,x,f,())
noncomputable abbrev Pn:Rg Tryz.prog YM.ntmps:=nH (nc X8 YM) [] [(11,MI 7)]
def Ug (z:uL) (a:xd) (x:bh) (f:uL):T Uf:=.nd (0<List.length x.1) (.br (isP x 1 nS) (.nd (bO x/\List.length x.1<=20001) (.nd ((f.2.1.length+1)*65<=140737488355328) (.lf (.back (z,a,(cN x).2,(f.1,(cN x).1::f.2.1,()),()))))) (.lf (pk z a x f)))
def sP (y:bh):List ao×bh:=bI cN (List.length y.1) y
def YL (z:uL) (a:xd) (x:bh) (f:uL):T Uf:=.nd (bO x/\List.length x.1<=20001/\f.2.1.length+List.length x.1<=30000) (.lf (pk z a (sP x).2 (f.1,(sP x).1.reverse++f.2.1,())))
theorem C5:dS Pn 0 0 NP NP [] λx=>YL x.1 x.2.1 x.2.2.1 x.2.2.2.1:=by
 refine jF _ (nL _ _) 99 0 0 NP NP [] (λx=>Ug x.1 x.2.1 x.2.2.1 x.2.2.2.1) (λx=>List.length x.2.2.1.1) ?_;rintro⟨(z:uL),(a:xd),(x:bh),(f:uL),_⟩ r _ ⟨h,hr⟩;obtain⟨h1,h2,h3⟩:bO x/\List.length x.1<=20001/\f.2.1.length+List.length x.1<=30000:=h;obtain rfl:pk z a (sP x).2 (f.1,(sP x).1.reverse++f.2.1,())=r:=hr;show∃q,(Ug z a x f).hit q/\q.nx _ (λx=>YL x.1 x.2.1 x.2.2.1 x.2.2.2.1) (List.length x.1) _;obtain⟨n,hn⟩:∃n,List.length x.1=n+1:=⟨List.length x.1-1,by have:=h1.pos;omega⟩;unfold sP;rw[hn];unfold bI;cases e:isP x 1 nS with
 | false=>exact⟨pk z a x f,⟨h1.pos,aQ e rfl⟩,rfl⟩
 | true=>
  have h4:=eG.len h1 e;have h5:=eG.inv h1;unfold Ug;obtain⟨⟨v,y⟩,hy⟩:∃y,cN x=y:=⟨_,rfl⟩;rw[hy] at h4 h5 ⊢;have h4:List.length y.1<_:=h4;refine⟨.back (z,a,y,(f.1,v::f.2.1,()),()),⟨h1.pos,aK e ⟨⟨h1,by omega⟩,by omega,rfl⟩⟩,by show List.length y.1<_;omega,⟨h5,?_,?_⟩,?_⟩
  ·show List.length y.1<=20001;omega
  ·show f.2.1.length+1+List.length y.1<=30000;omega
  ·show pk z a (bI cN (List.length y.1) y).2 (f.1,(bI cN (List.length y.1) y).1.reverse++(v::f.2.1),())=pk z a (bI cN n y).2 (f.1,(v::(bI cN n y).1).reverse++f.2.1,());rw[py eG _ n h5 (Nat.le_refl _) (by omega),List.reverse_cons,List.append_assoc];rfl
abbrev nZ:ByteArray:=⟨#[101,108,101,99,116,105,111,110]⟩
theorem qZ:∀{l:List UInt8} {p:Nat×List UInt8},quo l=some (some p)->p.2.length<=l.length
 | [],p,h=>by cases h
 | c::l,p,h=>by
  rw[eO] at h;split at h
  ·injection h with h;injection h with h;subst h;exact Nat.zero_le _
  split at h
  ·match l,h with
   | [],h=>cases h
   | d::m,h=>
    simp only at h;split at h
    ·match hq:quo m,h with
     | some (some q),h=>
      injection h with h;injection h with h;subst h
      have:=qZ hq;simp only[List.length_cons];omega
     | some none,h=>cases h
     | none,h=>cases h
    ·cases h
  split at h
  ·match hq:quo l,h with
   | some (some q),h=>
    injection h with h;injection h with h;subst h
    have:=qZ hq;simp only[List.length_cons];omega
   | some none,h=>cases h
   | none,h=>cases h
  ·cases h
theorem vQ (l:List UInt8):(aW l).2.1.length<=l.length:=by
 unfold aW;split
 ·exact(List.take_sublist _ _).length_le
 split
 ·exact(List.take_sublist _ _).length_le
 split
 ·show(ma l).2.length<=_;unfold ma
  match hq:quo (l.drop 1) with
  | some (some q)=>have:=qZ hq;rw[List.length_drop] at this;show q.2.length<=_;omega
  | some none=>exact Nat.zero_le _
  | none=>exact Nat.zero_le _
 split
 ·exact(List.take_sublist _ _).length_le
 ·exact Nat.zero_le _
theorem ky:∀(f:Nat) (t:List UInt8) (n:Int),t.length<=20000->(db f t n).2.1=0->bO ((db f t n).1,(0:Int),(0:Int),())/\(db f t n).1.length<=t.length+1
 | 0,_,_,_,h=>by cases h
 | f+1,t,n,hl,h=>by
  unfold db at h ⊢;by_cases h1:t.drop (av false t)=[]
  ·simp only[h1,if_true];exact⟨⟨⟨[],_,rfl,rfl⟩,λu hu=>by rw[List.mem_singleton.1 hu];exact Nat.zero_le _⟩,by simp⟩
  ·by_cases h2:(aW (t.drop (av false t))).2.2=0
   ·simp only[h1,h2,if_false,if_true] at h;exact absurd h (by decide)
   ·have hd:0<(t.drop (av false t)).length:=List.length_pos_iff.2 h1;rw[List.length_drop] at hd;obtain⟨r,hr⟩:∃r,db f ((t.drop (av false t)).drop (aW (t.drop (av false t))).2.2) (n+((t.take (av false t)).count 10:Nat))=r:=⟨_,rfl⟩;have ih:=ky f ((t.drop (av false t)).drop (aW (t.drop (av false t))).2.2) (n+((t.take (av false t)).count 10:Nat)) (by rw[List.length_drop,List.length_drop];omega);simp only[h1,h2,if_false] at h ⊢;rw[hr] at ih h ⊢;have h:r.2.1=0:=h;obtain⟨⟨⟨l,e,q1,q2⟩,q3⟩,q4⟩:=ih h;rw[if_pos h];refine⟨⟨⟨_::l,e,congrArg (_::·) q1,q2⟩,λu hu=>?_⟩,?_⟩
    ·rcases List.mem_cons.1 hu with rfl|hu
     ·have:=vQ (t.drop (av false t));rw[List.length_drop] at this;show(aW (t.drop (av false t))).2.1.length<=20000;omega
     ·exact q3 u hu
    ·rw[List.length_drop,List.length_drop] at q4;show r.1.length+1<=_;omega
abbrev Pm (e n:Int):XV:=.tup [(true,[.sym (.string nS),.val (.slice none 0 0)]),(true,[.sym (.int .i64 e),.sym (.int .i64 n)])]
abbrev Te (s:aX):XV:=.tup [(true,[.sym (.string s.title),.list (.st 1) s.blocks (!s.blocks.isEmpty)]),(true,[.sym (.int .i64 0),.sym (.int .i64 0)])]
def paY (t:gM) (y:bh):T XV:=.nd (bO y/\List.length y.1<=20001/\([]:List ao).length+List.length y.1<=30000) (.nd (0<List.length (sP y).2.1) (.nd (0<List.length (aw (sP y).2 4 Bw).1) (.br (!((aw (aw (sP y).2 4 Bw) 5 nS).2.1==0)) (.lf (Pm (aw (aw (sP y).2 4 Bw) 5 nS).2.1 (aw (aw (sP y).2 4 Bw) 5 nS).2.2.1))
 (.lf (.tup [(true,[.sym (.string t.2.1),.list (.st 1) ((sP y).1.reverse++([]:List ao)).reverse (!((sP y).1.reverse++([]:List ao)).isEmpty)]),(true,[.sym (.int .i64 0),.sym (.int .i64 0)])])))))
def YJ (x:bh):T XV:=.nd (0<List.length x.1) (.nd (0<List.length (aw x 1 nZ).1) (.nd (0<List.length (aw (aw x 1 nZ) 3 nS).1) (paY (bN (aw x 1 nZ) 3 nS) (aw (aw (aw x 1 nZ) 3 nS) 4 Lo))))
def YK (q:List gM×Int×Int):T XV:=.br (q.2.1==0) (.br false (.lf (Pm 0 0)) (YJ (q.1,(0:Int),(0:Int),()))) (.br true (.lf (Pm 1 q.2.2)) (YJ ([],(0:Int),(0:Int),())))
def m8 (l:List gM):bh:=aw (aw (aw (l,(0:Int),(0:Int),()) 1 nZ) 3 nS) 4 Lo
def jr (l:List gM):bh:=aw (aw (sP (m8 l)).2 4 Bw) 5 nS
def eP (l:List gM):aX:=⟨(bN (aw (l,(0:Int),(0:Int),()) 1 nZ) 3 nS).2.1,(sP (m8 l)).1⟩
def dv (s:ByteArray):List gM×Int×Int:=db (s.size+1) s.data.toList 1
def Lc (q:List gM×Int×Int):T XV:=.br (q.2.1==0) (.br ((jr q.1).2.1==0) (.lf (Te (eP q.1))) (.lf (Pm (jr q.1).2.1 (jr q.1).2.2.1))) (.lf (Pm 1 q.2.2))
theorem xQ:aj Tryz.prog 27 true (az [(0,sS)] λ((s:ByteArray),_)=>.nd (s.size<=20000) (Lc (dv s))):=
 q9 (R:=Pn) ((nL _ _).add 0 _ C5) true 99 [(0,sS)] (λ((s:ByteArray),_)=>.nd (s.size<=20000) (YK (dv s))) (λ⟨(s:ByteArray),_⟩ r _ ⟨hs,hr⟩=>⟨⟨hs,by
  have hi:=ky (s.size+1) s.data.toList 1 (by rw[dd];exact hs);have hr:(Lc (dv s)).hit r:=hr;show(YK (dv s)).hit r;obtain⟨q,hq⟩:∃q,dv s=q:=⟨_,rfl⟩;have yC:db (s.size+1) s.data.toList 1=q:=hq;rw[yC] at hi;rw[hq] at hr ⊢;refine⟨λe=>⟨(λe=>by cases e),λ_=>?_⟩,λe=>⟨λ_=>hr.2 e,λe=>by cases e⟩⟩;obtain⟨h0,h1⟩:=hi (eq_of_beq e);have hr:=hr.1 e;rw[dd] at h1;have h2:=h0.need 1 nZ;have h3:=h2.need 3 nS;have h4:=h3.need 4 Lo;have l1:=ck (q.1,(0:Int),(0:Int),()) 1 nZ;have l2:=ck (aw (q.1,(0:Int),(0:Int),()) 1 nZ) 3 nS;have l3:=ck (aw (aw (q.1,(0:Int),(0:Int),()) 1 nZ) 3 nS) 4 Lo;have l0:List.length ((q.1,(0:Int),(0:Int),()):bh).1<=s.size+1:=h1;have h5:=(fA eG (List.length (m8 q.1).1) h4).1;refine⟨h0.pos,h2.pos,h3.pos,⟨h4,by omega,by show 0+_<=30000;omega⟩,h5.pos,(h5.need 4 Bw).pos,?_⟩;refine⟨λe=>hr.2 (by have h9:=congrArg not e;rw[Bool.not_not] at h9;exact h9),λe=>?_⟩;have hr:=hr.1 (by have h9:=congrArg not e;rw[Bool.not_not] at h9;exact h9);rw[List.append_nil,List.reverse_reverse,List.isEmpty_reverse];exact hr⟩,.inl rfl⟩) Tryz.func27
theorem Ft {l:List UInt8} (h:iM l=true):Lib.atoi l=some (((Lib.decNat l).getD 0:Nat):Int):=by
 obtain⟨h0,_,h2⟩:=gW h;cases l with
 | nil=>exact absurd rfl h0
 | cons x l=>
  obtain⟨n,hn⟩:=iW (x::l) 0 h2;have hx:=h2 x (by simp);unfold digitB at hx;rw[Bool.and_eq_true,decide_eq_true_iff,decide_eq_true_iff] at hx;have e1:(x==45)=false:=by rw[beq_eq_false_iff_ne];rintro rfl;simp at hx
  have e2:(x==43)=false:=by rw[beq_eq_false_iff_ne];rintro rfl;simp at hx
  have e3:Lib.decNat (x::l)=some n:=by simpa[Lib.decNat] using hn
  unfold Lib.atoi;simp[e1,e2,e3]
theorem zI (l:List UInt8):decide (0<=Lib.indexByte l 47)=hD l:=by
 rcases ij l with h|⟨k,hk,h1,h2,_⟩
 ·rw[h,(uv h).2.2];rfl
 ·rw[hk,(oe h1 h2).2.2];simp
theorem zm {x:UInt8} {l:List UInt8} (h:ce (x::l)=(x::l).length):57<x.toNat:=by
 unfold ce at h;simp only at h;split at h
 ·rename_i hl;unfold fT at hl;rw[Bool.and_eq_true,decide_eq_true_iff,decide_eq_true_iff] at hl;omega
 ·simp at h
theorem Ar {x:UInt8} {l:List UInt8}:iM (x::l)=(gK (x::l)&&(decide (x.toNat<=57)&&!hD (x::l))):=by
 rw[Bool.eq_iff_iff];constructor
 ·intro h;obtain⟨_,_,h2⟩:=gW h;have hn:bK (x::l)=(x::l).length:=by
   unfold iM at h;rw[Bool.and_eq_true,decide_eq_true_iff,decide_eq_true_iff] at h;exact h.2
  have hb:gK (x::l)=true:=by unfold gK;rw[if_neg (by simp),if_pos (.inr hn)]
  have hx:=h2 x (by simp);unfold digitB at hx;rw[Bool.and_eq_true,decide_eq_true_iff,decide_eq_true_iff] at hx;have hc:hD (x::l)=false:=by
   unfold hD;rw[Bool.eq_false_iff];intro hc;have:=h2 _ (List.contains_iff_mem.1 hc);simp[digitB] at this
  rw[hb,hc,decide_eq_true hx.2];rfl
 ·intro h;simp only[Bool.and_eq_true,decide_eq_true_iff,Bool.not_eq_true'] at h;obtain⟨h1,h2,h3⟩:=h;unfold gK at h1;rw[if_neg (by simp)] at h1;split at h1
  ·rename_i hw;rcases hw with hw|hw
   ·have:=zm hw;omega
   ·unfold iM;rw[decide_eq_true hw];simp
  ·rw[h3] at h1;simp at h1
end Go.Proofs.YtichkplomldgiaaGreatDoor
