/- Lx4 Lx5 Lx6 Lx7 Snm -/
import Derived.Test.YtdbpbfglhbiadaaGreatDoorH00
import Derived.Test.YtdbpbfglhbiadaaGreatDoorH31
import Derived.Test.YtdbpbfglhbiadaaGreatDoorH01
set_option maxHeartbeats 4000000
set_option maxRecDepth 100000
namespace Go.Proofs.YtdbpbfglhbiadaaGreatDoor
open Go Go.RowKit
def lE:Nat->List UInt8->Int->List pp×Int×Int
 | 0,_,_=>([],1,0)
 | f+1,t,n=>
  let n2:=n+((t.take (bo false t)).count 10:Nat)
  let u:=t.drop (bo false t)
  if u=[] then([(5,⟨#[]⟩,n2,())],0,0)
  else if(cj u).2.2=0 then([],1,n2)
  else(if(lE f (u.drop (cj u).2.2) n2).2.1=0 then((cj u).1,⟨(cj u).2.1.toArray⟩,n2,())::(lE f (u.drop (cj u).2.2) n2).1 else[],(lE f (u.drop (cj u).2.2) n2).2.1,(lE f (u.drop (cj u).2.2) n2).2.2)
theorem yt:∀(f g:Nat) (t:List UInt8) (n:Int),t.length<f->t.length<g->lE f t n=lE g t n
 | 0,_,_,_,h,_=>absurd h (by omega)
 | _,0,_,_,_,h=>absurd h (by omega)
 | f+1,g+1,t,n,h,h'=>by
  unfold lE;by_cases h1:t.drop (bo false t)=[]
  ·simp only[h1,if_true]
  ·by_cases h2:(cj (t.drop (bo false t))).2.2=0
   ·simp only[h1,h2,if_false,if_true]
   ·have hl:0<(t.drop (bo false t)).length:=acF.2 h1;rw[abw] at hl;have e:=yt f g ((t.drop (bo false t)).drop (cj (t.drop (bo false t))).2.2) (n+((t.take (bo false t)).count 10:Nat)) (by rw[abw,abw];omega) (by rw[abw,abw];omega);simp only[h1,h2,if_false,e]
abbrev adY:SS:=.box 48 [.d tI,.d tI]
abbrev GZ:=eB [.d tI,.d tI]
abbrev alL:List (Nat×SS):=[(0,sS),(3,adY),(4,.c (.own (.st 17) 166)),(5,sI)]
abbrev alE:=LE alL [] []
noncomputable abbrev alF:=Tryz.f91
def lxN (s:ByteArray) (n:Int):Int:=n+((Lib.countByte (s.extract 0 (bo false s.data.toList)).data.toList 10:Nat):Int)
def lxR (s:ByteArray):ByteArray:=s.extract (bo false s.data.toList) s.size
def Wp (l:List pp):alE:=.ret (.tup [(false,[.list (.st 17) l true]),(true,[.val (.int .i64 0),.val (.int .i64 0)])]) ()
def RG (n:Int):alE:=.ret (.tup [(false,[.val (.slice none 0 0)]),(true,[.val (.int .i64 1),.sym (.int .i64 n)])]) ()
def alT (a:GZ) (l:List pp) (u:ByteArray) (n:Int):T alE:=.br (u.toList==(⟨#[]⟩:ByteArray).toList) (.nd ((l.length+1)*33<=140737488355328) (.lf (Wp (((5,⟨#[]⟩,n,()):pp)::l).reverse)))
 (.nd (u.size<=20000/\1<=u.size) (.br (((cj u.data.toList).2.2:Int)==0) (.lf (RG n)) (.nd ((l.length+1)*33<=140737488355328) (.nd (0<=((cj u.data.toList).2.2:Int)/\((cj u.data.toList).2.2:Int)<=u.size/\(u.size:Int)<=u.size)
  (.lf (.back (u.extract (cj u.data.toList).2.2 u.size,a,(((cj u.data.toList).1,⟨(cj u.data.toList).2.1.toArray⟩,n,()):pp)::l,n,())))))))
def alB (s:ByteArray) (a:GZ) (l:List pp) (n:Int):T alE:=.nd (s.size<=9223372036854775807) (.nd ((0:Int)<=0/\(0:Int)<=bo false s.data.toList/\(bo false s.data.toList:Int)<=s.size) (.nd ((⟨#[10]⟩:ByteArray)=⟨#[10]⟩) (.nd (cw (lxN s n)) (.nd ((0:Int)<=bo false s.data.toList/\(bo false s.data.toList:Int)<=s.size/\(s.size:Int)<=s.size) (alT a l (lxR s) (lxN s n))))))
def My (s:ByteArray) (n:Int):List pp×Int×Int:=lE (s.size+1) s.data.toList n
def alN (s:ByteArray) (l:List pp) (n:Int):Prop:=l.length+s.size<=20000/\0<=n/\n+s.size<=20001
def alG (s:ByteArray) (l:List pp) (n:Int):T alE:=.nd (alN s l n) (.br ((My s n).2.1==0) (.lf (Wp (l.reverse++(My s n).1))) (.lf (RG (My s n).2.2)))
def alM (x:aV alL):Nat:=ByteArray.size x.1
theorem Fz:∀{l:List UInt8} {p:Nat×List UInt8},quo l=some (some p)->p.1<=l.length
 | [],p,h=>by cases h
 | c::l,p,h=>by
  rw[ja] at h;split at h
  ·injection h with h;injection h with h;subst h;exact acN _ _
  split at h
  ·match l,h with
   | [],h=>cases h
   | d::m,h=>
    simp only at h;split at h
    ·match hq:quo m,h with
     | some (some q),h=>
      injection h with h;injection h with h;subst h
      have:=Fz hq;simp only[aaJ];omega
     | some none,h=>cases h
     | none,h=>cases h
    ·cases h
  split at h
  ·match hq:quo l,h with
   | some (some q),h=>
    injection h with h;injection h with h;subst h
    have:=Fz hq;simp only[aaJ];omega
   | some none,h=>cases h
   | none,h=>cases h
  ·cases h
theorem TM (l:List UInt8) (hl:l≠[]):(tN l).1<=l.length:=by
 have h0:0<l.length:=acF.2 hl;unfold tN
 match hq:quo (l.drop 1) with
 | some (some q)=>have:=Fz hq;rw[abw] at this;show q.1+1<=_;omega
 | some none=>exact abz _
 | none=>exact abz _
theorem OB (l:List UInt8) (hl:l≠[]):(cj l).2.2<=l.length:=by
 have h0:0<l.length:=acF.2 hl;unfold cj;have:=uB l;have:=yd l;split
 ·assumption
 split
 ·assumption
 split
 ·exact TM l hl
 split
 ·exact h0
 ·exact abz _
theorem ab0:cL (mi ahA alF) 0 0 alL [] [] λx=>alG x.1 x.2.2.1 x.2.2.2.1:=by
 refine j1 _ (nL _ _) 99 0 0 alL [] [] (λx=>alB x.1 x.2.1 x.2.2.1 x.2.2.2.1) alM ?_;rintro⟨(s:ByteArray),(a:GZ),(l:List pp),(n:Int),_⟩ r _ ⟨h,hr⟩;obtain⟨h1,h2,h3⟩:alN s l n:=h;have hr:(T.br ((My s n).2.1==0) (.lf (Wp (l.reverse++(My s n).1))) (.lf (RG (My s n).2.2))).hit r:=hr;show∃q,(alB s a l n).hit q/\q.nx alM (λx=>alG x.1 x.2.2.1 x.2.2.2.1) s.size r;have hb:=kJ false s.data.toList;rw[ic] at hb;have eR:(lxR s).data.toList=s.data.toList.drop (bo false s.data.toList):=by unfold lxR;rw[exD]
 have sR:(lxR s).size=s.size-bo false s.data.toList:=by rw[<-ic,eR,abw,ic]
 have eN:lxN s n=n+((s.data.toList.take (bo false s.data.toList)).count 10:Nat):=by unfold lxN;rw[exT];rfl
 have hc:(s.data.toList.take (bo false s.data.toList)).count 10<=bo false s.data.toList:=aax List.count_le_length (by rw[abD];omega);unfold My at hr;unfold lE at hr;simp only[<-eR,<-eN] at hr;obtain⟨u,hu⟩:∃u,lxR s=u:=⟨_,rfl⟩;obtain⟨m,hm⟩:∃m,lxN s n=m:=⟨_,rfl⟩;rw[hu] at sR;rw[hm] at eN;unfold alB;rw[hu,hm];rw[hu,hm] at hr;suffices hs:∃q,(alT a l u m).hit q/\q.nx alM (λx=>alG x.1 x.2.2.1 x.2.2.2.1) s.size r by
  obtain⟨q,g1,g2⟩:=hs;exact⟨q,⟨by omega,⟨by omega,by omega,by omega⟩,rfl,⟨by omega,by omega⟩,⟨by omega,by omega,by omega⟩,g1⟩,g2⟩
 unfold alT;by_cases q1:u.data.toList=[]
 ·rw[if_pos q1] at hr;refine⟨_,aC (by rw[cO];exact decide_eq_true (baL q1)) ⟨by omega,rfl⟩,?_⟩;have:=hr.1 rfl;rw[ab8];exact this
 ·rw[if_neg q1] at hr;have q0:0<u.data.toList.length:=acF.2 q1;rw[ic] at q0;have hx:=OB u.data.toList q1;rw[ic] at hx;suffices hs:∃q:alE,(T.br (((cj u.data.toList).2.2:Int)==0) (.lf (RG m)) _).hit q/\q.nx alM (λx=>alG x.1 x.2.2.1 x.2.2.2.1) s.size r by
   obtain⟨q,g1,g2⟩:=hs;exact⟨q,aK (by rw[cO];exact decide_eq_false λe=>q1 (by rw[e])) ⟨⟨by omega,by omega⟩,g1⟩,g2⟩
  by_cases q2:(cj u.data.toList).2.2=0
  ·rw[if_pos q2] at hr;exact⟨_,aC (by rw[q2];rfl) rfl,hr.2 rfl⟩
  ·rw[if_neg q2] at hr;refine⟨_,aK (beq_eq_false_iff_ne.2 (by omega)) ⟨by omega,⟨by omega,by omega,by omega⟩,rfl⟩,?_,?_⟩
   ·show(u.extract (cj u.data.toList).2.2 u.size).size<s.size;rw[exD,<-ic];show(u.data.toList.drop _).length<_;rw[abw,ic];omega
   ·have e9:(u.extract (cj u.data.toList).2.2 u.size).data.toList=u.data.toList.drop (cj u.data.toList).2.2:=by rw[exD]
    have s9:(u.extract (cj u.data.toList).2.2 u.size).size=u.size-(cj u.data.toList).2.2:=by rw[<-ic,e9,abw,ic]
    have ea:My (u.extract (cj u.data.toList).2.2 u.size) m=lE s.size (u.data.toList.drop (cj u.data.toList).2.2) m:=by
     unfold My;rw[e9];exact yt _ _ _ _ (by rw[abw,ic];omega) (by rw[abw,ic];omega)
    refine⟨⟨?_,?_,?_⟩,?_⟩
    ·show l.length+1+(u.extract (cj u.data.toList).2.2 u.size).size<=20000;omega
    ·show 0<=m;omega
    ·show m+(u.extract (cj u.data.toList).2.2 u.size).size<=20001;omega
    show(T.br ((My (u.extract (cj u.data.toList).2.2 u.size) m).2.1==0) (.lf (Wp ((((cj u.data.toList).1,⟨(cj u.data.toList).2.1.toArray⟩,m,())::l).reverse++(My (u.extract (cj u.data.toList).2.2 u.size) m).1))) (.lf (RG (My (u.extract (cj u.data.toList).2.2 u.size) m).2.2))).hit r;rw[ea,ab8,abS];refine⟨λe=>?_,λe=>hr.2 e⟩;have h9:=hr.1 e;rw[if_pos (eq_of_beq e)] at h9;exact h9
def agW (q:List pp×Int×Int):T XV:=.br (q.2.1==0) (.lf (.tup [(false,[.list (.st 17) q.1 true]),(true,[.sym (.int .i64 0),.sym (.int .i64 0)])])) (.lf (.tup [(false,[.val (.slice none 0 0)]),(true,[.sym (.int .i64 1),.sym (.int .i64 q.2.2)])]))
theorem agV:ao Tryz.prog 91 true (az [(0,sS)] λ((s:ByteArray),_)=>.nd (s.size<=20000) (agW (lE (s.size+1) s.data.toList 1))):=
 aN (C:=ahA) ((nL _ _).add 0 _ ab0) true 99 [(0,sS)] (λ((s:ByteArray),_)=>.br (decide ((s.size:Int)>20000)) (.lf (.tup [(false,[.val (.slice none 0 0)]),(true,[.sym (.int .i64 7),.sym (.int .i64 0)])])) (.nd (alN s [] 1) (agW (lE (s.size+1) s.data.toList 1)))) (λ⟨(s:ByteArray),_⟩ r _ ⟨h1,h⟩=>
  ⟨aK (decide_eq_false (by omega)) ⟨⟨by show 0+s.size<=20000;omega,by decide,by omega⟩,h⟩,.inl rfl⟩) Tryz.func91
abbrev R3:SS:=.box 164 [.d (.list (.st 17)),.d tI,.d tI]
noncomputable def E8 (t:TypeId):Option Ty:=List.lookup t [(9,.str),(3,tI),(166,.st 17),(46,tI),(164,.st 24),(93,.st 0),(91,.st 1),(33,.st 2)]
noncomputable def ahz:eP Tryz.prog:=bA E8 [] []
def Yj:pp:=(0,⟨#[]⟩,0,())
def P6 (l:List pp):pp:=l.getD 0 Yj
def isP (x:dh) (k:Int) (s:ByteArray):Bool:=x.2.1==0&&((P6 x.1).1==k&&(decide (s=⟨#[]⟩)||decide ((P6 x.1).2.1=s)))
def isT (x:dh) (k:Int) (s:ByteArray):T XV:=.nd ((0:Int)<=0/\(0:Int)<(List.length x.1:Int)) (.br (x.2.1==0) (.br ((P6 x.1).1==k) (.br (s.toList==(⟨#[]⟩:ByteArray).toList) (.lf (aB true)) (.lf (aB ((P6 x.1).2.1.toList==s.toList)))) (.lf (aB false))) (.lf (aB false)))
theorem K5:ao Tryz.prog 93 false (az [(0,.rf 24),(1,sI),(2,sS)] λ((x:dh),(k:Int),(s:ByteArray),_)=>.nd (0<List.length x.1) (.lf (aB (isP x k s)))):=
 aN (C:=ahz) (nL _ _) false 99 [(0,.rf 24),(1,sI),(2,sS)] (λ((x:dh),(k:Int),(s:ByteArray),_)=>isT x k s) (λ⟨(x:dh),(k:Int),(s:ByteArray),_⟩ r _ ⟨h1,h⟩=>by
  obtain rfl:aB (isP x k s)=r:=h;refine⟨⟨⟨by decide,by omega⟩,?_⟩,.inr rfl⟩;rw[cO,cO];unfold isP;refine⟨λe=>⟨λe2=>⟨λe3=>?_,λe3=>?_⟩,λe2=>?_⟩,λe=>?_⟩
  ·rw[e,e2,e3];rfl
  ·rw[e,e2,e3];rfl
  ·rw[e,e2];rfl
  ·rw[e];rfl) Tryz.func93
def tA (x:dh):dh:=if x.2.1=0 then(x.1,(1:Int),(P6 x.1).2.2.1,()) else x
theorem Ge:ew Tryz.prog 136 [0] [(0,R3)] [(0,R3)] λ((x:dh),_)=>.nd (0<List.length x.1) (.lf (.tup [],tA x,())):=
 iA (C:=ahz) (nL _ _) 99 [(0,R3)] [(0,R3)] (λ((x:dh),_)=>.br (x.2.1==(0:Int)) (.nd ((0:Int)<=0/\(0:Int)<(List.length x.1:Int)) (.lf (.tup [],(x.1,(1:Int),(P6 x.1).2.2.1,()),()))) (.lf (.tup [],x,()))) (λ⟨(x:dh),_⟩ r _ ⟨h1,h⟩=>by
  obtain rfl:=h;unfold tA;refine⟨λe=>⟨⟨by decide,by omega⟩,?_⟩,λe=>?_⟩
  ·rw[if_pos (eq_of_beq e)];rfl
  ·rw[if_neg (λq=>by rw[q] at e;cases e)];rfl) Tryz.func136
noncomputable def aoV:eP Tryz.prog:=bA E8 [⟨_,_,_,K5⟩] [⟨_,_,_,_,_,Ge⟩]
def Na (t:pp):List AV:=[.sym (.int .i64 t.1),.sym (.string t.2.1),.sym (.int .i64 t.2.2.1)]
def dI (x:dh) (k:Int) (s:ByteArray):pp:=bif isP x k s then P6 x.1 else Yj
def bU (x:dh) (k:Int) (s:ByteArray):dh:=bif isP x k s&&!(k==5) then(List.drop 1 x.1,x.2) else x
abbrev S3:List (Nat×SS):=[(0,R3),(1,sI),(2,sS)]
abbrev pO:List (Nat×SS):=[(0,R3)]
abbrev aP (r:XV) (x:dh):XV×aV pO:=(r,x,())
abbrev aTk (t:pp) (b:Bool):XV:=.tup [(true,Na t),(false,[.sym (.bool b)])]
def ajv (x:dh) (k:Int) (s:ByteArray):T (XV×aV pO):=.nd (0<List.length x.1) (.br (!isP x k s) (.lf (aP (aTk Yj false) x)) (.nd ((0:Int)<=0/\(0:Int)<(List.length x.1:Int))
 (.br (!(k==5)) (.nd ((0:Int)<=1/\(1:Int)<=(List.length x.1:Int)/\(List.length x.1:Int)<=(List.length x.1:Int)) (.lf (aP (aTk (P6 x.1) true) ((List.take (List.length x.1:Int).toNat x.1).drop 1,x.2)))) (.lf (aP (aTk (P6 x.1) true) x)))))
theorem zx:ew Tryz.prog 135 [0] S3 pO λ((x:dh),(k:Int),(s:ByteArray),_)=>.nd (0<List.length x.1) (.lf (aP (aTk (dI x k s) (isP x k s)) (bU x k s))):=
 iA (C:=aoV) (nL _ _) 99 S3 pO (λ((x:dh),(k:Int),(s:ByteArray),_)=>ajv x k s) (λ⟨(x:dh),(k:Int),(s:ByteArray),_⟩ r _ ⟨h1,h⟩=>by
  obtain rfl:aP (aTk (dI x k s) (isP x k s)) (bU x k s)=r:=h;refine⟨h1,?_⟩;unfold dI bU;cases isP x k s with
  | false=>exact aC rfl rfl
  | true=>
   refine aK rfl ⟨⟨by decide,by omega⟩,?_⟩;cases hk:k==5 with
   | true=>exact aK rfl rfl
   | false=>
    refine aC rfl ⟨⟨by decide,by omega,acR _⟩,?_⟩;rw[aae,acz (aaG _)];rfl) Tryz.func135
noncomputable def aoU:eP Tryz.prog:=bA E8 [⟨_,_,_,K5⟩] [⟨_,_,_,_,_,Ge⟩,⟨_,_,_,_,_,zx⟩]
def aY (x:dh) (k:Int) (s:ByteArray):dh:=bif isP x k s then bU x k s else tA x
def akq (x:dh) (k:Int) (s:ByteArray):T (XV×aV pO):=.nd (0<List.length x.1) (.br (!isP x k s) (.nd (0<List.length (bU x k s).1) (.lf (aP (.agg (Na (dI x k s))) (tA (bU x k s))))) (.lf (aP (.agg (Na (dI x k s))) (bU x k s))))
theorem Ah:ew Tryz.prog 92 [0] S3 pO λ((x:dh),(k:Int),(s:ByteArray),_)=>.nd (0<List.length x.1) (.lf (aP (.agg (Na (dI x k s))) (aY x k s))):=
 iA (C:=aoU) (nL _ _) 99 S3 pO (λ((x:dh),(k:Int),(s:ByteArray),_)=>akq x k s) (λ⟨(x:dh),(k:Int),(s:ByteArray),_⟩ r _ ⟨h1,h⟩=>by
  obtain rfl:aP (.agg (Na (dI x k s))) (aY x k s)=r:=h;refine⟨h1,λe=>?_,λe=>?_⟩
  ·have e:isP x k s=false:=by simpa using e
   have e2:bU x k s=x:=by unfold bU;rw[e];rfl
   rw[e2];unfold aY;rw[e];exact⟨h1,rfl⟩
  ·have e:isP x k s=true:=by simpa using e
   unfold aY;rw[e];rfl) Tryz.func92
noncomputable def ahy:eP Tryz.prog:=bA E8 [⟨_,_,_,K5⟩] [⟨_,_,_,_,_,Ge⟩,⟨_,_,_,_,_,zx⟩,⟨_,_,_,_,_,Ah⟩]
def dW (x:dh):Prop:=(∃l t,x.1=l++[t]/\t.1=5)/\∀t∈x.1,t.2.1.size<=20000
theorem dW.pos {x:dh} (h:dW x):0<List.length x.1:=by obtain⟨⟨l,t,e,_⟩,_⟩:=h;rw[e];simp
theorem dW.take {x:dh} (h:dW x) (k:Int) (s:ByteArray):dW (bU x k s):=by
 unfold bU;cases e:isP x k s&&!(k==5) with
 | false=>exact h
 | true=>
  obtain⟨⟨l,t,e1,e2⟩,h2⟩:=h;simp only[isP,aav,acs,beq_iff_eq,beq_eq_false_iff_ne] at e;obtain⟨⟨_,e3,_⟩,e4⟩:=e;cases l with
  | nil=>
   rw[e1] at e3;exact absurd (e3.symm.trans e2) e4
  | cons a l=>
   refine⟨⟨l,t,by show List.drop 1 x.1=_;rw[e1];rfl,e2⟩,λu hu=>h2 u ?_⟩;exact List.mem_of_mem_drop hu
theorem dW.fail {x:dh} (h:dW x):dW (tA x):=by unfold tA;split<;>exact h
theorem dW.need {x:dh} (h:dW x) (k:Int) (s:ByteArray):dW (aY x k s):=by
 unfold aY;cases isP x k s with
 | true=>exact h.take k s
 | false=>exact h.fail
theorem dW.text {x:dh} (h:dW x) (k:Int) (s:ByteArray):(dI x k s).2.1.size<=20000:=by
 unfold dI;cases isP x k s with
 | false=>exact abz _
 | true=>
  obtain⟨⟨l,t,e1,_⟩,h2⟩:=h;show(P6 x.1).2.1.size<=20000;refine h2 _ ?_;unfold P6;rw[e1];cases l with
  | nil=>simp
  | cons a l=>simp
abbrev nS:ByteArray:=⟨#[]⟩
abbrev vlL:List (Nat×SS):=[(0,R3),(10,.c (.own tI 3)),(11,sI),(12,sI)]
abbrev vlE:=LE vlL pO pO
noncomputable abbrev vlF:=Tryz.f187
def uC (x:dh) (k:Int):vlE:=.ret (aS (dI x k nS).2.1) (bU x k nS,())
def vlB (x:dh) (l:List Int) (n i:Int):T vlE:=.br (decide (i<n)) (.nd (0<=i/\i<(l.length:Int)) (.nd (0<List.length x.1) (.br (isP x (l.reverse.getD i.toNat 0) nS) (.lf (uC x (l.reverse.getD i.toNat 0))) (.nd (cw (i+1)) (.lf (.back (bU x (l.reverse.getD i.toNat 0) nS,l,n,i+1,()))))))) (.lf (.out (x,())))
def vlG (x:dh) (l:List Int) (n i:Int):T vlE:=.nd (l=[3,1]/\n=2/\0<=i/\i<=2/\0<List.length x.1) (.br (decide (i<=0)&&isP x 1 nS) (.lf (uC x 1)) (.br (decide (i<=1)&&isP x 3 nS) (.lf (uC x 3)) (.lf (.out (x,())))))
theorem zy {x:dh} {k:Int} {s:ByteArray} (h:isP x k s=false):bU x k s=x:=by unfold bU;rw[h];rfl
def adx (x:dh) (i:Int):vlE:=.back (x,([3,1]:List Int),(2:Int),i,())
theorem MX:cL (EK ahy vlF [0]) 0 0 vlL pO pO λx=>vlG x.1 x.2.1 x.2.2.1 x.2.2.2.1:=by
 refine j1 _ (nL _ _) 99 0 0 vlL pO pO (λx=>vlB x.1 x.2.1 x.2.2.1 x.2.2.2.1) (λx=>2-Int.toNat x.2.2.2.1) ?_;rintro⟨(x:dh),(l:List Int),(n:Int),(i:Int),_⟩ r _ ⟨h,hr⟩;obtain⟨rfl,rfl,h0,h1,h2⟩:l=[3,1]/\n=2/\0<=i/\i<=2/\0<List.length x.1:=h;have hr:(T.br (decide (i<=0)&&isP x 1 nS) (.lf (uC x 1)) (.br (decide (i<=1)&&isP x 3 nS) (.lf (uC x 3)) (.lf (.out (x,()))))).hit r:=hr;show∃q,(vlB x [3,1] 2 i).hit q/\q.nx _ (λx=>vlG x.1 x.2.1 x.2.2.1 x.2.2.2.1) (2-i.toNat) r;obtain rfl|rfl|rfl:i=0\/i=1\/i=2:=by omega
 ·cases hp:isP x 1 nS with
  | true=>
   rw[hp] at hr;exact⟨uC x 1,aC rfl ⟨⟨by decide,by decide⟩,h2,aC hp rfl⟩,hr.1 rfl⟩
  | false=>
   rw[hp] at hr;refine⟨adx (bU x 1 nS) (0+1),aC rfl ⟨⟨by decide,by decide⟩,h2,aK hp ⟨⟨by decide,by decide⟩,rfl⟩⟩,by show 2-Int.toNat (0+1)<2-Int.toNat 0;decide,?_⟩;rw[zy hp];exact⟨⟨rfl,rfl,by show(0:Int)<=0+1;decide,by show(0:Int)+1<=2;decide,h2⟩,(λe=>by cases e),λ_=>hr.2 rfl⟩
 ·have hr:=hr.2 rfl;cases hp:isP x 3 nS with
  | true=>
   rw[hp] at hr;exact⟨uC x 3,aC rfl ⟨⟨by decide,by decide⟩,h2,aC hp rfl⟩,hr.1 rfl⟩
  | false=>
   rw[hp] at hr;refine⟨adx (bU x 3 nS) (1+1),aC rfl ⟨⟨by decide,by decide⟩,h2,aK hp ⟨⟨by decide,by decide⟩,rfl⟩⟩,by show 2-Int.toNat (1+1)<2-Int.toNat 1;decide,?_⟩;rw[zy hp];exact⟨⟨rfl,rfl,by show(0:Int)<=1+1;decide,by show(1:Int)+1<=2;decide,h2⟩,(λe=>by cases e),λ_=>⟨(λe=>by cases e),λ_=>hr.2 rfl⟩⟩
 ·exact⟨.out (x,()),aK rfl rfl,(hr.2 rfl).2 rfl⟩
abbrev zM:ByteArray:=⟨#[47]⟩
def zt (x:dh):ByteArray×dh:=
 let y:=bU (aY x 2 nS) 4 zM
 bif isP (aY x 2 nS) 4 zM then((dI x 2 nS).2.1++(zM++(dI y 2 nS).2.1),aY y 2 nS) else((dI x 2 nS).2.1,y)
def ia (x:dh):ByteArray×dh:=bif isP x 1 nS then((dI x 1 nS).2.1,bU x 1 nS) else bif isP x 3 nS then((dI x 3 nS).2.1,bU x 3 nS) else zt x
def vnT (x:dh):T (XV×aV pO):=.nd (0<List.length x.1) (.nd (0<List.length (aY x 2 nS).1) (.br (isP (aY x 2 nS) 4 zM) (.nd (0<List.length (bU (aY x 2 nS) 4 zM).1) (.nd (zM.size+(dI (bU (aY x 2 nS) 4 zM) 2 nS).2.1.size<=9223372036854775807) (.nd ((dI x 2 nS).2.1.size+(zM++(dI (bU (aY x 2 nS) 4 zM) 2 nS).2.1).size<=9223372036854775807)
 (.lf (aP (aS ((dI x 2 nS).2.1++(zM++(dI (bU (aY x 2 nS) 4 zM) 2 nS).2.1))) (aY (bU (aY x 2 nS) 4 zM) 2 nS)))))) (.lf (aP (aS (dI x 2 nS).2.1) (bU (aY x 2 nS) 4 zM)))))
def ajs (x:dh):T (XV×aV pO):=.nd (([1,3]:List Int).reverse=[3,1]/\((([1,3]:List Int).reverse.length:Nat):Int)=2/\(0:Int)<=0/\(0:Int)<=2/\0<List.length x.1) (.br (isP x 1 nS) (.lf (aP (aS (dI x 1 nS).2.1) (bU x 1 nS))) (.br (isP x 3 nS) (.lf (aP (aS (dI x 3 nS).2.1) (bU x 3 nS))) (vnT x)))
theorem SQ:ew Tryz.prog 187 [0] pO pO λ((x:dh),_)=>.nd (dW x) (.lf (aP (aS (ia x).1) (ia x).2)):=
 iA (C:=ahy) ((nL _ _).add 0 _ MX) 99 pO pO (λ((x:dh),_)=>ajs x) (λ⟨(x:dh),_⟩ r _ ⟨h,hr⟩=>by
  obtain rfl:aP (aS (ia x).1) (ia x).2=r:=hr;refine⟨⟨rfl,rfl,by decide,by decide,h.pos⟩,?_⟩;unfold ia;refine⟨λe=>by rw[e];rfl,λe=>?_⟩;rw[e];refine⟨λe=>by rw[e];rfl,λe=>?_⟩;rw[e];show(vnT x).hit (aP (aS (zt x).1) (zt x).2);unfold zt;have h1:=h.need 2 nS;have h2:=h1.take 4 zM;have t1:=h.text 2 nS;have t2:=h2.text 2 nS;refine⟨h.pos,h1.pos,λe=>⟨h2.pos,?_,?_,by rw[e];rfl⟩,λe=>by rw[e];rfl⟩
  ·show 1+_<=_;omega
  ·rw[ac2];show _+(1+_)<=_;omega) Tryz.func187
theorem dW.val {x:dh} (h:dW x):dW (ia x).2/\(ia x).1.size<=40001:=by
 have h1:=h.need 2 nS;have h2:=h1.take 4 zM;have t1:=h.text 2 nS;have t2:=h2.text 2 nS;unfold ia;cases isP x 1 nS with
 | true=>exact⟨h.take 1 nS,aax (h.text 1 nS) (by decide)⟩
 | false=>
  cases isP x 3 nS with
  | true=>exact⟨h.take 3 nS,aax (h.text 3 nS) (by decide)⟩
  | false=>
   show dW (zt x).2/\(zt x).1.size<=40001;unfold zt;cases isP (aY x 2 nS) 4 zM with
   | true=>
    refine⟨h2.need 2 nS,?_⟩;show((dI x 2 nS).2.1++(zM++_)).size<=_;rw[ac2,ac2];show _+(1+_)<=_;omega
   | false=>exact⟨h2,aax t1 (by decide)⟩
noncomputable def aoT:eP Tryz.prog:=bA E8 [⟨_,_,_,K5⟩] [⟨_,_,_,_,_,zx⟩,⟨_,_,_,_,_,Ah⟩,⟨_,_,_,_,_,SQ⟩]
abbrev tV:ByteArray:=⟨#[44]⟩
def dB:Nat->dh->List ByteArray×dh
 | 0,x=>([],x)
 | f+1,x=>bif isP x 4 tV then((ia (bU x 4 tV)).1::(dB f (ia (bU x 4 tV)).2).1,(dB f (ia (bU x 4 tV)).2).2) else([],x)
theorem AD {x:dh} {k:Int} {s:ByteArray} (hk:k≠0) (h:isP x k s=true):0<List.length x.1:=by
 obtain⟨l,y⟩:=x;cases l with
 | nil=>
  simp only[isP,aav,beq_iff_eq] at h;exact absurd h.2.1.symm hk
 | cons a l=>exact Nat.zero_lt_succ _
theorem take_len (x:dh) (k:Int) (s:ByteArray):List.length (bU x k s).1<=List.length x.1:=by
 unfold bU;cases isP x k s&&!(k==5) with
 | true=>show List.length (List.drop 1 x.1)<=_;rw[abw];omega
 | false=>exact aaG _
theorem ub {x:dh} {k:Int} {s:ByteArray} (h0:k≠0) (h5:k≠5) (h:isP x k s=true):List.length (bU x k s).1<List.length x.1:=by
 have:=AD h0 h;unfold bU;rw[h,beq_eq_false_iff_ne.2 h5];show List.length (List.drop 1 x.1)<_;rw[abw];omega
theorem Qw (x:dh):List.length (tA x).1=List.length x.1:=by unfold tA;split<;>rfl
theorem gI (x:dh) (k:Int) (s:ByteArray):List.length (aY x k s).1<=List.length x.1:=by
 unfold aY;cases isP x k s with
 | true=>exact take_len x k s
 | false=>exact Nat.le_of_eq (Qw x)
theorem pE (x:dh):List.length (ia x).2.1<=List.length x.1:=by
 have h1:=gI x 2 nS;have h2:=aax (take_len (aY x 2 nS) 4 zM) h1;unfold ia;cases isP x 1 nS with
 | true=>exact take_len _ _ _
 | false=>
  cases isP x 3 nS with
  | true=>exact take_len _ _ _
  | false=>
   show List.length (zt x).2.1<=_;unfold zt;cases isP (aY x 2 nS) 4 zM with
   | true=>exact aax (gI _ _ _) h2
   | false=>exact h2
theorem E1:∀(f g:Nat) (x:dh),List.length x.1<=f->List.length x.1<=g->dB f x=dB g x:=by
 intro f;induction f with
 | zero=>
  intro g x h1 h2;cases g with
  | zero=>rfl
  | succ g=>
   unfold dB;cases e:isP x 4 tV with
   | true=>have:=AD (by decide) e;omega
   | false=>rfl
 | succ f ih=>
  intro g x h1 h2;cases g with
  | zero=>
   unfold dB;cases e:isP x 4 tV with
   | true=>have:=AD (by decide) e;omega
   | false=>rfl
  | succ g=>
   unfold dB;cases e:isP x 4 tV with
   | true=>
    have h3:=ub (by decide) (by decide) e;have h4:=pE (bU x 4 tV);rw[ih g (ia (bU x 4 tV)).2 (by omega) (by omega)]
   | false=>rfl
theorem pD:∀(f:Nat) {x:dh},dW x->dW (dB f x).2/\List.length (dB f x).2.1+(dB f x).1.length<=List.length x.1
 | 0,x,h=>⟨h,by simp[dB]⟩
 | f+1,x,h=>by
  unfold dB;cases e:isP x 4 tV with
  | true=>
   have h3:=ub (by decide) (by decide) e;have h4:=pE (bU x 4 tV);obtain⟨h5,h6⟩:=pD f (h.take 4 tV).val.1;refine⟨h5,?_⟩;show List.length (dB f (ia (bU x 4 tV)).2).2.1+((dB f (ia (bU x 4 tV)).2).1.length+1)<=_;omega
  | false=>exact⟨h,by simp⟩
def aaU (t:Nat) (st:dA):dA:=match st.env.lookup t with
 | some (.one (.ptr o _))=>match st.heap[o]? with
  | some (.cells _ cs)=>Vx cs st
  | _=>st
 | _=>st
def aaR (t:Nat):xK:=⟨λst=>.lf (aaU t st),λm cx st cV a w h hs=>by
 obtain rfl:aaU t st=cV:=h;unfold aaU;split
 ·split
  ·exact AU hs
  ·exact hs
 ·exact hs⟩
abbrev adX:SS:=.box 93 [.d .str,.own .str 9,.d tI]
abbrev sFz:SS:=.box 93 [.d .str,.d (.list .str),.d tI]
abbrev fdL:List (Nat×SS):=[(0,R3),(2,sFz),(4,adX)]
abbrev fdE:=LE fdL fdL pO
noncomputable abbrev fdF:=Tryz.f137
abbrev FD:=ByteArray×List ByteArray×Int×Unit
def yP (x:dh) (z f:FD):fdE:=.out (x,z,f,())
def flB (x:dh) (z f:FD):T fdE:=.nd (0<List.length x.1) (.br (!isP x 4 tV) (.lf (yP (bU x 4 tV) z f)) (.nd (dW (bU x 4 tV)) (.nd ((f.2.1.length+1)*17<=140737488355328) (.lf (.back ((ia (bU x 4 tV)).2,z,(f.1,(ia (bU x 4 tV)).1::f.2.1,f.2.2),()))))))
def fdG (x:dh) (z f:FD):T fdE:=.nd (dW x/\f.2.1.length+List.length x.1<=30000) (.lf (yP (dB (List.length x.1) x).2 z (f.1,(dB (List.length x.1) x).1.reverse++f.2.1,f.2.2)))
noncomputable abbrev agp:Rg Tryz.prog fdF.ntmps:=o8 (EK aoT fdF [0]) [] [(6,aaR 4)]
theorem Qu:cL agp 0 0 fdL fdL pO λx=>fdG x.1 x.2.1 x.2.2.1:=by
 refine j1 _ (nL _ _) 99 0 0 fdL fdL pO (λx=>flB x.1 x.2.1 x.2.2.1) (λx=>List.length x.1.1) ?_;rintro⟨(x:dh),(z:FD),(f:FD),_⟩ r _ ⟨h,hr⟩;obtain⟨h1,h2⟩:dW x/\f.2.1.length+List.length x.1<=30000:=h;obtain rfl:yP (dB (List.length x.1) x).2 z (f.1,(dB (List.length x.1) x).1.reverse++f.2.1,f.2.2)=r:=hr;show∃q,(flB x z f).hit q/\q.nx _ (λx=>fdG x.1 x.2.1 x.2.2.1) (List.length x.1) _;obtain⟨n,hn⟩:∃n,List.length x.1=n+1:=⟨List.length x.1-1,by have:=h1.pos;omega⟩;rw[hn];unfold dB;cases e:isP x 4 tV with
 | false=>exact⟨yP (bU x 4 tV) z f,⟨h1.pos,aC (by rw[e];rfl) rfl⟩,by rw[zy e];rfl⟩
 | true=>
  have h3:=ub (by decide) (by decide) e;have h4:=pE (bU x 4 tV);have h5:=(h1.take 4 tV).val.1;have h6:=h1.take 4 tV;unfold flB;obtain⟨⟨v,y⟩,hy⟩:∃y,ia (bU x 4 tV)=y:=⟨_,rfl⟩;rw[hy] at h4 h5 ⊢;have h4:List.length y.1<=_:=h4;refine⟨.back (y,z,(f.1,v::f.2.1,f.2.2),()),⟨h1.pos,aK (by rw[e];rfl) ⟨h6,by omega,rfl⟩⟩,by show List.length y.1<_;omega,⟨h5,?_⟩,?_⟩
  ·show f.2.1.length+1+List.length y.1<=30000;omega
  ·show yP (dB (List.length y.1) y).2 z (f.1,(dB (List.length y.1) y).1.reverse++(v::f.2.1),f.2.2)=yP (dB n y).2 z (f.1,(v::(dB n y).1).reverse++f.2.1,f.2.2);rw[E1 _ n _ (aaG _) (by omega),ab8,abS];rfl
abbrev scS:ByteArray:=⟨#[59]⟩
def eX (x:dh):ai×dh:=
 (⟨(dI x 1 nS).2.1,(ia (aY x 1 nS)).1::(dB (List.length (ia (aY x 1 nS)).2.1) (ia (aY x 1 nS)).2).1,(dI x 1 nS).2.2.1⟩,aY (dB (List.length (ia (aY x 1 nS)).2.1) (ia (aY x 1 nS)).2).2 4 scS)
abbrev aFd (f:ai):XV:=.agg [.sym (.string f.key),.list .str f.vals true,.sym (.int .i64 f.line)]
def ago (t:pp) (v:ByteArray×dh):T (XV×aV pO):=.nd (dW v.2/\([v.1]:List ByteArray).reverse.length+List.length v.2.1<=30000) (.nd (0<List.length (dB (List.length v.2.1) v.2).2.1)
 (.lf (aP (.agg [.sym (.string t.2.1),.list .str ((dB (List.length v.2.1) v.2).1.reverse++([v.1]:List ByteArray).reverse).reverse (!((dB (List.length v.2.1) v.2).1.reverse++([v.1]:List ByteArray).reverse).isEmpty),.sym (.int .i64 t.2.2.1)]) (aY (dB (List.length v.2.1) v.2).2 4 scS))))
def aaW (x:dh):T (XV×aV pO):=.nd (0<List.length x.1) (.nd (dW (aY x 1 nS)) (ago (dI x 1 nS) (ia (aY x 1 nS))))
theorem VD:ew Tryz.prog 137 [0] pO pO λ((x:dh),_)=>.nd (dW x/\List.length x.1<=20001) (.lf (aP (aFd (eX x).1) (eX x).2)):=
 Ba (R:=agp) ((nL _ _).add 0 _ Qu) 99 pO pO (λ((x:dh),_)=>aaW x) (λ⟨(x:dh),_⟩ r _ ⟨⟨h,hl⟩,hr⟩=>by
  obtain rfl:aP (aFd (eX x).1) (eX x).2=r:=hr;show(aaW x).hit _;have h1:=h.need 1 nS;have l1:=gI x 1 nS;have l2:=pE (aY x 1 nS);unfold aaW eX ago;obtain⟨v,hv⟩:∃v,ia (aY x 1 nS)=v:=⟨_,rfl⟩;have h2:=h1.val.1;rw[hv] at h2 l2 ⊢;have h3:=(pD (List.length v.2.1) h2).1;refine⟨h.pos,h1,⟨h2,?_⟩,h3.pos,?_⟩
  ·show 1+_<=30000;omega
  ·have e:((dB (List.length v.2.1) v.2).1.reverse++[v.1]).reverse=v.1::(dB (List.length v.2.1) v.2).1:=by simp
   show aP (.agg [_,.list .str ((dB (List.length v.2.1) v.2).1.reverse++[v.1]).reverse (!((dB (List.length v.2.1) v.2).1.reverse++[v.1]).isEmpty),_]) _=_;rw[e,show((dB (List.length v.2.1) v.2).1.reverse++[v.1]).isEmpty=false by rw[List.isEmpty_eq_false_iff];simp];rfl) Tryz.func137
theorem dW.field {x:dh} (h:dW x):dW (eX x).2:=(pD _ (h.need 1 nS).val.1).1.need 4 scS
theorem LA {x:dh} (h:dW x):List.length (eX x).2.1<=List.length (aY x 1 nS).1:=by
 have h1:=pE (aY x 1 nS);have h2:=(pD (List.length (ia (aY x 1 nS)).2.1) (h.need 1 nS).val.1).2;have h3:=gI (dB (List.length (ia (aY x 1 nS)).2.1) (ia (aY x 1 nS)).2).2 4 scS;show List.length (aY _ 4 scS).1<=_;omega
theorem It {x:dh} {k:Int} {s:ByteArray} (h0:k≠0) (h5:k≠5) (h:isP x k s=true):List.length (aY x k s).1<List.length x.1:=by
 unfold aY;rw[h];exact ub h0 h5 h
def eL {α:Type} (g:dh->α×dh):Nat->dh->List α×dh
 | 0,x=>([],x)
 | f+1,x=>bif isP x 1 nS then((g x).1::(eL g f (g x).2).1,(eL g f (g x).2).2) else([],x)
structure aci {α:Type} (g:dh->α×dh):Prop where
 inv:∀{x:dh},dW x->dW (g x).2
 len:∀{x:dh},dW x->isP x 1 nS=true->List.length (g x).2.1<List.length x.1
section
variable {α:Type} {g:dh->α×dh} (G:aci g)
include G
theorem yk:∀(f h:Nat) {x:dh},dW x->List.length x.1<=f->List.length x.1<=h->eL g f x=eL g h x:=by
 intro f;induction f with
 | zero=>intro h x hx h1 _;have:=hx.pos;omega
 | succ f ih=>
  intro h x hx h1 h2;cases h with
  | zero=>have:=hx.pos;omega
  | succ h=>
   unfold eL;cases e:isP x 1 nS with
   | true=>have:=G.len hx e;rw[ih h (G.inv hx) (by omega) (by omega)]
   | false=>rfl
theorem mV:∀(f:Nat) {x:dh},dW x->dW (eL g f x).2/\List.length (eL g f x).2.1+(eL g f x).1.length<=List.length x.1
 | 0,x,h=>⟨h,by simp[eL]⟩
 | f+1,x,h=>by
  unfold eL;cases e:isP x 1 nS with
  | true=>
   have h3:=G.len h e;obtain⟨h5,h6⟩:=mV f (G.inv h);refine⟨h5,?_⟩;show List.length (eL g f (g x).2).2.1+((eL g f (g x).2).1.length+1)<=_;omega
  | false=>exact⟨h,by simp⟩
end
theorem iU:aci eX:=⟨λh=>h.field,λ{x} h e=>adM (LA h) (It (by decide) (by decide) e)⟩
noncomputable def aoS:eP Tryz.prog:=bA E8 [⟨_,_,_,K5⟩] [⟨_,_,_,_,_,zx⟩,⟨_,_,_,_,_,Ah⟩,⟨_,_,_,_,_,VD⟩]
abbrev NM:SS:=.box 91 [.d .str,.d .str,.d (.list (.st 0)),.d tI]
abbrev YD:SS:=.box 91 [.d .str,.d .str,.own (.st 0) 93,.d tI]
abbrev L9:List (Nat×SS):=[(0,R3),(2,NM),(6,YD)]
abbrev bkE:=LE L9 L9 pO
noncomputable abbrev blF:=Tryz.f94
abbrev BK:=ByteArray×ByteArray×List ai×Int×Unit
noncomputable abbrev agN:Rg Tryz.prog blF.ntmps:=o8 (EK aoS blF [0]) [] [(7,aaR 6)]
def zj (x:dh) (z f:BK):bkE:=.out (x,z,f,())
def blB (x:dh) (z f:BK):T bkE:=.nd (0<List.length x.1) (.br (isP x 1 nS) (.nd (dW x/\List.length x.1<=20001) (.nd ((f.2.2.1.length+1)*49<=140737488355328) (.lf (.back ((eX x).2,z,(f.1,f.2.1,(eX x).1::f.2.2.1,f.2.2.2),()))))) (.lf (zj x z f)))
def bkG (x:dh) (z f:BK):T bkE:=.nd (dW x/\List.length x.1<=20001/\f.2.2.1.length+List.length x.1<=30000) (.lf (zj (eL eX (List.length x.1) x).2 z (f.1,f.2.1,(eL eX (List.length x.1) x).1.reverse++f.2.2.1,f.2.2.2)))
theorem Rl:cL agN 0 0 L9 L9 pO λx=>bkG x.1 x.2.1 x.2.2.1:=by
 refine j1 _ (nL _ _) 99 0 0 L9 L9 pO (λx=>blB x.1 x.2.1 x.2.2.1) (λx=>List.length x.1.1) ?_;rintro⟨(x:dh),(z:BK),(f:BK),_⟩ r _ ⟨h,hr⟩;obtain⟨h1,h2,h3⟩:dW x/\List.length x.1<=20001/\f.2.2.1.length+List.length x.1<=30000:=h;obtain rfl:zj (eL eX (List.length x.1) x).2 z (f.1,f.2.1,(eL eX (List.length x.1) x).1.reverse++f.2.2.1,f.2.2.2)=r:=hr;show∃q,(blB x z f).hit q/\q.nx _ (λx=>bkG x.1 x.2.1 x.2.2.1) (List.length x.1) _;obtain⟨n,hn⟩:∃n,List.length x.1=n+1:=⟨List.length x.1-1,by have:=h1.pos;omega⟩;rw[hn];unfold eL;cases e:isP x 1 nS with
 | false=>exact⟨zj x z f,⟨h1.pos,aK e rfl⟩,rfl⟩
 | true=>
  have h4:=iU.len h1 e;have h5:=iU.inv h1;unfold blB;obtain⟨⟨v,y⟩,hy⟩:∃y,eX x=y:=⟨_,rfl⟩;rw[hy] at h4 h5 ⊢;have h4:List.length y.1<_:=h4;refine⟨.back (y,z,(f.1,f.2.1,v::f.2.2.1,f.2.2.2),()),⟨h1.pos,aC e ⟨⟨h1,by omega⟩,by omega,rfl⟩⟩,by show List.length y.1<_;omega,⟨h5,?_,?_⟩,?_⟩
  ·show List.length y.1<=20001;omega
  ·show f.2.2.1.length+1+List.length y.1<=30000;omega
  ·show zj (eL eX (List.length y.1) y).2 z (f.1,f.2.1,(eL eX (List.length y.1) y).1.reverse++(v::f.2.2.1),f.2.2.2)=zj (eL eX n y).2 z (f.1,f.2.1,(v::(eL eX n y).1).reverse++f.2.2.1,f.2.2.2);rw[yk iU _ n h5 (aaG _) (by omega),ab8,abS];rfl
abbrev obS:ByteArray:=⟨#[123]⟩
abbrev Rh:ByteArray:=⟨#[125]⟩
def wV (x:dh):dh:=aY (bU (aY x 1 nS) 1 nS) 4 obS
def Sd (y:dh):List ai×dh:=eL eX (List.length y.1) y
def iB (x:dh):ak×dh:=(⟨(dI x 1 nS).2.1,(dI (aY x 1 nS) 1 nS).2.1,(Sd (wV x)).1,(dI x 1 nS).2.2.1⟩,aY (Sd (wV x)).2 4 Rh)
abbrev aBk (b:ak):XV:=.agg [.sym (.string b.kind),.sym (.string b.name),.list (.st 0) b.fields (!b.fields.isEmpty),.sym (.int .i64 b.line)]
def ano (t u:pp) (y:dh):T (XV×aV pO):=.nd (dW y/\List.length y.1<=20001/\([]:List ai).length+List.length y.1<=30000) (.nd (0<List.length (Sd y).2.1)
 (.lf (aP (.agg [.sym (.string t.2.1),.sym (.string u.2.1),.list (.st 0) ((Sd y).1.reverse++([]:List ai)).reverse (!((Sd y).1.reverse++([]:List ai)).isEmpty),.sym (.int .i64 t.2.2.1)]) (aY (Sd y).2 4 Rh))))
def agL (x:dh):T (XV×aV pO):=.nd (0<List.length x.1) (.nd (0<List.length (aY x 1 nS).1) (.nd (0<List.length (bU (aY x 1 nS) 1 nS).1) (ano (dI x 1 nS) (dI (aY x 1 nS) 1 nS) (wV x))))
theorem D4 (x:dh):List.length (wV x).1<=List.length (aY x 1 nS).1:=aax (gI _ _ _) (take_len _ _ _)
theorem dW.blk {x:dh} (h:dW x):dW (wV x):=((h.need 1 nS).take 1 nS).need 4 obS
theorem Wc:ew Tryz.prog 94 [0] pO pO λ((x:dh),_)=>.nd (dW x/\List.length x.1<=20001) (.lf (aP (aBk (iB x).1) (iB x).2)):=
 Ba (R:=agN) ((nL _ _).add 0 _ Rl) 99 pO pO (λ((x:dh),_)=>agL x) (λ⟨(x:dh),_⟩ r _ ⟨⟨h,hl⟩,hr⟩=>by
  obtain rfl:aP (aBk (iB x).1) (iB x).2=r:=hr;show(agL x).hit _;have l1:=aax (D4 x) (gI x 1 nS);have h1:=(mV iU (List.length (wV x).1) h.blk).1;refine⟨h.pos,(h.need 1 nS).pos,((h.need 1 nS).take 1 nS).pos,⟨h.blk,by omega,by show 0+_<=30000;omega⟩,h1.pos,?_⟩;unfold iB;rw[acx,aat,ady];rfl) Tryz.func94
theorem lR:aci iB:=⟨λh=>(mV iU _ h.blk).1.need 4 Rh,λ{x} h e=>by
 have h1:=It (x:=x) (s:=nS) (by decide) (by decide) e;have h2:=D4 x;have h3:=(mV iU (List.length (wV x).1) h.blk).2;have h4:=gI (Sd (wV x)).2 4 Rh;show List.length (aY (Sd (wV x)).2 4 Rh).1<_;have h5:List.length (Sd (wV x)).2.1+(Sd (wV x)).1.length<=_:=h3;omega⟩
noncomputable def aoR:eP Tryz.prog:=bA E8 [⟨_,_,_,K5⟩,⟨_,_,_,agV⟩] [⟨_,_,_,_,_,Ah⟩,⟨_,_,_,_,_,Wc⟩]
abbrev u3:SS:=.box 33 [.d .str,.d (.list (.st 1))]
abbrev Tx:SS:=.box 33 [.d .str,.own (.st 1) 91]
abbrev paL:List (Nat×SS):=[(2,u3),(3,adY),(6,R3),(7,Tx)]
abbrev paE:=LE paL paL []
noncomputable abbrev paF:=Tryz.f41
abbrev tY:=ByteArray×List ak×Unit
def ya (z:tY) (a:GZ) (x:dh) (f:tY):paE:=.out (z,a,x,f,())
noncomputable abbrev aer:Rg Tryz.prog paF.ntmps:=o8 (mi aoR paF) [] [(11,aaR 7)]
def paB (z:tY) (a:GZ) (x:dh) (f:tY):T paE:=.nd (0<List.length x.1) (.br (isP x 1 nS) (.nd (dW x/\List.length x.1<=20001) (.nd ((f.2.1.length+1)*65<=140737488355328) (.lf (.back (z,a,(iB x).2,(f.1,(iB x).1::f.2.1,()),()))))) (.lf (ya z a x f)))
def Iw (y:dh):List ak×dh:=eL iB (List.length y.1) y
def paG (z:tY) (a:GZ) (x:dh) (f:tY):T paE:=.nd (dW x/\List.length x.1<=20001/\f.2.1.length+List.length x.1<=30000) (.lf (ya z a (Iw x).2 (f.1,(Iw x).1.reverse++f.2.1,())))
theorem Of:cL aer 0 0 paL paL [] λx=>paG x.1 x.2.1 x.2.2.1 x.2.2.2.1:=by
 refine j1 _ (nL _ _) 99 0 0 paL paL [] (λx=>paB x.1 x.2.1 x.2.2.1 x.2.2.2.1) (λx=>List.length x.2.2.1.1) ?_;rintro⟨(z:tY),(a:GZ),(x:dh),(f:tY),_⟩ r _ ⟨h,hr⟩;obtain⟨h1,h2,h3⟩:dW x/\List.length x.1<=20001/\f.2.1.length+List.length x.1<=30000:=h;obtain rfl:ya z a (Iw x).2 (f.1,(Iw x).1.reverse++f.2.1,())=r:=hr;show∃q,(paB z a x f).hit q/\q.nx _ (λx=>paG x.1 x.2.1 x.2.2.1 x.2.2.2.1) (List.length x.1) _;obtain⟨n,hn⟩:∃n,List.length x.1=n+1:=⟨List.length x.1-1,by have:=h1.pos;omega⟩;unfold Iw;rw[hn];unfold eL;cases e:isP x 1 nS with
 | false=>exact⟨ya z a x f,⟨h1.pos,aK e rfl⟩,rfl⟩
 | true=>
  have h4:=lR.len h1 e;have h5:=lR.inv h1;unfold paB;obtain⟨⟨v,y⟩,hy⟩:∃y,iB x=y:=⟨_,rfl⟩;rw[hy] at h4 h5 ⊢;have h4:List.length y.1<_:=h4;refine⟨.back (z,a,y,(f.1,v::f.2.1,()),()),⟨h1.pos,aC e ⟨⟨h1,by omega⟩,by omega,rfl⟩⟩,by show List.length y.1<_;omega,⟨h5,?_,?_⟩,?_⟩
  ·show List.length y.1<=20001;omega
  ·show f.2.1.length+1+List.length y.1<=30000;omega
  ·show ya z a (eL iB (List.length y.1) y).2 (f.1,(eL iB (List.length y.1) y).1.reverse++(v::f.2.1),())=ya z a (eL iB n y).2 (f.1,(v::(eL iB n y).1).reverse++f.2.1,());rw[yk lR _ n h5 (aaG _) (by omega),ab8,abS];rfl
abbrev xG:ByteArray:=⟨#[101,108,101,99,116,105,111,110]⟩
theorem zZ:∀{l:List UInt8} {p:Nat×List UInt8},quo l=some (some p)->p.2.length<=l.length
 | [],p,h=>by cases h
 | c::l,p,h=>by
  rw[ja] at h;split at h
  ·injection h with h;injection h with h;subst h;exact abz _
  split at h
  ·match l,h with
   | [],h=>cases h
   | d::m,h=>
    simp only at h;split at h
    ·match hq:quo m,h with
     | some (some q),h=>
      injection h with h;injection h with h;subst h
      have:=zZ hq;simp only[aaJ];omega
     | some none,h=>cases h
     | none,h=>cases h
    ·cases h
  split at h
  ·match hq:quo l,h with
   | some (some q),h=>
    injection h with h;injection h with h;subst h
    have:=zZ hq;simp only[aaJ];omega
   | some none,h=>cases h
   | none,h=>cases h
  ·cases h
theorem FK (l:List UInt8):(cj l).2.1.length<=l.length:=by
 unfold cj;split
 ·exact(List.take_sublist _ _).length_le
 split
 ·exact(List.take_sublist _ _).length_le
 split
 ·show(tN l).2.length<=_;unfold tN
  match hq:quo (l.drop 1) with
  | some (some q)=>have:=zZ hq;rw[abw] at this;show q.2.length<=_;omega
  | some none=>exact abz _
  | none=>exact abz _
 split
 ·exact(List.take_sublist _ _).length_le
 ·exact abz _
theorem CK:∀(f:Nat) (t:List UInt8) (n:Int),t.length<=20000->(lE f t n).2.1=0->dW ((lE f t n).1,(0:Int),(0:Int),())/\(lE f t n).1.length<=t.length+1
 | 0,_,_,_,h=>by cases h
 | f+1,t,n,hl,h=>by
  unfold lE at h ⊢;by_cases h1:t.drop (bo false t)=[]
  ·simp only[h1,if_true];exact⟨⟨⟨[],_,rfl,rfl⟩,λu hu=>by rw[acb.1 hu];exact abz _⟩,by simp⟩
  ·by_cases h2:(cj (t.drop (bo false t))).2.2=0
   ·simp only[h1,h2,if_false,if_true] at h;exact absurd h (by decide)
   ·have hd:0<(t.drop (bo false t)).length:=acF.2 h1;rw[abw] at hd;obtain⟨r,hr⟩:∃r,lE f ((t.drop (bo false t)).drop (cj (t.drop (bo false t))).2.2) (n+((t.take (bo false t)).count 10:Nat))=r:=⟨_,rfl⟩;have ih:=CK f ((t.drop (bo false t)).drop (cj (t.drop (bo false t))).2.2) (n+((t.take (bo false t)).count 10:Nat)) (by rw[abw,abw];omega);simp only[h1,h2,if_false] at h ⊢;rw[hr] at ih h ⊢;have h:r.2.1=0:=h;obtain⟨⟨⟨l,e,q1,q2⟩,q3⟩,q4⟩:=ih h;rw[if_pos h];refine⟨⟨⟨_::l,e,congrArg (_::·) q1,q2⟩,λu hu=>?_⟩,?_⟩
    ·rcases abs.1 hu with rfl|hu
     ·have:=FK (t.drop (bo false t));rw[abw] at this;show(cj (t.drop (bo false t))).2.1.length<=20000;omega
     ·exact q3 u hu
    ·rw[abw,abw] at q4;show r.1.length+1<=_;omega
abbrev paZ (e n:Int):XV:=.tup [(true,[.sym (.string nS),.val (.slice none 0 0)]),(true,[.sym (.int .i64 e),.sym (.int .i64 n)])]
abbrev aSr (s:aF):XV:=.tup [(true,[.sym (.string s.title),.list (.st 1) s.blocks (!s.blocks.isEmpty)]),(true,[.sym (.int .i64 0),.sym (.int .i64 0)])]
def paY (t:pp) (y:dh):T XV:=.nd (dW y/\List.length y.1<=20001/\([]:List ak).length+List.length y.1<=30000) (.nd (0<List.length (Iw y).2.1) (.nd (0<List.length (aY (Iw y).2 4 Rh).1) (.br (!((aY (aY (Iw y).2 4 Rh) 5 nS).2.1==0)) (.lf (paZ (aY (aY (Iw y).2 4 Rh) 5 nS).2.1 (aY (aY (Iw y).2 4 Rh) 5 nS).2.2.1))
 (.lf (.tup [(true,[.sym (.string t.2.1),.list (.st 1) ((Iw y).1.reverse++([]:List ak)).reverse (!((Iw y).1.reverse++([]:List ak)).isEmpty)]),(true,[.sym (.int .i64 0),.sym (.int .i64 0)])])))))
def paX (x:dh):T XV:=.nd (0<List.length x.1) (.nd (0<List.length (aY x 1 xG).1) (.nd (0<List.length (aY (aY x 1 xG) 3 nS).1) (paY (dI (aY x 1 xG) 3 nS) (aY (aY (aY x 1 xG) 3 nS) 4 obS))))
def paT (q:List pp×Int×Int):T XV:=.br (q.2.1==0) (.br false (.lf (paZ 0 0)) (paX (q.1,(0:Int),(0:Int),()))) (.br true (.lf (paZ 1 q.2.2)) (paX ([],(0:Int),(0:Int),())))
def Y8 (l:List pp):dh:=aY (aY (aY (l,(0:Int),(0:Int),()) 1 xG) 3 nS) 4 obS
def TX (l:List pp):dh:=aY (aY (Iw (Y8 l)).2 4 Rh) 5 nS
def aep (l:List pp):aF:=⟨(dI (aY (l,(0:Int),(0:Int),()) 1 xG) 3 nS).2.1,(Iw (Y8 l)).1⟩
def Ar (s:ByteArray):List pp×Int×Int:=lE (s.size+1) s.data.toList 1
def Y7 (q:List pp×Int×Int):T XV:=.br (q.2.1==0) (.br ((TX q.1).2.1==0) (.lf (aSr (aep q.1))) (.lf (paZ (TX q.1).2.1 (TX q.1).2.2.1))) (.lf (paZ 1 q.2.2))
theorem TW:ao Tryz.prog 41 true (az [(0,sS)] λ((s:ByteArray),_)=>.nd (s.size<=20000) (Y7 (Ar s))):=
 pT (R:=aer) ((nL _ _).add 0 _ Of) true 99 [(0,sS)] (λ((s:ByteArray),_)=>.nd (s.size<=20000) (paT (Ar s))) (λ⟨(s:ByteArray),_⟩ r _ ⟨hs,hr⟩=>⟨⟨hs,by
  have hi:=CK (s.size+1) s.data.toList 1 (by rw[ic];exact hs);have hr:(Y7 (Ar s)).hit r:=hr;show(paT (Ar s)).hit r;obtain⟨q,hq⟩:∃q,Ar s=q:=⟨_,rfl⟩;have I0:lE (s.size+1) s.data.toList 1=q:=hq;rw[I0] at hi;rw[hq] at hr ⊢;refine⟨λe=>⟨(λe=>by cases e),λ_=>?_⟩,λe=>⟨λ_=>hr.2 e,λe=>by cases e⟩⟩;obtain⟨h0,h1⟩:=hi (eq_of_beq e);have hr:=hr.1 e;rw[ic] at h1;have h2:=h0.need 1 xG;have h3:=h2.need 3 nS;have h4:=h3.need 4 obS;have l1:=gI (q.1,(0:Int),(0:Int),()) 1 xG;have l2:=gI (aY (q.1,(0:Int),(0:Int),()) 1 xG) 3 nS;have l3:=gI (aY (aY (q.1,(0:Int),(0:Int),()) 1 xG) 3 nS) 4 obS;have l0:List.length ((q.1,(0:Int),(0:Int),()):dh).1<=s.size+1:=h1;have h5:=(mV lR (List.length (Y8 q.1).1) h4).1;refine⟨h0.pos,h2.pos,h3.pos,⟨h4,by omega,by show 0+_<=30000;omega⟩,h5.pos,(h5.need 4 Rh).pos,?_⟩;refine⟨λe=>hr.2 (by have h9:=congrArg not e;rw[Bool.not_not] at h9;exact h9),λe=>?_⟩;have hr:=hr.1 (by have h9:=congrArg not e;rw[Bool.not_not] at h9;exact h9);rw[acx,aat,ady];exact hr⟩,.inl rfl⟩) Tryz.func41
theorem RD {l:List UInt8} (h:gK l=true):Lib.atoi l=some (((Lib.decNat l).getD 0:Nat):Int):=by
 obtain⟨h0,_,h2⟩:=gS h;cases l with
 | nil=>exact absurd rfl h0
 | cons x l=>
  obtain⟨n,hn⟩:=kf (x::l) 0 h2;have hx:=h2 x (by simp);unfold digitB at hx;rw[aav,decide_eq_true_iff,decide_eq_true_iff] at hx;have e1:(x==45)=false:=by rw[beq_eq_false_iff_ne];rintro rfl;simp at hx
  have e2:(x==43)=false:=by rw[beq_eq_false_iff_ne];rintro rfl;simp at hx
  have e3:Lib.decNat (x::l)=some n:=by simpa[Lib.decNat] using hn
  unfold Lib.atoi;simp[e1,e2,e3]
theorem Kb (l:List UInt8):decide (0<=Lib.indexByte l 47)=iJ l:=by
 rcases ji l with h|⟨k,hk,h1,h2,_⟩
 ·rw[h,(wL h).2.2];rfl
 ·rw[hk,(qI h1 h2).2.2];simp
theorem JR {x:UInt8} {l:List UInt8} (h:dn (x::l)=(x::l).length):57<x.toNat:=by
 unfold dn at h;simp only at h;split at h
 ·rename_i hl;unfold fl at hl;rw[aav,decide_eq_true_iff,decide_eq_true_iff] at hl;omega
 ·simp at h
theorem K7 {x:UInt8} {l:List UInt8}:gK (x::l)=(iD (x::l)&&(decide (x.toNat<=57)&&!iJ (x::l))):=by
 rw[acD];constructor
 ·intro h;obtain⟨_,_,h2⟩:=gS h;have hn:cK (x::l)=(x::l).length:=by
   unfold gK at h;rw[aav,decide_eq_true_iff,decide_eq_true_iff] at h;exact h.2
  have hb:iD (x::l)=true:=by unfold iD;rw[if_neg (by simp),if_pos (.inr hn)]
  have hx:=h2 x (by simp);unfold digitB at hx;rw[aav,decide_eq_true_iff,decide_eq_true_iff] at hx;have hc:iJ (x::l)=false:=by
   unfold iJ;rw[acI];intro hc;have:=h2 _ (List.contains_iff_mem.1 hc);simp[digitB] at this
  rw[hb,hc,decide_eq_true hx.2];rfl
 ·intro h;simp only[aav,decide_eq_true_iff,acs] at h;obtain⟨h1,h2,h3⟩:=h;unfold iD at h1;rw[if_neg (by simp)] at h1;split at h1
  ·rename_i hw;rcases hw with hw|hw
   ·have:=JR hw;omega
   ·unfold gK;rw[decide_eq_true hw];simp
  ·rw[h3] at h1;simp at h1
end Go.Proofs.YtdbpbfglhbiadaaGreatDoor
