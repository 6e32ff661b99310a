/- Lx8 Tp1 Ts1 Ts2 Okd Ts3 Ts4 Tp2 -/
import Derived.Test.YtdbpbfglhbiadaaGreatDoorH00
import Derived.Test.YtdbpbfglhbiadaaGreatDoorH31
import Derived.Test.YtdbpbfglhbiadaaGreatDoorH32
import Derived.Test.YtdbpbfglhbiadaaGreatDoorH09
import Derived.Test.YtdbpbfglhbiadaaGreatDoorH14
import Derived.Test.YtdbpbfglhbiadaaGreatDoorH15
import Derived.Test.YtdbpbfglhbiadaaGreatDoorH02
import Derived.Test.YtdbpbfglhbiadaaGreatDoorH16
set_option maxHeartbeats 4000000
set_option maxRecDepth 100000
namespace Go.Proofs.YtdbpbfglhbiadaaGreatDoor
open Go Go.RowKit
abbrev tM:ByteArray:=⟨#[47]⟩
theorem UV:ao Tryz.prog 213 false (az [(0,sS),(1,sS)] λ((s:ByteArray),(t:ByteArray),_)=>.nd (t=tM) (.lf (aI (Lib.indexByte s.data.toList 47)))):=
 su (λ((s:ByteArray),(t:ByteArray),_)=>[.string s,.string t]) λw S ⟨(s:ByteArray),(t:ByteArray),_⟩ r _ ⟨ht,hr⟩=>by
  obtain rfl:aI (Lib.indexByte s.data.toList 47)=r:=hr;subst ht;exact Calls.mono (Tryz.stringslite_Index_one s 47 w) λ_ _ h=>Eb rfl ⟨h.1,h.2▸Below.refl _ _⟩
noncomputable def Cq0:eP Tryz.prog:=bA E7 [⟨_,_,_,UV⟩] []
def cqT (s t:ByteArray):T XV:=.nd (t=tM) (.br (decide (Lib.indexByte s.data.toList 47>=0)) (.nd ((0:Int)<=0/\0<=Lib.indexByte s.data.toList 47/\Lib.indexByte s.data.toList 47<=s.size) (.nd (cw (Lib.indexByte s.data.toList 47+t.size)) (.nd (0<=Lib.indexByte s.data.toList 47+t.size/\Lib.indexByte s.data.toList 47+t.size<=s.size/\(s.size:Int)<=s.size)
 (.lf (aT [.string (s.extract 0 (Lib.indexByte s.data.toList 47).toNat),.string (s.extract (Lib.indexByte s.data.toList 47+t.size).toNat s.size),.bool true]))))) (.lf (aT [.string s,.string ⟨#[]⟩,.bool false])))
abbrev QQ (s:ByteArray):XV:=aT [.string ⟨(dy s.data.toList).toArray⟩,.string ⟨(dw s.data.toList).toArray⟩,.bool (iJ s.data.toList)]
abbrev agA:List XV->T XV:=az [(0,sS),(1,sS)] λ((s:ByteArray),(t:ByteArray),_)=>.nd (s.size<=9223372036854775807/\t=tM) (.lf (QQ s))
theorem VU:ao Tryz.prog 229 false agA:=
 aN (C:=Cq0) (nL _ _) false 99 [(0,sS),(1,sS)] (λ((s:ByteArray),(t:ByteArray),_)=>cqT s t) (λ⟨(s:ByteArray),(t:ByteArray),_⟩ r _ ⟨⟨hs,ht⟩,h⟩=>by
  obtain rfl:QQ s=r:=h;obtain rfl:t=tM:=ht;refine⟨?_,.inr rfl⟩;show(cqT s tM).hit (QQ s);unfold cqT QQ;rcases ji s.data.toList with h|⟨k,hk,h1,h2,h3⟩
  ·obtain⟨c1,c2,c3⟩:=wL h;rw[c1,c2,c3,h];exact⟨rfl,aK rfl rfl⟩
  ·obtain⟨c1,c2,c3⟩:=qI h1 h2;rw[c1,c2,c3,hk,<-exT,<-exD];rw[ic] at h3;have e1:(k:Int)+((tM.size:Nat):Int)=((k+1:Nat):Int):=rfl;rw[e1];exact⟨rfl,aC (decide_eq_true (by omega)) ⟨⟨by omega,by omega,by omega⟩,⟨by omega,by omega⟩,⟨by omega,by omega,by omega⟩,rfl⟩⟩) Tryz.func229
noncomputable def Cq1:eP Tryz.prog:=bA E7 [⟨_,_,_,VU⟩] []
theorem Ji:ao Tryz.prog 194 false agA:=
 aN (C:=Cq1) (nL _ _) false 99 [(0,sS),(1,sS)] (λ((s:ByteArray),(t:ByteArray),_)=>.nd (s.size<=9223372036854775807/\t=tM) (.lf (QQ s))) (λ⟨(s:ByteArray),(t:ByteArray),_⟩ r _ h=>⟨h,.inr (by obtain⟨_,h⟩:=h;obtain rfl:=h;rfl)⟩) Tryz.func194
noncomputable def Cq2:eP Tryz.prog:=bA E7 [⟨_,_,_,MJ⟩,⟨_,_,_,Cq⟩,⟨_,_,_,Ji⟩,⟨_,_,_,Ig⟩] []
abbrev bF:T XV:=.lf (aB false)
abbrev oA (s:ByteArray):ByteArray:=⟨(dy s.data.toList).toArray⟩
abbrev oB (s:ByteArray):ByteArray:=⟨(dw s.data.toList).toArray⟩
def abX (s:ByteArray):T XV:=.br (s.toList==(⟨#[]⟩:ByteArray).toList) bF (.nd (s.size<=9223372036854775807) (.br ((dn s.data.toList:Int)==s.size) (.lf (aB true)) (.nd (s.size<=9223372036854775807) (.br ((cK s.data.toList:Int)==s.size) (.lf (aB true)) (.nd (s.size<=9223372036854775807/\tM=tM) (.br (iJ s.data.toList) (.br (!((oA s).toList==(⟨#[]⟩:ByteArray).toList)) (.br (!((oB s).toList==(⟨#[]⟩:ByteArray).toList))
 (.nd ((oA s).size<=9223372036854775807) (.br ((cK (oA s).data.toList:Int)==(oA s).size) (.nd ((oB s).size<=9223372036854775807) (.lf (aB ((cK (oB s).data.toList:Int)==(oB s).size)))) bF)) bF) bF) bF))))))
theorem QS (l:List UInt8):(dy l).length<=l.length:=(acZ _).length_le
theorem QR (l:List UInt8):(dw l).length<=l.length:=by unfold dw;rw[abw];have:=(List.dropWhile_sublist (λx:UInt8=>x !=47) (l:=l)).length_le;omega
theorem FJ (l:List UInt8):((⟨l.toArray⟩:ByteArray).toList==(⟨#[]⟩:ByteArray).toList)=decide (l=[]):=by
 rw[cO,decide_eq_decide];exact⟨λh=>by have:=congrArg (λb:ByteArray=>b.data.toList) h;simpa using this,λh=>by rw[h]⟩
theorem V6 {a b:Nat}:(((a:Int)==(b:Int)):Bool)=decide (a=b):=by rw[acD,beq_iff_eq,decide_eq_true_eq,Int.natCast_inj]
theorem D8:ao Tryz.prog 143 false (az [(0,sS)] λ((s:ByteArray),_)=>.nd (s.size<=9223372036854775807) (.lf (aB (iD s.data.toList)))):=
 aN (C:=Cq2) (nL _ _) false 99 [(0,sS)] (λ((s:ByteArray),_)=>abX s) (λ⟨(s:ByteArray),_⟩ r _ ⟨hs,h⟩=>by
  obtain rfl:aB (iD s.data.toList)=r:=h;refine⟨?_,.inr rfl⟩;show(abX s).hit _;have ha:=QS s.data.toList;have hb:=QR s.data.toList;rw[ic] at ha hb;obtain⟨⟨⟨l⟩⟩,rfl⟩:∃t,s=t:=⟨s,rfl⟩;unfold abX iD;show(T.br ((⟨l.toArray⟩:ByteArray).toList==(⟨#[]⟩:ByteArray).toList) _ _).hit _;rw[FJ,FJ,FJ,V6,V6,V6,V6];by_cases q1:l=[]
  ·rw[if_pos q1];exact aC (decide_eq_true q1) rfl
  rw[if_neg q1];refine aK (decide_eq_false q1) ⟨hs,?_⟩;by_cases q2:dn l=l.length
  ·rw[if_pos (.inl q2)];exact aC (decide_eq_true q2) rfl
  refine aK (decide_eq_false q2) ⟨hs,?_⟩;by_cases q3:cK l=l.length
  ·rw[if_pos (.inr q3)];exact aC (decide_eq_true q3) rfl
  rw[if_neg (by rintro(h|h);exact q2 h;exact q3 h)];refine aK (decide_eq_false q3) ⟨⟨hs,rfl⟩,?_⟩;show(T.br (iJ l) _ _).hit _;cases iJ l with
  | false=>exact aK rfl rfl
  | true=>
   refine aC rfl ?_;by_cases q4:dy l=[]
   ·rw[decide_eq_true q4,decide_eq_false (p:=dy l≠[]) (λh=>h q4)];exact aK rfl (by simp;rfl)
   rw[decide_eq_false q4,decide_eq_true (p:=dy l≠[]) q4];refine aC rfl ?_;by_cases q5:dw l=[]
   ·rw[decide_eq_true q5,decide_eq_false (p:=dw l≠[]) (λh=>h q5)];exact aK rfl (by simp;rfl)
   rw[decide_eq_false q5,decide_eq_true (p:=dw l≠[]) q5];refine aC rfl ⟨aax ha hs,?_⟩;show(T.br (decide (cK (dy l)=(dy l).length)) _ _).hit (aB (true&&(true&&(true&&(decide (cK (dy l)=(dy l).length)&&decide (cK (dw l)=(dw l).length))))));cases decide (cK (dy l)=(dy l).length) with
   | false=>exact aK rfl rfl
   | true=>exact aC rfl ⟨aax hb hs,rfl⟩) Tryz.func143
def QB (c:UInt8):List UInt8:=if c=34\/c=92 then[92,c] else[c]
def pg (l:List UInt8):List UInt8:=l.flatMap QB
def Fy (l:List UInt8):List UInt8:=34::pg l++[34]
def B8 (l:List UInt8):List Int:=(l.map λc=>(c.toNat:Int)).reverse
abbrev qtL:List (Nat×SS):=[(0,sS),(4,.c (.own (.int .u8) 5)),(8,sI),(9,sI)]
abbrev qtO:List (Nat×SS):=[(4,.c (.own (.int .u8) 5))]
abbrev WV:=LE qtL qtO []
noncomputable abbrev qtF:=Tryz.f101
def Cm:WV:=.ret (.tup [(false,[.val (.string ⟨#[]⟩)]),(false,[.val (.bool false)])]) ()
def xZ (l:List Int):WV:=.out (l,())
def Y2 (s:ByteArray) (l:List Int) (n i:Int):T WV:=.nd (0<=i/\i<s.size) (.nd ((l.length+1)*2<=140737488355328) (.nd (cw (i+1)) (.lf (.back (s,at8 s i::l,n,i+1,())))))
def Y1 (s:ByteArray) (l:List Int) (n i:Int):T WV:=.nd ((l.length+1)*2<=140737488355328) (Y2 s ((92:Int)::l) n i)
def qtB (s:ByteArray) (l:List Int) (n i:Int):T WV:=.br (decide (i<n)) (.nd (0<=i/\i<s.size) (.br (!KA (at8 s i)) (.lf Cm) (.nd (0<=i/\i<s.size) (.br (at8 s i==34) (Y1 s l n i) (.nd (0<=i/\i<s.size) (.br (at8 s i==92) (Y1 s l n i) (Y2 s l n i))))))) (.lf (xZ l))
def qtN (s:ByteArray) (l:List Int) (n i:Int):Prop:=0<=i/\i<=s.size/\n=s.size/\s.size<=17592186044416/\(l.length:Int)<=2*i+1
def qtG (s:ByteArray) (l:List Int) (n i:Int):T WV:=.nd (qtN s l n i) (.br ((s.data.toList.drop i.toNat).all fZ) (.lf (xZ (B8 (pg (s.data.toList.drop i.toNat))++l))) (.lf Cm))
theorem Oa:cL (mi Cq2 qtF) 0 0 qtL qtO [] λx=>qtG x.1 x.2.1 x.2.2.1 x.2.2.2.1:=by
 refine j1 _ (nL _ _) 99 0 0 qtL qtO [] (λx=>qtB x.1 x.2.1 x.2.2.1 x.2.2.2.1) (λx=>ByteArray.size x.1-Int.toNat x.2.2.2.1) ?_;rintro⟨(s:ByteArray),(l:List Int),(n:Int),(i:Int),_⟩ r _ ⟨h,hr⟩;obtain⟨h0,h1,rfl,h2,h3⟩:qtN s l n i:=h;obtain⟨k,rfl⟩:∃k:Nat,i=k:=⟨i.toNat,by omega⟩;have hr:(T.br ((s.data.toList.drop k).all fZ) (.lf (xZ (B8 (pg (s.data.toList.drop k))++l))) (.lf Cm)).hit r:=hr;show∃q,(qtB s l s.size k).hit q/\q.nx _ (λx=>qtG x.1 x.2.1 x.2.2.1 x.2.2.2.1) (s.size-k) r;unfold qtB;by_cases hk:k<s.size
 ·obtain⟨c,m,e,ec,ed,_⟩:=Jd hk;rw[e] at hr;have nx:∀(x:List Int),(x.length:Int)<=2*k+2->fZ c=true->B8 (pg (c::m))++l=B8 (pg m)++((c.toNat:Int)::x)->∃q,(Y2 s x s.size k).hit q/\q.nx (λx=>ByteArray.size x.1-Int.toNat x.2.2.2.1) (λx=>qtG x.1 x.2.1 x.2.2.1 x.2.2.2.1) (s.size-k) r:=λx hx hp he=>by
   refine⟨.back (s,at8 s k::x,(s.size:Int),(k:Int)+1,()),⟨⟨by omega,by omega⟩,by omega,⟨by omega,by omega⟩,rfl⟩,by show s.size-((k:Int)+1).toNat<s.size-k;omega,(⟨by omega,by omega,rfl,h2,by rw[aaJ];omega⟩:qtN s (at8 s k::x) s.size ((k:Int)+1)),?_⟩;show(T.br ((s.data.toList.drop ((k:Int)+1).toNat).all fZ) (.lf (xZ (B8 (pg (s.data.toList.drop ((k:Int)+1).toNat))++(at8 s k::x)))) (.lf Cm)).hit r;rw[show((k:Int)+1).toNat=k+1 by omega,ed,ec,<-he];rw[acJ,hp,acO] at hr;exact hr
  have go:∀{q:WV} {y:T WV},y.hit q->(T.br (decide ((k:Int)<(s.size:Int))) (.nd (0<=(k:Int)/\(k:Int)<s.size) y) (.lf (xZ l))).hit q:=λh=>aC (decide_eq_true (by omega)) ⟨⟨by omega,by omega⟩,h⟩;rw[ec,Im];cases hp:fZ c with
  | false=>
   rw[acJ,hp] at hr;exact⟨Cm,go (aC rfl rfl),hr.2 rfl⟩
  | true=>
   have n2:c=34\/c=92->∃q,(Y1 s l s.size k).hit q/\q.nx (λx=>ByteArray.size x.1-Int.toNat x.2.2.2.1) (λx=>qtG x.1 x.2.1 x.2.2.1 x.2.2.2.1) (s.size-k) r:=λhc=>by
    obtain⟨q,g1,g2⟩:=nx ((92:Int)::l) (by rw[aaJ];omega) hp (by unfold pg;rw[adt,QB,if_pos hc];unfold B8;simp);exact⟨q,⟨by omega,g1⟩,g2⟩
   by_cases c1:c=34
   ·obtain⟨q,g1,g2⟩:=n2 (.inl c1);exact⟨q,go (aK rfl ⟨⟨by omega,by omega⟩,aC (eqT 34 (by decide) c1) g1⟩),g2⟩
   by_cases c2:c=92
   ·obtain⟨q,g1,g2⟩:=n2 (.inr c2);exact⟨q,go (aK rfl ⟨⟨by omega,by omega⟩,aK (XG 34 (by decide) c1) ⟨⟨by omega,by omega⟩,aC (eqT 92 (by decide) c2) g1⟩⟩),g2⟩
   obtain⟨q,g1,g2⟩:=nx l (by omega) hp (by unfold pg;rw[adt,QB,if_neg (by simp[c1,c2])];unfold B8;simp);exact⟨q,go (aK rfl ⟨⟨by omega,by omega⟩,aK (XG 34 (by decide) c1) ⟨⟨by omega,by omega⟩,aK (XG 92 (by decide) c2) g1⟩⟩),g2⟩
 ·rw[aaQ (by rw[ic];omega)] at hr;exact⟨xZ l,aK (decide_eq_false (by omega)) rfl,hr.1 rfl⟩
def quT (s:ByteArray):T XV:=.nd (qtN s [34] s.size 0) (.br ((s.data.toList.drop 0).all fZ) (.nd (((B8 (pg (s.data.toList.drop 0))++[34]).length+1)*2<=140737488355328) (.nd (∀v:Int,v∈((34:Int)::(B8 (pg (s.data.toList.drop 0))++[34])).reverse->0<=v/\v<=255) (.lf (aT [.string ⟨(u8s ((34:Int)::(B8 (pg (s.data.toList.drop 0))++[34])).reverse).toArray⟩,.bool true])))) (.lf (aT [.string ⟨#[]⟩,.bool false])))
theorem QA (l:List UInt8):(pg l).length<=2*l.length:=by
 unfold pg;induction l with
 | nil=>exact aaG _
 | cons c l ih=>
  rw[adt,aaM,aaJ];have:(QB c).length<=2:=by unfold QB;split<;>simp
  omega
theorem YG (l:List UInt8):u8s (B8 l).reverse=l:=by
 unfold B8 u8s;rw[aat,List.map_map];exact(adB λc _=>by show UInt8.ofNat ((c.toNat:Int).toNat)=c;rw[aae];exact UInt8.ofNat_toNat).trans (List.map_id _)
def quG (s:ByteArray):T XV:=.br (fY s.data.toList) (.lf (aT [.string ⟨(Fy s.data.toList).toArray⟩,.bool true])) (.lf (aT [.string ⟨#[]⟩,.bool false]))
theorem Kx {s:ByteArray} {r:XV} (h:(quG s).hit r):r.plain=true:=by rcases hB h with⟨_,h⟩|⟨_,h⟩<;>(obtain rfl:=h;rfl)
theorem TO {s:ByteArray} {r:XV} (hs:s.size<=17592186044416) (h:(quG s).hit r):(quT s).hit r:=by
 unfold quT;rw[acr];have hl:=QA s.data.toList;rw[ic] at hl;have e:(34:Int)::(B8 (pg s.data.toList)++[34])=B8 (Fy s.data.toList):=by unfold Fy B8;simp
 refine⟨⟨acR _,by omega,rfl,hs,by decide⟩,λq=>⟨?_,λv hv=>?_,?_⟩,λq=>h.2 q⟩
 ·rw[aaM,B8,aaP,acf];show((pg s.data.toList).length+1+1)*2<=_;omega
 ·rw[e,B8,aat] at hv;obtain⟨c,_,rfl⟩:=acu.1 hv;have:=c.toNat_lt;omega
 ·rw[e,YG];exact h.1 q
theorem TL:ao Tryz.prog 101 false (az [(0,sS)] λ((s:ByteArray),_)=>.nd (s.size<=17592186044416) (quG s)):=
 aN (C:=Cq2) ((nL _ _).add 0 _ Oa) false 99 [(0,sS)] (λ((s:ByteArray),_)=>quT s) (λ⟨(s:ByteArray),_⟩ r _ ⟨hs,h⟩=>⟨TO hs h,.inr (Kx h)⟩) Tryz.func101
noncomputable def Cq3:eP Tryz.prog:=bA E7 [⟨_,_,_,TL⟩] []
def ael (s:ByteArray) (a b:Int):T XV:=.br (decide ((s.size:Int)>=a)) (.lf (aB (decide ((s.size:Int)<=b)))) bF
def aj9 (s:ByteArray) (a b:Int):T XV:=.nd (s.size<=17592186044416) (.br (fY s.data.toList) (.br true (ael s a b) bF) (.br false (ael s a b) bF))
theorem rE:ao Tryz.prog 57 false (az [(0,sS),(1,sI),(2,sI)] λ((s:ByteArray),(a:Int),(b:Int),_)=>.nd (cU s) (.lf (aB (da s a b)))):=
 aN (C:=Cq3) (nL _ _) false 99 [(0,sS),(1,sI),(2,sI)] (λ((s:ByteArray),(a:Int),(b:Int),_)=>aj9 s a b) (λ⟨(s:ByteArray),(a:Int),(b:Int),_⟩ r _ ⟨hs,h⟩=>by
  obtain rfl:aB (da s a b)=r:=h;unfold da;refine⟨⟨hs,λe=>aC rfl ⟨λe2=>?_,λe2=>?_⟩,λe=>aK rfl ?_⟩,.inr rfl⟩
  ·rw[e,show decide (a<=(s.size:Int))=true from e2];rfl
  ·rw[e,show decide (a<=(s.size:Int))=false from e2];rfl
  ·rw[e];rfl) Tryz.func57
theorem AQ:ao Tryz.prog 144 false (az [(0,sL),(1,sS)] λ((l:List ByteArray),(s:ByteArray),_)=>.lf (aB (Lib.containsS l s))):=
 gQ λw S x vs r hS he hl hr=>by
  obtain⟨(l:List ByteArray),(s:ByteArray),_⟩:=x;obtain⟨v,h1,A,q,c,h2,h3,_⟩:=he 0 (.one (.list .str l false)) aaz;obtain⟨v',jh,EI,_⟩:=he 1 (aS s) (aa0 _ aaz);obtain rfl:=hr
  match vs,hl,h1,jh with
  | [u,u'],_,h1,jh=>
   injection h1 with h1
   injection jh with jh
   subst h1 jh h2 EI;exact Calls.mono (Bf h3 s) λ_ _ h=>Eb rfl ⟨h.1,h.2▸Below.refl _ _⟩
theorem VZ:ao Tryz.prog 231 false (az [(0,sS),(1,sS)] λ((s:ByteArray),(t:ByteArray),_)=>.nd (t=tM) (.lf (aB (iJ s.data.toList)))):=
 su (λ((s:ByteArray),(t:ByteArray),_)=>[.string s,.string t]) λw S ⟨(s:ByteArray),(t:ByteArray),_⟩ r _ ⟨ht,hr⟩=>by
  obtain rfl:aB (iJ s.data.toList)=r:=hr;subst ht;exact Calls.mono (Tryz.strings_Contains_one s 47 w) λ_ _ h=>Eb rfl ⟨by rw[h.1,Kb],h.2▸Below.refl _ _⟩
theorem Wj:ao Tryz.prog 232 false (az [(0,sS)] λ((s:ByteArray),_)=>.nd (gK s.data.toList=true/\s.size<=9223372036854775807) (.lf (.tup [(false,[.sym (.int .i64 (bQ s.data.toList).1)]),(false,[.val .nilIface])]))):=
 su (λ((s:ByteArray),_)=>[.string s]) λw S ⟨(s:ByteArray),_⟩ r _ ⟨⟨h,_⟩,hr⟩=>by
  obtain rfl:=hr;refine(Tryz.strconv_Atoi s _ (by have:=(gS h).2.1;rw[ic] at this;omega) (RD h) w).mono ?_;rintro e w' ⟨h1,t,rfl⟩;refine anH (v:=.tuple #[.int .i64 (bQ s.data.toList).1,.nilIface]) ⟨_,rfl,.cons ⟨_,rfl,rfl,rfl⟩ (.cons ⟨_,rfl,rfl,rfl⟩ .nil)⟩ ⟨h1.trans ?_,⟨rfl,rfl,rfl,by rw[Lib.bytesWorld_size];exact Nat.le_succ _,λk hk=>Lib.bytesWorld_at_old w _ t k hk⟩⟩;unfold bQ;rw[if_pos h]
noncomputable def Cq4:eP Tryz.prog:=bA E7 [⟨_,_,_,D8⟩,⟨_,_,_,VZ⟩,⟨_,_,_,Wj⟩,⟨_,_,_,AQ⟩,⟨_,_,_,rE⟩] []
abbrev FG (n:Int) (b:Bool):XV:=aT [.int .i64 n,.bool b]
def Zp (s:ByteArray):T XV:=.nd (s.size<=9223372036854775807) (.br (!iD s.data.toList) (.lf (FG 0 false)) (.nd ((0:Int)<=0/\(0:Int)<s.size) (.br (decide (at8 s 0>57)) (.lf (FG 0 false)) (.nd (tM=tM) (.br (iJ s.data.toList) (.lf (FG 0 false)) (.nd (gK s.data.toList=true/\s.size<=9223372036854775807) (.lf (FG (bQ s.data.toList).1 true))))))))
theorem Ir:ao Tryz.prog 196 false (az [(0,sS)] λ((s:ByteArray),_)=>.nd (s.size<=9223372036854775807) (.lf (FG (bQ s.data.toList).1 (bQ s.data.toList).2))):=
 aN (C:=Cq4) (nL _ _) false 99 [(0,sS)] (λ((s:ByteArray),_)=>Zp s) (λ⟨(s:ByteArray),_⟩ r _ ⟨hs,h⟩=>by
  obtain rfl:FG (bQ s.data.toList).1 (bQ s.data.toList).2=r:=h;refine⟨?_,.inr rfl⟩;show(Zp s).hit _;obtain⟨⟨⟨l⟩⟩,rfl⟩:∃t,s=t:=⟨s,rfl⟩;unfold Zp bQ;show(T.nd _ (T.br (!iD l) _ (T.nd (_/\(0:Int)<(l.length:Int)) _))).hit (FG (if gK l=true then _ else _:Int×Bool).1 _);refine⟨hs,?_⟩;cases l with
  | nil=>exact aC rfl rfl
  | cons x l=>
   have e:=@K7 x l;cases hb:iD (x::l) with
   | false=>rw[if_neg (by rw[e,hb];exact Bool.false_ne_true)];exact aC rfl rfl
   | true=>
    refine aK rfl ⟨⟨acR _,by rw[aaJ];omega⟩,?_⟩;show(T.br (decide ((x.toNat:Int)>57)) _ (T.nd _ (T.br (iJ (x::l)) _ _))).hit _;by_cases h5:x.toNat<=57
    ·refine aK (decide_eq_false (by omega)) ⟨rfl,?_⟩;cases hc:iJ (x::l) with
     | true=>rw[if_neg (by rw[e,hc];simp)];exact aC rfl rfl
     | false=>
      have hn:gK (x::l)=true:=by rw[e,hb,hc,decide_eq_true h5];rfl
      exact aK rfl ⟨⟨hn,hs⟩,by rw[if_pos hn];exact rfl⟩
    ·rw[if_neg (by rw[e,decide_eq_false h5];simp)];exact aC (decide_eq_true (by omega)) rfl) Tryz.func196
abbrev liL:List (Nat×SS):=[(0,sL),(1,sI),(10,sL),(11,sI),(12,sI)]
abbrev liE:=LE liL [] []
noncomputable abbrev liF:=Tryz.f147
def qe (z:Int):liE:=.ret (.one (.val (.int .i64 z))) ()
def CJ:liE:=.out ()
def liB (l:List ByteArray) (m:Int) (l2:List ByteArray) (n i:Int):T liE:=.br (decide (i<n)) (.nd (0<=i/\i<l2.length) (.br (i==m) (.lf (qe 7)) (.nd (cU (l2.getD i.toNat ⟨#[]⟩)) (.br (!da (l2.getD i.toNat ⟨#[]⟩) 1 24) (.lf (qe 8))
 (.nd ((0:Int)<=0/\0<=i/\i<=l.length) (.br (Lib.containsS ((l.take i.toNat).drop (Int.toNat 0)) (l2.getD i.toNat ⟨#[]⟩)) (.lf (qe 3)) (.nd (cw (i+1)) (.lf (.back (l,m,l2,n,i+1,())))))))))) (.lf CJ)
def liN (l l2:List ByteArray) (n i:Int):Prop:=0<=i/\i<=l.length/\l2=l/\n=l.length/\∀s∈l,cU s
def KZ (l:List ByteArray) (m i:Int):Int:=fI m (l.take i.toNat) (l.drop i.toNat)
def liG (l:List ByteArray) (m:Int) (l2:List ByteArray) (n i:Int):T liE:=.nd (liN l l2 n i) (.br (decide (KZ l m i=0)) (.lf CJ) (.lf (qe (KZ l m i))))
theorem UA:cL (mi Cq4 liF) 0 0 liL [] [] λx=>liG x.1 x.2.1 x.2.2.1 x.2.2.2.1 x.2.2.2.2.1:=by
 refine j1 _ (nL _ _) 99 0 0 liL [] [] (λx=>liB x.1 x.2.1 x.2.2.1 x.2.2.2.1 x.2.2.2.2.1) (λx=>List.length x.1-Int.toNat x.2.2.2.2.1) ?_;rintro⟨(l:List ByteArray),(m:Int),(l2:List ByteArray),(n:Int),(i:Int),_⟩ r hb ⟨h,hr⟩;obtain⟨h0,h1,rfl,rfl,hs⟩:liN l l2 n i:=h;obtain⟨k,rfl⟩:∃k:Nat,i=k:=⟨i.toNat,by omega⟩;have hr:(T.br (decide (KZ l2 m k=0)) (.lf CJ) (.lf (qe (KZ l2 m k)))).hit r:=hr;show∃q,(liB l2 m l2 l2.length k).hit q/\q.nx _ (λx=>liG x.1 x.2.1 x.2.2.1 x.2.2.2.1 x.2.2.2.2.1) (l2.length-k) r;unfold liB;by_cases hk:k<l2.length
 ·obtain⟨s,es⟩:∃s,l2[k]=s:=⟨_,rfl⟩;have eg:l2[k]?=some s:=by rw[aac hk,es]
  have e:l2.getD (k:Int).toNat ⟨#[]⟩=s:=by rw[aae,aal,eg];rfl
  have ez:KZ l2 m k=if(k:Int)=m then 7 else if da s 1 24=false then 8 else if Lib.containsS (l2.take k) s then 3 else KZ l2 m ((k:Int)+1):=by
   unfold KZ;rw[aae,show((k:Int)+1).toNat=k+1 by omega,LK eg,fI,iQ eg,abD,ac8 (Nat.le_of_lt hk)]
  have hm:s∈l2:=acq eg;have hl:l2.length<=9223372036854775807:=hb.1;have go:∀{q:liE} {y:T liE},y.hit q->(T.br (decide ((k:Int)<(l2.length:Int))) (.nd (0<=(k:Int)/\(k:Int)<l2.length) y) (.lf CJ)).hit q:=λh=>aC (decide_eq_true (by omega)) ⟨⟨by omega,by omega⟩,h⟩;rw[e];have rt:∀{z:Int},z≠0->KZ l2 m k=z->qe z=r:=λhz e=>by rw[e] at hr;exact hr.2 (decide_eq_false hz)
  by_cases q1:(k:Int)=m
  ·exact⟨qe 7,go (aC (by rw[q1];simp) rfl),rt (by decide) (by rw[ez,if_pos q1])⟩
  rw[if_neg q1] at ez;cases q2:da s 1 24 with
  | false=>exact⟨qe 8,go (aK (by simpa using q1) ⟨hs s hm,aC rfl rfl⟩),rt (by decide) (by rw[ez,if_pos q2])⟩
  | true=>
   rw[if_neg (by rw[q2];decide)] at ez;cases q3:Lib.containsS (l2.take k) s with
   | true=>exact⟨qe 3,go (aK (by simpa using q1) ⟨hs s hm,aK rfl ⟨⟨by omega,by omega,by omega⟩,aC q3 rfl⟩⟩),rt (by decide) (by rw[ez,if_pos q3])⟩
   | false=>
    rw[if_neg (by rw[q3];decide)] at ez;refine⟨.back (l2,m,l2,(l2.length:Int),(k:Int)+1,()),go (aK (by simpa using q1) ⟨hs s hm,aK rfl ⟨⟨by omega,by omega,by omega⟩,aK q3 ⟨⟨by omega,by omega⟩,rfl⟩⟩⟩),by show l2.length-((k:Int)+1).toNat<l2.length-k;omega,(⟨by omega,by omega,rfl,rfl,hs⟩:liN l2 l2 l2.length ((k:Int)+1)),?_⟩;rw[ez] at hr;exact hr
 ·have hz:KZ l2 m k=0:=by unfold KZ;rw[aae,aaQ (by omega)];rfl
  rw[hz] at hr;exact⟨CJ,aK (decide_eq_false (by omega)) rfl,hr.1 rfl⟩
def aeW (l:List ByteArray) (m:Int):T XV:=.br ((l.length:Int)==0) (.lf (aI 7)) (.nd (liN l l l.length 0) (.br (decide (KZ l m 0=0)) (.lf (aI 0)) (.lf (aI (KZ l m 0)))))
theorem Uz:ao Tryz.prog 147 false (az [(0,sL),(1,sI)] λ((l:List ByteArray),(n:Int),_)=>.nd (∀s∈l,cU s) (.lf (aI (dl l n)))):=
 aN (C:=Cq4) ((nL _ _).add 0 _ UA) false 99 [(0,sL),(1,sI)] (λ((l:List ByteArray),(m:Int),_)=>aeW l m) (λ⟨(l:List ByteArray),(m:Int),_⟩ r _ ⟨hs,h⟩=>by
  obtain rfl:aI (dl l m)=r:=h;refine⟨?_,.inr rfl⟩;show(aeW l m).hit _;unfold dl;by_cases h0:l=[]
  ·subst h0;exact aC rfl rfl
  ·rw[if_neg h0];refine aK (by rw[beq_eq_false_iff_ne];intro e;exact h0 (List.length_eq_zero_iff.1 (by omega))) ⟨⟨acR _,by omega,rfl,rfl,hs⟩,λq=>?_,λ_=>rfl⟩;show aI 0=aI (KZ l m 0);rw[of_decide_eq_true q]) Tryz.func147
theorem SV.xr {w:World} {S:Nat->Prop} {v:Value} (k:Nat) {x:GQ k} (h:@SV _ (xP k) w S v x):XR [] w S (.agg (jS (.st k) x)) v:=let ⟨cs,e,h⟩:=h;⟨cs,e,ka (t:=.st k) h⟩
theorem Qs:ao Tryz.prog 230 false (az [(0,sI),(1,sI)] λ((a:Int),(b:Int),_)=>.nd (cw a/\cw b) (.lf (.agg (jS (.st 8) (fh a b).raw)))):=
 su (λ((a:Int),(b:Int),_)=>[.int .i64 a,.int .i64 b]) λw S ⟨(a:Int),(b:Int),_⟩ r _ ⟨⟨⟨h1,h2⟩,h3,h4⟩,hr⟩=>by
  obtain rfl:XV.agg (jS (.st 8) (fh a b).raw)=r:=hr;refine Calls.mono (Vz a b w h1 h2 h3 h4) λe w' ⟨v,e1,e2,e3⟩=>⟨v,dM w w',e1,e3,λb q=>.inr q,SV.xr 8 (x:=(fh a b).raw) e2⟩
theorem GN {w:World} {S:Nat->Prop} {x:Raw} {v:Value} (h:XR [] w S (.agg (jS (.st 8) x)) v):SV w S v x:=by
 obtain⟨vs,rfl,hf⟩:=h;exact⟨vs,rfl,jJ (t:=.st 8) (us:=jS (.st 8) x) rfl hf⟩
theorem Jm:ao Tryz.prog 54 false (az [(0,.st 8),(1,.st 8)] λ((a:Raw),(b:Raw),_)=>.nd (a.short 67108864/\b.short 67108864) (.lf (aI (m8 a.q b.flip.q)))):=
 gQ λw S x vs r hS he hl hr=>by
  obtain⟨(a:Raw),(b:Raw),_⟩:=x;obtain⟨v,h1,h2⟩:=he 0 (.agg (jS (.st 8) a)) aaz;obtain⟨v',jh,EI⟩:=he 1 (.agg (jS (.st 8) b)) (aa0 _ aaz);obtain⟨⟨k1,k2⟩,rfl⟩:=hr
  match vs,hl,h1,jh with
  | [u,u'],_,h1,jh=>
   injection h1 with h1
   injection jh with jh
   subst h1 jh;exact Calls.mono (V3 (GN h2) (GN EI) hS hS k1 k2) λe w' h=>⟨_,λ_=>False,h.1,h.2,λ_ q=>q.elim,rfl,rfl⟩
theorem IY:ao Tryz.prog 106 false (az [(0,sL),(1,sS)] λ((l:List ByteArray),(s:ByteArray),_)=>.lf (aI (Lib.idxOfS l s))):=
 gQ λw S x vs r hS he hl hr=>by
  obtain⟨(l:List ByteArray),(s:ByteArray),_⟩:=x;obtain⟨v,h1,A,q,c,h2,h3,_⟩:=he 0 (.one (.list .str l false)) aaz;obtain⟨v',jh,EI,_⟩:=he 1 (aS s) (aa0 _ aaz);obtain rfl:=hr
  match vs,hl,h1,jh with
  | [u,u'],_,h1,jh=>
   injection h1 with h1
   injection jh with jh
   subst h1 jh h2 EI;exact Calls.mono (US h3 s) λ_ _ h=>Eb rfl ⟨h.1,h.2▸Below.refl _ _⟩
theorem sr:ao Tryz.prog 80 false (az [(0,sL)] λ((l:List ByteArray),_)=>.nd (l.length<=1099511627776) (.lf (.one (.list .str l false)))):=
 gQ λw S x vs r hS he hl hr=>by
  obtain⟨(l:List ByteArray),_⟩:=x;obtain⟨v,h1,A,q,c,h2,h3,_⟩:=he 0 (.one (.list .str l false)) aaz;obtain⟨hn,rfl⟩:=hr
  match vs,hl,h1 with
  | [u],_,h1=>
   injection h1 with h1
   subst h1 h2;refine Calls.mono (LW h3 (by rw[<-h3.len];exact hn)) λe w' h=>?_;obtain⟨v',rfl,ho,h2⟩:=h;obtain⟨A,q,c,rfl,_⟩:=ho.slice;exact⟨_,dM w w',rfl,h2,λb q=>.inr q,A,q,c,rfl,ho.fresh (aaG _),λe=>by cases e⟩
def XK (F:ByteArray->XV) (d:XV) (k:ByteArray):List ByteArray->T XV
 | []=>.lf d
 | a::l=>.br (k.toList==a.toList) (.lf (F a)) (XK F d k l)
theorem Jr {F:ByteArray->XV} {d:XV} {k:ByteArray}:∀{l:List ByteArray},(k∉l->∀(w:World) (S:Nat->Prop) (v:Value),XR [] w S d v->XR [] w S (F k) v)->∃q,(XK F d k l).hit q/\∀(w:World) (S:Nat->Prop) (v:Value),XR [] w S q v->XR [] w S (F k) v
 | [],h=>⟨_,rfl,h (by simp)⟩
 | a::l,h=>by
  by_cases e:k=a
  ·subst e;exact⟨_,aC (by simp) rfl,λ_ _ _ h=>h⟩
  ·obtain⟨q,h1,h2⟩:=Jr (k:=k) (l:=l) λhl=>h (by simp[e,hl]);exact⟨q,aK (by rw[cO];exact decide_eq_false e) h1,h2⟩
theorem wP {f:FuncId} {F:ByteArray->XV} {d:XV} {l:List ByteArray} (h:ao Tryz.prog f true (az [(0,sS)] λ((k:ByteArray),_)=>XK F d k l)) (hd:∀k,k∉l->F k=d\/∃xs:List ByteArray,xs=[]/\F k=.one (.list .str xs true)/\d=.one (.val (.slice none 0 0))):ao Tryz.prog f true (az [(0,sS)] λ((k:ByteArray),_)=>.lf (F k)):=
 h.imp λ⟨(k:ByteArray),_⟩ r hr=>by
  obtain rfl:F k=r:=hr;refine Jr λhn w S v hv=>?_;rcases hd k hn with e|⟨xs,e,e1,e2⟩
  ·rw[e];exact hv
  ·subst e;rw[e1];rw[e2] at hv;exact⟨none,0,0,hv.1,RS.nil _ _,λ_ _=>rfl⟩
abbrev X2 (xs:List ByteArray):XV:=.one (.list .str xs true)
abbrev aeD:XV:=.one (.val (.slice none 0 0))
theorem rT:ao Tryz.prog 141 true (az [(0,sS)] λ((k:ByteArray),_)=>.lf (X2 (aO k))):=
 wP (F:=λk=>X2 (aO k)) (aN (C:=C0) (nL _ _) true 99 [(0,sS)] (λ((k:ByteArray),_)=>XK (λk=>X2 (aO k)) aeD k et) (λ_ _ _ h=>⟨h,.inl rfl⟩) Tryz.func141) λk h=>.inr ⟨_,by simp only[et,abs,abL,or_false,not_or] at h;simp[aO,h],rfl,rfl⟩
abbrev am7:List ByteArray:=[⟨#[109,101,116,104,111,100]⟩,⟨#[116,105,101,115]⟩,⟨#[111,118,101,114,118,111,116,101]⟩,⟨#[115,107,105,112]⟩]
theorem DY:ao Tryz.prog 169 true (az [(0,sS)] λ((k:ByteArray),_)=>.lf (X2 (aD k))):=
 wP (F:=λk=>X2 (aD k)) (aN (C:=C0) (nL _ _) true 99 [(0,sS)] (λ((k:ByteArray),_)=>XK (λk=>X2 (aD k)) aeD k am7) (λ_ _ _ h=>⟨h,.inl rfl⟩) Tryz.func169) λk h=>.inr ⟨_,by simp only[abs,abL,or_false,not_or] at h;simp[aD,h],rfl,rfl⟩
theorem UF:ao Tryz.prog 146 true (az [(0,sS)] λ((k:ByteArray),_)=>.lf (aI (bL k))):=
 wP (F:=λk=>aI (bL k)) (aN (C:=C0) (nL _ _) true 99 [(0,sS)] (λ((k:ByteArray),_)=>XK (λk=>aI (bL k)) (aI 0) k [⟨#[110,97,109,101,115]⟩,⟨#[112,114,101,99,105,110,99,116,115]⟩,⟨#[99,111,110,116,101,115,116,115]⟩,⟨#[99,97,110,100,105,100,97,116,101,115]⟩]) (λ_ _ _ h=>⟨h,.inl rfl⟩) Tryz.func146) λk h=>.inl (by simp only[abs,abL,or_false,not_or] at h;simp[bL,h])
theorem V7:ao Tryz.prog 145 true (az [(0,sS)] λ((k:ByteArray),_)=>.lf (aI (cI k))):=
 wP (F:=λk=>aI (cI k)) (aN (C:=C0) (nL _ _) true 99 [(0,sS)] (λ((k:ByteArray),_)=>XK (λk=>aI (cI k)) (aI 6) k [ar]) (λ_ _ _ h=>⟨h,.inl rfl⟩) Tryz.func145) λk h=>.inl (by simp only[acb] at h;rw[show cI k=6 from if_neg h])
theorem Wb:ao Tryz.prog 197 true (az [(0,sS)] λ((k:ByteArray),_)=>.lf (aT [.int .i64 (dz k).1,.int .i64 (dz k).2])):=
 wP (F:=λk=>aT [.int .i64 (dz k).1,.int .i64 (dz k).2]) (aN (C:=C0) (nL _ _) true 99 [(0,sS)] (λ((k:ByteArray),_)=>XK (λk=>aT [.int .i64 (dz k).1,.int .i64 (dz k).2]) (aT [.int .i64 0,.int .i64 0]) k
  [⟨#[100,111,116,115]⟩,cF,bO,⟨#[99,111,117,110,116]⟩,⟨#[98,97,116,99,104]⟩,bH,⟨#[114,97,110,107,115]⟩,aH,⟨#[99,101,108,108]⟩]) (λ_ _ _ h=>⟨h,.inl rfl⟩) Tryz.func197) λk h=>.inl (by simp only[cF,bO,bH,aH,abs,abL,or_false,not_or] at h;simp[dz,h])
theorem KP:ao Tryz.prog 142 true (az [(0,sS)] λ((k:ByteArray),_)=>.lf (aB (kr k))):=
 aN (C:=C0) (nL _ _) true 99 [(0,sS)] (λ((k:ByteArray),_)=>.br (k.toList==ar.toList) (.lf (aB true)) (.lf (aB (k.toList==(⟨#[115,116,121,108,101]⟩:ByteArray).toList)))) (λ⟨(k:ByteArray),_⟩ r _ h=>⟨by
  obtain rfl:aB (kr k)=r:=h;show(T.br _ _ _).hit (aB (if k=ar then true else if k=⟨#[115,116,121,108,101]⟩ then true else false));by_cases e:k=ar
  ·exact aC (by rw[e];simp) (by rw[if_pos e];rfl)
  ·refine aK (by rw[cO];exact decide_eq_false e) ?_;rw[if_neg e,cO];split<;>rename_i e2
   ·exact congrArg aB (decide_eq_true e2)
   ·exact congrArg aB (decide_eq_false e2),.inl rfl⟩) Tryz.func142
theorem FS:ao Tryz.prog 59 true (az [] λ_=>.lf (X2 et)):=
 aN (C:=C0) (nL _ _) true 99 [] (λ_=>.lf (X2 et)) (λ_ _ _ h=>⟨h,.inl rfl⟩) Tryz.func59
theorem Pm:ao Tryz.prog 124 false (az [(0,sI)] λ((n:Int),_)=>.nd (cw n) (.lf (aS (tj n)))):=
 z6 λw S x vs r hW hS he hl hr=>by
  obtain⟨(n:Int),_⟩:=x;obtain⟨v,h1,h2,_⟩:=he 0 (aI n) aaz;obtain⟨⟨hn,hn2⟩,rfl⟩:=hr;obtain⟨B,hB,hT⟩:=hW
  match vs,hl,h1 with
  | [u],_,h1=>
   injection h1 with h1
   subst h1 h2;exact Calls.mono (UR hT n hn hn2) λe w' h=>⟨_,λ_=>False,h.1,h.2,λ_ q=>q.elim,rfl,rfl⟩
theorem DX:ao Tryz.prog 169 true (az [(0,sS)] λ((k:ByteArray),_)=>.lf (.one (.list .str (aD k) false))):=DY.wk λ⟨(_:ByteArray),_⟩ _ h=>⟨_,rfl,h⟩
theorem Ck:ao Tryz.prog 84 false (az [(0,.st 8)] λ((x:Raw),_)=>.nd (x.short 67108864) (.lf (aS ⟨(ib x.q).toArray⟩))):=
 gQ λw S x vs r hS he hl hr=>by
  obtain⟨(x:Raw),_⟩:=x;obtain⟨v,h1,SP,rfl,h2⟩:=he 0 (.agg (jS (.st 8) x)) aaz;obtain⟨a1,rfl⟩:=hr;have hr:@aA.rep (GQ 8) (xP 8) w S SP x:=jJ (t:=.st 8) (us:=jS (.st 8) x) rfl h2
  match vs,hl,h1 with
  | [u],_,h1=>
   injection h1 with h1
   subst h1;exact Calls.mono (Ng ⟨_,rfl,hr⟩ hS a1) λe w' h=>⟨_,λ_=>False,h.1,h.2,λ_ q=>q.elim,rfl,rfl⟩
noncomputable def BL (t:TypeId):Option Ty:=List.lookup t [(9,.str),(3,tI),(93,.st 0),(91,.st 1)]
noncomputable def Cs1:eP Tryz.prog:=bA BL [⟨_,_,_,Pm⟩,⟨_,_,_,DX⟩] []
def aeH (f:ai):XV:=.agg [.sym (.string f.key),.list .str f.vals true,.sym (.int .i64 f.line)]
theorem xN:ao Tryz.prog 83 true (az [(0,sS),(1,sS)] λ((k:ByteArray),(s:ByteArray),_)=>.lf (.agg (jS (.st 0) (⟨k,[s],0⟩:ai)))):=
 (aN (C:=Cs1) (nL _ _) true 99 [(0,sS),(1,sS)] (λ((k:ByteArray),(s:ByteArray),_)=>.lf (aeH ⟨k,[s],0⟩)) (λ_ _ _ h=>⟨h,.inl rfl⟩) Tryz.func83).wk λ_ r h=>⟨_,rfl,h⟩
theorem uT:ao Tryz.prog 79 true (az [(0,sS),(1,sI)] λ((k:ByteArray),(n:Int),_)=>.nd (cw n) (.lf (.agg (jS (.st 0) (⟨k,[tj n],0⟩:ai))))):=
 (aN (C:=Cs1) (nL _ _) true 99 [(0,sS),(1,sI)] (λ((k:ByteArray),(n:Int),_)=>.nd (cw n) (.lf (aeH ⟨k,[tj n],0⟩))) (λ_ _ _ h=>⟨h,.inl rfl⟩) Tryz.func79).wk λ_ r ⟨h1,h⟩=>⟨_,⟨h1,rfl⟩,h⟩
theorem Gz:ao Tryz.prog 125 false (az [(0,sS),(1,sI)] λ((k:ByteArray),(n:Int),_)=>.nd (cw n) (.lf (aS (iY k n)))):=
 aN (C:=Cs1) (nL _ _) false 99 [(0,sS),(1,sI)] (λ((k:ByteArray),(n:Int),_)=>.br (decide (n<1)) (.lf (aS ⟨#[]⟩)) (.br (decide (n>(aD k).length)) (.lf (aS ⟨#[]⟩)) (.nd (cw (n-1)) (.nd (0<=n-1/\n-1<(aD k).length) (.lf (aS ((aD k).getD (n-1).toNat ⟨#[]⟩)))))))
  (λ⟨(k:ByteArray),(n:Int),_⟩ r _ ⟨hn,h⟩=>by
   obtain rfl:aS (iY k n)=r:=h;refine⟨?_,.inr rfl⟩;unfold iY;by_cases h1:n<1
   ·rw[if_pos (.inl h1)];exact aC (decide_eq_true h1) rfl
   ·by_cases h2:((aD k).length:Int)<n
    ·rw[if_pos (.inr h2)];exact aK (decide_eq_false h1) (aC (decide_eq_true h2) rfl)
    ·rw[if_neg (by omega)];refine aK (decide_eq_false h1) (aK (decide_eq_false (by omega)) ⟨⟨by omega,by have:=hn.2;omega⟩,⟨by omega,by omega⟩,?_⟩);rw[show(n-1).toNat=n.toNat-1 by omega];rfl) Tryz.func125
noncomputable abbrev aeC:=Tryz.f82
noncomputable abbrev akl:Rg Tryz.prog aeC.ntmps:=mi Cs1 aeC
abbrev nfC:List CS:=[.d .str,.own .str 9,.d tI]
abbrev nuC:List CS:=[.d .str,.d (.list .str),.d tI]
abbrev MB:=eB nfC
abbrev NuC:=eB nuC
abbrev nmL:List (Nat×SS):=[(2,sL),(6,.box 93 nuC),(7,.box 93 nfC),(13,sD (.list tI)),(14,sI),(15,sI)]
abbrev nmO:List (Nat×SS):=[(6,.box 93 nuC),(7,.box 93 nfC)]
abbrev NmE:=LE nmL nmO []
def MB.row (f:MB):List ByteArray:=f.2.1
def MB.put (f:MB) (r:List ByteArray):MB:=(f.1,r,f.2.2)
def Is (u:NuC) (f:MB) (r:List ByteArray):NmE:=.out (u,f.put r,())
def Ub (l:List ByteArray) (u:NuC) (f:MB) (x:List Int) (n i:Int) (s:ByteArray):T NmE:=.nd ((f.row.length+1)*17<=140737488355328) (.nd (cw (i+1)) (.lf (.back (l,u,f.put (s::f.row),x,n,i+1,()))))
def nmT (l:List ByteArray) (u:NuC) (f:MB) (x:List Int) (n i:Int):T NmE:=.br (decide (i<n)) (.nd (0<=i/\i<x.length) (.br (decide (x.getD i.toNat 0>=0)) (.br (decide (x.getD i.toNat 0<l.length))
 (.nd (0<=x.getD i.toNat 0/\x.getD i.toNat 0<l.length) (Ub l u f x n i (l.getD (x.getD i.toNat 0).toNat ⟨#[]⟩))) (Ub l u f x n i ⟨#[]⟩)) (Ub l u f x n i ⟨#[]⟩))) (.lf (.out (u,f,())))
def nmN (f:MB) (x:List Int) (n i:Int):Prop:=0<=i/\i<=x.length/\n=x.length/\(f.row.length:Int)=i/\x.length<=1099511627776
theorem OC:cL akl 0 0 nmL nmO [] λ((l:List ByteArray),(u:NuC),(f:MB),(x:List Int),(n:Int),(i:Int),_)=>.nd (nmN f x n i) (.lf (Is u f ((db (x.drop i.toNat) l).reverse++f.row))):=by
 refine fy _ (nL _ _) 99 0 0 nmL nmO [] (λ((l:List ByteArray),(u:NuC),(f:MB),(x:List Int),(n:Int),(i:Int),_)=>nmT l u f x n i) (λ(_,_,_,(x:List Int),_,(i:Int),_)=>x.length-i.toNat) ?_;rintro⟨(l:List ByteArray),(u:NuC),(f:MB),(x:List Int),(n:Int),(i:Int),_⟩ r _ ⟨⟨h0,h1,rfl,h2,h3⟩,hr⟩;obtain⟨k,rfl⟩:∃k:Nat,i=k:=⟨i.toNat,by omega⟩;have hr:Is u f ((db (x.drop k) l).reverse++f.row)=r:=hr;subst hr;show∃q,(nmT l u f x x.length k).hit q/\_;unfold nmT;rw[aae];by_cases hk:k<x.length
 ·rw[getD_drop 0 hk];obtain⟨s,hs⟩:∃s,nameAt l (x.getD k 0)=s:=⟨_,rfl⟩;have nx:nmN (f.put (s::f.row)) x x.length ((k:Int)+1):=⟨by omega,by omega,rfl,by show((s::f.row).length:Int)=_;rw[aaJ];omega,h3⟩;have eq:Is u (f.put (s::f.row)) ((db (x.drop (k+1)) l).reverse++s::f.row)=Is u f ((db (x.getD k 0::x.drop (k+1)) l).reverse++f.row):=by
   unfold db;rw[aco,ab8,abS,hs];rfl
  have dec:x.length-(k+1)<x.length-k:=by omega
  have bk:(Ub l u f x x.length k s).hit (.back (l,u,f.put (s::f.row),x,(x.length:Int),(k:Int)+1,())):=⟨by omega,⟨by omega,by omega⟩,rfl⟩;have gM:0<=(k:Int)/\(k:Int)<x.length:=⟨by omega,by omega⟩;by_cases h4:x.getD k 0<0
  ·rw[show s=⟨#[]⟩ by rw[<-hs];exact if_neg (by omega)] at nx eq bk;exact⟨_,aC (decide_eq_true (by omega)) ⟨gM,aK (decide_eq_false (by omega)) bk⟩,dec,nx,eq⟩
  by_cases h5:(l.length:Int)<=x.getD k 0
  ·rw[show s=⟨#[]⟩ by rw[<-hs];exact if_neg (by omega)] at nx eq bk;exact⟨_,aC (decide_eq_true (by omega)) ⟨gM,aC (decide_eq_true (by omega)) (aK (decide_eq_false (by omega)) bk)⟩,dec,nx,eq⟩
  ·rw[show s=l.getD (x.getD k 0).toNat ⟨#[]⟩ by rw[<-hs];exact if_pos ⟨by omega,by omega⟩] at nx eq bk;exact⟨_,aC (decide_eq_true (by omega)) ⟨gM,aC (decide_eq_true (by omega)) (aC (decide_eq_true (by omega)) ⟨⟨by omega,by omega⟩,bk⟩)⟩,dec,nx,eq⟩
 ·rw[aaQ (by omega)];exact⟨_,aK (decide_eq_false (by omega)) rfl,rfl⟩
def nmR (k:ByteArray) (r:List ByteArray):XV:=.agg [.sym (.string k),.list .str r.reverse !r.isEmpty,.sym (.int .i64 0)]
theorem KO:ao Tryz.prog 82 true (az [(0,sS),(1,sD (.list tI)),(2,sL)] λ((k:ByteArray),(x:List Int),(l:List ByteArray),_)=>.nd (x.length<=1099511627776) (.lf (.agg (jS (.st 0) (⟨k,db x l,0⟩:ai))))):=
 ao.wk (l0:=[(0,sS),(1,sD (.list tI)),(2,sL)]) (F:=λ((k:ByteArray),(x:List Int),(l:List ByteArray),_)=>.nd (x.length<=1099511627776) (.lf (nmR k (db x l).reverse)))
  (aN (C:=Cs1) ((nL _ _).add 0 _ OC) true 99 [(0,sS),(1,sD (.list tI)),(2,sL)] (λ((k:ByteArray),(x:List Int),(l:List ByteArray),_)=>.nd (nmN (k,[],(0:Int),()) x x.length 0) (.lf (nmR k ((db (x.drop 0) l).reverse++[]))))
   (λ⟨(k:ByteArray),(x:List Int),(l:List ByteArray),_⟩ r _ ⟨h1,h⟩=>by
    obtain rfl:nmR k (db x l).reverse=r:=h;refine⟨⟨⟨by omega,by omega,rfl,rfl,h1⟩,?_⟩,.inl rfl⟩;show nmR k _=_;rw[acr,acx]) Tryz.func82)
  λ⟨(k:ByteArray),(x:List Int),(l:List ByteArray),_⟩ r ⟨h1,h⟩=>⟨_,⟨h1,rfl⟩,by
   obtain rfl:XV.agg (jS (.st 0) (⟨k,db x l,0⟩:ai))=r:=h;show XV.agg [.sym (.string k),.list .str (db x l).reverse.reverse false,.sym (.int .i64 0)]=_;rw[aat];rfl⟩
noncomputable def Cs2:eP Tryz.prog:=bA BL [⟨_,_,_,Gz⟩,⟨_,_,_,xN⟩,⟨_,_,_,uT⟩,⟨_,_,_,sr⟩] []
def EN (v:Int):Prop:= -9223372036854775808<=v/\v<=9223372036854775807
def nC (x:ae):Prop:=EN x.method/\EN x.seats/\EN x.ranks/\EN x.digits/\EN x.ties/\EN x.over/\EN x.skip/\x.cands.length<=274877906944
structure dP (e:aa):Prop where
 dots:EN e.dots
 blank:EN e.blank
 marked:EN e.marked
 scan:EN e.scan
 batch:EN e.batch
 cell:EN e.cell
 conts:∀x∈e.cont,nC x
 styls:∀x∈e.styl,x.prec.length<=274877906944/\x.cont.length<=274877906944
 lc:e.cont.length<=34359738368
 ls:e.styl.length<=34359738367
 lp:e.prec.length<=274877906944
 short:e.risk.short 67108864
def JL (f:ai):Prop:=cU f.key/\(∀s∈f.vals,cU s)/\f.vals.length<=1099511627776
def gN (x:ak):Prop:=cU x.kind/\cU x.name/\x.fields.length<=274877906944/\∀f∈x.fields,JL f/\f.vals.length<=274877906944
def np (s:aF):Prop:=cU s.title/\s.blocks.length<=68719476736/\∀x∈s.blocks,gN x
def scX (c:ae) (l:List ai):XV:=.agg [.sym (.string ar),.sym (.string c.name),.list (.st 0) ([jj bg c.method,ga bH c.seats,ga gB c.ranks]++l++[jj il c.ties,jj ck c.over,jj im c.skip,⟨fK,c.cands,0⟩]) true,.sym (.int .i64 0)]
def scE (c:ae) (n:Nat) (l:List ai):T XV:=.nd (cw c.ties) (.nd (cw c.over) (.nd (cw c.skip) (.nd (c.cands.length<=1099511627776) (.nd ((n+4)*49<=140737488355328) (.lf (scX c l))))))
def scB (c:ae):T XV:=.nd (cw c.method) (.nd (cw c.seats) (.nd (cw c.ranks) (.br (c.method==2) (.nd (cw c.digits) (.nd ((3+1)*49<=140737488355328) (scE c 4 [ga aH c.digits]))) (scE c 3 []))))
theorem zO:ao Tryz.prog 81 true (az [(0,.st 3)] λ((c:ae),_)=>.nd (nC c) (.lf (.agg (jS (.st 1) (eI c))))):=
 (aN (C:=Cs2) (nL _ _) true 99 [(0,.st 3)] (G:=λ((c:ae),_)=>.nd (nC c) (.lf (scX c (if c.method=2 then[ga aH c.digits] else[])))) (λ((c:ae),_)=>scB c)
  (λ⟨(c:ae),_⟩ r _ ⟨⟨h1,h2,h3,h4,h5,h6,h7,h8⟩,h⟩=>by
   obtain rfl:scX c (if c.method=2 then[ga aH c.digits] else[])=r:=h;refine⟨⟨h1,h2,h3,?_⟩,.inl rfl⟩;by_cases hm:c.method=2
   ·rw[if_pos hm];exact aC (beq_iff_eq.2 hm) ⟨h4,by omega,h5,h6,h7,by omega,by omega,rfl⟩
   ·rw[if_neg hm];exact aK (beq_eq_false_iff_ne.2 hm) ⟨h5,h6,h7,by omega,by omega,rfl⟩) Tryz.func81).wk
  λ⟨(c:ae),_⟩ r ⟨h0,h⟩=>⟨_,⟨h0,rfl⟩,h⟩
noncomputable def Cs3:eP Tryz.prog:=bA BL [⟨_,_,_,xN⟩,⟨_,_,_,uT⟩,⟨_,_,_,sr⟩,⟨_,_,_,KO⟩,⟨_,_,_,zO⟩,⟨_,_,_,Ck⟩] []
noncomputable abbrev Yv:=Tryz.f39
noncomputable abbrev Tl:Rg Tryz.prog Yv.ntmps:=Qq (mi Cs3 Yv) [(9,[4])]
abbrev zeC:List CS:=[.d .str,.d tI,.d tI,.d tI,.d (.list .str),.d (.list (.st 3)),.d (.list (.st 4)),.d tI,.d tI,.d .bool,.d (.list .limb),.d (.list .limb),.d tI,.d .str]
abbrev zsC:List CS:=[.d .str,.own (.st 1) 91]
abbrev zvC:List CS:=[.d .str,.d (.list (.st 1))]
abbrev sG:=eB zeC
abbrev uv:=eB zsC
abbrev Mz:=eB zvC
abbrev Ym:SS:=.box 30 zeC
abbrev szS:SS:=.box 33 zsC
abbrev szV:SS:=.box 33 zvC
abbrev z0O:List (Nat×SS):=[(1,Ym),(2,szV),(3,szS),(4,.c (.own .str 9))]
abbrev z0L:List (Nat×SS):=[(1,Ym),(2,szV),(3,szS),(4,.c (.own .str 9)),(39,sD (.list (.st 3))),(40,sI),(41,sI)]
abbrev z1O:List (Nat×SS):=[(1,Ym),(2,szV),(3,szS)]
abbrev z1L:List (Nat×SS):=[(1,Ym),(2,szV),(3,szS),(4,sL),(59,sD (.list (.st 4))),(60,sI),(61,sI)]
def sG.pr (e:sG):List ByteArray:=e.2.2.2.2.1
def uv.bs (s:uv):List ak:=s.2.1
def uv.put (s:uv) (b:ak):uv:=(s.1,b::s.bs,())
def ae.z0:ae:=⟨⟨#[]⟩,[],0,0,0,0,0,0,0⟩
def aj.z0:aj:=⟨⟨#[]⟩,[],[]⟩
def G9 (e:sG) (v:Mz) (s:uv) (l:List ByteArray):LE z0L z0O []:=.out (e,v,s,l,())
def z0E (e:sG) (v:Mz) (s:uv) (l:List ByteArray) (cs:List ae) (n i:Int) (c:ae):T (LE z0L z0O []):=.nd (nC c) (.nd ((s.bs.length+1)*65<=140737488355328) (.nd ((l.length+1)*17<=140737488355328) (.nd (cw (i+1)) (.lf (.back (e,v,s.put (eI c),c.name::l,cs,n,i+1,()))))))
def z0T (e:sG) (v:Mz) (s:uv) (l:List ByteArray) (cs:List ae) (n i:Int):T (LE z0L z0O []):=.br (decide (i<n)) (.nd (0<=i/\i<cs.length) (z0E e v s l cs n i (cs.getD i.toNat ae.z0))) (.lf (G9 e v s l))
def z0N (s:uv) (l:List ByteArray) (cs:List ae) (n i:Int):Prop:=0<=i/\i<=cs.length/\n=cs.length/\cs.length<=34359738368/\(∀c∈cs,nC c)/\(l.length:Int)=i/\s.bs.length<=3+i
theorem Tj:cL Tl 0 0 z0L z0O [] λ((e:sG),(v:Mz),(s:uv),(l:List ByteArray),(cs:List ae),(n:Int),(i:Int),_)=>.nd (z0N s l cs n i) (.lf (G9 e v (s.1,((cs.drop i.toNat).map eI).reverse++s.bs,()) (((cs.drop i.toNat).map ae.name).reverse++l))):=by
 refine fy _ (nL _ _) 99 0 0 z0L z0O [] (λ((e:sG),(v:Mz),(s:uv),(l:List ByteArray),(cs:List ae),(n:Int),(i:Int),_)=>z0T e v s l cs n i)
  (λ(_,_,_,_,(cs:List ae),_,(i:Int),_)=>cs.length-i.toNat) ?_
 rintro⟨(e:sG),(v:Mz),(s:uv),(l:List ByteArray),(cs:List ae),(n:Int),(i:Int),_⟩ r _ ⟨⟨h0,h1,rfl,h2,h3,h4,h5⟩,hr⟩;have hr:G9 e v (s.1,((cs.drop i.toNat).map eI).reverse++s.bs,()) (((cs.drop i.toNat).map ae.name).reverse++l)=r:=hr;obtain rfl:=hr;obtain⟨k,rfl⟩:∃k:Nat,i=k:=⟨i.toNat,by omega⟩;rw[aae];show∃q,(z0T e v s l cs cs.length k).hit q/\_;unfold z0T;by_cases hk:k<cs.length
 ·rw[getD_drop ae.z0 hk,aae];obtain⟨c,hc⟩:∃c,cs.getD k ae.z0=c:=⟨_,rfl⟩;have hcc:=h3 c (by rw[<-hc,aal,aac hk];exact ach hk);rw[hc];refine⟨_,aC (decide_eq_true (by omega)) ⟨⟨by omega,by omega⟩,hcc,by omega,by omega,⟨by omega,by omega⟩,rfl⟩,?_,⟨by omega,by omega,rfl,h2,h3,(show((l.length+1:Nat):Int)=(k:Int)+1 by omega),?_⟩,?_⟩
  ·show cs.length-(k+1)<cs.length-k;omega
  ·have:(s.put (eI c)).bs.length=s.bs.length+1:=rfl;omega
  ·show G9 e v (s.1,((cs.drop (k+1)).map eI).reverse++(eI c::s.bs),()) (((cs.drop (k+1)).map ae.name).reverse++(c.name::l))=_;rw[aco,aco,ab8,ab8,abS,abS];rfl
 ·rw[aaQ (by omega)];exact⟨_,aK (decide_eq_false (by omega)) rfl,rfl⟩
def G4 (e:sG) (v:Mz) (s:uv):LE z1L z1O []:=.out (e,v,s,())
def z1E (e:sG) (v:Mz) (s:uv) (l:List ByteArray) (cs:List aj) (n i:Int) (y:aj):T (LE z1L z1O []):=.nd (y.prec.length<=1099511627776) (.nd (y.cont.length<=1099511627776) (.nd ((s.bs.length+1)*65<=140737488355328) (.nd (cw (i+1)) (.lf (.back (e,v,s.put (eT e.pr l y),l,cs,n,i+1,()))))))
def z1T (e:sG) (v:Mz) (s:uv) (l:List ByteArray) (cs:List aj) (n i:Int):T (LE z1L z1O []):=.br (decide (i<n)) (.nd (0<=i/\i<cs.length) (z1E e v s l cs n i (cs.getD i.toNat aj.z0))) (.lf (G4 e v s))
def z1N (s:uv) (cs:List aj) (n i:Int):Prop:=0<=i/\i<=cs.length/\n=cs.length/\cs.length<=34359738367/\(∀y∈cs,y.prec.length<=274877906944/\y.cont.length<=274877906944)/\s.bs.length<=34359738371+i
theorem Ti:cL Tl 1 2 z1L z1O [] λ((e:sG),(v:Mz),(s:uv),(l:List ByteArray),(cs:List aj),(n:Int),(i:Int),_)=>.nd (z1N s cs n i) (.lf (G4 e v (s.1,((cs.drop i.toNat).map (eT e.pr l)).reverse++s.bs,()))):=by
 refine fy _ (nL _ _) 99 1 2 z1L z1O [] (λ((e:sG),(v:Mz),(s:uv),(l:List ByteArray),(cs:List aj),(n:Int),(i:Int),_)=>z1T e v s l cs n i)
  (λ(_,_,_,_,(cs:List aj),_,(i:Int),_)=>cs.length-i.toNat) ?_
 rintro⟨(e:sG),(v:Mz),(s:uv),(l:List ByteArray),(cs:List aj),(n:Int),(i:Int),_⟩ r _ ⟨⟨h0,h1,rfl,h2,h3,h5⟩,hr⟩;have hr:G4 e v (s.1,((cs.drop i.toNat).map (eT e.pr l)).reverse++s.bs,())=r:=hr;obtain rfl:=hr;obtain⟨k,rfl⟩:∃k:Nat,i=k:=⟨i.toNat,by omega⟩;rw[aae];show∃q,(z1T e v s l cs cs.length k).hit q/\_;unfold z1T;by_cases hk:k<cs.length
 ·rw[getD_drop aj.z0 hk,aae];obtain⟨y,hy⟩:∃y,cs.getD k aj.z0=y:=⟨_,rfl⟩;obtain⟨Xj,Sg⟩:=h3 y (by rw[<-hy,aal,aac hk];exact ach hk);rw[hy];refine⟨_,aC (decide_eq_true (by omega)) ⟨⟨by omega,by omega⟩,by omega,by omega,by omega,⟨by omega,by omega⟩,rfl⟩,?_,⟨by omega,by omega,rfl,h2,h3,?_⟩,?_⟩
  ·show cs.length-(k+1)<cs.length-k;omega
  ·have:(s.put (eT e.pr l y)).bs.length=s.bs.length+1:=rfl;omega
  ·show G4 e v (s.1,((cs.drop (k+1)).map (eT e.pr l)).reverse++(eT e.pr l y::s.bs),())=_;rw[aco,ab8,abS];rfl
 ·rw[aaQ (by omega)];exact⟨_,aK (decide_eq_false (by omega)) rfl,rfl⟩
def zR3 (e:aa):List ak:=[⟨af,⟨#[]⟩,[⟨eA,e.prec,0⟩],0⟩,⟨aX,⟨#[]⟩,[ga fJ e.scan,ga fL e.batch],0⟩,⟨bZ,⟨#[]⟩,[ga iK e.dots,ga cF e.blank,ga bO e.marked],0⟩]
def zS0 (e:aa):uv:=(e.title,zR3 e,())
def zL (e:aa):List ByteArray:=(((e.cont.drop (Int.toNat 0)).map ae.name).reverse++[]).reverse
def zS1 (e:aa):uv:=(e.title,((e.cont.drop (Int.toNat 0)).map eI).reverse++zR3 e,())
def zB2 (e:aa):List ak:=((e.styl.drop (Int.toNat 0)).map (eT e.prec (zL e))).reverse++(zS1 e).bs
def zF (e:aa):List ak:=⟨bB,⟨#[]⟩,[ga iL e.cell],0⟩::⟨bP,⟨#[]⟩,[⟨dZ,[⟨(ib e.risk.q).toArray⟩],0⟩,⟨gJ,[e.seed],0⟩],0⟩::zB2 e
def zX (e:aa) (l:List ak):XV:=.agg [.sym (.string e.title),.list (.st 1) l true]
def zT (e:aa):T XV:=.nd (cw e.dots) (.nd (cw e.blank) (.nd (cw e.marked) (.nd (cw e.scan) (.nd (cw e.batch) (.nd (e.prec.length<=1099511627776) (.nd (z0N (zS0 e) [] e.cont e.cont.length 0) (.nd (z1N (zS1 e) e.styl e.styl.length 0)
 (.nd (e.risk.short 67108864) (.nd (cw e.cell) (.nd (((zB2 e).length+2)*65<=140737488355328) (.lf (zX e (zF e).reverse))))))))))))
theorem adp (e:aa):(zF e).reverse=(dt e).blocks:=by
 unfold zF zB2 zS1 zL zR3 dt uv.bs;simp
theorem sK:ao Tryz.prog 39 true (az [(0,.st 5)] λ((e:aa),_)=>.nd (dP e) (.lf (.agg (jS (.st 2) (dt e))))):=
 (pT (R:=Tl) (((nL Tl Yv).add 0 _ Tj).add 1 _ Ti) true 99 [(0,.st 5)] (G:=λ((e:aa),_)=>.nd (dP e) (.lf (zX e (dt e).blocks))) (λ((e:aa),_)=>zT e) (λ⟨(e:aa),_⟩ r hb ⟨h0,h⟩=>by
  obtain rfl:zX e (dt e).blocks=r:=h;have e0:(zB2 e).length=e.styl.length+(e.cont.length+3):=by
   unfold zB2 zS1 uv.bs zR3;simp
  have e1:(zS1 e).bs.length=e.cont.length+3:=by
   unfold zS1 uv.bs zR3;simp
  have l1:=h0.lc;have l2:=h0.ls;have l3:=h0.lp;refine⟨⟨h0.dots,h0.blank,h0.marked,h0.scan,h0.batch,by omega,⟨by omega,ac3 _,rfl,l1,h0.conts,rfl,by show(3:Int)<=3+0;omega⟩,⟨by omega,ac3 _,rfl,l2,h0.styls,by rw[e1];omega⟩,h0.short,h0.cell,by rw[e0];omega,?_⟩,.inl rfl⟩;rw[adp];rfl) Tryz.func39).wk
  λ⟨(e:aa),_⟩ r ⟨h0,h⟩=>⟨_,⟨h0,rfl⟩,h⟩
theorem Gj:ao Tryz.prog 49 false (az [(0,sL),(1,sL)] λ((xs:List ByteArray),(ys:List ByteArray),_)=>.lf (aB (decide (xs=ys)))):=Rj (t:=.str) (g:=λ(xs ys:List ByteArray)=>decide (xs=ys)) λ_ _ _ _ _ _ _ xs ys _ h1 h2=>yR (xs:=xs) (ys:=ys) h1 h2
theorem Gl:ao Tryz.prog 50 false (VG (t:=.st 3) 51 λ(xs ys:List ae)=>gw aU xs ys):=XU (t:=.st 3) (q:=λ(xs ys:List ae)=>gw aU xs ys) λ_ _ _ _ _ _ _ xs ys _ h1 h2 hS=>AZ (xs:=xs) (ys:=ys) h1 h2 hS hS
theorem LF:ao Tryz.prog 52 false (VG (t:=.st 4) 53 λ(xs ys:List aj)=>gw be xs ys):=XU (t:=.st 4) (q:=λ(xs ys:List aj)=>gw be xs ys) λ_ _ _ _ _ _ _ xs ys _ h1 h2 hS=>Gi (xs:=xs) (ys:=ys) h1 h2 hS hS
noncomputable def Cs4:eP Tryz.prog:=bA pG [⟨_,_,_,Gj⟩,⟨_,_,_,Gl⟩,⟨_,_,_,LF⟩,⟨_,_,_,Jm⟩] []
def aa5 (a b:aa):List Bool:=[a.title.toList==b.title.toList,a.dots==b.dots,a.blank==b.blank,a.marked==b.marked,decide (a.prec=b.prec),gw aU a.cont b.cont,gw be a.styl b.styl,a.scan==b.scan,a.batch==b.batch]
def amW (a b:aa):T XV:=Mf (.lf (aB false)) (aa5 a b) (.nd (a.risk.short 67108864/\b.risk.short 67108864) (Mf (.lf (aB false)) [m8 a.risk.q b.risk.flip.q==0,a.cell==b.cell] (.lf (aB (a.seed.toList==b.seed.toList)))))
theorem Gg (a b:aa):gd a b=((aa5 a b).all id&&([m8 a.risk.q b.risk.flip.q==0,a.cell==b.cell].all id&&(a.seed.toList==b.seed.toList))):=by
 rw[acD];simp only[gd,aa5,acJ,adI,id,cO,aav,decide_eq_true_eq,beq_iff_eq,and_assoc,true_and]
theorem yQ:ao Tryz.prog 20 false (az [(0,.st 5),(1,.st 5)] λ((a:aa),(b:aa),_)=>.nd (a.risk.short 67108864/\b.risk.short 67108864) (.lf (aB (gd a b)))):=
 aN (C:=Cs4) (nL _ _) false 99 [(0,.st 5),(1,.st 5)] (λ((a:aa),(b:aa),_)=>amW a b)
  (λ⟨(a:aa),(b:aa),_⟩ r _ ⟨h0,h⟩=>by
   obtain rfl:aB (gd a b)=r:=h;refine⟨?_,.inr rfl⟩;rw[Gg];refine qU (ret:=.lf (aB false)) (r:=aB) rfl _ λ_=>⟨h0,?_⟩;exact qU (ret:=.lf (aB false)) (t:=.lf (aB (a.seed.toList==b.seed.toList))) (r:=aB) rfl _ λ_=>rfl) Tryz.func20
abbrev csV:List CS:=[.mp .s tI,.mp .s (.list .str),.mp .s tI,.d .bool,.d (.list .limb),.d (.list .limb),.d .str]
abbrev sV:SS:=.box 180 csV
abbrev pV:List Nat:=[0]
abbrev VX:=eB csV
abbrev tH (r:XV) (x:VX):XV×VX×Unit:=(r,x,())
noncomputable def Nj (t:TypeId):Option Ty:=List.lookup t [(9,.str),(3,tI),(4,.bool),(22,.list .str)]
noncomputable def CV1:eP Tryz.prog:=bA Nj [⟨_,_,_,Ir⟩,⟨_,_,_,Ji⟩,⟨_,_,_,Qs⟩,⟨_,_,_,Jm⟩] []
def VX.setR (x:VX) (r:Raw):VX:=(x.1,x.2.1,x.2.2.1,r.neg,r.num,r.den,x.2.2.2.2.2.2)
def VX.wr (x:VX):Option Raw->VX
 | none=>x
 | some r=>x.setR r
def szB (s:ByteArray):Prop:=s.size<=9223372036854775807
def SZ (l:List UInt8):ByteArray:=⟨l.toArray⟩
def ajZ (x:VX) (s:ByteArray):T (XV×VX×Unit):=
 .nd (szB s/\(⟨#[47]⟩:ByteArray)=⟨#[47]⟩) (.nd (szB (SZ (dy s.data.toList))) (.nd (szB (SZ (dw s.data.toList)))
 (.br (!(bQ (dy s.data.toList)).2) (.lf (tH (aI 5) x)) (.br (!(bQ (dw s.data.toList)).2) (.lf (tH (aI 5) x)) (.nd (cw (bQ (dy s.data.toList)).1/\cw (bQ (dw s.data.toList)).1)
 (.br ((bQ (dw s.data.toList)).1==0) (.lf (tH (aI 4) x)) (.nd (cw 1/\cw 1000) (.nd ((fh (bQ (dy s.data.toList)).1 (bQ (dw s.data.toList)).1).raw.short 67108864/\(fh 1 1000).raw.short 67108864)
 (.br (decide (oq (fh (bQ (dy s.data.toList)).1 (bQ (dw s.data.toList)).1) (fh 1 1000)<0)) (.lf (tH (aI 4) x)) (.nd (cw 1/\cw 2) (.nd ((fh (bQ (dy s.data.toList)).1 (bQ (dw s.data.toList)).1).raw.short 67108864/\(fh 1 2).raw.short 67108864)
 (.br (decide (oq (fh (bQ (dy s.data.toList)).1 (bQ (dw s.data.toList)).1) (fh 1 2)>0)) (.lf (tH (aI 4) x)) (.lf (tH (aI 0) (x.setR (fh (bQ (dy s.data.toList)).1 (bQ (dw s.data.toList)).1).raw)))))))))))))))
theorem abk (l:List UInt8):(dy l).length<=l.length/\(dw l).length<=l.length:=by
 unfold dy dw;have h:=congrArg List.length (List.takeWhile_append_dropWhile (p:=(· !=47)) (l:=l));rw[aaM] at h;rw[abw];omega
theorem lJ {a b:Int} (ha:cw a) (hb:cw b):(fh a b).raw.short 67108864:=by
 unfold cw at ha hb;obtain⟨h1,h2⟩:=yh (decide (a<0) !=decide (b<0)) a.natAbs b.natAbs (by omega) (by omega);exact⟨aax h1 (by decide),aax h2 (by decide)⟩
theorem Nb {s:ByteArray} {l:List UInt8} (h:szB s) (hl:l.length<=s.data.toList.length):szB (SZ l):=by
 unfold szB SZ at*;have:s.size=s.data.toList.length:=abK.symm;show l.toArray.size<=_;rw[acc];omega
theorem Iq (l:List UInt8):cw (bQ l).1:=by have:=gR l;unfold cw;omega
theorem NP:ew Tryz.prog 195 pV [(0,sV),(1,sS)] [(0,sV)] λ((x:VX),(s:ByteArray),_)=>.nd (szB s) (.lf (tH (aI (ig s.data.toList).1) (x.wr (ig s.data.toList).2))):=
 iA (C:=CV1) (nL _ _) 99 [(0,sV),(1,sS)] [(0,sV)] (λ((x:VX),(s:ByteArray),_)=>ajZ x s) (λ⟨(x:VX),(s:ByteArray),_⟩ r _ ⟨hs,h⟩=>by
  obtain rfl:tH (aI (ig s.data.toList).1) (x.wr (ig s.data.toList).2)=r:=h;have hc:=abk s.data.toList;have i1:=Iq (dy s.data.toList);have i2:=Iq (dw s.data.toList);have one:cw 1/\cw 1000:=by unfold cw;omega
  have two:cw 1/\cw 2:=by unfold cw;omega
  refine⟨⟨hs,rfl⟩,Nb hs hc.1,Nb hs hc.2,?_⟩;unfold ig;by_cases h1:(bQ (dy s.data.toList)).2=false
  ·exact aC (by rw[h1];rfl) (by rw[h1];rfl)
  by_cases h2:(bQ (dw s.data.toList)).2=false
  ·exact aK (by simpa using h1) (aC (by rw[h2];rfl) (by rw[h2,Bool.and_false];rfl))
  rw[if_neg (by simp[h1,h2])];refine aK (by simpa using h1) (aK (by simpa using h2) ⟨⟨i1,i2⟩,?_⟩);by_cases h3:(bQ (dw s.data.toList)).1=0
  ·rw[if_pos (.inl h3)];exact aC (by rw[h3];rfl) rfl
  refine aK (beq_false_of_ne h3) ⟨one,⟨lJ i1 i2,lJ one.1 one.2⟩,?_⟩;by_cases h4:oq (fh (bQ (dy s.data.toList)).1 (bQ (dw s.data.toList)).1) (fh 1 1000)<0
  ·rw[if_pos (.inr (.inl h4))];exact aC (decide_eq_true h4) rfl
  refine aK (decide_eq_false h4) ⟨two,⟨lJ i1 i2,lJ two.1 two.2⟩,?_⟩;by_cases h5:0<oq (fh (bQ (dy s.data.toList)).1 (bQ (dw s.data.toList)).1) (fh 1 2)
  ·rw[if_pos (.inr (.inr h5))];exact aC (decide_eq_true h5) rfl
  ·rw[if_neg (λq=>q.elim h3 λq=>q.elim h4 h5)];exact aK (decide_eq_false h5) rfl) Tryz.func195
def VX.setN (x:VX) (k:ByteArray) (v:Int):VX:=((x.1.1+1,lC .s x.1.2 k v),x.2)
def VX.num (x:VX) (k:ByteArray):Int:=(x.1.2 k).getD (0:Int)
def VX.setS (x:VX) (s:ByteArray):VX:=(x.1,x.2.1,x.2.2.1,x.2.2.2.1,x.2.2.2.2.1,x.2.2.2.2.2.1,s,())
def VX.v (x:VX):aJ:=⟨x.1.2,x.2.1.2,x.2.2.1.2,⟨x.2.2.2.1,x.2.2.2.2.1,x.2.2.2.2.2.1⟩,x.2.2.2.2.2.2.1⟩
def IS (k:ByteArray) (x:VX):Prop:=Kt.ok .s k/\x.1.1<1000000000000
def akh (x:VX) (k s:ByteArray):T (XV×VX×Unit):=
 .br (!((aD k).isEmpty)) (.nd (cw (Lib.idxOfS (aD k) s+1)) (.nd (IS k x) (.nd (Kt.ok .s k) (.br ((x.setN k (Lib.idxOfS (aD k) s+1)).num k==0) (.lf (tH (aI 2) (x.setN k (Lib.idxOfS (aD k) s+1)))) (.lf (tH (aI 0) (x.setN k (Lib.idxOfS (aD k) s+1))))))))
 (.br (k.toList==dZ.toList) (.nd (szB s) (.lf (tH (aI (ig s.data.toList).1) (x.wr (ig s.data.toList).2))))
 (.br (k.toList==gJ.toList) (.nd (cU s) (.br (!(da s 0 24)) (.lf (tH (aI 8) x)) (.lf (tH (aI 0) (x.setS s)))))
 (.nd (szB s) (.br (!(bQ s.data.toList).2) (.lf (tH (aI 5) x)) (.br (decide ((bQ s.data.toList).1<(dz k).1)) (.lf (tH (aI 4) x)) (.br (decide ((bQ s.data.toList).1>(dz k).2)) (.lf (tH (aI 4) x)) (.nd (IS k x) (.lf (tH (aI 0) (x.setN k (bQ s.data.toList).1))))))))))
noncomputable def CV2:eP Tryz.prog:=bA Nj [⟨_,_,_,Ir⟩,⟨_,_,_,DY⟩,⟨_,_,_,IY⟩,⟨_,_,_,rE⟩,⟨_,_,_,Wb⟩] [⟨_,_,_,_,_,NP⟩]
def mR (k s:ByteArray) (x:VX):Int×VX:=
 if aD k≠[] then(if Lib.idxOfS (aD k) s+1=0 then 2 else 0,x.setN k (Lib.idxOfS (aD k) s+1))
 else if k=dZ then((ig s.data.toList).1,x.wr (ig s.data.toList).2)
 else if k=gJ then(if da s 0 24 then(0,x.setS s) else(8,x))
 else if(bQ s.data.toList).2=false then(5,x)
 else if(bQ s.data.toList).1<(dz k).1\/(dz k).2<(bQ s.data.toList).1 then(4,x)
 else(0,x.setN k (bQ s.data.toList).1)
theorem Ky {α:Type} (f:ByteArray->Option α) (k:ByteArray) (v:α):lC .s f k v=setF f k v:=by
 funext t
 by_cases h:t=k
 ·exact(if_pos (Kt.eqb_iff.2 h)).trans (if_pos h).symm
 ·exact(if_neg λe=>h (Kt.eqb_iff.1 e)).trans (if_neg h).symm
theorem VX.v_setN (x:VX) (k:ByteArray) (v:Int):(x.setN k v).v={ x.v with num:=setF x.v.num k v }:=
 congrArg (λf:ByteArray->Option Int=>(⟨f,x.2.1.2,x.2.2.1.2,⟨x.2.2.2.1,x.2.2.2.2.1,x.2.2.2.2.2.1⟩,x.2.2.2.2.2.2.1⟩:aJ)) (Ky x.1.2 k v)
theorem VX.num_setN (x:VX) (k:ByteArray) (v:Int):(x.setN k v).num k=v:=congrArg (·.getD (0:Int)) (gj (kt:=.s))
theorem VX.v_wr (x:VX) (r:Option Raw):(x.wr r).v=x.v.withRisk r:=by cases r<;>rfl
theorem Ze (k s:ByteArray) (x:VX):vi k s x.v=((mR k s x).1,(mR k s x).2.v):=by
 unfold vi mR;split
 ·rw[VX.v_setN]
 split
 ·rw[VX.v_wr]
 split
 ·split<;>rfl
 split
 ·rfl
 split
 ·rfl
 ·rw[VX.v_setN]
theorem cU.szB {s:ByteArray} (h:cU s):szB s:=aax h (by decide)
theorem Om (k s:ByteArray) (x:VX):(mR k s x).2.1.1<=x.1.1+1/\(mR k s x).2.2.1=x.2.1/\(mR k s x).2.2.2.1=x.2.2.1:=by
 have hw:∀r:Option Raw,(x.wr r).1.1<=x.1.1+1/\(x.wr r).2.1=x.2.1/\(x.wr r).2.2.1=x.2.2.1:=λr=>by cases r<;>exact⟨Nat.le_succ _,rfl,rfl⟩
 have h0:x.1.1<=x.1.1+1/\x.2.1=x.2.1/\x.2.2.1=x.2.2.1:=⟨Nat.le_succ _,rfl,rfl⟩;unfold mR;split
 ·exact⟨aaG _,rfl,rfl⟩
 split
 ·exact hw _
 split
 ·split<;>exact h0
 split
 ·exact h0
 split
 ·exact h0
 ·exact⟨aaG _,rfl,rfl⟩
theorem T0:ew Tryz.prog 148 pV [(0,sV),(1,sS),(2,sS)] [(0,sV)] λ((x:VX),(k:ByteArray),(s:ByteArray),_)=>.nd (IS k x/\cU s) (.lf (tH (aI (mR k s x).1) (mR k s x).2)):=
 iA (C:=CV2) (nL _ _) 99 [(0,sV),(1,sS),(2,sS)] [(0,sV)] (λ((x:VX),(k:ByteArray),(s:ByteArray),_)=>akh x k s) (λ⟨(x:VX),(k:ByteArray),(s:ByteArray),_⟩ r _ ⟨⟨hk,hs⟩,h⟩=>by
  obtain rfl:tH (aI (mR k s x).1) (mR k s x).2=r:=h;unfold mR;by_cases h1:aD k=[]
  ·rw[if_neg (by simp[h1])];refine aK (by rw[h1];rfl) ?_;by_cases h2:k=dZ
   ·rw[if_pos h2];exact aC (by rw[h2];simp) ⟨hs.szB,rfl⟩
   refine aK (by rw[cO];exact decide_eq_false h2) ?_;rw[if_neg h2];by_cases h3:k=gJ
   ·rw[if_pos h3];refine aC (by rw[h3];simp) ⟨hs,?_⟩;cases h4:da s 0 24
    ·exact aC rfl rfl
    ·exact aK rfl rfl
   refine aK (by rw[cO];exact decide_eq_false h3) ⟨hs.szB,?_⟩;rw[if_neg h3];by_cases h4:(bQ s.data.toList).2=false
   ·rw[if_pos h4];exact aC (by rw[h4];rfl) rfl
   refine aK (by simpa using h4) ?_;rw[if_neg h4];by_cases h5:(bQ s.data.toList).1<(dz k).1
   ·rw[if_pos (.inl h5)];exact aC (decide_eq_true h5) rfl
   refine aK (decide_eq_false h5) ?_;by_cases h6:(dz k).2<(bQ s.data.toList).1
   ·rw[if_pos (.inr h6)];exact aC (decide_eq_true h6) rfl
   ·rw[if_neg (λq=>q.elim h5 h6)];exact aK (decide_eq_false h6) ⟨hk,rfl⟩
  ·rw[if_pos h1];refine aC (by simpa using h1) ⟨by have:=tl k s;unfold cw;omega,hk,hk.1,?_⟩;rw[VX.num_setN];by_cases h2:Lib.idxOfS (aD k) s+1=0
   ·rw[if_pos h2];exact aC (by rw[h2];rfl) rfl
   ·rw[if_neg h2];exact aK (beq_false_of_ne h2) rfl) Tryz.func148
end Go.Proofs.YtdbpbfglhbiadaaGreatDoor
