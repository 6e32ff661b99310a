/- Lx8 Tp1 Ts1 Ts2 Okd Ts3 Ts4 Tp2 -/
import Derived.Test.YtichkplomldgiaaGreatDoorJ25
import Derived.Test.YtichkplomldgiaaGreatDoorJ26
import Derived.Test.YtichkplomldgiaaGreatDoorJ09
import Derived.Test.YtichkplomldgiaaGreatDoorJ14
import Derived.Test.YtichkplomldgiaaGreatDoorJ15
import Derived.Test.YtichkplomldgiaaGreatDoorJ02
set_option maxHeartbeats 4000000
set_option maxRecDepth 100000
namespace Go.Proofs.YtichkplomldgiaaGreatDoor
open Go Go.RowKit
abbrev l9:ByteArray:=⟨#[47]⟩
theorem Ij:aj Tryz.prog 181 false (az [(0,sS),(1,sS)] λ((s:ByteArray),(t:ByteArray),_)=>.nd (t=l9) (.lf (aI (Lib.indexByte s.data.toList 47)))):=
 lC (λ((s:ByteArray),(t:ByteArray),_)=>[.string s,.string t]) λw S ⟨(s:ByteArray),(t:ByteArray),_⟩ r _ ⟨ht,hr⟩=>by
  obtain rfl:aI (Lib.indexByte s.data.toList 47)=r:=hr;subst ht;exact Calls.mono (Tryz.stringslite_Index_one s 47 w) λ_ _ h=>uH rfl ⟨h.1,h.2▸Below.refl _ _⟩
noncomputable def Cq0:dN Tryz.prog:=bH vn [⟨_,_,_,Ij⟩] []
def WJ (s t:ByteArray):T XV:=.nd (t=l9) (.br (decide (Lib.indexByte s.data.toList 47>=0)) (.nd ((0:Int)<=0/\0<=Lib.indexByte s.data.toList 47/\Lib.indexByte s.data.toList 47<=s.size) (.nd (dD (Lib.indexByte s.data.toList 47+t.size)) (.nd (0<=Lib.indexByte s.data.toList 47+t.size/\Lib.indexByte s.data.toList 47+t.size<=s.size/\(s.size:Int)<=s.size)
 (.lf (aT [.string (s.extract 0 (Lib.indexByte s.data.toList 47).toNat),.string (s.extract (Lib.indexByte s.data.toList 47+t.size).toNat s.size),.bool true]))))) (.lf (aT [.string s,.string ⟨#[]⟩,.bool false])))
abbrev E0 (s:ByteArray):XV:=aT [.string ⟨(cV s.data.toList).toArray⟩,.string ⟨(cU s.data.toList).toArray⟩,.bool (hD s.data.toList)]
abbrev Ra:List XV->T XV:=az [(0,sS),(1,sS)] λ((s:ByteArray),(t:ByteArray),_)=>.nd (s.size<=9223372036854775807/\t=l9) (.lf (E0 s))
theorem I4:aj Tryz.prog 218 false Ra:=
 aJ (C:=Cq0) (nL _ _) false 99 [(0,sS),(1,sS)] (λ((s:ByteArray),(t:ByteArray),_)=>WJ s t) (λ⟨(s:ByteArray),(t:ByteArray),_⟩ r _ ⟨⟨hs,ht⟩,h⟩=>by
  obtain rfl:E0 s=r:=h;obtain rfl:t=l9:=ht;refine⟨?_,.inr rfl⟩;show(WJ s l9).hit (E0 s);unfold WJ E0;rcases ij s.data.toList with h|⟨k,hk,h1,h2,h3⟩
  ·obtain⟨c1,c2,c3⟩:=uv h;rw[c1,c2,c3,h];exact⟨rfl,aQ rfl rfl⟩
  ·obtain⟨c1,c2,c3⟩:=oe h1 h2;rw[c1,c2,c3,hk,<-Ob,<-Q6];rw[dd] at h3;have e1:(k:Int)+((l9.size:Nat):Int)=((k+1:Nat):Int):=rfl;rw[e1];exact⟨rfl,aK (decide_eq_true (by omega)) ⟨⟨by omega,by omega,by omega⟩,⟨by omega,by omega⟩,⟨by omega,by omega,by omega⟩,rfl⟩⟩) Tryz.func218
noncomputable def Cq1:dN Tryz.prog:=bH vn [⟨_,_,_,I4⟩] []
theorem yO:aj Tryz.prog 189 false Ra:=
 aJ (C:=Cq1) (nL _ _) false 99 [(0,sS),(1,sS)] (λ((s:ByteArray),(t:ByteArray),_)=>.nd (s.size<=9223372036854775807/\t=l9) (.lf (E0 s))) (λ⟨(s:ByteArray),(t:ByteArray),_⟩ r _ h=>⟨h,.inr (by obtain⟨_,h⟩:=h;obtain rfl:=h;rfl)⟩) Tryz.func189
noncomputable def X7:dN Tryz.prog:=bH vn [⟨_,_,_,BH⟩,⟨_,_,_,tG⟩,⟨_,_,_,yO⟩,⟨_,_,_,xO⟩] []
abbrev bF:T XV:=.lf (aB false)
abbrev oA (s:ByteArray):ByteArray:=⟨(cV s.data.toList).toArray⟩
abbrev oB (s:ByteArray):ByteArray:=⟨(cU s.data.toList).toArray⟩
def Nm (s:ByteArray):T XV:=.br (s.toList==(⟨#[]⟩:ByteArray).toList) bF (.nd (s.size<=9223372036854775807) (.br ((ce s.data.toList:Int)==s.size) (.lf (aB true)) (.nd (s.size<=9223372036854775807) (.br ((bK s.data.toList:Int)==s.size) (.lf (aB true)) (.nd (s.size<=9223372036854775807/\l9=l9) (.br (hD s.data.toList) (.br (!((oA s).toList==(⟨#[]⟩:ByteArray).toList)) (.br (!((oB s).toList==(⟨#[]⟩:ByteArray).toList))
 (.nd ((oA s).size<=9223372036854775807) (.br ((bK (oA s).data.toList:Int)==(oA s).size) (.nd ((oB s).size<=9223372036854775807) (.lf (aB ((bK (oB s).data.toList:Int)==(oB s).size)))) bF)) bF) bF) bF))))))
theorem E3 (l:List UInt8):(cV l).length<=l.length:=(List.takeWhile_sublist _).length_le
theorem E2 (l:List UInt8):(cU l).length<=l.length:=by unfold cU;rw[List.length_drop];have:=(List.dropWhile_sublist (λx:UInt8=>x !=47) (l:=l)).length_le;omega
theorem vO (l:List UInt8):((⟨l.toArray⟩:ByteArray).toList==(⟨#[]⟩:ByteArray).toList)=decide (l=[]):=by
 rw[dX,decide_eq_decide];exact⟨λh=>by have:=congrArg (λb:ByteArray=>b.data.toList) h;simpa using this,λh=>by rw[h]⟩
theorem Ja {a b:Nat}:(((a:Int)==(b:Int)):Bool)=decide (a=b):=by rw[Bool.eq_iff_iff,beq_iff_eq,decide_eq_true_eq,Int.natCast_inj]
theorem uE:aj Tryz.prog 159 false (az [(0,sS)] λ((s:ByteArray),_)=>.nd (s.size<=9223372036854775807) (.lf (aB (gK s.data.toList)))):=
 aJ (C:=X7) (nL _ _) false 99 [(0,sS)] (λ((s:ByteArray),_)=>Nm s) (λ⟨(s:ByteArray),_⟩ r _ ⟨hs,h⟩=>by
  obtain rfl:aB (gK s.data.toList)=r:=h;refine⟨?_,.inr rfl⟩;show(Nm s).hit _;have ha:=E3 s.data.toList;have hb:=E2 s.data.toList;rw[dd] at ha hb;obtain⟨⟨⟨l⟩⟩,rfl⟩:∃t,s=t:=⟨s,rfl⟩;unfold Nm gK;show(T.br ((⟨l.toArray⟩:ByteArray).toList==(⟨#[]⟩:ByteArray).toList) _ _).hit _;rw[vO,vO,vO,Ja,Ja,Ja,Ja];by_cases q1:l=[]
  ·rw[if_pos q1];exact aK (decide_eq_true q1) rfl
  rw[if_neg q1];refine aQ (decide_eq_false q1) ⟨hs,?_⟩;by_cases q2:ce l=l.length
  ·rw[if_pos (.inl q2)];exact aK (decide_eq_true q2) rfl
  refine aQ (decide_eq_false q2) ⟨hs,?_⟩;by_cases q3:bK l=l.length
  ·rw[if_pos (.inr q3)];exact aK (decide_eq_true q3) rfl
  rw[if_neg (by rintro(h|h);exact q2 h;exact q3 h)];refine aQ (decide_eq_false q3) ⟨⟨hs,rfl⟩,?_⟩;show(T.br (hD l) _ _).hit _;cases hD l with
  | false=>exact aQ rfl rfl
  | true=>
   refine aK rfl ?_;by_cases q4:cV l=[]
   ·rw[decide_eq_true q4,decide_eq_false (p:=cV l≠[]) (λh=>h q4)];exact aQ rfl (by simp;rfl)
   rw[decide_eq_false q4,decide_eq_true (p:=cV l≠[]) q4];refine aK rfl ?_;by_cases q5:cU l=[]
   ·rw[decide_eq_true q5,decide_eq_false (p:=cU l≠[]) (λh=>h q5)];exact aQ rfl (by simp;rfl)
   rw[decide_eq_false q5,decide_eq_true (p:=cU l≠[]) q5];refine aK rfl ⟨Nat.le_trans ha hs,?_⟩;show(T.br (decide (bK (cV l)=(cV l).length)) _ _).hit (aB (true&&(true&&(true&&(decide (bK (cV l)=(cV l).length)&&decide (bK (cU l)=(cU l).length))))));cases decide (bK (cV l)=(cV l).length) with
   | false=>exact aQ rfl rfl
   | true=>exact aK rfl ⟨Nat.le_trans hb hs,rfl⟩) Tryz.func159
def EL (c:UInt8):List UInt8:=if c=34\/c=92 then[92,c] else[c]
def ke (l:List UInt8):List UInt8:=l.flatMap EL
def vG (l:List UInt8):List UInt8:=34::ke l++[34]
def tl (l:List UInt8):List Int:=(l.map λc=>(c.toNat:Int)).reverse
abbrev T9:List (Nat×SS):=[(0,sS),(4,.c (.own (.int .u8) 5)),(8,sI),(9,sI)]
abbrev T8:List (Nat×SS):=[(4,.c (.own (.int .u8) 5))]
abbrev JI:=LE T9 T8 []
noncomputable abbrev qtF:=Tryz.f80
def tC:JI:=.ret (.tup [(false,[.val (.string ⟨#[]⟩)]),(false,[.val (.bool false)])]) ()
def pg (l:List Int):JI:=.out (l,())
def K8 (s:ByteArray) (l:List Int) (n i:Int):T JI:=.nd (0<=i/\i<s.size) (.nd ((l.length+1)*2<=140737488355328) (.nd (dD (i+1)) (.lf (.back (s,at8 s i::l,n,i+1,())))))
def K7 (s:ByteArray) (l:List Int) (n i:Int):T JI:=.nd ((l.length+1)*2<=140737488355328) (K8 s ((92:Int)::l) n i)
def Ua (s:ByteArray) (l:List Int) (n i:Int):T JI:=.br (decide (i<n)) (.nd (0<=i/\i<s.size) (.br (!z5 (at8 s i)) (.lf tC) (.nd (0<=i/\i<s.size) (.br (at8 s i==34) (K7 s l n i) (.nd (0<=i/\i<s.size) (.br (at8 s i==92) (K7 s l n i) (K8 s l n i))))))) (.lf (pg l))
def Sl (s:ByteArray) (l:List Int) (n i:Int):Prop:=0<=i/\i<=s.size/\n=s.size/\s.size<=17592186044416/\(l.length:Int)<=2*i+1
def Sn (s:ByteArray) (l:List Int) (n i:Int):T JI:=.nd (Sl s l n i) (.br ((s.data.toList.drop i.toNat).all eT) (.lf (pg (tl (ke (s.data.toList.drop i.toNat))++l))) (.lf tC))
theorem C2:dS (nc X7 qtF) 0 0 T9 T8 [] λx=>Sn x.1 x.2.1 x.2.2.1 x.2.2.2.1:=by
 refine jF _ (nL _ _) 99 0 0 T9 T8 [] (λx=>Ua x.1 x.2.1 x.2.2.1 x.2.2.2.1) (λx=>ByteArray.size x.1-Int.toNat x.2.2.2.1) ?_;rintro⟨(s:ByteArray),(l:List Int),(n:Int),(i:Int),_⟩ r _ ⟨h,hr⟩;obtain⟨h0,h1,rfl,h2,h3⟩:Sl s l n i:=h;obtain⟨k,rfl⟩:∃k:Nat,i=k:=⟨i.toNat,by omega⟩;have hr:(T.br ((s.data.toList.drop k).all eT) (.lf (pg (tl (ke (s.data.toList.drop k))++l))) (.lf tC)).hit r:=hr;show∃q,(Ua s l s.size k).hit q/\q.nx _ (λx=>Sn x.1 x.2.1 x.2.2.1 x.2.2.2.1) (s.size-k) r;unfold Ua;by_cases hk:k<s.size
 ·obtain⟨c,m,e,ec,ed,_⟩:=yJ hk;rw[e] at hr;have nx:∀(x:List Int),(x.length:Int)<=2*k+2->eT c=true->tl (ke (c::m))++l=tl (ke m)++((c.toNat:Int)::x)->∃q,(K8 s x s.size k).hit q/\q.nx (λx=>ByteArray.size x.1-Int.toNat x.2.2.2.1) (λx=>Sn x.1 x.2.1 x.2.2.1 x.2.2.2.1) (s.size-k) r:=λx hx hp he=>by
   refine⟨.back (s,at8 s k::x,(s.size:Int),(k:Int)+1,()),⟨⟨by omega,by omega⟩,by omega,⟨by omega,by omega⟩,rfl⟩,by show s.size-((k:Int)+1).toNat<s.size-k;omega,(⟨by omega,by omega,rfl,h2,by rw[List.length_cons];omega⟩:Sl s (at8 s k::x) s.size ((k:Int)+1)),?_⟩;show(T.br ((s.data.toList.drop ((k:Int)+1).toNat).all eT) (.lf (pg (tl (ke (s.data.toList.drop ((k:Int)+1).toNat))++(at8 s k::x)))) (.lf tC)).hit r;rw[show((k:Int)+1).toNat=k+1 by omega,ed,ec,<-he];rw[List.all_cons,hp,Bool.true_and] at hr;exact hr
  have go:∀{q:JI} {y:T JI},y.hit q->(T.br (decide ((k:Int)<(s.size:Int))) (.nd (0<=(k:Int)/\(k:Int)<s.size) y) (.lf (pg l))).hit q:=λh=>aK (decide_eq_true (by omega)) ⟨⟨by omega,by omega⟩,h⟩;rw[ec,xX];cases hp:eT c with
  | false=>
   rw[List.all_cons,hp] at hr;exact⟨tC,go (aK rfl rfl),hr.2 rfl⟩
  | true=>
   have n2:c=34\/c=92->∃q,(K7 s l s.size k).hit q/\q.nx (λx=>ByteArray.size x.1-Int.toNat x.2.2.2.1) (λx=>Sn x.1 x.2.1 x.2.2.1 x.2.2.2.1) (s.size-k) r:=λhc=>by
    obtain⟨q,g1,g2⟩:=nx ((92:Int)::l) (by rw[List.length_cons];omega) hp (by unfold ke;rw[List.flatMap_cons,EL,if_pos hc];unfold tl;simp);exact⟨q,⟨by omega,g1⟩,g2⟩
   by_cases c1:c=34
   ·obtain⟨q,g1,g2⟩:=n2 (.inl c1);exact⟨q,go (aQ rfl ⟨⟨by omega,by omega⟩,aK (Od 34 (by decide) c1) g1⟩),g2⟩
   by_cases c2:c=92
   ·obtain⟨q,g1,g2⟩:=n2 (.inr c2);exact⟨q,go (aQ rfl ⟨⟨by omega,by omega⟩,aQ (Kl 34 (by decide) c1) ⟨⟨by omega,by omega⟩,aK (Od 92 (by decide) c2) g1⟩⟩),g2⟩
   obtain⟨q,g1,g2⟩:=nx l (by omega) hp (by unfold ke;rw[List.flatMap_cons,EL,if_neg (by simp[c1,c2])];unfold tl;simp);exact⟨q,go (aQ rfl ⟨⟨by omega,by omega⟩,aQ (Kl 34 (by decide) c1) ⟨⟨by omega,by omega⟩,aQ (Kl 92 (by decide) c2) g1⟩⟩),g2⟩
 ·rw[List.drop_eq_nil_of_le (by rw[dd];omega)] at hr;exact⟨pg l,aQ (decide_eq_false (by omega)) rfl,hr.1 rfl⟩
def T4 (s:ByteArray):T XV:=.nd (Sl s [34] s.size 0) (.br ((s.data.toList.drop 0).all eT) (.nd (((tl (ke (s.data.toList.drop 0))++[34]).length+1)*2<=140737488355328) (.nd (∀v:Int,v∈((34:Int)::(tl (ke (s.data.toList.drop 0))++[34])).reverse->0<=v/\v<=255) (.lf (aT [.string ⟨(u8s ((34:Int)::(tl (ke (s.data.toList.drop 0))++[34])).reverse).toArray⟩,.bool true])))) (.lf (aT [.string ⟨#[]⟩,.bool false])))
theorem EK (l:List UInt8):(ke l).length<=2*l.length:=by
 unfold ke;induction l with
 | nil=>exact Nat.le_refl _
 | cons c l ih=>
  rw[List.flatMap_cons,List.length_append,List.length_cons];have:(EL c).length<=2:=by unfold EL;split<;>simp
  omega
theorem KU (l:List UInt8):u8s (tl l).reverse=l:=by
 unfold tl u8s;rw[List.reverse_reverse,List.map_map];exact(List.map_congr_left λc _=>by show UInt8.ofNat ((c.toNat:Int).toNat)=c;rw[Int.toNat_natCast];exact UInt8.ofNat_toNat).trans (List.map_id _)
def T7 (s:ByteArray):T XV:=.br (vI s.data.toList) (.lf (aT [.string ⟨(vG s.data.toList).toArray⟩,.bool true])) (.lf (aT [.string ⟨#[]⟩,.bool false]))
theorem zY {s:ByteArray} {r:XV} (h:(T7 s).hit r):r.plain=true:=by rcases hB h with⟨_,h⟩|⟨_,h⟩<;>(obtain rfl:=h;rfl)
theorem GO {s:ByteArray} {r:XV} (hs:s.size<=17592186044416) (h:(T7 s).hit r):(T4 s).hit r:=by
 unfold T4;rw[List.drop_zero];have hl:=EK s.data.toList;rw[dd] at hl;have e:(34:Int)::(tl (ke s.data.toList)++[34])=tl (vG s.data.toList):=by unfold vG tl;simp
 refine⟨⟨Int.le_refl _,by omega,rfl,hs,by decide⟩,λq=>⟨?_,λv hv=>?_,?_⟩,λq=>h.2 q⟩
 ·rw[List.length_append,tl,List.length_reverse,List.length_map];show((ke s.data.toList).length+1+1)*2<=_;omega
 ·rw[e,tl,List.reverse_reverse] at hv;obtain⟨c,_,rfl⟩:=List.mem_map.1 hv;have:=c.toNat_lt;omega
 ·rw[e,KU];exact h.1 q
theorem GL:aj Tryz.prog 80 false (az [(0,sS)] λ((s:ByteArray),_)=>.nd (s.size<=17592186044416) (T7 s)):=
 aJ (C:=X7) ((nL _ _).add 0 _ C2) false 99 [(0,sS)] (λ((s:ByteArray),_)=>T4 s) (λ⟨(s:ByteArray),_⟩ r _ ⟨hs,h⟩=>⟨GO hs h,.inr (zY h)⟩) Tryz.func80
noncomputable def Cq3:dN Tryz.prog:=bH vn [⟨_,_,_,GL⟩] []
def Ph (s:ByteArray) (a b:Int):T XV:=.br (decide ((s.size:Int)>=a)) (.lf (aB (decide ((s.size:Int)<=b)))) bF
def Ue (s:ByteArray) (a b:Int):T XV:=.nd (s.size<=17592186044416) (.br (vI s.data.toList) (.br true (Ph s a b) bF) (.br false (Ph s a b) bF))
theorem kZ:aj Tryz.prog 65 false (az [(0,sS),(1,sI),(2,sI)] λ((s:ByteArray),(a:Int),(b:Int),_)=>.nd (bP s) (.lf (aB (de s a b)))):=
 aJ (C:=Cq3) (nL _ _) false 99 [(0,sS),(1,sI),(2,sI)] (λ((s:ByteArray),(a:Int),(b:Int),_)=>Ue s a b) (λ⟨(s:ByteArray),(a:Int),(b:Int),_⟩ r _ ⟨hs,h⟩=>by
  obtain rfl:aB (de s a b)=r:=h;unfold de;refine⟨⟨hs,λe=>aK rfl ⟨λe2=>?_,λe2=>?_⟩,λe=>aQ rfl ?_⟩,.inr rfl⟩
  ·rw[e,show decide (a<=(s.size:Int))=true from e2];rfl
  ·rw[e,show decide (a<=(s.size:Int))=false from e2];rfl
  ·rw[e];rfl) Tryz.func65
theorem rZ:aj Tryz.prog 160 false (az [(0,sL),(1,sS)] λ((l:List ByteArray),(s:ByteArray),_)=>.lf (aB (Lib.containsS l s))):=
 gV λw S x vs r hS he hl hr=>by
  obtain⟨(l:List ByteArray),(s:ByteArray),_⟩:=x;obtain⟨v,h1,A,q,c,h2,h3,_⟩:=he 0 (.one (.list .str l false)) List.mem_cons_self;obtain⟨v',iA,Ew,_⟩:=he 1 (aS s) (List.mem_cons_of_mem _ List.mem_cons_self);obtain rfl:=hr
  match vs,hl,h1,iA with
  | [u,u'],_,h1,iA=>
   injection h1 with h1
   injection iA with iA
   subst h1 iA h2 Ew;exact Calls.mono (su h3 s) λ_ _ h=>uH rfl ⟨h.1,h.2▸Below.refl _ _⟩
theorem I6:aj Tryz.prog 220 false (az [(0,sS),(1,sS)] λ((s:ByteArray),(t:ByteArray),_)=>.nd (t=l9) (.lf (aB (hD s.data.toList)))):=
 lC (λ((s:ByteArray),(t:ByteArray),_)=>[.string s,.string t]) λw S ⟨(s:ByteArray),(t:ByteArray),_⟩ r _ ⟨ht,hr⟩=>by
  obtain rfl:aB (hD s.data.toList)=r:=hr;subst ht;exact Calls.mono (Tryz.strings_Contains_one s 47 w) λ_ _ h=>uH rfl ⟨by rw[h.1,zI],h.2▸Below.refl _ _⟩
theorem Jh:aj Tryz.prog 221 false (az [(0,sS)] λ((s:ByteArray),_)=>.nd (iM s.data.toList=true/\s.size<=9223372036854775807) (.lf (.tup [(false,[.sym (.int .i64 (bq s.data.toList).1)]),(false,[.val .nilIface])]))):=
 lC (λ((s:ByteArray),_)=>[.string s]) λw S ⟨(s:ByteArray),_⟩ r _ ⟨⟨h,_⟩,hr⟩=>by
  obtain rfl:=hr;refine(Tryz.strconv_Atoi s _ (by have:=(gW h).2.1;rw[dd] at this;omega) (Ft h) w).mono ?_;rintro e w' ⟨h1,t,rfl⟩;refine Xb (v:=.tuple #[.int .i64 (bq s.data.toList).1,.nilIface]) ⟨_,rfl,.cons ⟨_,rfl,rfl,rfl⟩ (.cons ⟨_,rfl,rfl,rfl⟩ .nil)⟩ ⟨h1.trans ?_,⟨rfl,rfl,rfl,by rw[Lib.bytesWorld_size];exact Nat.le_succ _,λk hk=>Lib.bytesWorld_at_old w _ t k hk⟩⟩;unfold bq;rw[if_pos h]
noncomputable def X6:dN Tryz.prog:=bH vn [⟨_,_,_,uE⟩,⟨_,_,_,I6⟩,⟨_,_,_,Jh⟩,⟨_,_,_,rZ⟩,⟨_,_,_,kZ⟩] []
abbrev vL (n:Int) (b:Bool):XV:=aT [.int .i64 n,.bool b]
def Lt (s:ByteArray):T XV:=.nd (s.size<=9223372036854775807) (.br (!gK s.data.toList) (.lf (vL 0 false)) (.nd ((0:Int)<=0/\(0:Int)<s.size) (.br (decide (at8 s 0>57)) (.lf (vL 0 false)) (.nd (l9=l9) (.br (hD s.data.toList) (.lf (vL 0 false)) (.nd (iM s.data.toList=true/\s.size<=9223372036854775807) (.lf (vL (bq s.data.toList).1 true))))))))
theorem yb:aj Tryz.prog 192 false (az [(0,sS)] λ((s:ByteArray),_)=>.nd (s.size<=9223372036854775807) (.lf (vL (bq s.data.toList).1 (bq s.data.toList).2))):=
 aJ (C:=X6) (nL _ _) false 99 [(0,sS)] (λ((s:ByteArray),_)=>Lt s) (λ⟨(s:ByteArray),_⟩ r _ ⟨hs,h⟩=>by
  obtain rfl:vL (bq s.data.toList).1 (bq s.data.toList).2=r:=h;refine⟨?_,.inr rfl⟩;show(Lt s).hit _;obtain⟨⟨⟨l⟩⟩,rfl⟩:∃t,s=t:=⟨s,rfl⟩;unfold Lt bq;show(T.nd _ (T.br (!gK l) _ (T.nd (_/\(0:Int)<(l.length:Int)) _))).hit (vL (if iM l=true then _ else _:Int×Bool).1 _);refine⟨hs,?_⟩;cases l with
  | nil=>exact aK rfl rfl
  | cons x l=>
   have e:=@Ar x l;cases hb:gK (x::l) with
   | false=>rw[if_neg (by rw[e,hb];exact Bool.false_ne_true)];exact aK rfl rfl
   | true=>
    refine aQ rfl ⟨⟨Int.le_refl _,by rw[List.length_cons];omega⟩,?_⟩;show(T.br (decide ((x.toNat:Int)>57)) _ (T.nd _ (T.br (hD (x::l)) _ _))).hit _;by_cases h5:x.toNat<=57
    ·refine aQ (decide_eq_false (by omega)) ⟨rfl,?_⟩;cases hc:hD (x::l) with
     | true=>rw[if_neg (by rw[e,hc];simp)];exact aK rfl rfl
     | false=>
      have hn:iM (x::l)=true:=by rw[e,hb,hc,decide_eq_true h5];rfl
      exact aQ rfl ⟨⟨hn,hs⟩,by rw[if_pos hn];exact rfl⟩
    ·rw[if_neg (by rw[e,decide_eq_false h5];simp)];exact aK (decide_eq_true (by omega)) rfl) Tryz.func192
abbrev Uz:List (Nat×SS):=[(0,sL),(1,sI),(10,sL),(11,sI),(12,sI)]
abbrev NR:=LE Uz [] []
noncomputable abbrev liF:=Tryz.f163
def kx (z:Int):NR:=.ret (.one (.val (.int .i64 z))) ()
def tS:NR:=.out ()
def UA (l:List ByteArray) (m:Int) (l2:List ByteArray) (n i:Int):T NR:=.br (decide (i<n)) (.nd (0<=i/\i<l2.length) (.br (i==m) (.lf (kx 7)) (.nd (bP (l2.getD i.toNat ⟨#[]⟩)) (.br (!de (l2.getD i.toNat ⟨#[]⟩) 1 24) (.lf (kx 8))
 (.nd ((0:Int)<=0/\0<=i/\i<=l.length) (.br (Lib.containsS ((l.take i.toNat).drop (Int.toNat 0)) (l2.getD i.toNat ⟨#[]⟩)) (.lf (kx 3)) (.nd (dD (i+1)) (.lf (.back (l,m,l2,n,i+1,())))))))))) (.lf tS)
def SA (l l2:List ByteArray) (n i:Int):Prop:=0<=i/\i<=l.length/\l2=l/\n=l.length/\∀s∈l,bP s
def Al (l:List ByteArray) (m i:Int):Int:=rD m (l.take i.toNat) (l.drop i.toNat)
def YS (l:List ByteArray) (m:Int) (l2:List ByteArray) (n i:Int):T NR:=.nd (SA l l2 n i) (.br (decide (Al l m i=0)) (.lf tS) (.lf (kx (Al l m i))))
theorem Hs:dS (nc X6 liF) 0 0 Uz [] [] λx=>YS x.1 x.2.1 x.2.2.1 x.2.2.2.1 x.2.2.2.2.1:=by
 refine jF _ (nL _ _) 99 0 0 Uz [] [] (λx=>UA x.1 x.2.1 x.2.2.1 x.2.2.2.1 x.2.2.2.2.1) (λx=>List.length x.1-Int.toNat x.2.2.2.2.1) ?_;rintro⟨(l:List ByteArray),(m:Int),(l2:List ByteArray),(n:Int),(i:Int),_⟩ r hb ⟨h,hr⟩;obtain⟨h0,h1,rfl,rfl,hs⟩:SA l l2 n i:=h;obtain⟨k,rfl⟩:∃k:Nat,i=k:=⟨i.toNat,by omega⟩;have hr:(T.br (decide (Al l2 m k=0)) (.lf tS) (.lf (kx (Al l2 m k)))).hit r:=hr;show∃q,(UA l2 m l2 l2.length k).hit q/\q.nx _ (λx=>YS x.1 x.2.1 x.2.2.1 x.2.2.2.1 x.2.2.2.2.1) (l2.length-k) r;unfold UA;by_cases hk:k<l2.length
 ·obtain⟨s,es⟩:∃s,l2[k]=s:=⟨_,rfl⟩;have eg:l2[k]?=some s:=by rw[List.getElem?_eq_getElem hk,es]
  have e:l2.getD (k:Int).toNat ⟨#[]⟩=s:=by rw[Int.toNat_natCast,List.getD_eq_getElem?_getD,eg];rfl
  have ez:Al l2 m k=if(k:Int)=m then 7 else if de s 1 24=false then 8 else if Lib.containsS (l2.take k) s then 3 else Al l2 m ((k:Int)+1):=by
   unfold Al;rw[Int.toNat_natCast,show((k:Int)+1).toNat=k+1 by omega,AT eg,rD,kX eg,List.length_take,Nat.min_eq_left (Nat.le_of_lt hk)]
  have hm:s∈l2:=List.mem_of_getElem? eg;have hl:l2.length<=9223372036854775807:=hb.1;have go:∀{q:NR} {y:T NR},y.hit q->(T.br (decide ((k:Int)<(l2.length:Int))) (.nd (0<=(k:Int)/\(k:Int)<l2.length) y) (.lf tS)).hit q:=λh=>aK (decide_eq_true (by omega)) ⟨⟨by omega,by omega⟩,h⟩;rw[e];have rt:∀{z:Int},z≠0->Al l2 m k=z->kx z=r:=λhz e=>by rw[e] at hr;exact hr.2 (decide_eq_false hz)
  by_cases q1:(k:Int)=m
  ·exact⟨kx 7,go (aK (by rw[q1];simp) rfl),rt (by decide) (by rw[ez,if_pos q1])⟩
  rw[if_neg q1] at ez;cases q2:de s 1 24 with
  | false=>exact⟨kx 8,go (aQ (by simpa using q1) ⟨hs s hm,aK rfl rfl⟩),rt (by decide) (by rw[ez,if_pos q2])⟩
  | true=>
   rw[if_neg (by rw[q2];decide)] at ez;cases q3:Lib.containsS (l2.take k) s with
   | true=>exact⟨kx 3,go (aQ (by simpa using q1) ⟨hs s hm,aQ rfl ⟨⟨by omega,by omega,by omega⟩,aK q3 rfl⟩⟩),rt (by decide) (by rw[ez,if_pos q3])⟩
   | false=>
    rw[if_neg (by rw[q3];decide)] at ez;refine⟨.back (l2,m,l2,(l2.length:Int),(k:Int)+1,()),go (aQ (by simpa using q1) ⟨hs s hm,aQ rfl ⟨⟨by omega,by omega,by omega⟩,aQ q3 ⟨⟨by omega,by omega⟩,rfl⟩⟩⟩),by show l2.length-((k:Int)+1).toNat<l2.length-k;omega,(⟨by omega,by omega,rfl,rfl,hs⟩:SA l2 l2 l2.length ((k:Int)+1)),?_⟩;rw[ez] at hr;exact hr
 ·have hz:Al l2 m k=0:=by unfold Al;rw[Int.toNat_natCast,List.drop_eq_nil_of_le (by omega)];rfl
  rw[hz] at hr;exact⟨tS,aQ (decide_eq_false (by omega)) rfl,hr.1 rfl⟩
def PL (l:List ByteArray) (m:Int):T XV:=.br ((l.length:Int)==0) (.lf (aI 7)) (.nd (SA l l l.length 0) (.br (decide (Al l m 0=0)) (.lf (aI 0)) (.lf (aI (Al l m 0)))))
theorem Hr:aj Tryz.prog 163 false (az [(0,sL),(1,sI)] λ((l:List ByteArray),(n:Int),_)=>.nd (∀s∈l,bP s) (.lf (aI (ny l n)))):=
 aJ (C:=X6) ((nL _ _).add 0 _ Hs) false 99 [(0,sL),(1,sI)] (λ((l:List ByteArray),(m:Int),_)=>PL l m) (λ⟨(l:List ByteArray),(m:Int),_⟩ r _ ⟨hs,h⟩=>by
  obtain rfl:aI (ny l m)=r:=h;refine⟨?_,.inr rfl⟩;show(PL l m).hit _;unfold ny;by_cases h0:l=[]
  ·subst h0;exact aK rfl rfl
  ·rw[if_neg h0];refine aQ (by rw[beq_eq_false_iff_ne];intro e;exact h0 (List.length_eq_zero_iff.1 (by omega))) ⟨⟨Int.le_refl _,by omega,rfl,rfl,hs⟩,λq=>?_,λ_=>rfl⟩;show aI 0=aI (Al l m 0);rw[of_decide_eq_true q]) Tryz.func163
theorem SV.xr {w:World} {S:Nat->Prop} {v:Value} (k:Nat) {x:wX k} (h:@SV _ (o5 k) w S v x):XR [] w S (.agg (kS (.st k) x)) v:=let ⟨cs,e,h⟩:=h;⟨cs,e,fZ (t:=.st k) h⟩
theorem EB:aj Tryz.prog 219 false (az [(0,sI),(1,sI)] λ((a:Int),(b:Int),_)=>.nd (dD a/\dD b) (.lf (.agg (kS (.st 8) (dG a b).raw)))):=
 lC (λ((a:Int),(b:Int),_)=>[.int .i64 a,.int .i64 b]) λw S ⟨(a:Int),(b:Int),_⟩ r _ ⟨⟨⟨h1,h2⟩,h3,h4⟩,hr⟩=>by
  obtain rfl:XV.agg (kS (.st 8) (dG a b).raw)=r:=hr;refine Calls.mono (IN a b w h1 h2 h3 h4) λe w' ⟨v,e1,e2,e3⟩=>⟨v,cm w w',e1,e3,λb q=>.inr q,SV.xr 8 (x:=(dG a b).raw) e2⟩
theorem wU {w:World} {S:Nat->Prop} {x:Raw} {v:Value} (h:XR [] w S (.agg (kS (.st 8) x)) v):SV w S v x:=by
 obtain⟨vs,rfl,hf⟩:=h;exact⟨vs,rfl,gQ (t:=.st 8) (us:=kS (.st 8) x) rfl hf⟩
theorem yQ:aj Tryz.prog 87 false (az [(0,.st 8),(1,.st 8)] λ((a:Raw),(b:Raw),_)=>.nd (a.short 67108864/\b.short 67108864) (.lf (aI (sw a.q b.flip.q)))):=
 gV λw S x vs r hS he hl hr=>by
  obtain⟨(a:Raw),(b:Raw),_⟩:=x;obtain⟨v,h1,h2⟩:=he 0 (.agg (kS (.st 8) a)) List.mem_cons_self;obtain⟨v',iA,Ew⟩:=he 1 (.agg (kS (.st 8) b)) (List.mem_cons_of_mem _ List.mem_cons_self);obtain⟨⟨k1,k2⟩,rfl⟩:=hr
  match vs,hl,h1,iA with
  | [u,u'],_,h1,iA=>
   injection h1 with h1
   injection iA with iA
   subst h1 iA;exact Calls.mono (I8 (wU h2) (wU Ew) hS hS k1 k2) λe w' h=>⟨_,λ_=>False,h.1,h.2,λ_ q=>q.elim,rfl,rfl⟩
theorem yA:aj Tryz.prog 112 false (az [(0,sL),(1,sS)] λ((l:List ByteArray),(s:ByteArray),_)=>.lf (aI (Lib.idxOfS l s))):=
 gV λw S x vs r hS he hl hr=>by
  obtain⟨(l:List ByteArray),(s:ByteArray),_⟩:=x;obtain⟨v,h1,A,q,c,h2,h3,_⟩:=he 0 (.one (.list .str l false)) List.mem_cons_self;obtain⟨v',iA,Ew,_⟩:=he 1 (aS s) (List.mem_cons_of_mem _ List.mem_cons_self);obtain rfl:=hr
  match vs,hl,h1,iA with
  | [u,u'],_,h1,iA=>
   injection h1 with h1
   injection iA with iA
   subst h1 iA h2 Ew;exact Calls.mono (Ig h3 s) λ_ _ h=>uH rfl ⟨h.1,h.2▸Below.refl _ _⟩
theorem lB:aj Tryz.prog 125 false (az [(0,sL)] λ((l:List ByteArray),_)=>.nd (l.length<=1099511627776) (.lf (.one (.list .str l false)))):=
 gV λw S x vs r hS he hl hr=>by
  obtain⟨(l:List ByteArray),_⟩:=x;obtain⟨v,h1,A,q,c,h2,h3,_⟩:=he 0 (.one (.list .str l false)) List.mem_cons_self;obtain⟨hn,rfl⟩:=hr
  match vs,hl,h1 with
  | [u],_,h1=>
   injection h1 with h1
   subst h1 h2;refine Calls.mono (AZ h3 (by rw[<-h3.len];exact hn)) λe w' h=>?_;obtain⟨v',rfl,ho,h2⟩:=h;obtain⟨A,q,c,rfl,_⟩:=ho.slice;exact⟨_,cm w w',rfl,h2,λb q=>.inr q,A,q,c,rfl,ho.fresh (Nat.le_refl _),λe=>by cases e⟩
def Ko (F:ByteArray->XV) (d:XV) (k:ByteArray):List ByteArray->T XV
 | []=>.lf d
 | a::l=>.br (k.toList==a.toList) (.lf (F a)) (Ko F d k l)
theorem yR {F:ByteArray->XV} {d:XV} {k:ByteArray}:∀{l:List ByteArray},(k∉l->∀(w:World) (S:Nat->Prop) (v:Value),XR [] w S d v->XR [] w S (F k) v)->∃q,(Ko F d k l).hit q/\∀(w:World) (S:Nat->Prop) (v:Value),XR [] w S q v->XR [] w S (F k) v
 | [],h=>⟨_,rfl,h (by simp)⟩
 | a::l,h=>by
  by_cases e:k=a
  ·subst e;exact⟨_,aK (by simp) rfl,λ_ _ _ h=>h⟩
  ·obtain⟨q,h1,h2⟩:=yR (k:=k) (l:=l) λhl=>h (by simp[e,hl]);exact⟨q,aQ (by rw[dX];exact decide_eq_false e) h1,h2⟩
theorem oi {f:FuncId} {F:ByteArray->XV} {d:XV} {l:List ByteArray} (h:aj Tryz.prog f true (az [(0,sS)] λ((k:ByteArray),_)=>Ko F d k l)) (hd:∀k,k∉l->F k=d\/∃xs:List ByteArray,xs=[]/\F k=.one (.list .str xs true)/\d=.one (.val (.slice none 0 0))):aj Tryz.prog f true (az [(0,sS)] λ((k:ByteArray),_)=>.lf (F k)):=
 h.imp λ⟨(k:ByteArray),_⟩ r hr=>by
  obtain rfl:F k=r:=hr;refine yR λhn w S v hv=>?_;rcases hd k hn with e|⟨xs,e,e1,e2⟩
  ·rw[e];exact hv
  ·subst e;rw[e1];rw[e2] at hv;exact⟨none,0,0,hv.1,RS.nil _ _,λ_ _=>rfl⟩
abbrev Ku (xs:List ByteArray):XV:=.one (.list .str xs true)
abbrev Pt:XV:=.one (.val (.slice none 0 0))
theorem ll:aj Tryz.prog 157 true (az [(0,sS)] λ((k:ByteArray),_)=>.lf (Ku (dw k))):=
 oi (F:=λk=>Ku (dw k)) (aJ (C:=C0) (nL _ _) true 99 [(0,sS)] (λ((k:ByteArray),_)=>Ko (λk=>Ku (dw k)) Pt k cG) (λ_ _ _ h=>⟨h,.inl rfl⟩) Tryz.func157) λk h=>.inr ⟨_,by simp only[cG,List.mem_cons,List.not_mem_nil,or_false,not_or] at h;simp[dw,h],rfl,rfl⟩
abbrev WQ:List ByteArray:=[⟨#[109,101,116,104,111,100]⟩,⟨#[116,105,101,115]⟩,⟨#[111,118,101,114,118,111,116,101]⟩,⟨#[115,107,105,112]⟩]
theorem uB:aj Tryz.prog 190 true (az [(0,sS)] λ((k:ByteArray),_)=>.lf (Ku (aH k))):=
 oi (F:=λk=>Ku (aH k)) (aJ (C:=C0) (nL _ _) true 99 [(0,sS)] (λ((k:ByteArray),_)=>Ko (λk=>Ku (aH k)) Pt k WQ) (λ_ _ _ h=>⟨h,.inl rfl⟩) Tryz.func190) λk h=>.inr ⟨_,by simp only[List.mem_cons,List.not_mem_nil,or_false,not_or] at h;simp[aH,h],rfl,rfl⟩
theorem Hy:aj Tryz.prog 162 true (az [(0,sS)] λ((k:ByteArray),_)=>.lf (aI (dk k))):=
 oi (F:=λk=>aI (dk k)) (aJ (C:=C0) (nL _ _) true 99 [(0,sS)] (λ((k:ByteArray),_)=>Ko (λk=>aI (dk k)) (aI 0) k [⟨#[110,97,109,101,115]⟩,⟨#[112,114,101,99,105,110,99,116,115]⟩,⟨#[99,111,110,116,101,115,116,115]⟩,⟨#[99,97,110,100,105,100,97,116,101,115]⟩]) (λ_ _ _ h=>⟨h,.inl rfl⟩) Tryz.func162) λk h=>.inl (by simp only[List.mem_cons,List.not_mem_nil,or_false,not_or] at h;simp[dk,h])
theorem Jb:aj Tryz.prog 161 true (az [(0,sS)] λ((k:ByteArray),_)=>.lf (aI (eE k))):=
 oi (F:=λk=>aI (eE k)) (aJ (C:=C0) (nL _ _) true 99 [(0,sS)] (λ((k:ByteArray),_)=>Ko (λk=>aI (eE k)) (aI 6) k [bZ]) (λ_ _ _ h=>⟨h,.inl rfl⟩) Tryz.func161) λk h=>.inl (by simp only[List.mem_singleton] at h;rw[show eE k=6 from if_neg h])
theorem Jd:aj Tryz.prog 193 true (az [(0,sS)] λ((k:ByteArray),_)=>.lf (aT [.int .i64 (cA k).1,.int .i64 (cA k).2])):=
 oi (F:=λk=>aT [.int .i64 (cA k).1,.int .i64 (cA k).2]) (aJ (C:=C0) (nL _ _) true 99 [(0,sS)] (λ((k:ByteArray),_)=>Ko (λk=>aT [.int .i64 (cA k).1,.int .i64 (cA k).2]) (aT [.int .i64 0,.int .i64 0]) k
  [⟨#[100,111,116,115]⟩,dJ,cJ,⟨#[99,111,117,110,116]⟩,⟨#[98,97,116,99,104]⟩,cT,⟨#[114,97,110,107,115]⟩,bn,⟨#[99,101,108,108]⟩]) (λ_ _ _ h=>⟨h,.inl rfl⟩) Tryz.func193) λk h=>.inl (by simp only[dJ,cJ,cT,bn,List.mem_cons,List.not_mem_nil,or_false,not_or] at h;simp[cA,h])
theorem Ae:aj Tryz.prog 158 true (az [(0,sS)] λ((k:ByteArray),_)=>.lf (aB (jV k))):=
 aJ (C:=C0) (nL _ _) true 99 [(0,sS)] (λ((k:ByteArray),_)=>.br (k.toList==bZ.toList) (.lf (aB true)) (.lf (aB (k.toList==(⟨#[115,116,121,108,101]⟩:ByteArray).toList)))) (λ⟨(k:ByteArray),_⟩ r _ h=>⟨by
  obtain rfl:aB (jV k)=r:=h;show(T.br _ _ _).hit (aB (if k=bZ then true else if k=⟨#[115,116,121,108,101]⟩ then true else false));by_cases e:k=bZ
  ·exact aK (by rw[e];simp) (by rw[if_pos e];rfl)
  ·refine aQ (by rw[dX];exact decide_eq_false e) ?_;rw[if_neg e,dX];split<;>rename_i e2
   ·exact congrArg aB (decide_eq_true e2)
   ·exact congrArg aB (decide_eq_false e2),.inl rfl⟩) Tryz.func158
theorem vZ:aj Tryz.prog 67 true (az [] λ_=>.lf (Ku cG)):=
 aJ (C:=C0) (nL _ _) true 99 [] (λ_=>.lf (Ku cG)) (λ_ _ _ h=>⟨h,.inl rfl⟩) Tryz.func67
theorem DK:aj Tryz.prog 171 false (az [(0,sI)] λ((n:Int),_)=>.nd (dD n) (.lf (aS (pK n)))):=
 rc λw S x vs r hW hS he hl hr=>by
  obtain⟨(n:Int),_⟩:=x;obtain⟨v,h1,h2,_⟩:=he 0 (aI n) List.mem_cons_self;obtain⟨⟨hn,hn2⟩,rfl⟩:=hr;obtain⟨B,hB,hT⟩:=hW
  match vs,hl,h1 with
  | [u],_,h1=>
   injection h1 with h1
   subst h1 h2;exact Calls.mono (If hT n hn hn2) λe w' h=>⟨_,λ_=>False,h.1,h.2,λ_ q=>q.elim,rfl,rfl⟩
theorem uA:aj Tryz.prog 190 true (az [(0,sS)] λ((k:ByteArray),_)=>.lf (.one (.list .str (aH k) false))):=uB.wk λ⟨(_:ByteArray),_⟩ _ h=>⟨_,rfl,h⟩
theorem tA:aj Tryz.prog 129 false (az [(0,.st 8)] λ((x:Raw),_)=>.nd (x.short 67108864) (.lf (aS ⟨(gj x.q).toArray⟩))):=
 gV λw S x vs r hS he hl hr=>by
  obtain⟨(x:Raw),_⟩:=x;obtain⟨v,h1,F7,rfl,h2⟩:=he 0 (.agg (kS (.st 8) x)) List.mem_cons_self;obtain⟨a1,rfl⟩:=hr;have hr:@ak.rep (wX 8) (o5 8) w S F7 x:=gQ (t:=.st 8) (us:=kS (.st 8) x) rfl h2
  match vs,hl,h1 with
  | [u],_,h1=>
   injection h1 with h1
   subst h1;exact Calls.mono (Cg ⟨_,rfl,hr⟩ hS a1) λe w' h=>⟨_,λ_=>False,h.1,h.2,λ_ q=>q.elim,rfl,rfl⟩
noncomputable def td (t:TypeId):Option Ty:=List.lookup t [(9,.str),(3,tI),(129,.st 0),(67,.st 1)]
noncomputable def R2:dN Tryz.prog:=bH td [⟨_,_,_,DK⟩,⟨_,_,_,uA⟩] []
def Px (f:ay):XV:=.agg [.sym (.string f.key),.list .str f.vals true,.sym (.int .i64 f.line)]
theorem o4:aj Tryz.prog 128 true (az [(0,sS),(1,sS)] λ((k:ByteArray),(s:ByteArray),_)=>.lf (.agg (kS (.st 0) (⟨k,[s],0⟩:ay)))):=
 (aJ (C:=R2) (nL _ _) true 99 [(0,sS),(1,sS)] (λ((k:ByteArray),(s:ByteArray),_)=>.lf (Px ⟨k,[s],0⟩)) (λ_ _ _ h=>⟨h,.inl rfl⟩) Tryz.func128).wk λ_ r h=>⟨_,rfl,h⟩
theorem mW:aj Tryz.prog 124 true (az [(0,sS),(1,sI)] λ((k:ByteArray),(n:Int),_)=>.nd (dD n) (.lf (.agg (kS (.st 0) (⟨k,[pK n],0⟩:ay))))):=
 (aJ (C:=R2) (nL _ _) true 99 [(0,sS),(1,sI)] (λ((k:ByteArray),(n:Int),_)=>.nd (dD n) (.lf (Px ⟨k,[pK n],0⟩))) (λ_ _ _ h=>⟨h,.inl rfl⟩) Tryz.func124).wk λ_ r ⟨h1,h⟩=>⟨_,⟨h1,rfl⟩,h⟩
theorem wO:aj Tryz.prog 172 false (az [(0,sS),(1,sI)] λ((k:ByteArray),(n:Int),_)=>.nd (dD n) (.lf (aS (jm k n)))):=
 aJ (C:=R2) (nL _ _) false 99 [(0,sS),(1,sI)] (λ((k:ByteArray),(n:Int),_)=>.br (decide (n<1)) (.lf (aS ⟨#[]⟩)) (.br (decide (n>(aH k).length)) (.lf (aS ⟨#[]⟩)) (.nd (dD (n-1)) (.nd (0<=n-1/\n-1<(aH k).length) (.lf (aS ((aH k).getD (n-1).toNat ⟨#[]⟩)))))))
  (λ⟨(k:ByteArray),(n:Int),_⟩ r _ ⟨hn,h⟩=>by
   obtain rfl:aS (jm k n)=r:=h;refine⟨?_,.inr rfl⟩;unfold jm;by_cases h1:n<1
   ·rw[if_pos (.inl h1)];exact aK (decide_eq_true h1) rfl
   ·by_cases h2:((aH k).length:Int)<n
    ·rw[if_pos (.inr h2)];exact aQ (decide_eq_false h1) (aK (decide_eq_true h2) rfl)
    ·rw[if_neg (by omega)];refine aQ (decide_eq_false h1) (aQ (decide_eq_false (by omega)) ⟨⟨by omega,by have:=hn.2;omega⟩,⟨by omega,by omega⟩,?_⟩);rw[show(n-1).toNat=n.toNat-1 by omega];rfl) Tryz.func172
noncomputable abbrev Ps:=Tryz.f127
noncomputable abbrev Um:Rg Tryz.prog Ps.ntmps:=nc R2 Ps
abbrev Ur:List CS:=[.d .str,.own .str 9,.d tI]
abbrev Uk:List CS:=[.d .str,.d (.list .str),.d tI]
abbrev BA:=eX Ur
abbrev Ol:=eX Uk
abbrev Uq:List (Nat×SS):=[(2,sL),(6,.box 129 Uk),(7,.box 129 Ur),(13,sD (.list tI)),(14,sI),(15,sI)]
abbrev Un:List (Nat×SS):=[(6,.box 129 Uk),(7,.box 129 Ur)]
abbrev Xp:=LE Uq Un []
def BA.row (f:BA):List ByteArray:=f.2.1
def BA.put (f:BA) (r:List ByteArray):BA:=(f.1,r,f.2.2)
def yc (u:Ol) (f:BA) (r:List ByteArray):Xp:=.out (u,f.put r,())
def G2 (l:List ByteArray) (u:Ol) (f:BA) (x:List Int) (n i:Int) (s:ByteArray):T Xp:=.nd ((f.row.length+1)*17<=140737488355328) (.nd (dD (i+1)) (.lf (.back (l,u,f.put (s::f.row),x,n,i+1,()))))
def Ul (l:List ByteArray) (u:Ol) (f:BA) (x:List Int) (n i:Int):T Xp:=.br (decide (i<n)) (.nd (0<=i/\i<x.length) (.br (decide (x.getD i.toNat 0>=0)) (.br (decide (x.getD i.toNat 0<l.length))
 (.nd (0<=x.getD i.toNat 0/\x.getD i.toNat 0<l.length) (G2 l u f x n i (l.getD (x.getD i.toNat 0).toNat ⟨#[]⟩))) (G2 l u f x n i ⟨#[]⟩)) (G2 l u f x n i ⟨#[]⟩))) (.lf (.out (u,f,())))
def Uo (f:BA) (x:List Int) (n i:Int):Prop:=0<=i/\i<=x.length/\n=x.length/\(f.row.length:Int)=i/\x.length<=1099511627776
theorem Df:dS Um 0 0 Uq Un [] λ((l:List ByteArray),(u:Ol),(f:BA),(x:List Int),(n:Int),(i:Int),_)=>.nd (Uo f x n i) (.lf (yc u f ((df (x.drop i.toNat) l).reverse++f.row))):=by
 refine jX _ (nL _ _) 99 0 0 Uq Un [] (λ((l:List ByteArray),(u:Ol),(f:BA),(x:List Int),(n:Int),(i:Int),_)=>Ul l u f x n i) (λ(_,_,_,(x:List Int),_,(i:Int),_)=>x.length-i.toNat) ?_;rintro⟨(l:List ByteArray),(u:Ol),(f:BA),(x:List Int),(n:Int),(i:Int),_⟩ r _ ⟨⟨h0,h1,rfl,h2,h3⟩,hr⟩;obtain⟨k,rfl⟩:∃k:Nat,i=k:=⟨i.toNat,by omega⟩;have hr:yc u f ((df (x.drop k) l).reverse++f.row)=r:=hr;subst hr;show∃q,(Ul l u f x x.length k).hit q/\_;unfold Ul;rw[Int.toNat_natCast];by_cases hk:k<x.length
 ·rw[getD_drop 0 hk];obtain⟨s,hs⟩:∃s,nameAt l (x.getD k 0)=s:=⟨_,rfl⟩;have nx:Uo (f.put (s::f.row)) x x.length ((k:Int)+1):=⟨by omega,by omega,rfl,by show((s::f.row).length:Int)=_;rw[List.length_cons];omega,h3⟩;have eq:yc u (f.put (s::f.row)) ((df (x.drop (k+1)) l).reverse++s::f.row)=yc u f ((df (x.getD k 0::x.drop (k+1)) l).reverse++f.row):=by
   unfold df;rw[List.map_cons,List.reverse_cons,List.append_assoc,hs];rfl
  have dec:x.length-(k+1)<x.length-k:=by omega
  have bk:(G2 l u f x x.length k s).hit (.back (l,u,f.put (s::f.row),x,(x.length:Int),(k:Int)+1,())):=⟨by omega,⟨by omega,by omega⟩,rfl⟩;have fb:0<=(k:Int)/\(k:Int)<x.length:=⟨by omega,by omega⟩;by_cases h4:x.getD k 0<0
  ·rw[show s=⟨#[]⟩ by rw[<-hs];exact if_neg (by omega)] at nx eq bk;exact⟨_,aK (decide_eq_true (by omega)) ⟨fb,aQ (decide_eq_false (by omega)) bk⟩,dec,nx,eq⟩
  by_cases h5:(l.length:Int)<=x.getD k 0
  ·rw[show s=⟨#[]⟩ by rw[<-hs];exact if_neg (by omega)] at nx eq bk;exact⟨_,aK (decide_eq_true (by omega)) ⟨fb,aK (decide_eq_true (by omega)) (aQ (decide_eq_false (by omega)) bk)⟩,dec,nx,eq⟩
  ·rw[show s=l.getD (x.getD k 0).toNat ⟨#[]⟩ by rw[<-hs];exact if_pos ⟨by omega,by omega⟩] at nx eq bk;exact⟨_,aK (decide_eq_true (by omega)) ⟨fb,aK (decide_eq_true (by omega)) (aK (decide_eq_true (by omega)) ⟨⟨by omega,by omega⟩,bk⟩)⟩,dec,nx,eq⟩
 ·rw[List.drop_eq_nil_of_le (by omega)];exact⟨_,aQ (decide_eq_false (by omega)) rfl,rfl⟩
def Ss (k:ByteArray) (r:List ByteArray):XV:=.agg [.sym (.string k),.list .str r.reverse !r.isEmpty,.sym (.int .i64 0)]
theorem Ac:aj Tryz.prog 127 true (az [(0,sS),(1,sD (.list tI)),(2,sL)] λ((k:ByteArray),(x:List Int),(l:List ByteArray),_)=>.nd (x.length<=1099511627776) (.lf (.agg (kS (.st 0) (⟨k,df x l,0⟩:ay))))):=
 aj.wk (l0:=[(0,sS),(1,sD (.list tI)),(2,sL)]) (F:=λ((k:ByteArray),(x:List Int),(l:List ByteArray),_)=>.nd (x.length<=1099511627776) (.lf (Ss k (df x l).reverse)))
  (aJ (C:=R2) ((nL _ _).add 0 _ Df) true 99 [(0,sS),(1,sD (.list tI)),(2,sL)] (λ((k:ByteArray),(x:List Int),(l:List ByteArray),_)=>.nd (Uo (k,[],(0:Int),()) x x.length 0) (.lf (Ss k ((df (x.drop 0) l).reverse++[]))))
   (λ⟨(k:ByteArray),(x:List Int),(l:List ByteArray),_⟩ r _ ⟨h1,h⟩=>by
    obtain rfl:Ss k (df x l).reverse=r:=h;refine⟨⟨⟨by omega,by omega,rfl,rfl,h1⟩,?_⟩,.inl rfl⟩;show Ss k _=_;rw[List.drop_zero,List.append_nil]) Tryz.func127)
  λ⟨(k:ByteArray),(x:List Int),(l:List ByteArray),_⟩ r ⟨h1,h⟩=>⟨_,⟨h1,rfl⟩,by
   obtain rfl:XV.agg (kS (.st 0) (⟨k,df x l,0⟩:ay))=r:=h;show XV.agg [.sym (.string k),.list .str (df x l).reverse.reverse false,.sym (.int .i64 0)]=_;rw[List.reverse_reverse];rfl⟩
noncomputable def Cs2:dN Tryz.prog:=bH td [⟨_,_,_,wO⟩,⟨_,_,_,o4⟩,⟨_,_,_,mW⟩,⟨_,_,_,lB⟩] []
def uZ (v:Int):Prop:= -9223372036854775808<=v/\v<=9223372036854775807
def jd (x:ai):Prop:=uZ x.method/\uZ x.seats/\uZ x.ranks/\uZ x.digits/\uZ x.ties/\uZ x.over/\uZ x.skip/\x.cands.length<=274877906944
structure jc (e:ae):Prop where
 dots:uZ e.dots
 blank:uZ e.blank
 marked:uZ e.marked
 scan:uZ e.scan
 batch:uZ e.batch
 cell:uZ e.cell
 conts:∀x∈e.cont,jd x
 styls:∀x∈e.styl,x.prec.length<=274877906944/\x.cont.length<=274877906944
 lc:e.cont.length<=34359738368
 ls:e.styl.length<=34359738367
 lp:e.prec.length<=274877906944
 short:e.risk.short 67108864
def sM (f:ay):Prop:=bP f.key/\(∀s∈f.vals,bP s)/\f.vals.length<=1099511627776
def dP (x:ao):Prop:=bP x.kind/\bP x.name/\x.fields.length<=274877906944/\∀f∈x.fields,sM f/\f.vals.length<=274877906944
def i9 (s:aX):Prop:=bP s.title/\s.blocks.length<=68719476736/\∀x∈s.blocks,dP x
def TQ (c:ai) (l:List ay):XV:=.agg [.sym (.string bZ),.sym (.string c.name),.list (.st 0) ([iX bz c.method,dI cT c.seats,dI lm c.ranks]++l++[iX pD c.ties,iX fo c.over,iX pE c.skip,⟨lu,c.cands,0⟩]) true,.sym (.int .i64 0)]
def YF (c:ai) (n:Nat) (l:List ay):T XV:=.nd (dD c.ties) (.nd (dD c.over) (.nd (dD c.skip) (.nd (c.cands.length<=1099511627776) (.nd ((n+4)*49<=140737488355328) (.lf (TQ c l))))))
def scB (c:ai):T XV:=.nd (dD c.method) (.nd (dD c.seats) (.nd (dD c.ranks) (.br (c.method==2) (.nd (dD c.digits) (.nd ((3+1)*49<=140737488355328) (YF c 4 [dI bn c.digits]))) (YF c 3 []))))
theorem qR:aj Tryz.prog 126 true (az [(0,.st 3)] λ((c:ai),_)=>.nd (jd c) (.lf (.agg (kS (.st 1) (dy c))))):=
 (aJ (C:=Cs2) (nL _ _) true 99 [(0,.st 3)] (G:=λ((c:ai),_)=>.nd (jd c) (.lf (TQ c (if c.method=2 then[dI bn c.digits] else[])))) (λ((c:ai),_)=>scB c)
  (λ⟨(c:ai),_⟩ r _ ⟨⟨h1,h2,h3,h4,h5,h6,h7,h8⟩,h⟩=>by
   obtain rfl:TQ c (if c.method=2 then[dI bn c.digits] else[])=r:=h;refine⟨⟨h1,h2,h3,?_⟩,.inl rfl⟩;by_cases hm:c.method=2
   ·rw[if_pos hm];exact aK (beq_iff_eq.2 hm) ⟨h4,by omega,h5,h6,h7,by omega,by omega,rfl⟩
   ·rw[if_neg hm];exact aQ (beq_eq_false_iff_ne.2 hm) ⟨h5,h6,h7,by omega,by omega,rfl⟩) Tryz.func126).wk
  λ⟨(c:ai),_⟩ r ⟨h0,h⟩=>⟨_,⟨h0,rfl⟩,h⟩
noncomputable def Cs3:dN Tryz.prog:=bH td [⟨_,_,_,o4⟩,⟨_,_,_,mW⟩,⟨_,_,_,lB⟩,⟨_,_,_,Ac⟩,⟨_,_,_,qR⟩,⟨_,_,_,tA⟩] []
noncomputable abbrev KJ:=Tryz.f78
noncomputable abbrev Gq:Rg Tryz.prog KJ.ntmps:=Kh (nc Cs3 KJ) [(9,[4])]
abbrev Yr:List CS:=[.d .str,.d tI,.d tI,.d tI,.d (.list .str),.d (.list (.st 3)),.d (.list (.st 4)),.d tI,.d tI,.d .bool,.d (.list .limb),.d (.list .limb),.d tI,.d .str]
abbrev Yq:List CS:=[.d .str,.own (.st 1) 67]
abbrev Yp:List CS:=[.d .str,.d (.list (.st 1))]
abbrev yY:=eX Yr
abbrev mF:=eX Yq
abbrev Bz:=eX Yp
abbrev Sg:SS:=.box 30 Yr
abbrev Sf:SS:=.box 53 Yq
abbrev Se:SS:=.box 53 Yp
abbrev OC:List (Nat×SS):=[(1,Sg),(2,Se),(3,Sf),(4,.c (.own .str 9))]
abbrev OD:List (Nat×SS):=[(1,Sg),(2,Se),(3,Sf),(4,.c (.own .str 9)),(39,sD (.list (.st 3))),(40,sI),(41,sI)]
abbrev OA:List (Nat×SS):=[(1,Sg),(2,Se),(3,Sf)]
abbrev OB:List (Nat×SS):=[(1,Sg),(2,Se),(3,Sf),(4,sL),(59,sD (.list (.st 4))),(60,sI),(61,sI)]
def yY.pr (e:yY):List ByteArray:=e.2.2.2.2.1
def mF.bs (s:mF):List ao:=s.2.1
def mF.put (s:mF) (b:ao):mF:=(s.1,b::s.bs,())
def ai.z0:ai:=⟨⟨#[]⟩,[],0,0,0,0,0,0,0⟩
def ax.z0:ax:=⟨⟨#[]⟩,[],[]⟩
def xi (e:yY) (v:Bz) (s:mF) (l:List ByteArray):LE OD OC []:=.out (e,v,s,l,())
def z0E (e:yY) (v:Bz) (s:mF) (l:List ByteArray) (cs:List ai) (n i:Int) (c:ai):T (LE OD OC []):=.nd (jd c) (.nd ((s.bs.length+1)*65<=140737488355328) (.nd ((l.length+1)*17<=140737488355328) (.nd (dD (i+1)) (.lf (.back (e,v,s.put (dy c),c.name::l,cs,n,i+1,()))))))
def Tu (e:yY) (v:Bz) (s:mF) (l:List ByteArray) (cs:List ai) (n i:Int):T (LE OD OC []):=.br (decide (i<n)) (.nd (0<=i/\i<cs.length) (z0E e v s l cs n i (cs.getD i.toNat ai.z0))) (.lf (xi e v s l))
def Yt (s:mF) (l:List ByteArray) (cs:List ai) (n i:Int):Prop:=0<=i/\i<=cs.length/\n=cs.length/\cs.length<=34359738368/\(∀c∈cs,jd c)/\(l.length:Int)=i/\s.bs.length<=3+i
theorem Gn:dS Gq 0 0 OD OC [] λ((e:yY),(v:Bz),(s:mF),(l:List ByteArray),(cs:List ai),(n:Int),(i:Int),_)=>.nd (Yt s l cs n i) (.lf (xi e v (s.1,((cs.drop i.toNat).map dy).reverse++s.bs,()) (((cs.drop i.toNat).map ai.name).reverse++l))):=by
 refine jX _ (nL _ _) 99 0 0 OD OC [] (λ((e:yY),(v:Bz),(s:mF),(l:List ByteArray),(cs:List ai),(n:Int),(i:Int),_)=>Tu e v s l cs n i)
  (λ(_,_,_,_,(cs:List ai),_,(i:Int),_)=>cs.length-i.toNat) ?_
 rintro⟨(e:yY),(v:Bz),(s:mF),(l:List ByteArray),(cs:List ai),(n:Int),(i:Int),_⟩ r _ ⟨⟨h0,h1,rfl,h2,h3,h4,h5⟩,hr⟩;have hr:xi e v (s.1,((cs.drop i.toNat).map dy).reverse++s.bs,()) (((cs.drop i.toNat).map ai.name).reverse++l)=r:=hr;obtain rfl:=hr;obtain⟨k,rfl⟩:∃k:Nat,i=k:=⟨i.toNat,by omega⟩;rw[Int.toNat_natCast];show∃q,(Tu e v s l cs cs.length k).hit q/\_;unfold Tu;by_cases hk:k<cs.length
 ·rw[getD_drop ai.z0 hk,Int.toNat_natCast];obtain⟨c,hc⟩:∃c,cs.getD k ai.z0=c:=⟨_,rfl⟩;have hcc:=h3 c (by rw[<-hc,List.getD_eq_getElem?_getD,List.getElem?_eq_getElem hk];exact List.getElem_mem hk);rw[hc];refine⟨_,aK (decide_eq_true (by omega)) ⟨⟨by omega,by omega⟩,hcc,by omega,by omega,⟨by omega,by omega⟩,rfl⟩,?_,⟨by omega,by omega,rfl,h2,h3,(show((l.length+1:Nat):Int)=(k:Int)+1 by omega),?_⟩,?_⟩
  ·show cs.length-(k+1)<cs.length-k;omega
  ·have:(s.put (dy c)).bs.length=s.bs.length+1:=rfl;omega
  ·show xi e v (s.1,((cs.drop (k+1)).map dy).reverse++(dy c::s.bs),()) (((cs.drop (k+1)).map ai.name).reverse++(c.name::l))=_;rw[List.map_cons,List.map_cons,List.reverse_cons,List.reverse_cons,List.append_assoc,List.append_assoc];rfl
 ·rw[List.drop_eq_nil_of_le (by omega)];exact⟨_,aQ (decide_eq_false (by omega)) rfl,rfl⟩
def xh (e:yY) (v:Bz) (s:mF):LE OB OA []:=.out (e,v,s,())
def z1E (e:yY) (v:Bz) (s:mF) (l:List ByteArray) (cs:List ax) (n i:Int) (y:ax):T (LE OB OA []):=.nd (y.prec.length<=1099511627776) (.nd (y.cont.length<=1099511627776) (.nd ((s.bs.length+1)*65<=140737488355328) (.nd (dD (i+1)) (.lf (.back (e,v,s.put (fv e.pr l y),l,cs,n,i+1,()))))))
def Tt (e:yY) (v:Bz) (s:mF) (l:List ByteArray) (cs:List ax) (n i:Int):T (LE OB OA []):=.br (decide (i<n)) (.nd (0<=i/\i<cs.length) (z1E e v s l cs n i (cs.getD i.toNat ax.z0))) (.lf (xh e v s))
def Ys (s:mF) (cs:List ax) (n i:Int):Prop:=0<=i/\i<=cs.length/\n=cs.length/\cs.length<=34359738367/\(∀y∈cs,y.prec.length<=274877906944/\y.cont.length<=274877906944)/\s.bs.length<=34359738371+i
theorem Gm:dS Gq 1 2 OB OA [] λ((e:yY),(v:Bz),(s:mF),(l:List ByteArray),(cs:List ax),(n:Int),(i:Int),_)=>.nd (Ys s cs n i) (.lf (xh e v (s.1,((cs.drop i.toNat).map (fv e.pr l)).reverse++s.bs,()))):=by
 refine jX _ (nL _ _) 99 1 2 OB OA [] (λ((e:yY),(v:Bz),(s:mF),(l:List ByteArray),(cs:List ax),(n:Int),(i:Int),_)=>Tt e v s l cs n i)
  (λ(_,_,_,_,(cs:List ax),_,(i:Int),_)=>cs.length-i.toNat) ?_
 rintro⟨(e:yY),(v:Bz),(s:mF),(l:List ByteArray),(cs:List ax),(n:Int),(i:Int),_⟩ r _ ⟨⟨h0,h1,rfl,h2,h3,h5⟩,hr⟩;have hr:xh e v (s.1,((cs.drop i.toNat).map (fv e.pr l)).reverse++s.bs,())=r:=hr;obtain rfl:=hr;obtain⟨k,rfl⟩:∃k:Nat,i=k:=⟨i.toNat,by omega⟩;rw[Int.toNat_natCast];show∃q,(Tt e v s l cs cs.length k).hit q/\_;unfold Tt;by_cases hk:k<cs.length
 ·rw[getD_drop ax.z0 hk,Int.toNat_natCast];obtain⟨y,hy⟩:∃y,cs.getD k ax.z0=y:=⟨_,rfl⟩;obtain⟨L0,LZ⟩:=h3 y (by rw[<-hy,List.getD_eq_getElem?_getD,List.getElem?_eq_getElem hk];exact List.getElem_mem hk);rw[hy];refine⟨_,aK (decide_eq_true (by omega)) ⟨⟨by omega,by omega⟩,by omega,by omega,by omega,⟨by omega,by omega⟩,rfl⟩,?_,⟨by omega,by omega,rfl,h2,h3,?_⟩,?_⟩
  ·show cs.length-(k+1)<cs.length-k;omega
  ·have:(s.put (fv e.pr l y)).bs.length=s.bs.length+1:=rfl;omega
  ·show xh e v (s.1,((cs.drop (k+1)).map (fv e.pr l)).reverse++(fv e.pr l y::s.bs),())=_;rw[List.map_cons,List.reverse_cons,List.append_assoc];rfl
 ·rw[List.drop_eq_nil_of_le (by omega)];exact⟨_,aQ (decide_eq_false (by omega)) rfl,rfl⟩
def Ox (e:ae):List ao:=[⟨ac,⟨#[]⟩,[⟨j3,e.prec,0⟩],0⟩,⟨eD,⟨#[]⟩,[dI lq e.scan,dI lv e.batch],0⟩,⟨fV,⟨#[]⟩,[dI pF e.dots,dI dJ e.blank,dI cJ e.marked],0⟩]
def zS0 (e:ae):mF:=(e.title,Ox e,())
def zL (e:ae):List ByteArray:=(((e.cont.drop (Int.toNat 0)).map ai.name).reverse++[]).reverse
def NJ (e:ae):mF:=(e.title,((e.cont.drop (Int.toNat 0)).map dy).reverse++Ox e,())
def Oz (e:ae):List ao:=((e.styl.drop (Int.toNat 0)).map (fv e.prec (zL e))).reverse++(NJ e).bs
def zF (e:ae):List ao:=⟨fC,⟨#[]⟩,[dI pG e.cell],0⟩::⟨j4,⟨#[]⟩,[⟨lN,[⟨(gj e.risk.q).toArray⟩],0⟩,⟨lM,[e.seed],0⟩],0⟩::Oz e
def zX (e:ae) (l:List ao):XV:=.agg [.sym (.string e.title),.list (.st 1) l true]
def zT (e:ae):T XV:=.nd (dD e.dots) (.nd (dD e.blank) (.nd (dD e.marked) (.nd (dD e.scan) (.nd (dD e.batch) (.nd (e.prec.length<=1099511627776) (.nd (Yt (zS0 e) [] e.cont e.cont.length 0) (.nd (Ys (NJ e) e.styl e.styl.length 0)
 (.nd (e.risk.short 67108864) (.nd (dD e.cell) (.nd (((Oz e).length+2)*65<=140737488355328) (.lf (zX e (zF e).reverse))))))))))))
theorem Oy (e:ae):(zF e).reverse=(cR e).blocks:=by
 unfold zF Oz NJ zL Ox cR mF.bs;simp
theorem tg:aj Tryz.prog 78 true (az [(0,.st 5)] λ((e:ae),_)=>.nd (jc e) (.lf (.agg (kS (.st 2) (cR e))))):=
 (q9 (R:=Gq) (((nL Gq KJ).add 0 _ Gn).add 1 _ Gm) true 99 [(0,.st 5)] (G:=λ((e:ae),_)=>.nd (jc e) (.lf (zX e (cR e).blocks))) (λ((e:ae),_)=>zT e) (λ⟨(e:ae),_⟩ r hb ⟨h0,h⟩=>by
  obtain rfl:zX e (cR e).blocks=r:=h;have e0:(Oz e).length=e.styl.length+(e.cont.length+3):=by
   unfold Oz NJ mF.bs Ox;simp
  have e1:(NJ e).bs.length=e.cont.length+3:=by
   unfold NJ mF.bs Ox;simp
  have l1:=h0.lc;have l2:=h0.ls;have l3:=h0.lp;refine⟨⟨h0.dots,h0.blank,h0.marked,h0.scan,h0.batch,by omega,⟨by omega,Int.natCast_nonneg _,rfl,l1,h0.conts,rfl,by show(3:Int)<=3+0;omega⟩,⟨by omega,Int.natCast_nonneg _,rfl,l2,h0.styls,by rw[e1];omega⟩,h0.short,h0.cell,by rw[e0];omega,?_⟩,.inl rfl⟩;rw[Oy];rfl) Tryz.func78).wk
  λ⟨(e:ae),_⟩ r ⟨h0,h⟩=>⟨_,⟨h0,rfl⟩,h⟩
theorem wF:aj Tryz.prog 82 false (az [(0,sL),(1,sL)] λ((xs:List ByteArray),(ys:List ByteArray),_)=>.lf (aB (decide (xs=ys)))):=Rl (t:=.str) (g:=λ(xs ys:List ByteArray)=>decide (xs=ys)) λ_ _ _ _ _ _ _ xs ys _ h1 h2=>qe (xs:=xs) (ys:=ys) h1 h2
theorem wG:aj Tryz.prog 83 false (IT (t:=.st 3) 84 λ(xs ys:List ai)=>ib bm xs ys):=Kp (t:=.st 3) (q:=λ(xs ys:List ai)=>ib bm xs ys) λ_ _ _ _ _ _ _ xs ys _ h1 h2 hS=>sk (xs:=xs) (ys:=ys) h1 h2 hS hS
theorem AQ:aj Tryz.prog 85 false (IT (t:=.st 4) 86 λ(xs ys:List ax)=>ib bY xs ys):=Kp (t:=.st 4) (q:=λ(xs ys:List ax)=>ib bY xs ys) λ_ _ _ _ _ _ _ xs ys _ h1 h2 hS=>wE (xs:=xs) (ys:=ys) h1 h2 hS hS
noncomputable def Cs4:dN Tryz.prog:=bH Gd [⟨_,_,_,wF⟩,⟨_,_,_,wG⟩,⟨_,_,_,AQ⟩,⟨_,_,_,yQ⟩] []
def MW (a b:ae):List Bool:=[a.title.toList==b.title.toList,a.dots==b.dots,a.blank==b.blank,a.marked==b.marked,decide (a.prec=b.prec),ib bm a.cont b.cont,ib bY a.styl b.styl,a.scan==b.scan,a.batch==b.batch]
def WF (a b:ae):T XV:=Bg (.lf (aB false)) (MW a b) (.nd (a.risk.short 67108864/\b.risk.short 67108864) (Bg (.lf (aB false)) [sw a.risk.q b.risk.flip.q==0,a.cell==b.cell] (.lf (aB (a.seed.toList==b.seed.toList)))))
theorem wD (a b:ae):iV a b=((MW a b).all id&&([sw a.risk.q b.risk.flip.q==0,a.cell==b.cell].all id&&(a.seed.toList==b.seed.toList))):=by
 rw[Bool.eq_iff_iff];simp only[iV,MW,List.all_cons,List.all_nil,id,dX,Bool.and_eq_true,decide_eq_true_eq,beq_iff_eq,and_assoc,true_and]
theorem AP:aj Tryz.prog 37 false (az [(0,.st 5),(1,.st 5)] λ((a:ae),(b:ae),_)=>.nd (a.risk.short 67108864/\b.risk.short 67108864) (.lf (aB (iV a b)))):=
 aJ (C:=Cs4) (nL _ _) false 99 [(0,.st 5),(1,.st 5)] (λ((a:ae),(b:ae),_)=>WF a b)
  (λ⟨(a:ae),(b:ae),_⟩ r _ ⟨h0,h⟩=>by
   obtain rfl:aB (iV a b)=r:=h;refine⟨?_,.inr rfl⟩;rw[wD];refine kN (ret:=.lf (aB false)) (r:=aB) rfl _ λ_=>⟨h0,?_⟩;exact kN (ret:=.lf (aB false)) (t:=.lf (aB (a.seed.toList==b.seed.toList))) (r:=aB) rfl _ λ_=>rfl) Tryz.func37
abbrev Z4:List CS:=[.mp .s tI,.mp .s (.list .str),.mp .s tI,.d .bool,.d (.list .limb),.d (.list .limb),.d .str]
abbrev sV:SS:=.box 163 Z4
abbrev pV:List Nat:=[0]
abbrev VX:=eX Z4
abbrev lW (r:XV) (x:VX):XV×VX×Unit:=(r,x,())
noncomputable def Ci (t:TypeId):Option Ty:=List.lookup t [(9,.str),(3,tI),(4,.bool),(22,.list .str)]
noncomputable def CV1:dN Tryz.prog:=bH Ci [⟨_,_,_,yb⟩,⟨_,_,_,yO⟩,⟨_,_,_,EB⟩,⟨_,_,_,yQ⟩] []
def VX.setR (x:VX) (r:Raw):VX:=(x.1,x.2.1,x.2.2.1,r.neg,r.num,r.den,x.2.2.2.2.2.2)
def VX.wr (x:VX):Option Raw->VX
 | none=>x
 | some r=>x.setR r
def szB (s:ByteArray):Prop:=s.size<=9223372036854775807
def Gb (l:List UInt8):ByteArray:=⟨l.toArray⟩
def T3 (x:VX) (s:ByteArray):T (XV×VX×Unit):=
 .nd (szB s/\(⟨#[47]⟩:ByteArray)=⟨#[47]⟩) (.nd (szB (Gb (cV s.data.toList))) (.nd (szB (Gb (cU s.data.toList)))
 (.br (!(bq (cV s.data.toList)).2) (.lf (lW (aI 5) x)) (.br (!(bq (cU s.data.toList)).2) (.lf (lW (aI 5) x)) (.nd (dD (bq (cV s.data.toList)).1/\dD (bq (cU s.data.toList)).1)
 (.br ((bq (cU s.data.toList)).1==0) (.lf (lW (aI 4) x)) (.nd (dD 1/\dD 1000) (.nd ((dG (bq (cV s.data.toList)).1 (bq (cU s.data.toList)).1).raw.short 67108864/\(dG 1 1000).raw.short 67108864)
 (.br (decide (AY (dG (bq (cV s.data.toList)).1 (bq (cU s.data.toList)).1) (dG 1 1000)<0)) (.lf (lW (aI 4) x)) (.nd (dD 1/\dD 2) (.nd ((dG (bq (cV s.data.toList)).1 (bq (cU s.data.toList)).1).raw.short 67108864/\(dG 1 2).raw.short 67108864)
 (.br (decide (AY (dG (bq (cV s.data.toList)).1 (bq (cU s.data.toList)).1) (dG 1 2)>0)) (.lf (lW (aI 4) x)) (.lf (lW (aI 0) (x.setR (dG (bq (cV s.data.toList)).1 (bq (cU s.data.toList)).1).raw)))))))))))))))
theorem M9 (l:List UInt8):(cV l).length<=l.length/\(cU l).length<=l.length:=by
 unfold cV cU;have h:=congrArg List.length (List.takeWhile_append_dropWhile (p:=(· !=47)) (l:=l));rw[List.length_append] at h;rw[List.length_drop];omega
theorem gY {a b:Int} (ha:dD a) (hb:dD b):(dG a b).raw.short 67108864:=by
 unfold dD at ha hb;obtain⟨h1,h2⟩:=px (decide (a<0) !=decide (b<0)) a.natAbs b.natAbs (by omega) (by omega);exact⟨Nat.le_trans h1 (by decide),Nat.le_trans h2 (by decide)⟩
theorem Ce {s:ByteArray} {l:List UInt8} (h:szB s) (hl:l.length<=s.data.toList.length):szB (Gb l):=by
 unfold szB Gb at*;have:s.size=s.data.toList.length:=Array.length_toList.symm;show l.toArray.size<=_;rw[List.size_toArray];omega
theorem ya (l:List UInt8):dD (bq l).1:=by have:=jU l;unfold dD;omega
theorem CJ:eB Tryz.prog 191 pV [(0,sV),(1,sS)] [(0,sV)] λ((x:VX),(s:ByteArray),_)=>.nd (szB s) (.lf (lW (aI (fP s.data.toList).1) (x.wr (fP s.data.toList).2))):=
 kI (C:=CV1) (nL _ _) 99 [(0,sV),(1,sS)] [(0,sV)] (λ((x:VX),(s:ByteArray),_)=>T3 x s) (λ⟨(x:VX),(s:ByteArray),_⟩ r _ ⟨hs,h⟩=>by
  obtain rfl:lW (aI (fP s.data.toList).1) (x.wr (fP s.data.toList).2)=r:=h;have hc:=M9 s.data.toList;have i1:=ya (cV s.data.toList);have i2:=ya (cU s.data.toList);have one:dD 1/\dD 1000:=by unfold dD;omega
  have two:dD 1/\dD 2:=by unfold dD;omega
  refine⟨⟨hs,rfl⟩,Ce hs hc.1,Ce hs hc.2,?_⟩;unfold fP;by_cases h1:(bq (cV s.data.toList)).2=false
  ·exact aK (by rw[h1];rfl) (by rw[h1];rfl)
  by_cases h2:(bq (cU s.data.toList)).2=false
  ·exact aQ (by simpa using h1) (aK (by rw[h2];rfl) (by rw[h2,Bool.and_false];rfl))
  rw[if_neg (by simp[h1,h2])];refine aQ (by simpa using h1) (aQ (by simpa using h2) ⟨⟨i1,i2⟩,?_⟩);by_cases h3:(bq (cU s.data.toList)).1=0
  ·rw[if_pos (.inl h3)];exact aK (by rw[h3];rfl) rfl
  refine aQ (beq_false_of_ne h3) ⟨one,⟨gY i1 i2,gY one.1 one.2⟩,?_⟩;by_cases h4:AY (dG (bq (cV s.data.toList)).1 (bq (cU s.data.toList)).1) (dG 1 1000)<0
  ·rw[if_pos (.inr (.inl h4))];exact aK (decide_eq_true h4) rfl
  refine aQ (decide_eq_false h4) ⟨two,⟨gY i1 i2,gY two.1 two.2⟩,?_⟩;by_cases h5:0<AY (dG (bq (cV s.data.toList)).1 (bq (cU s.data.toList)).1) (dG 1 2)
  ·rw[if_pos (.inr (.inr h5))];exact aK (decide_eq_true h5) rfl
  ·rw[if_neg (λq=>q.elim h3 λq=>q.elim h4 h5)];exact aQ (decide_eq_false h5) rfl) Tryz.func191
def VX.setN (x:VX) (k:ByteArray) (v:Int):VX:=((x.1.1+1,gU .s x.1.2 k v),x.2)
def VX.num (x:VX) (k:ByteArray):Int:=(x.1.2 k).getD (0:Int)
def VX.setS (x:VX) (s:ByteArray):VX:=(x.1,x.2.1,x.2.2.1,x.2.2.2.1,x.2.2.2.2.1,x.2.2.2.2.2.1,s,())
def VX.v (x:VX):am:=⟨x.1.2,x.2.1.2,x.2.2.1.2,⟨x.2.2.2.1,x.2.2.2.2.1,x.2.2.2.2.2.1⟩,x.2.2.2.2.2.2.1⟩
def yu (k:ByteArray) (x:VX):Prop:=Kt.ok .s k/\x.1.1<1000000000000
def Uj (x:VX) (k s:ByteArray):T (XV×VX×Unit):=
 .br (!((aH k).isEmpty)) (.nd (dD (Lib.idxOfS (aH k) s+1)) (.nd (yu k x) (.nd (Kt.ok .s k) (.br ((x.setN k (Lib.idxOfS (aH k) s+1)).num k==0) (.lf (lW (aI 2) (x.setN k (Lib.idxOfS (aH k) s+1)))) (.lf (lW (aI 0) (x.setN k (Lib.idxOfS (aH k) s+1))))))))
 (.br (k.toList==lN.toList) (.nd (szB s) (.lf (lW (aI (fP s.data.toList).1) (x.wr (fP s.data.toList).2))))
 (.br (k.toList==lM.toList) (.nd (bP s) (.br (!(de s 0 24)) (.lf (lW (aI 8) x)) (.lf (lW (aI 0) (x.setS s)))))
 (.nd (szB s) (.br (!(bq s.data.toList).2) (.lf (lW (aI 5) x)) (.br (decide ((bq s.data.toList).1<(cA k).1)) (.lf (lW (aI 4) x)) (.br (decide ((bq s.data.toList).1>(cA k).2)) (.lf (lW (aI 4) x)) (.nd (yu k x) (.lf (lW (aI 0) (x.setN k (bq s.data.toList).1))))))))))
noncomputable def CV2:dN Tryz.prog:=bH Ci [⟨_,_,_,yb⟩,⟨_,_,_,uB⟩,⟨_,_,_,yA⟩,⟨_,_,_,kZ⟩,⟨_,_,_,Jd⟩] [⟨_,_,_,_,_,CJ⟩]
def iJ (k s:ByteArray) (x:VX):Int×VX:=
 if aH k≠[] then(if Lib.idxOfS (aH k) s+1=0 then 2 else 0,x.setN k (Lib.idxOfS (aH k) s+1))
 else if k=lN then((fP s.data.toList).1,x.wr (fP s.data.toList).2)
 else if k=lM then(if de s 0 24 then(0,x.setS s) else(8,x))
 else if(bq s.data.toList).2=false then(5,x)
 else if(bq s.data.toList).1<(cA k).1\/(cA k).2<(bq s.data.toList).1 then(4,x)
 else(0,x.setN k (bq s.data.toList).1)
theorem zZ {α:Type} (f:ByteArray->Option α) (k:ByteArray) (v:α):gU .s f k v=eL f k v:=by
 funext t
 by_cases h:t=k
 ·exact(if_pos (Kt.eqb_iff.2 h)).trans (if_pos h).symm
 ·exact(if_neg λe=>h (Kt.eqb_iff.1 e)).trans (if_neg h).symm
theorem VX.v_setN (x:VX) (k:ByteArray) (v:Int):(x.setN k v).v={ x.v with num:=eL x.v.num k v }:=
 congrArg (λf:ByteArray->Option Int=>(⟨f,x.2.1.2,x.2.2.1.2,⟨x.2.2.2.1,x.2.2.2.2.1,x.2.2.2.2.2.1⟩,x.2.2.2.2.2.2.1⟩:am)) (zZ x.1.2 k v)
theorem VX.num_setN (x:VX) (k:ByteArray) (v:Int):(x.setN k v).num k=v:=congrArg (·.getD (0:Int)) (dC (kt:=.s))
theorem VX.v_wr (x:VX) (r:Option Raw):(x.wr r).v=x.v.withRisk r:=by cases r<;>rfl
theorem Lk (k s:ByteArray) (x:VX):oQ k s x.v=((iJ k s x).1,(iJ k s x).2.v):=by
 unfold oQ iJ;split
 ·rw[VX.v_setN]
 split
 ·rw[VX.v_wr]
 split
 ·split<;>rfl
 split
 ·rfl
 split
 ·rfl
 ·rw[VX.v_setN]
theorem bP.szB {s:ByteArray} (h:bP s):szB s:=Nat.le_trans h (by decide)
theorem Da (k s:ByteArray) (x:VX):(iJ k s x).2.1.1<=x.1.1+1/\(iJ k s x).2.2.1=x.2.1/\(iJ k s x).2.2.2.1=x.2.2.1:=by
 have hw:∀r:Option Raw,(x.wr r).1.1<=x.1.1+1/\(x.wr r).2.1=x.2.1/\(x.wr r).2.2.1=x.2.2.1:=λr=>by cases r<;>exact⟨Nat.le_succ _,rfl,rfl⟩
 have h0:x.1.1<=x.1.1+1/\x.2.1=x.2.1/\x.2.2.1=x.2.2.1:=⟨Nat.le_succ _,rfl,rfl⟩;unfold iJ;split
 ·exact⟨Nat.le_refl _,rfl,rfl⟩
 split
 ·exact hw _
 split
 ·split<;>exact h0
 split
 ·exact h0
 split
 ·exact h0
 ·exact⟨Nat.le_refl _,rfl,rfl⟩
theorem GX:eB Tryz.prog 164 pV [(0,sV),(1,sS),(2,sS)] [(0,sV)] λ((x:VX),(k:ByteArray),(s:ByteArray),_)=>.nd (yu k x/\bP s) (.lf (lW (aI (iJ k s x).1) (iJ k s x).2)):=
 kI (C:=CV2) (nL _ _) 99 [(0,sV),(1,sS),(2,sS)] [(0,sV)] (λ((x:VX),(k:ByteArray),(s:ByteArray),_)=>Uj x k s) (λ⟨(x:VX),(k:ByteArray),(s:ByteArray),_⟩ r _ ⟨⟨hk,hs⟩,h⟩=>by
  obtain rfl:lW (aI (iJ k s x).1) (iJ k s x).2=r:=h;unfold iJ;by_cases h1:aH k=[]
  ·rw[if_neg (by simp[h1])];refine aQ (by rw[h1];rfl) ?_;by_cases h2:k=lN
   ·rw[if_pos h2];exact aK (by rw[h2];simp) ⟨hs.szB,rfl⟩
   refine aQ (by rw[dX];exact decide_eq_false h2) ?_;rw[if_neg h2];by_cases h3:k=lM
   ·rw[if_pos h3];refine aK (by rw[h3];simp) ⟨hs,?_⟩;cases h4:de s 0 24
    ·exact aK rfl rfl
    ·exact aQ rfl rfl
   refine aQ (by rw[dX];exact decide_eq_false h3) ⟨hs.szB,?_⟩;rw[if_neg h3];by_cases h4:(bq s.data.toList).2=false
   ·rw[if_pos h4];exact aK (by rw[h4];rfl) rfl
   refine aQ (by simpa using h4) ?_;rw[if_neg h4];by_cases h5:(bq s.data.toList).1<(cA k).1
   ·rw[if_pos (.inl h5)];exact aK (decide_eq_true h5) rfl
   refine aQ (decide_eq_false h5) ?_;by_cases h6:(cA k).2<(bq s.data.toList).1
   ·rw[if_pos (.inr h6)];exact aK (decide_eq_true h6) rfl
   ·rw[if_neg (λq=>q.elim h5 h6)];exact aQ (decide_eq_false h6) ⟨hk,rfl⟩
  ·rw[if_pos h1];refine aK (by simpa using h1) ⟨by have:=tY k s;unfold dD;omega,hk,hk.1,?_⟩;rw[VX.num_setN];by_cases h2:Lib.idxOfS (aH k) s+1=0
   ·rw[if_pos h2];exact aK (by rw[h2];rfl) rfl
   ·rw[if_neg h2];exact aQ (beq_false_of_ne h2) rfl) Tryz.func164
end Go.Proofs.YtichkplomldgiaaGreatDoor
