/- Tm15 Tm9 Tm16 Tm10 Tm11 Tm17 Law1 -/
import Derived.Test.YtjlhbfbdcfajfaaGreatDoorV00
import Derived.Test.YtjlhbfbdcfajfaaGreatDoorV34
import Derived.Test.YtjlhbfbdcfajfaaGreatDoorV33
import Derived.Test.YtjlhbfbdcfajfaaGreatDoorV12
import Derived.Test.YtjlhbfbdcfajfaaGreatDoorV16
set_option maxHeartbeats 8000000
set_option maxRecDepth 100000
namespace Go.Proofs.YtjlhbfbdcfajfaaGreatDoor
open Go Go.RowKit
def YT (t:eO):Prop:=t.e.prec.length≤1099511627776∧∀p∈t.names,p.1.length≤1099511627776∧p.2.length≤1099511627776
def shL (y:cX):Prop:=y.e.prec.length≤1099511627776∧y.n0.length≤1099511627776∧y.n1.length≤1099511627776
theorem J9 (k:ByteArray) (e:aa) (f:ao) (h:e.prec.length≤1099511627776) (hf:f.vals.length≤1099511627776):(df k e f).1.prec.length≤1099511627776:=by
 unfold df;repeat (split;· first|exact h|exact hf)
 exact h
theorem LR (k:ByteArray) (y:cX) (f:ao) (h:shL y) (hf:f.vals.length≤1099511627776):shL (aV k y f):=by
 unfold aV;simp only;generalize (y.f.note (if bF (aJ k) f.key=true then 0 else 2) f.line).note (if bF y.known f.key=true then 3 else 0) f.line=f2;obtain⟨h1,h2,h3⟩:=h;split
 ·exact⟨h1,h2,h3⟩
 split
 ·exact⟨h1,h2,h3⟩
 split
 ·exact⟨h1,hf,h3⟩
 split
 ·exact⟨h1,h2,hf⟩
 ·exact⟨J9 k y.e f h1 hf,h2,h3⟩
theorem xQ (k:ByteArray):∀(l:List ao) (y:cX),shL y→(∀f∈l,f.vals.length≤1099511627776)→shL (dJ k l y)
 | [],_,h,_=>h
 | f::l,y,h,hf=>by
  unfold dJ;split
  ·exact h
  ·exact xQ k l _ (LR k y f h (hf f aaS)) fun g hg=>hf g (aa9 _ hg)
theorem KE (t:eO) (b:av) (h:YT t) (hb:Zq b):YT (fZ t b):=by
 obtain⟨g1,g2,g3⟩:=xQ b.kind b.fields (cX.start t b) ⟨h.1,abS _,abS _⟩ fun f hf=>(hb.2.2 f hf).1.2;unfold fZ;generalize dJ b.kind b.fields (cX.start t b)=y at*;unfold ta;simp only;split
 ·exact⟨g1,h.2⟩
 split
 ·exact⟨g1,h.2⟩
 split
 ·refine⟨g1,fun p hp=>?_⟩;rcases acb.1 hp with hp|hp
  ·exact h.2 p hp
  ·obtain rfl:p=(y.n0,y.n1):=by simpa using hp
   exact⟨g2,g3⟩
 split
 ·exact⟨g1,h.2⟩
 ·exact⟨g1,h.2⟩
theorem lx:∀(l:List av) (t:eO),(∀b∈l,Zq b)→YT t→gO t→oV t→kJ t l.length→YT (cY l t)∧gO (cY l t)∧oV (cY l t)∧kJ (cY l t) 0
 | [],t,_,h1,h2,h3,h4=>⟨h1,h2,h3,h4⟩
 | b::l,t,hb,h1,h2,h3,h4=>by
  unfold cY;split
  ·obtain⟨q1,q2,q3,q4,q5⟩:=h4;exact⟨h1,h2,h3,by unfold kJ;omega⟩
  ·obtain⟨_,g2,g3⟩:=j3 t b;exact lx l _ (fun c hc=>hb c (aa9 _ hc)) (KE t b h1 (hb b aaS)) (g2 h2) (g3 h3) h4.next
theorem yh (prec:List ByteArray) (line:Int):∀(l:List ByteArray) (u:List Bool) (a:List Int),eI prec line l u a=if(ci prec line l u a).2.no=0 then .ok (ci prec line l u a).1 else .error (ci prec line l u a).2
 | [],u,a=>by rw[eI,ci,if_pos rfl]
 | s::l,u,a=>by
  unfold eI ci;split
  ·rw[if_neg (by show¬(2:Int)=0;decide)]
  ·split
   ·rw[if_neg (by show¬(3:Int)=0;decide)]
   ·exact yh prec line l _ _
theorem yi (cn:List ByteArray) (line:Int):∀(l:List ByteArray) (a:List Int),pH cn line l a=if(em cn line l a).2.no=0 then .ok (em cn line l a).1 else .error (em cn line l a).2
 | [],a=>by rw[pH,em,if_pos rfl]
 | s::l,a=>by
  unfold pH em;split
  ·rw[if_neg (by show¬(2:Int)=0;decide)]
  ·exact yi cn line l _
def tm (g:(List aw×List ByteArray×List Bool)×eB):Except eB (List aw):=if g.2.no=0 then(if g.1.2.2.contains false then .error ⟨6,0⟩ else .ok g.1.1) else .error g.2
theorem z7 (prec cn:List ByteArray):∀(vs:List (List ByteArray×List ByteArray)) (ls:List (Int×Int)) (ss done:List aw) (u:List Bool),vs.length=ss.length→ls.length=ss.length→jr prec cn vs ls ss u done=tm (pG prec cn vs ls done (gU ss) u)
 | [],ls,ss,done,u,_,_=>by
  have e:jr prec cn [] ls ss u done=if u.contains false then .error ⟨6,0⟩ else .ok done:=by unfold jr;rfl
  rw[e];rfl
 | v::vs,[],ss,_,_,h1,h2=>by simp at h1 h2;omega
 | v::vs,ln::ls,[],_,_,h1,_=>by simp at h1
 | v::vs,ln::ls,s::ss,done,u,h1,h2=>by
  have ih:=fun d u=>z7 prec cn vs ls ss d u (by simpa using h1) (by simpa using h2);unfold jr;rw[yh];unfold pG;show _=tm (if(ci prec ln.1 v.1 u []).2.no=0 then if(em cn ln.2 v.2 []).2.no=0 then pG prec cn vs ls (done++[⟨s.name,(ci prec ln.1 v.1 u []).1.2,(em cn ln.2 v.2 []).1⟩]) (gU ss) (ci prec ln.1 v.1 u []).1.1 else((done++[⟨s.name,(ci prec ln.1 v.1 u []).1.2,(em cn ln.2 v.2 []).1⟩],gU ss,(ci prec ln.1 v.1 u []).1.1),(em cn ln.2 v.2 []).2) else((done++[⟨s.name,(ci prec ln.1 v.1 u []).1.2,[]⟩],gU ss,(ci prec ln.1 v.1 u []).1.1),(ci prec ln.1 v.1 u []).2));by_cases e1:(ci prec ln.1 v.1 u []).2.no=0
  ·rw[if_pos e1,if_pos e1];simp only;rw[yi];by_cases e2:(em cn ln.2 v.2 []).2.no=0
   ·rw[if_pos e2,if_pos e2];exact ih _ _
   ·rw[if_neg e2,if_neg e2];unfold tm;rw[if_neg (by exact e2)]
  ·rw[if_neg e1,if_neg e1];unfold tm;rw[if_neg (by exact e1)]
theorem Cg (prec cn:List ByteArray):∀(vs:List (List ByteArray×List ByteArray)) (ls:List (Int×Int)) (done:List aw) (rest:List ByteArray) (u:List Bool),(pG prec cn vs ls done rest u).2.no=0→(pG prec cn vs ls done rest u).1.1.length=done.length+vs.length
 | [],_,_,_,_,_=>rfl
 | v::vs,ls,done,rest,u,h=>by
  unfold pG at h ⊢;by_cases e1:(ci prec (ls.getD 0 (0,0)).1 v.1 u []).2.no=0
  ·rw[if_pos e1] at h ⊢;by_cases e2:(em cn (ls.getD 0 (0,0)).2 v.2 []).2.no=0
   ·rw[if_pos e2] at h ⊢;rw[Cg prec cn vs _ _ _ _ h,aa8,ab2,abs];omega
   ·rw[if_neg e2] at h;exact absurd h e2
  ·rw[if_neg e1] at h;exact absurd h e1
def FE (e:aa):XV:=.tup [(true,lR (.st 5) e),(true,[.sym (.int .i64 0),.sym (.int .i64 0)])]
def OY (r:aa×eB):T XV:=.br (decide (r.2.no=0)) (.lf (FE r.1)) (.lf (Ii (r.2.no,r.2.line)))
def EA (s:cJ):Prop:=s.title.size≤9223372036854775807∧s.blocks.length≤1099511627776∧∀b∈s.blocks,Zq b
theorem Vu (T:eO) (d:List aw):Lm (cpO ((bg.ofR T).zb.withZ d []))=FE { T.e with styl:=d }:=by
 show XV.tup [(true,[AV.sym (.string T.e.title),_,_,_,.list .str T.e.prec false,.list (.st 3) T.e.cont.reverse.reverse false,.list (.st 4) d.reverse.reverse false,_,_,_,_,_,_,_]),_]=_;rw[aal,aal];rfl
theorem Ku (x:ii) (d:List aw) (r r':List ByteArray) (p:Int×Int):cpO ((x.withZ d r).setF p)=cpO (x.withZ d r'):=rfl
theorem Tr {T:eO} (hf:T.f.no=0) (hl:oV T):∃q,(cpN (lkS (.ofR T))).hit q∧Lm q=(match kR T with|.ok l=>FE { T.e with styl:=l }|.error e=>Ii (e.no,e.line)):=by
 have hgo:(bg.ofR T).go=pG T.e.prec (T.e.cont.map fun c:ah=>c.name) T.names T.lines [] (gU T.e.styl) (List.replicate T.e.prec.length false):=by
  show pG T.e.prec (((T.e.cont.reverse.reverse.drop 0).map fun c:ah=>c.name).reverse++[]).reverse (T.names.reverse.reverse.drop 0) (T.lines.reverse.reverse.drop 0) [] (gU T.e.styl).reverse.reverse (List.replicate T.e.prec.length false).reverse=_;simp only[aal,acC,ado,List.reverse_replicate]
 have hR:kR T=tm (bg.ofR T).go:=by
  rw[hgo];exact z7 _ _ _ _ _ _ _ hl.1 hl.2
 have bM:(bg.ofR T).go.2.no=0→(bg.ofR T).go.1.1.length=T.names.length:=fun h=>by
  rw[hgo] at h ⊢;rw[Cg _ _ _ _ _ _ _ h];simp
 have agr:(bg.ofR T).zb.z.1=T.names.length:=by
  show(gU T.e.styl).reverse.length=_;rw[aaH];unfold gU;rw[acn];exact hl.1.symm
 have Fo:∀(d:List aw) (r:List ByteArray),((bg.ofR T).zb.withZ d r).f.1=0:=fun d r=>hf;rw[hR,Wu];unfold yj tm;generalize (bg.ofR T).go=g at*;obtain⟨⟨d,r,u⟩,e⟩:=g;simp only at bM ⊢;unfold cpN;by_cases he:e.no=0
 ·rw[if_pos he,if_pos he];by_cases hu:u.contains false=true
  ·rw[if_pos hu,if_pos hu];refine⟨_,bf ?_ rfl,?_⟩
   ·show(!((nt _ 6 0).1==0))=true;rw[JA 0 (Fo d r) (by decide)];rfl
   ·show Lm (Ii (nt _ 6 0))=_;rw[JA 0 (Fo d r) (by decide)];rfl
  ·rw[if_neg hu,if_neg hu];refine⟨_,bw ?_ ⟨?_,rfl⟩,?_⟩
   ·show(!((nt _ 0 0).1==0))=false;rw[MD,Fo d r];rfl
   ·show(bg.ofR T).zb.z.1=d.length;rw[agr,bM he]
   ·exact(congrArg Lm (Ku (bg.ofR T).zb d r [] _)).trans (Vu T d)
 ·rw[if_neg he,if_neg he];refine⟨_,bf ?_ rfl,?_⟩
  ·show(!((nt _ e.no e.line).1==0))=true;rw[JA _ (Fo d r) he];simpa using he
  ·show Lm (Ii (nt _ e.no e.line))=_;rw[JA _ (Fo d r) he];rfl
theorem Ts {T:eO} (hp:gO T) (hl:oV T) (hs:YT T) (hr:kJ T 0):∃q,(cpM (.ofR T)).hit q∧Lm q=(if T.f.no≠0 then Ii (T.f.no,T.f.line) else match kR T with|.ok l=>FE { T.e with styl:=l }|.error e=>Ii (e.no,e.line)):=by
 have hR:(bg.ofR T).r=T:=xX hp;unfold cpM;by_cases hf:T.f.no=0
 ·rw[if_neg (by simpa using hf)];obtain⟨q,h1,h2⟩:=Tr hf hl;refine⟨q,bf (beq_iff_eq.2 hf) ⟨?_,h1⟩,h2⟩;obtain⟨q1,q2,q3,q4,q5⟩:=hr;have e1:(bg.ofR T).cont=T.e.cont:=congrArg (fun t:eO=>t.e.cont) hR;have e2:(bg.ofR T).lines=T.lines:=congrArg (fun t:eO=>t.lines) hR;have e3:(bg.ofR T).names=T.names:=congrArg (fun t:eO=>t.names) hR;have e4:(bg.ofR T).snm.length=T.e.styl.length:=by
   show(gU T.e.styl).reverse.reverse.length=_;rw[aal];unfold gU;rw[acn]
  unfold G0;rw[e1,e2,e3,e4];exact⟨by omega,hs.1,by rw[hl.1,hl.2],hl.1.symm,by omega,hs.2⟩
 ·rw[if_pos hf];exact⟨_,bw (beq_eq_false_iff_ne.2 hf) (bf (by show(!(T.f.no==0))=true;simpa using hf) rfl),rfl⟩
theorem Dj (s:cJ):gB s=if(cF s).f.no≠0 then(aa.zero,(cF s).f) else match kR (cF s) with|.error e=>(aa.zero,e)|.ok l=>({ (cF s).e with styl:=l },⟨0,0⟩):=rfl
theorem JL {T:eO} {e:eB} (hl:oV T) (h:kR T=.error e):e.no≠0:=by
 have hR:kR T=tm (pG T.e.prec (T.e.cont.map fun c:ah=>c.name) T.names T.lines [] (gU T.e.styl) (List.replicate T.e.prec.length false)):=z7 _ _ _ _ _ _ _ hl.1 hl.2;rw[hR] at h;unfold tm at h;split at h
 ·split at h
  ·injection h with h;rw[←h];decide
  ·cases h
 ·rename_i hn;injection h with h;rw[←h];exact hn
theorem Dk:ax Tryz.prog 31 true (aX [(0,.st 2)] fun((s:cJ),_)=>.nd (EA s) (OY (gB s))):=by
 refine ax.imp (l0:=[(0,.st 2)]) (F:=fun((s:cJ),_)=>cpB s) (ut (R:=Yc) (((nL _ _).add 0 _ Di).add 1 _ Dh) true 99 [(0,.st 2)] (fun((s:cJ),_)=>cpB s) (fun x r _ h=>⟨h,.inl rfl⟩) Tryz.func31) ?_;rintro⟨(s:cJ),_⟩ r ⟨⟨h1,h2,h3⟩,hr⟩;have hr:(OY (gB s)).hit r:=hr;have eM:∀no,no=(if 60<s.title.size∨fE s.title.data.toList=false then(8:Int) else 0)→∃q,(cpL s.blocks ((cp0 s.title).note no 0)).hit q∧Lm q=(if(cF s).f.no≠0 then Ii ((cF s).f.no,(cF s).f.line) else match kR (cF s) with|.ok l=>FE { (cF s).e with styl:=l }|.error e=>Ii (e.no,e.line)):=by
  rintro no rfl;have h0:(cp0 s.title).note (if 60<s.title.size∨fE s.title.data.toList=false then(8:Int) else 0) 0=.ofR (eO.start s.title):=by
   rw[oB,nI _ _ _ rfl rfl];rfl
  have Hp:gO (eO.start s.title):=rfl;have D3:kJ (eO.start s.title) s.blocks.length:=⟨by show 0+_≤_;omega,by show 0+_≤_;omega,by show 0+_≤_;omega,by show 0+_≤_;omega,by show 0+_≤_;omega⟩;obtain⟨f1,f2,f3,f4⟩:=lx s.blocks (eO.start s.title) h3 ⟨abS _,fun p hp=>by cases hp⟩ Hp ⟨rfl,rfl⟩ D3;rw[h0];have Om:Yk (s.blocks.drop (Int.toNat 0)) (.ofR (eO.start s.title))=.ofR (cY s.blocks (eO.start s.title)):=by
   rw[FL,xX Hp];rfl
  have hb:cF s={ cY s.blocks (eO.start s.title) with f:=GV (cY s.blocks (eO.start s.title)).seen iR (cY s.blocks (eO.start s.title)).f }:=rfl;have hc1:Yj (.ofR (cY s.blocks (eO.start s.title))) (iR.reverse.reverse.drop (Int.toNat 0))=.ofR (cF s):=by
   have hR:=xX f2;rw[FK,nI _ _ _ rfl rfl,aal,hb];generalize cY s.blocks (eO.start s.title)=T at*;have e1:(bg.ofR T).e=T.e:=congrArg eO.e hR;have e2:(bg.ofR T).seen=T.seen:=congrArg eO.seen hR;have e3:(bg.ofR T).lines=T.lines:=congrArg eO.lines hR;have e4:(bg.ofR T).names=T.names:=congrArg eO.names hR;have e5:(bg.ofR T).er=T.f:=rfl;rw[e1,e2,e3,e4,e5];rfl
  have Az:gO (cF s)∧oV (cF s)∧YT (cF s)∧kJ (cF s) 0:=by rw[hb];exact⟨f2,f3,f1,f4⟩
  obtain⟨q,q1,q2⟩:=Ts Az.1 Az.2.1 Az.2.2.1 Az.2.2.2;refine⟨q,⟨⟨by omega,by omega,h2,h3,?_⟩,⟨by decide,by decide,rfl⟩,?_⟩,q2⟩
  ·rw[xX Hp];exact D3
  ·rw[Om,hc1];exact q1
 have bM:oV (cF s):=by
  have D3:kJ (eO.start s.title) s.blocks.length:=⟨by show 0+_≤_;omega,by show 0+_≤_;omega,by show 0+_≤_;omega,by show 0+_≤_;omega,by show 0+_≤_;omega⟩;exact(lx s.blocks (eO.start s.title) h3 ⟨abS _,fun p hp=>by cases hp⟩ rfl ⟨rfl,rfl⟩ D3).2.2.1
 have ahx:(if(cF s).f.no≠0 then Ii ((cF s).f.no,(cF s).f.line) else match kR (cF s) with|.ok l=>FE { (cF s).e with styl:=l }|.error e=>Ii (e.no,e.line))=r:=by
  rw[Dj] at hr;unfold OY at hr;by_cases h0:(cF s).f.no≠0
  ·rw[if_pos h0] at hr ⊢;exact hr.2 (decide_eq_false h0)
  ·rw[if_neg h0] at hr ⊢;cases hL:kR (cF s) with
   | ok l=>rw[hL] at hr;exact hr.1 (decide_eq_true rfl)
   | error e=>rw[hL] at hr;exact hr.2 (decide_eq_false (JL bM hL))
 have fin:∀{q},(cpB s).hit q→Lm q=(if(cF s).f.no≠0 then Ii ((cF s).f.no,(cF s).f.line) else match kR (cF s) with|.ok l=>FE { (cF s).e with styl:=l }|.error e=>Ii (e.no,e.line))→∃q,(cpB s).hit q∧∀(w:World) (S:Nat→Prop) (v:Value),XR [] w S q v→XR [] w S r v:=fun {q} h1 h2=>⟨q,h1,fun w S v hv=>by rw[←ahx,←h2];exact Eh hv⟩;by_cases jB:60<s.title.size
 ·obtain⟨q,q1,q2⟩:=eM 8 (by rw[if_pos (.inl jB)]);exact fin (bf (decide_eq_true (by omega)) ⟨by decide,q1⟩) q2
 ·by_cases xD:fE s.title.data.toList=false
  ·obtain⟨q,q1,q2⟩:=eM 8 (by rw[if_pos (.inr xD)]);exact fin (bw (decide_eq_false (by omega)) ⟨h1,bf (by rw[xD];rfl) ⟨by decide,q1⟩⟩) q2
  ·obtain⟨q,q1,q2⟩:=eM 0 (by rw[if_neg fun h=>h.elim jB xD]);rw[uw] at q1;exact fin (bw (decide_eq_false (by omega)) ⟨h1,bw (by simpa using xD) q1⟩) q2
noncomputable def C9b:iZ Tryz.prog:=d9 rO [⟨_,_,_,rQ⟩,⟨_,_,_,wJ⟩] []
theorem Tm:ax Tryz.prog 51 false (aX [(0,sI)] fun((n:Int),_)=>.lf (aS (Dc n))):=
 bT (C:=C9b) (nL _ _) false 99 [(0,sI)] (fun((n:Int),_)=>.br (decide (n<0)) (.lf (aS ⟨#[]⟩)) (.br (decide (n>999999)) (.lf (aS ⟨#[]⟩)) (.nd (0≤n∧n<9223372036854775808) (.nd (bits (ar (bits n.toNat))=bits n.toNat∧ar (bits n.toNat)<2^200) (.lf (aS ⟨(bG (ar (bits n.toNat))).toArray⟩))))))
  (fun⟨(n:Int),_⟩ r _ h=>by
   obtain rfl:aS (Dc n)=r:=h;refine⟨?_,.inr rfl⟩;unfold Dc;by_cases h1:n<0
   ·rw[if_pos (.inl h1)];exact bf (decide_eq_true h1) rfl
   ·by_cases h2:999999<n
    ·rw[if_pos (.inr h2)];exact bw (decide_eq_false h1) (bf (decide_eq_true h2) rfl)
    ·rw[if_neg (by omega)];refine bw (decide_eq_false h1) (bw (decide_eq_false (by omega)) ⟨⟨by omega,by omega⟩,?_⟩);rw[bB];exact⟨⟨rfl,abw (show n.toNat<1000000 by omega) (by decide)⟩,rfl⟩) Tryz.func51
theorem Li:ax Tryz.prog 52 false (aX [(0,sI),(1,sL)] fun((n:Int),(l:List ByteArray),_)=>.lf (aS (o7 n l))):=
 bT (C:=C9b) (nL _ _) false 99 [(0,sI),(1,sL)] (fun((n:Int),(l:List ByteArray),_)=>.br (decide (n<1)) (.lf (aS ⟨#[]⟩)) (.br (decide (n>l.length)) (.lf (aS ⟨#[]⟩)) (.nd (du (n-1)) (.nd (0≤n-1∧n-1<l.length) (.lf (aS (l.getD (n-1).toNat ⟨#[]⟩)))))))
  (fun⟨(n:Int),(l:List ByteArray),_⟩ r ⟨_,hl,_⟩ h=>by
   obtain rfl:aS (o7 n l)=r:=h;have hl:l.length≤9223372036854775807:=hl;refine⟨?_,.inr rfl⟩;unfold o7;by_cases h1:n<1
   ·rw[if_pos (.inl h1)];exact bf (decide_eq_true h1) rfl
   ·by_cases h2:(l.length:Int)<n
    ·rw[if_pos (.inr h2)];exact bw (decide_eq_false h1) (bf (decide_eq_true h2) rfl)
    ·rw[if_neg (by omega)];refine bw (decide_eq_false h1) (bw (decide_eq_false (by omega)) ⟨⟨by omega,by omega⟩,⟨by omega,by omega⟩,?_⟩);rw[show(n-1).toNat=n.toNat-1 by omega];rfl) Tryz.func52
theorem Q8:ax Tryz.prog 50 true (aX [(0,sS),(1,sS)] fun((k:ByteArray),(s:ByteArray),_)=>.lf (.agg (lR (.st 0) (⟨k,[s],0⟩:ao)))):=by
 refine ax.imp (l0:=[(0,sS),(1,sS)]) (F:=fun((k:ByteArray),(s:ByteArray),_)=>.lf (.agg [.sym (.string k),.list .str [s] true,.sym (.int .i64 0)])) (bT (C:=C9b) (nL _ _) true 99 [(0,sS),(1,sS)] (fun((k:ByteArray),(s:ByteArray),_)=>.lf (.agg [.sym (.string k),.list .str [s] true,.sym (.int .i64 0)])) (fun _ _ _ h=>⟨h,.inl rfl⟩) Tryz.func50) ?_;rintro⟨(k:ByteArray),(s:ByteArray),_⟩ r h;obtain rfl:XV.agg (lR (.st 0) (⟨k,[s],0⟩:ao))=r:=h;refine⟨_,rfl,fun w S v h=>?_⟩;obtain⟨vs,rfl,h⟩:=h;refine⟨vs,rfl,?_⟩;cases h with
 | cons h1 h2=>cases h2 with
  | cons h2 h3=>
   obtain⟨A,n,c,e,h2,_⟩:=h2;exact .cons h1 (.cons ⟨A,n,c,e,h2,fun e=>by cases e⟩ h3)
abbrev YU:SS:=.c (.own .str 9)
abbrev sIs:SS:=sD (.list tI)
abbrev pkL:List (Nat×SS):=[(0,sL),(1,sIs),(5,YU),(6,sI)]
abbrev PkE:=LE pkL [(5,YU)] []
def GF (rs:List ByteArray):PkE:=.out (rs,())
def zN (xs:List ByteArray) (ix:List Int) (i:Int) (rs:List ByteArray) (s:ByteArray):T PkE:=.nd ((rs.length+1)*17≤140737488355328) (.nd (du (i+1)) (.lf (.back (xs,ix,s::rs,i+1,()))))
def pkB (xs:List ByteArray) (ix:List Int) (rs:List ByteArray) (i:Int):T PkE:=.br (decide (i<ix.length)) (.nd (0≤i∧i<ix.length) (.br (decide (ix.getD i.toNat 0<0)) (zN xs ix i rs ⟨#[]⟩) (.nd (0≤i∧i<ix.length) (.br (decide (ix.getD i.toNat 0≥xs.length)) (zN xs ix i rs ⟨#[]⟩)
 (.nd (0≤i∧i<ix.length) (.nd (0≤ix.getD i.toNat 0∧ix.getD i.toNat 0<xs.length) (zN xs ix i rs (xs.getD (ix.getD i.toNat 0).toNat ⟨#[]⟩)))))))) (.lf (.out (rs,())))
def pkN (ix:List Int) (rs:List ByteArray) (i:Int):Prop:=0≤i∧i≤ix.length∧(rs.length:Int)=i∧ix.length≤1099511627776
theorem QZ:fO (xZ C0 Tryz.f53) 0 0 pkL [(5,YU)] [] fun((xs:List ByteArray),(ix:List Int),(rs:List ByteArray),(i:Int),_)=>.nd (pkN ix rs i) (.lf (GF ((dF (ix.drop i.toNat) xs).reverse++rs))):=by
 refine fS _ (nL _ _) 99 0 0 pkL [(5,YU)] [] (fun((xs:List ByteArray),(ix:List Int),(rs:List ByteArray),(i:Int),_)=>pkB xs ix rs i) (fun(_,(ix:List Int),_,(i:Int),_)=>ix.length-i.toNat) ?_;rintro⟨(xs:List ByteArray),(ix:List Int),(rs:List ByteArray),(i:Int),_⟩ r _ ⟨⟨h0,h1,h2,h3⟩,hr⟩;obtain⟨k,rfl⟩:∃k:Nat,i=k:=⟨i.toNat,by omega⟩;have hr:GF ((dF (ix.drop k) xs).reverse++rs)=r:=hr;subst hr;show∃q,(pkB xs ix rs k).hit q∧_;unfold pkB;by_cases hk:k<ix.length
 ·rw[getD_drop 0 hk];obtain⟨n,hn⟩:∃n,nameAt xs (ix.getD k 0)=n:=⟨_,rfl⟩;have nx:pkN ix (n::rs) ((k:Int)+1):=⟨by omega,by omega,by rw[abs];omega,h3⟩;have eq:GF ((dF (ix.drop (k+1)) xs).reverse++n::rs)=GF ((dF (ix.getD k 0::ix.drop (k+1)) xs).reverse++rs):=by
   unfold dF;rw[acq,ab6,abQ,hn];rfl
  have dec:ix.length-(k+1)<ix.length-k:=by omega
  have bk:(zN xs ix k rs n).hit (.back (xs,ix,n::rs,(k:Int)+1,())):=⟨by omega,⟨by omega,by omega⟩,rfl⟩;have gR:0≤(k:Int)∧(k:Int)<ix.length:=⟨by omega,by omega⟩;by_cases h4:ix.getD k 0<0
  ·rw[show n=⟨#[]⟩ by rw[←hn];exact if_neg (by omega)] at nx eq bk;exact⟨_,bf (decide_eq_true (by omega)) ⟨gR,bf (decide_eq_true h4) bk⟩,dec,nx,eq⟩
  by_cases h5:(xs.length:Int)≤ix.getD k 0
  ·rw[show n=⟨#[]⟩ by rw[←hn];exact if_neg (by omega)] at nx eq bk;exact⟨_,bf (decide_eq_true (by omega)) ⟨gR,bw (decide_eq_false h4) ⟨gR,bf (decide_eq_true h5) bk⟩⟩,dec,nx,eq⟩
  ·rw[show n=xs.getD (ix.getD k 0).toNat ⟨#[]⟩ by rw[←hn];exact if_pos ⟨by omega,by omega⟩] at nx eq bk;exact⟨_,bf (decide_eq_true (by omega)) ⟨gR,bw (decide_eq_false h4) ⟨gR,bw (decide_eq_false h5) ⟨gR,⟨by rw[aaf];omega,by rw[aaf];omega⟩,bk⟩⟩⟩,dec,nx,eq⟩
 ·exact⟨_,bw (decide_eq_false (by omega)) rfl,by rw[aa5 (by omega)];rfl⟩
def rvR (l:List ByteArray):XV:=.one (.list .str l.reverse !l.isEmpty)
theorem Ms:ax Tryz.prog 53 true (aX [(0,sL),(1,sIs)] fun((xs:List ByteArray),(ix:List Int),_)=>.nd (ix.length≤1099511627776) (.lf (.one (.list .str (dF ix xs) !(dF ix xs).isEmpty)))):=
 bT (C:=C0) ((nL _ _).add 0 _ QZ) true 99 [(0,sL),(1,sIs)] (fun((xs:List ByteArray),(ix:List Int),_)=>.nd (pkN ix [] 0) (.lf (rvR ((dF (ix.drop 0) xs).reverse++[]))))
  (fun⟨(xs:List ByteArray),(ix:List Int),_⟩ r _ ⟨h1,h⟩=>by
   obtain rfl:XV.one (.list .str (dF ix xs) !(dF ix xs).isEmpty)=r:=h;refine⟨⟨⟨by omega,by omega,rfl,h1⟩,?_⟩,.inl rfl⟩;show rvR _=_;unfold rvR;rw[acC,ado,aal,List.isEmpty_reverse]) Tryz.func53
noncomputable def Ul (t:TypeId):Option Ty:=List.lookup t [(9,.str),(3,tI),(113,.st 0),(110,.st 1)]
noncomputable def C12:iZ Tryz.prog:=d9 Ul [⟨_,_,_,Tm⟩,⟨_,_,_,Q8⟩,⟨_,_,_,Li⟩,⟨_,_,_,Ms⟩,⟨_,_,_,OB⟩,⟨_,_,_,LD⟩] []
noncomputable abbrev VF:=Tryz.f32
noncomputable abbrev QK:Rg Tryz.prog VF.ntmps:=OA (xZ C12 VF) [(17,[4])]
abbrev seC:List CS:=[.d .str,.d tI,.d tI,.d tI,.d (.list .str),.d (.list (.st 3)),.d (.list (.st 4)),.d tI,.d tI,.d .bool,.d (.list .limb),.d (.list .limb),.d tI,.d .str]
abbrev ssC:List CS:=[.d .str,.own (.st 1) 110]
abbrev sEs:SS:=.box 30 seC
abbrev sSs:SS:=.box 81 ssC
abbrev uk:=fc seC
abbrev tK:=fc ssC
def uk.co (e:uk):List ah:=e.2.2.2.2.2.1
def uk.sy (e:uk):List aw:=e.2.2.2.2.2.2.1
def uk.pr (e:uk):List ByteArray:=e.2.2.2.2.1
def tK.bs (s:tK):List av:=s.2.1
def tK.put (s:tK) (b:av):tK:=(s.1,b::s.bs,())
abbrev sVs:SS:=.box 81 [.d .str,.d (.list (.st 1))]
abbrev IA:=fc [.d .str,.d (.list (.st 1))]
abbrev VJ:List (Nat×SS):=[(1,sEs),(2,sVs),(3,sSs),(4,YU),(5,sI)]
abbrev VI:List (Nat×SS):=[(1,sEs),(2,sVs),(3,sSs),(4,YU)]
def Tu (c:ah) (l:List ao):av:=
 ⟨af,c.name,[fU aM c.method ew,dZ bc c.seats,dZ bP c.ranks]++l++[fU cV c.ties iH,fU aU c.over iJ,fU cW c.skip iI,⟨cz,(c.cands.reverse++[]).reverse,0⟩],0⟩
def EI (e:uk) (v:IA) (s:tK) (l:List ByteArray) (i:Int):LE VJ VI []:=.back (e,v,s,l,i,())
def Gp (e:uk) (v:IA) (s:tK) (l:List ByteArray):LE VJ VI []:=.out (e,v,s,l,())
def s0E (e:uk) (v:IA) (s:tK) (l:List ByteArray) (i:Int) (c:ah) (n:Nat) (ds:List ao):T (LE VJ VI []):=.nd ((n+3)*49≤140737488355328) (.nd ((0+c.cands.length)*17≤140737488355328) (.nd ((n+3+1)*49≤140737488355328) (.nd ((s.bs.length+1)*65≤140737488355328) (.nd (du (i+1)) (.lf (EI e v (s.put (Tu c ds)) (c.name::l) (i+1)))))))
def s0B (e:uk) (v:IA) (s:tK) (l:List ByteArray) (i:Int) (c:ah):T (LE VJ VI []):=.br (c.method==2) (.nd ((3+1)*49≤140737488355328) (s0E e v s l i c 4 [dZ az c.digits])) (s0E e v s l i c 3 [])
def s0T (e:uk) (v:IA) (s:tK) (l:List ByteArray) (i:Int):T (LE VJ VI []):=.br (decide (i<e.co.length)) (.nd (0≤i∧i<e.co.length) (.nd ((l.length+1)*17≤140737488355328) (s0B e v s l i (e.co.getD i.toNat ah.zero)))) (.lf (Gp e v s l))
theorem Tt (c:ah):dV c=Tu c (if c.method=2 then[dZ az c.digits] else[]):=by
 unfold dV Tu;rw[ado,aal]
def s0N (e:uk) (s:tK) (l:List ByteArray) (i:Int):Prop:=0≤i∧i≤e.co.length∧e.co.length≤1048576∧(∀c∈e.co,c.cands.length≤1048576)∧(l.length:Int)=i∧s.bs.length≤3+i
theorem EC:fO QK 0 0 VJ VI [] fun((e:uk),(v:IA),(s:tK),(l:List ByteArray),(i:Int),_)=>.nd (s0N e s l i) (.lf (Gp e v (s.1,((e.co.drop i.toNat).map dV).reverse++s.bs,()) (((e.co.drop i.toNat).map (·.name)).reverse++l))):=by
 refine fS _ (nL _ _) 99 0 0 VJ VI [] (fun((e:uk),(v:IA),(s:tK),(l:List ByteArray),(i:Int),_)=>s0T e v s l i)
  (fun((e:uk),_,_,_,(i:Int),_)=>e.co.length-i.toNat) ?_
 rintro⟨(e:uk),(v:IA),(s:tK),(l:List ByteArray),(i:Int),_⟩ r _ ⟨⟨h0,h1,h2,h3,h4,h5⟩,hr⟩;have hr:Gp e v (s.1,((e.co.drop i.toNat).map dV).reverse++s.bs,()) (((e.co.drop i.toNat).map (·.name)).reverse++l)=r:=hr;obtain rfl:=hr;obtain⟨k,rfl⟩:∃k:Nat,i=k:=⟨i.toNat,by omega⟩;rw[aaf];show∃q,(s0T e v s l k).hit q∧_;unfold s0T;by_cases hk:k<e.co.length
 ·rw[getD_drop ah.zero hk,aaf];obtain⟨c,hc⟩:∃c,e.co.getD k ah.zero=c:=⟨_,rfl⟩;have hcc:=h3 c (by rw[←hc,aar,aac hk];exact ab7 hk);rw[hc];have key:∀(n:Nat) (ds:List ao),n≤4→dV c=Tu c ds→(s0E e v s l k c n ds).hit (EI e v (s.put (dV c)) (c.name::l) (k+1)):=fun n ds hn he=>⟨by omega,by omega,by omega,by omega,⟨by omega,by omega⟩,by rw[he];rfl⟩;refine⟨EI e v (s.put (dV c)) (c.name::l) (k+1),bf (decide_eq_true (by omega)) ⟨⟨by omega,by omega⟩,by omega,?_⟩,?_,⟨by omega,by omega,h2,h3,by rw[abs];omega,?_⟩,?_⟩
  ·unfold s0B;have he:=Tt c;by_cases hm:c.method=2
   ·rw[if_pos hm] at he;exact bf (beq_iff_eq.2 hm) ⟨by omega,key 4 _ (by omega) he⟩
   ·rw[if_neg hm] at he;exact bw (beq_eq_false_iff_ne.2 hm) (key 3 _ (by omega) he)
  ·show e.co.length-(k+1)<e.co.length-k;omega
  ·have:(s.put (dV c)).bs.length=s.bs.length+1:=rfl;omega
  ·show Gp e v (s.1,((e.co.drop (k+1)).map dV).reverse++(dV c::s.bs),()) (((e.co.drop (k+1)).map (·.name)).reverse++(c.name::l))=_;rw[acq,acq,ab6,ab6,abQ,abQ];rfl
 ·rw[aa5 (by omega)];exact⟨_,bw (decide_eq_false (by omega)) rfl,rfl⟩
abbrev s1L:List (Nat×SS):=[(1,sEs),(2,sVs),(3,sSs),(4,sL),(8,sI)]
abbrev s1O:List (Nat×SS):=[(1,sEs),(2,sVs),(3,sSs)]
def aw.nul:aw:=⟨⟨#[]⟩,[],[]⟩
def Gn (e:uk) (v:IA) (s:tK):LE s1L s1O []:=.out (e,v,s,())
def s1E (e:uk) (v:IA) (s:tK) (l:List ByteArray) (i:Int) (y:aw):T (LE s1L s1O []):=.nd (y.prec.length≤1099511627776) (.nd (y.cont.length≤1099511627776) (.nd ((s.bs.length+1)*65≤140737488355328) (.nd (du (i+1)) (.lf (.back (e,v,s.put (fk e.pr l y),l,i+1,()))))))
def s1T (e:uk) (v:IA) (s:tK) (l:List ByteArray) (i:Int):T (LE s1L s1O []):=.br (decide (i<e.sy.length)) (.nd (0≤i∧i<e.sy.length) (s1E e v s l i (e.sy.getD i.toNat aw.nul))) (.lf (Gn e v s))
def s1N (e:uk) (s:tK) (i:Int):Prop:=0≤i∧i≤e.sy.length∧e.sy.length≤1048576∧(∀y∈e.sy,y.prec.length≤1048576∧y.cont.length≤1048576)∧s.bs.length≤2097152+i
theorem EB:fO QK 1 2 s1L s1O [] fun((e:uk),(v:IA),(s:tK),(l:List ByteArray),(i:Int),_)=>.nd (s1N e s i) (.lf (Gn e v (s.1,((e.sy.drop i.toNat).map (fk e.pr l)).reverse++s.bs,()))):=by
 refine fS _ (nL _ _) 99 1 2 s1L s1O [] (fun((e:uk),(v:IA),(s:tK),(l:List ByteArray),(i:Int),_)=>s1T e v s l i)
  (fun((e:uk),_,_,_,(i:Int),_)=>e.sy.length-i.toNat) ?_
 rintro⟨(e:uk),(v:IA),(s:tK),(l:List ByteArray),(i:Int),_⟩ r _ ⟨⟨h0,h1,h2,h3,h5⟩,hr⟩;have hr:Gn e v (s.1,((e.sy.drop i.toNat).map (fk e.pr l)).reverse++s.bs,())=r:=hr;obtain rfl:=hr;obtain⟨k,rfl⟩:∃k:Nat,i=k:=⟨i.toNat,by omega⟩;rw[aaf];show∃q,(s1T e v s l k).hit q∧_;unfold s1T;by_cases hk:k<e.sy.length
 ·rw[getD_drop aw.nul hk,aaf];obtain⟨y,hy⟩:∃y,e.sy.getD k aw.nul=y:=⟨_,rfl⟩;obtain⟨UH,P1⟩:=h3 y (by rw[←hy,aar,aac hk];exact ab7 hk);rw[hy];refine⟨_,bf (decide_eq_true (by omega)) ⟨⟨by omega,by omega⟩,by omega,by omega,by omega,⟨by omega,by omega⟩,rfl⟩,?_,⟨by omega,by omega,h2,h3,?_⟩,?_⟩
  ·show e.sy.length-(k+1)<e.sy.length-k;omega
  ·have:(s.put (fk e.pr l y)).bs.length=s.bs.length+1:=rfl;omega
  ·show Gn e v (s.1,((e.sy.drop (k+1)).map (fk e.pr l)).reverse++(fk e.pr l y::s.bs),())=_;rw[acq,ab6,abQ];rfl
 ·rw[aa5 (by omega)];exact⟨_,bw (decide_eq_false (by omega)) rfl,rfl⟩
def esE (e:aa):uk:=(e.title,e.dots,e.blank,e.marked,e.prec,e.cont,e.styl,e.scan,e.batch,e.risk.neg,e.risk.num,e.risk.den,e.cell,e.seed,())
def L9 (e:aa):List av:=[⟨ae,⟨#[]⟩,[⟨bU,(e.prec.reverse++[]).reverse,0⟩],0⟩,⟨au,⟨#[]⟩,[dZ bV e.scan,dZ bW e.batch],0⟩,⟨aP,⟨#[]⟩,[dZ cZ e.dots,dZ bp e.blank,dZ aZ e.marked],0⟩]
def ae2 (e:aa):tK:=(e.title,L9 e,())
def scL (e:aa):List ByteArray:=(((e.cont.drop (Int.toNat 0)).map ah.name).reverse++[]).reverse
def I8 (e:aa):tK:=(e.title,((e.cont.drop (Int.toNat 0)).map dV).reverse++L9 e,())
def I9 (e:aa):List av:=((e.styl.drop (Int.toNat 0)).map (fk e.prec (scL e))).reverse++(I8 e).bs
def scF (e:aa):List av:=⟨aW,⟨#[]⟩,[dZ dB e.cell],0⟩::⟨aO,⟨#[]⟩,[⟨bJ,[⟨(ik (uP (QT e.risk.q))).toArray⟩],0⟩,⟨cH,[e.seed],0⟩],0⟩::I9 e
def scT (e:aa):T XV:=.nd ((0+1)*65≤140737488355328) (.nd ((1+1)*65≤140737488355328) (.nd ((0+e.prec.length)*17≤140737488355328) (.nd ((2+1)*65≤140737488355328) (.nd (s0N (esE e) (ae2 e) [] 0) (.nd (s1N (esE e) (I8 e) 0)
 (.nd (e.risk.short 6) (.nd (ES (2^200) (QT e.risk.q)) (.nd (((I9 e).length+1)*65≤140737488355328) (.nd (((I9 e).length+1+1)*65≤140737488355328) (.lf (.agg [.sym (.string e.title),.list (.st 1) (scF e).reverse !(scF e).isEmpty])))))))))))
theorem VG (e:aa):(scF e).reverse=(eK e).blocks:=by
 unfold scF I9 I8 scL L9 eK tK.bs;rw[rM];simp
def Ib (e:aa):Prop:=e.prec.length≤1048576∧e.cont.length≤1048576∧e.styl.length≤1048576∧(∀c∈e.cont,c.cands.length≤1048576)∧(∀y∈e.styl,y.prec.length≤1048576∧y.cont.length≤1048576)∧e.risk.short 6∧e.risk.q.n<2^200∧e.risk.q.d<2^200
theorem ED:ax Tryz.prog 32 true (aX [(0,.st 5)] fun((e:aa),_)=>.nd (Ib e) (.lf (.agg (lR (.st 2) (eK e))))):=by
 refine ax.imp (l0:=[(0,.st 5)]) (F:=fun((e:aa),_)=>.nd (Ib e) (.lf (.agg [.sym (.string e.title),.list (.st 1) (eK e).blocks true]))) (ut (R:=QK) (((nL QK VF).add 0 _ EC).add 1 _ EB) true 99 [(0,.st 5)] (fun((e:aa),_)=>scT e) (fun⟨(e:aa),_⟩ r hb ⟨⟨h1,h2,h3,h4,h5,h6,h7,h8⟩,h⟩=>?_) Tryz.func32) ?_
 ·obtain rfl:XV.agg [.sym (.string e.title),.list (.st 1) (eK e).blocks true]=r:=h;have e0:(I9 e).length=e.styl.length+(e.cont.length+3):=by
   unfold I9 I8 tK.bs L9;simp
  have e1:(I8 e).bs.length=e.cont.length+3:=by
   unfold I8 tK.bs L9;simp
  refine⟨⟨by omega,by omega,by omega,by omega,⟨by omega,adK _,h2,h4,rfl,by show(3:Int)≤3+0;omega⟩,⟨by omega,adK _,h3,h5,by rw[e1];omega⟩,h6,⟨by rw[rM],by rw[rM];exact⟨h7,h8⟩⟩,by rw[e0];omega,by rw[e0];omega,?_⟩,.inl rfl⟩;rw[VG];rfl
 ·rintro⟨(e:aa),_⟩ r ⟨h0,h⟩;obtain rfl:XV.agg (lR (.st 2) (eK e))=r:=h;refine⟨_,⟨h0,rfl⟩,fun w S v h=>?_⟩;obtain⟨vs,rfl,h⟩:=h;refine⟨vs,rfl,?_⟩;cases h with
  | cons h1 h2=>cases h2 with
   | cons h2 h3=>
    obtain⟨A,n,c,e,h2,_⟩:=h2;exact .cons h1 (.cons ⟨A,n,c,e,h2,fun e=>by cases e⟩ h3)
def aw.zero:aw:=⟨⟨#[]⟩,[],[]⟩
def xM (p:Nat→Bool):Nat→Nat→Bool
 | 0,_=>true
 | k+1,i=>p i&&xM p k (i+1)
theorem Ix {α:Type} (q:α→Bool) (d:α):∀(l:List α) (k:Nat),k≤l.length→xM (fun i=>q (l.getD i d)) (l.length-k) k=(l.drop k).all q:=by
 intro l k hk;obtain⟨j,hj⟩:∃j,l.length-k=j:=⟨_,rfl⟩;induction j generalizing k with
 | zero=>rw[hj,aa5 (by omega)];rfl
 | succ j ih=>
  rw[hj,getD_drop d (by omega),acr,←ih (k+1) (by omega) (by omega),show l.length-(k+1)=j by omega];rfl
def KP {L:Type} (out ret:L) (p:Nat→Bool) (len:Nat) (i:Int):T L:=.nd (0≤i∧i≤len) (.br (xM p (len-i.toNat) i.toNat) (.lf out) (.lf ret))
theorem rA {L:Type} {back:Int→L} {out ret r:L} {len:Nat} {p:Nat→Bool} {TT:Int→T L} {i:Int} (hT:∀k:Nat,k<len→(p k=true→(TT k).hit (back ((k:Int)+1)))∧(p k=false→(TT k).hit ret)) (h:(KP out ret p len i).hit r) : ∃q,(T.br (decide (i<len)) (TT i) (.lf out)).hit q∧((q=r∧(q=out∨q=ret))∨(q=back (i+1)∧len-(i+1).toNat<len-i.toNat∧(KP out ret p len (i+1)).hit r)):=by
 obtain⟨⟨h0,h1⟩,h⟩:=h;obtain⟨k,rfl⟩:∃k:Nat,i=k:=⟨i.toNat,by omega⟩;by_cases hk:k<len
 ·obtain⟨t1,t2⟩:=hT k hk;have e1:((k:Int)+1).toNat=k+1:=by omega
  rw[aaf,show len-k=(len-(k+1))+1 by omega] at h;cases hp:p k with
  | true=>
   refine⟨_,bf (decide_eq_true (by omega)) (t1 hp),.inr ⟨rfl,by omega,⟨by omega,by omega⟩,?_⟩⟩;rw[e1];simpa only[xM,hp,acc] using h
  | false=>
   have h:=h.2 (by simp only[xM,hp,acx]);exact⟨_,bf (decide_eq_true (by omega)) (t2 hp),.inl ⟨h,.inr rfl⟩⟩
 ·rw[aaf,show len-k=0 by omega] at h;exact⟨_,bw (decide_eq_false (by omega)) rfl,.inl ⟨h.1 rfl,.inl rfl⟩⟩
abbrev ewC:List CS:=[.d .str,.d tI,.d tI,.d tI,.d (.list .str),.d (.list (.st 3)),.d (.list (.st 4)),.d tI,.d tI,.d .bool,.d (.list .limb),.d (.list .limb),.d tI,.d .str]
abbrev PW:SS:=.box 30 ewC
abbrev o5:=fc ewC
def o5.cont (x:o5):List ah:=x.2.2.2.2.2.1
def o5.styl (x:o5):List aw:=x.2.2.2.2.2.2.1
abbrev Z7 (s:Nat):List (Nat×SS):=[(1,PW),(s,sI)]
abbrev SmE (s:Nat):=LE (Z7 s) [(1,PW)] []
def rR (s:Nat) (x:o5) (i:Int):SmE s:=.back (x,i,())
def Gl (s:Nat) (x:o5):SmE s:=.out (x,())
def uV (s:Nat):SmE s:=.ret (.one (.val (.bool false))) ()
def Z8 (c:ah):Bool:=decide (c.cands.length≤7)
def QG (c:aw):Bool:=decide (c.prec.length≤12)&&decide (c.cont.length≤4)
theorem I2:fO (xZ C0 Tryz.f30) 0 0 (Z7 3) [(1,PW)] [] fun((x:o5),(i:Int),_)=>KP (Gl 3 x) (uV 3) (fun k=>Z8 (x.cont.getD k ah.zero)) x.cont.length i:=by
 refine fS _ (nL _ _) 99 0 0 (Z7 3) [(1,PW)] [] (fun((x:o5),(i:Int),_)=>.br (decide (i<x.cont.length)) (.nd (0≤i∧i<x.cont.length) (.br (decide (((x.cont.getD i.toNat ah.zero).cands.length:Int)>7)) (.lf (uV 3)) (.nd (du (i+1)) (.lf (rR 3 x (i+1)))))) (.lf (Gl 3 x))) (fun((x:o5),(i:Int),_)=>x.cont.length-i.toNat) ?_;rintro⟨(x:o5),(i:Int),_⟩ r rG h;have hl:x.cont.length≤9223372036854775807:=rG.1.2.2.2.2.2.1;obtain⟨q,h1,h2⟩:=rA (back:=rR 3 x) (TT:=fun i=>.nd (0≤i∧i<x.cont.length) (.br (decide (((x.cont.getD i.toNat ah.zero).cands.length:Int)>7)) (.lf (uV 3)) (.nd (du (i+1)) (.lf (rR 3 x (i+1)))))) (fun k hk=>⟨fun hp=>⟨⟨by omega,by omega⟩,bw (decide_eq_false (by have:=of_decide_eq_true hp;rw[aaf];omega)) ⟨⟨by omega,by omega⟩,rfl⟩⟩,fun hp=>⟨⟨by omega,by omega⟩,bf (decide_eq_true (by have:=of_decide_eq_false hp;rw[aaf];omega)) rfl⟩⟩) h;refine⟨q,h1,?_⟩;rcases h2 with⟨rfl,rfl|rfl⟩|⟨rfl,h3,h4⟩
 ·rfl
 ·rfl
 ·exact⟨h3,h4⟩
def I4 (x:o5) (i:Int):T (SmE 4):=.nd (0≤i∧i<x.styl.length) (.br (decide (((x.styl.getD i.toNat aw.zero).prec.length:Int)>12)) (.lf (uV 4)) (.nd (0≤i∧i<x.styl.length) (.br (decide (((x.styl.getD i.toNat aw.zero).cont.length:Int)>4)) (.lf (uV 4)) (.nd (du (i+1)) (.lf (rR 4 x (i+1)))))))
theorem I1:fO (xZ C0 Tryz.f30) 1 2 (Z7 4) [(1,PW)] [] fun((x:o5),(i:Int),_)=>KP (Gl 4 x) (uV 4) (fun k=>QG (x.styl.getD k aw.zero)) x.styl.length i:=by
 refine fS _ (nL _ _) 99 1 2 (Z7 4) [(1,PW)] [] (fun((x:o5),(i:Int),_)=>.br (decide (i<x.styl.length)) (I4 x i) (.lf (Gl 4 x))) (fun((x:o5),(i:Int),_)=>x.styl.length-i.toNat) ?_;rintro⟨(x:o5),(i:Int),_⟩ r rG h;have hl:x.styl.length≤9223372036854775807:=rG.1.2.2.2.2.2.2.1;have hT:∀k:Nat,k<x.styl.length→(QG (x.styl.getD k aw.zero)=true→(I4 x k).hit (rR 4 x ((k:Int)+1)))∧(QG (x.styl.getD k aw.zero)=false→(I4 x k).hit (uV 4)):=by
  refine fun k hk=>⟨fun hp=>?_,fun hp=>?_⟩
  ·unfold QG at hp;rw[aaO,decide_eq_true_eq,decide_eq_true_eq] at hp;unfold I4;rw[aaf];exact⟨⟨by omega,by omega⟩,bw (decide_eq_false (by omega)) ⟨⟨by omega,by omega⟩,bw (decide_eq_false (by omega)) ⟨⟨by omega,by omega⟩,rfl⟩⟩⟩
  ·unfold QG at hp;unfold I4;rw[aaf];refine⟨⟨by omega,by omega⟩,?_⟩;by_cases h1:(x.styl.getD k aw.zero).prec.length≤12
   ·rw[decide_eq_true h1,acc] at hp;have:=of_decide_eq_false hp;exact bw (decide_eq_false (by omega)) ⟨⟨by omega,by omega⟩,bf (decide_eq_true (by omega)) rfl⟩
   ·exact bf (decide_eq_true (by omega)) rfl
 obtain⟨q,h1,h2⟩:=rA (back:=rR 4 x) (TT:=I4 x) hT h;refine⟨q,h1,?_⟩;rcases h2 with⟨rfl,rfl|rfl⟩|⟨rfl,h3,h4⟩
 ·rfl
 ·rfl
 ·exact⟨h3,h4⟩
abbrev sE:SS:=.st 5
def smB (e:aa):T XV:=.br (decide ((e.prec.length:Int)>12)) (.lf (aB false)) (.br (decide ((e.cont.length:Int)>4)) (.lf (aB false)) (.br (decide ((e.styl.length:Int)>6)) (.lf (aB false)) (.br (decide ((e.risk.num.length:Int)>1)) (.lf (aB false)) (.br (decide ((e.risk.den.length:Int)>1)) (.lf (aB false))
 (.nd ((0:Int)≤0∧(0:Int)≤e.cont.length) (.br (xM (fun k=>Z8 (e.cont.getD k ah.zero)) (e.cont.length-0) 0) (.nd ((0:Int)≤0∧(0:Int)≤e.styl.length) (.br (xM (fun k=>QG (e.styl.getD k aw.zero)) (e.styl.length-0) 0) (.lf (aB true)) (.lf (aB false)))) (.lf (aB false))))))))
theorem CG {p:Prop} [Decidable p] {b y:Bool} {x:T XV} (hp:b=true↔¬p) (h:x.hit (aB y)):(T.br b (.lf (aB false)) x).hit (aB (decide p&&y)):=by
 by_cases h1:p
 ·rw[decide_eq_true h1,acc];exact bw (by cases b with|false=>rfl|true=>exact absurd h1 (hp.1 rfl)) h
 ·rw[decide_eq_false h1,acx];exact bf (hp.2 h1) rfl
theorem I3:ax Tryz.prog 30 false (aX [(0,sE)] fun((e:aa),_)=>.lf (aB (ll e))):=
 bT (C:=C0) (((nL _ _).add 0 _ I2).add 1 _ I1) false 99 [(0,sE)] (fun((e:aa),_)=>smB e)
  (fun⟨(e:aa),_⟩ r _ h=>by
   obtain rfl:aB (ll e)=r:=h;refine⟨?_,.inr rfl⟩;show(smB e).hit _;unfold smB ll;rw[Ix Z8 ah.zero e.cont 0 (abS _),Ix QG aw.zero e.styl 0 (abS _),acC,acC];refine CG (by rw[decide_eq_true_eq];omega) (CG (by rw[decide_eq_true_eq];omega) (CG (by rw[decide_eq_true_eq];omega) (CG (by rw[decide_eq_true_eq];omega) (CG (by rw[decide_eq_true_eq];omega) ⟨⟨by omega,by omega⟩,?_⟩))));show(T.br (e.cont.all Z8) _ _).hit (aB (e.cont.all Z8&&e.styl.all QG));refine Hz fun _=>⟨⟨by omega,by omega⟩,?_⟩;cases e.styl.all QG with
   | true=>exact bf rfl rfl
   | false=>exact bw rfl rfl) Tryz.func30
theorem LM:ax Tryz.prog 57 false (aX [(0,sL),(1,sL)] fun((xs:List ByteArray),(ys:List ByteArray),_)=>.lf (aB (decide (xs=ys)))):=Pd (t:=.str) (g:=fun(xs ys:List ByteArray)=>decide (xs=ys)) fun _ _ _ _ _ _ _ xs ys _ h1 h2=>XU (xs:=xs) (ys:=ys) h1 h2
theorem Nv:ax Tryz.prog 58 false (aX [(0,sIs),(1,sIs)] fun((xs:List Int),(ys:List Int),_)=>.lf (aB (decide (xs=ys)))):=Pd (t:=tI) (g:=fun(xs ys:List Int)=>decide (xs=ys)) fun _ _ _ _ _ _ _ xs ys _ h1 h2=>XY (xs:=xs) (ys:=ys) h1 h2
theorem QX:ax Tryz.prog 56 false (aX [(0,.st 8),(1,.st 8)] fun((a:Raw),(b:Raw),_)=>.lf (aB (decide (a.neg=b.neg)&&(decide (a.num=b.num)&&decide (a.den=b.den))))):=
 gr fun w S x vs r hS he hl hr=>by
  obtain⟨(a:Raw),(b:Raw),_⟩:=x;obtain⟨v,h1,cs,h2,h3⟩:=he 0 (.agg (lR (.st 8) a)) aaS;obtain⟨v',i9,iG,Bg,J5⟩:=he 1 (.agg (lR (.st 8) b)) (aa9 _ aaS);obtain rfl:=hr
  match vs,hl,h1,i9 with
  | [u,u'],_,h1,i9=>
   injection h1 with h1
   injection i9 with i9
   subst h1 i9 h2 Bg;have k1:SV w S (.agg cs.toArray) a:=⟨cs,rfl,lh (t:=.st 8) (us:=lR (.st 8) a) rfl h3⟩;have k2:SV w S (.agg iG.toArray) b:=⟨iG,rfl,lh (t:=.st 8) (us:=lR (.st 8) b) rfl J5⟩;exact Calls.mono (EP k1 k2 hS hS) fun e w' ⟨e1,e2⟩=>⟨_,fun _=>False,e1,e2,fun _ q=>q.elim,rfl,rfl⟩
noncomputable def C11:iZ Tryz.prog:=d9 rO [⟨_,_,_,LM⟩,⟨_,_,_,Nv⟩,⟨_,_,_,QX⟩] []
noncomputable abbrev qfn:=Tryz.f33
noncomputable abbrev qRg:Rg Tryz.prog qfn.ntmps:=xZ C11 qfn
theorem Vj {α:Type} (q:α→α→Bool) (d:α) {l m:List α} (hlm:l.length=m.length) (k:Nat) (hk:k≤l.length):xM (fun i=>q (l.getD i d) (m.getD i d)) (l.length-k) k=gW q (l.drop k) (m.drop k):=by
 obtain⟨j,hj⟩:∃j,l.length-k=j:=⟨_,rfl⟩;induction j generalizing k with
 | zero=>rw[hj,aa5 (by omega),aa5 (by omega)];rfl
 | succ j ih=>
  rw[hj,getD_drop d (by omega),getD_drop d (show k<m.length by omega),gW,←ih (k+1) (by omega) (by omega),show l.length-(k+1)=j by omega];rfl
theorem wY {α:Type} {q:α→α→Bool}:∀{l m:List α},gW q l m=true→l.length=m.length
 | [],[],_=>rfl
 | _::_,_::_,h=>by
  rw[gW,aaO] at h;rw[abs,abs,wY h.2]
def X0 (a b:ah):List Bool:=[a.name.toList==b.name.toList,decide (a.cands=b.cands),a.method==b.method,a.seats==b.seats,a.ranks==b.ranks,a.digits==b.digits,a.ties==b.ties,a.over==b.over,a.skip==b.skip]
def XW (a b:aw):List Bool:=[a.name.toList==b.name.toList,decide (a.prec=b.prec),decide (a.cont=b.cont)]
theorem CU (a b:ah):(X0 a b).all id=bh a b:=by
 simp only[X0,bh,acr,acU,id,adu,eu];rfl
theorem CP (a b:aw):(XW a b).all id=bA a b:=by
 simp only[XW,bA,acr,acU,id,adu,eu]
abbrev eqL (s:Nat):List (Nat×SS):=[(2,PW),(3,PW),(s,sI)]
abbrev eqO:List (Nat×SS):=[(2,PW),(3,PW)]
abbrev EqE (s:Nat):=LE (eqL s) eqO []
def sX (s:Nat) (e f:o5) (i:Int):EqE s:=.back (e,f,i,())
def Ia (s:Nat) (e f:o5):EqE s:=.out (e,f,())
def yO (s:Nat):EqE s:=.ret (.one (.val (.bool false))) ()
def acm (e f:o5) (i:Int):T (EqE 5):=.nd (0≤i∧i<e.cont.length) (.nd (0≤i∧i<f.cont.length) (Dp (.lf (yO 5)) (X0 (e.cont.getD i.toNat ah.zero) (f.cont.getD i.toNat ah.zero)) (.nd (du (i+1)) (.lf (sX 5 e f (i+1))))))
def acl (e f:o5) (i:Int):T (EqE 8):=.nd (0≤i∧i<e.styl.length) (.nd (0≤i∧i<f.styl.length) (Dp (.lf (yO 8)) (XW (e.styl.getD i.toNat aw.zero) (f.styl.getD i.toNat aw.zero)) (.nd (du (i+1)) (.lf (sX 8 e f (i+1))))))
theorem XS:fO qRg 0 0 (eqL 5) eqO [] fun((e:o5),(f:o5),(i:Int),_)=>.nd (e.cont.length=f.cont.length) (KP (Ia 5 e f) (yO 5) (fun k=>bh (e.cont.getD k ah.zero) (f.cont.getD k ah.zero)) e.cont.length i):=by
 refine fS _ (nL _ _) 99 0 0 (eqL 5) eqO [] (fun((e:o5),(f:o5),(i:Int),_)=>.br (decide (i<e.cont.length)) (acm e f i) (.lf (Ia 5 e f))) (fun((e:o5),_,(i:Int),_)=>e.cont.length-i.toNat) ?_;rintro⟨(e:o5),(f:o5),(i:Int),_⟩ r rG ⟨bM,h⟩;have hl:e.cont.length≤9223372036854775807:=rG.1.2.2.2.2.2.1;obtain⟨q,h1,h2⟩:=rA (back:=sX 5 e f) (TT:=acm e f) (fun k hk=>⟨fun hp=>⟨⟨by omega,by omega⟩,⟨by omega,by omega⟩,yX (t:=.nd (du ((k:Int)+1)) (.lf (sX 5 e f ((k:Int)+1)))) ⟨⟨by omega,by omega⟩,rfl⟩ _ (by rw[CU];exact hp)⟩,fun hp=>⟨⟨by omega,by omega⟩,⟨by omega,by omega⟩,yY (ret:=.lf (yO 5)) rfl _ (by rw[CU];exact hp)⟩⟩) h;refine⟨q,h1,?_⟩;rcases h2 with⟨rfl,rfl|rfl⟩|⟨rfl,h3,h4⟩
 ·rfl
 ·rfl
 ·exact⟨h3,bM,h4⟩
theorem XQ:fO qRg 1 2 (eqL 8) eqO [] fun((e:o5),(f:o5),(i:Int),_)=>.nd (e.styl.length=f.styl.length) (KP (Ia 8 e f) (yO 8) (fun k=>bA (e.styl.getD k aw.zero) (f.styl.getD k aw.zero)) e.styl.length i):=by
 refine fS _ (nL _ _) 99 1 2 (eqL 8) eqO [] (fun((e:o5),(f:o5),(i:Int),_)=>.br (decide (i<e.styl.length)) (acl e f i) (.lf (Ia 8 e f))) (fun((e:o5),_,(i:Int),_)=>e.styl.length-i.toNat) ?_;rintro⟨(e:o5),(f:o5),(i:Int),_⟩ r rG ⟨bM,h⟩;have hl:e.styl.length≤9223372036854775807:=rG.1.2.2.2.2.2.2.1;obtain⟨q,h1,h2⟩:=rA (back:=sX 8 e f) (TT:=acl e f) (fun k hk=>⟨fun hp=>⟨⟨by omega,by omega⟩,⟨by omega,by omega⟩,yX (t:=.nd (du ((k:Int)+1)) (.lf (sX 8 e f ((k:Int)+1)))) ⟨⟨by omega,by omega⟩,rfl⟩ _ (by rw[CP];exact hp)⟩,fun hp=>⟨⟨by omega,by omega⟩,⟨by omega,by omega⟩,yY (ret:=.lf (yO 8)) rfl _ (by rw[CP];exact hp)⟩⟩) h;refine⟨q,h1,?_⟩;rcases h2 with⟨rfl,rfl|rfl⟩|⟨rfl,h3,h4⟩
 ·rfl
 ·rfl
 ·exact⟨h3,bM,h4⟩
def OL (e f:aa):List Bool:=[e.title.toList==f.title.toList,e.dots==f.dots,e.blank==f.blank,e.marked==f.marked,e.scan==f.scan,e.batch==f.batch,e.cell==f.cell,e.seed.toList==f.seed.toList,
 decide (e.risk.neg=f.risk.neg)&&(decide (e.risk.num=f.risk.num)&&decide (e.risk.den=f.risk.den)),decide (e.prec=f.prec),(e.cont.length:Int)==(f.cont.length:Int),(e.styl.length:Int)==(f.styl.length:Int)]
def eqB (e f:aa):T XV:=Dp (.lf (aB false)) (OL e f) (.nd (e.cont.length=f.cont.length) (.nd ((0:Int)≤0∧(0:Int)≤e.cont.length) (.br (xM (fun k=>bh (e.cont.getD k ah.zero) (f.cont.getD k ah.zero)) (e.cont.length-0) 0)
 (.nd (e.styl.length=f.styl.length) (.nd ((0:Int)≤0∧(0:Int)≤e.styl.length) (.br (xM (fun k=>bA (e.styl.getD k aw.zero) (f.styl.getD k aw.zero)) (e.styl.length-0) 0) (.lf (aB true)) (.lf (aB false))))) (.lf (aB false)))))
theorem Tb (e f:aa):Tc e f=((OL e f).all id&&(gW bh e.cont f.cont&&gW bA e.styl f.styl)):=by
 rw[ac3];simp only[Tc,OL,acr,acU,id,eu,aaO,decide_eq_true_eq,beq_iff_eq,adJ];constructor
 ·rintro⟨h1,h2,h3,h4,h5,h6,h7,h8,h9,h10,h11,h12,h13,h14⟩;exact⟨⟨h1,h2,h3,h4,h5,h6,h7,h8,⟨h9,h10,h11⟩,h12,wY h13,wY h14,trivial⟩,h13,h14⟩
 ·rintro⟨⟨h1,h2,h3,h4,h5,h6,h7,h8,⟨h9,h10,h11⟩,h12,_,_,_⟩,h13,h14⟩;exact⟨h1,h2,h3,h4,h5,h6,h7,h8,h9,h10,h11,h12,h13,h14⟩
theorem XT:ax Tryz.prog 33 false (aX [(0,sE),(1,sE)] fun((e:aa),(f:aa),_)=>.lf (aB (Tc e f))):=
 bT (C:=C11) (((nL _ _).add 0 _ XS).add 1 _ XQ) false 99 [(0,sE),(1,sE)] (fun((e:aa),(f:aa),_)=>eqB e f)
  (fun⟨(e:aa),(f:aa),_⟩ r _ h=>by
   obtain rfl:aB (Tc e f)=r:=h;refine⟨?_,.inr rfl⟩;show(eqB e f).hit _;unfold eqB;rw[Tb];cases dS:(OL e f).all id with
   | false=>exact yY (ret:=.lf (aB false)) rfl _ dS
   | true=>
    have Hr:e.cont.length=f.cont.length∧e.styl.length=f.styl.length:=by
     simp only[OL,acr,acU,id,aaO,beq_iff_eq,adJ] at dS;obtain⟨_,_,_,_,_,_,_,_,_,_,h1,h2,_⟩:=dS;exact⟨h1,h2⟩
    refine yX (r:=aB _) ?_ _ dS;refine⟨Hr.1,⟨by omega,by omega⟩,?_⟩;rw[Vj bh ah.zero Hr.1 0 (abS _),Vj bA aw.zero Hr.2 0 (abS _),acC,acC,acC,acC,acc];refine Hz fun _=>⟨Hr.2,⟨by omega,by omega⟩,?_⟩;cases gW bA e.styl f.styl with
    | true=>exact bf rfl rfl
    | false=>exact bw rfl rfl) Tryz.func33
theorem cP (l:List ByteArray) (s:ByteArray):bF l s=true↔s∈l:=Lib.containsS_iff l s
theorem JQ (l:List UInt8):kq l=iy l:=by
 rw[ac3];constructor
 ·intro h;unfold kq at h;simp only[aaO,decide_eq_true_eq,abq,acP,acD] at h;obtain⟨h1,h2,h3,h4⟩:=h;have hw:=lA h1;unfold iy;simp only[aaO,decide_eq_true_eq];refine⟨by rintro rfl;simp at h2,?_⟩;unfold gv;rw[hw.1,if_neg];rintro(h|h|⟨h,h'⟩|h)
  ·omega
  ·omega
  ·rcases h4 with h4|h4
   ·omega
   ·rw[h] at h4;simp at h4
  ·rw[abL (aaW _)] at h;simp at h
 ·intro h;obtain⟨h1,h2,h3⟩:=ic h;have hw:=lA h3;unfold iy at h;simp only[aaO,decide_eq_true_eq] at h;have h4:=h.2;have hl:1≤l.length:=by
   rcases l with _|⟨c,r⟩
   ·exact absurd rfl h1
   ·simp
  unfold kq;simp only[aaO,decide_eq_true_eq,abq,acP,acD];refine⟨h3,hl,h2,?_⟩;unfold gv at h4;rw[hw.1] at h4;by_cases i9:l.length=1
  ·exact .inl i9
  ·refine .inr ?_;by_cases h5:l.head?=some 48
   ·rw[if_pos (.inr (.inr (.inl ⟨h5,by omega⟩)))] at h4;omega
   ·simpa using h5
theorem BW {x:UInt8} {d:Nat} (h:Lib.digitVal x=some d) (n:Nat):dn (n:Int) x=((n*10+d:Nat):Int):=by
 unfold Lib.digitVal at h;split at h
 ·injection h with h
  unfold dn;omega
 ·cases h
theorem CM:∀(l:List UInt8) (fw n:Nat),Lib.decFrom fw l=some n→l.foldl dn (fw:Int)=(n:Int)
 | [],fw,n,h=>by simp only[Lib.decFrom,Option.some.injEq] at h;simp[h]
 | x::l,fw,n,h=>by
  simp only[Lib.decFrom] at h;cases hd:Lib.digitVal x with
  | none=>rw[hd] at h;cases h
  | some d=>
   rw[hd] at h;rw[adx,BW hd];exact CM l _ n h
theorem vn (l:List UInt8):(dz l).2=(cm l).2:=by
 unfold dz cm;rw[JQ];cases iy l<;>rfl
theorem vk {l:List UInt8} (h:(cm l).2=true):(dz l).1=(cm l).1:=by
 have hn:iy l=true:=by
  unfold cm at h;cases hb:iy l with
  | true=>rfl
  | false=>rw[hb] at h;simp at h
 obtain⟨h1,h2,h3⟩:=ic hn;obtain⟨n,hn2⟩:=k7 l 0 h3;have hd:Lib.decNat l=some n:=by
  unfold Lib.decNat;rw[if_neg (by cases l with|nil=>exact absurd rfl h1|cons _ _=>simp)];exact hn2
 unfold dz cm;rw[hn,if_pos rfl,hd,acV h2];exact CM l 0 n hn2
theorem Cq {c:UInt8} {r:List UInt8}:iS (c::r)=true↔iz (c::r)=true∧97≤c.toNat:=by
 constructor
 ·intro h;unfold iS at h;simp only[aaO,decide_eq_true_eq,List.head?_cons,adf,abF] at h;obtain⟨_,h2,h3⟩:=h;have hc:97≤c.toNat:=by
   unfold gh at h2;simp only[aaO,decide_eq_true_eq] at h2;exact h2.1
  refine⟨?_,hc⟩;unfold iz;rw[if_neg (by simp),if_pos];left
  unfold jX;simp only;rw[if_pos h2];exact h3
 ·rintro⟨h1,h2⟩;have JZ:∀q:List UInt8,iy (c::q)=true→False:=fun q h=>by
   have:=(ic h).2.2 c (by simp);unfold digitB at this;simp only[aaO,decide_eq_true_eq] at this;omega
  unfold iz at h1;rw[if_neg (by simp)] at h1;split at h1
  ·rename_i h3;rcases h3 with h3|h3
   ·unfold jX at h3;simp only at h3;by_cases hl:gh c=true
    ·rw[if_pos hl] at h3;unfold iS;simp only[aaO,decide_eq_true_eq,List.head?_cons,adf,abF];exact⟨by simp,hl,h3⟩
    ·rw[if_neg hl] at h3;simp at h3
   ·exfalso
    refine JZ r ?_;unfold iy;simp only[aaO,decide_eq_true_eq];exact⟨by simp,h3⟩
  ·exfalso
   simp only[aaO,decide_eq_true_eq] at h1;obtain⟨_,h4,_,h5,_⟩:=h1;have h6:iy (dU (c::r))=true:=by
    unfold iy;simp only[aaO,decide_eq_true_eq];exact⟨h4,h5⟩
   unfold dU at h6 h4;rw[List.takeWhile_cons] at h6 h4;split at h6
   ·exact JZ _ h6
   ·rename_i h7;rw[if_neg h7] at h4;exact h4 rfl
theorem Qn {l:List UInt8} (hl:l≠[]):iS l=false↔iz l=false∨((l[0]?).getD 0).toNat<97:=by
 cases l with
 | nil=>exact absurd rfl hl
 | cons c r=>
  have h:=Cq (c:=c) (r:=r);simp only[ads,abF];constructor
  ·intro h1;by_cases h2:97≤c.toNat
   ·left
    cases h3:iz (c::r) with
    | false=>rfl
    | true=>rw[h.2 ⟨h3,h2⟩] at h1;cases h1
   ·right;omega
  ·intro h1;cases h2:iS (c::r) with
   | false=>rfl
   | true=>
    obtain⟨h3,h4⟩:=h.1 h2;rcases h1 with h1|h1
    ·rw[h3] at h1;cases h1
    ·omega
theorem iw (s:Bool) {A B:Nat} (hB:0<B):0<(ek s A B).d∧(ek s A B).n*B=A*(ek s A B).d:=by
 unfold ek;split
 ·rename_i h;rcases h with h|h
  ·simp[h]
  ·omega
 ·rename_i h;have hA:0<A:=by omega
  refine⟨Nat.div_pos (Nat.gcd_le_right _ hB) (Nat.gcd_pos_of_pos_left _ hA),?_⟩;show A/Nat.gcd A B*B=A*(B/Nat.gcd A B);rw[Nat.div_mul_right_comm (Nat.gcd_dvd_left A B),Nat.mul_div_assoc _ (Nat.gcd_dvd_right A B)]
theorem fQ (s:Bool) {A B:Nat} (hB:0<B):((ek s A B).n=0↔A=0)∧(ek s A B).neg=(s&&!decide (A=0)):=by
 unfold ek;split
 ·rename_i h;rcases h with h|h
  ·simp[h]
  ·omega
 ·rename_i h;have hA:0<A:=by omega
  have hg:0<A/Nat.gcd A B:=Nat.div_pos (Nat.gcd_le_left _ hA) (Nat.gcd_pos_of_pos_left _ hA);refine⟨⟨fun h=>?_,fun h=>by omega⟩,by simp;omega⟩;have h1:A/Nat.gcd A B=0:=h;omega
theorem O6 {p q:Q} (hp:p.neg=false) (hq:q.neg=true∨q.n=0) (hpd:0<p.d) (UJ:0<q.d):(oe p q<0↔p.n*q.d<q.n*p.d)∧(0<oe p q↔q.n*p.d<p.n*q.d):=by
 have hd:0<p.d*q.d:=Nat.mul_pos hpd UJ;obtain⟨X,hX⟩:∃X,p.n*q.d=X:=⟨_,rfl⟩;obtain⟨Y,hY⟩:∃Y,q.n*p.d=Y:=⟨_,rfl⟩;unfold oe wZ;rw[hX,hY,hp];obtain⟨D,hD⟩:∃D,p.d*q.d=D:=⟨_,rfl⟩;rw[hD] at hd;rw[hD];have hs:pp false X q.neg Y=if Y≤X then(false,X-Y) else(true,Y-X):=by
  unfold pp;cases hn:q.neg with
  | true=>simp
  | false=>
   rcases hq with hq|hq
   ·rw[hn] at hq;cases hq
   ·have Ov:Y=0:=by rw[←hY,hq,Nat.zero_mul]
    subst Ov;simp
 rw[hs];by_cases h:Y≤X
 ·rw[if_pos h];have hz:=fQ false (A:=X-Y) hd;simp only[acx] at hz;rw[hz.2];by_cases h0:X-Y=0
  ·rw[if_neg (by simp),if_pos (hz.1.2 h0)];constructor<;>constructor<;>intro h'<;>omega
  ·rw[if_neg (by simp),if_neg (fun h'=>h0 (hz.1.1 h'))];constructor<;>constructor<;>intro h'<;>omega
 ·rw[if_neg h];have hz:=fQ true (A:=Y-X) hd;have h0:¬Y-X=0:=by omega
  rw[decide_eq_false h0] at hz;rw[if_pos (by rw[hz.2];rfl)];constructor<;>constructor<;>intro h'<;>omega
theorem lV (A C:Nat) {B D:Nat} (hB:0<B) (hD:0<D):(oZ (ek false A B) (ek false C D)<0↔A*D<C*B)∧(0<oZ (ek false A B) (ek false C D)↔C*B<A*D):=by
 have h1:=iw false (A:=A) hB;have h2:=iw false (A:=C) hD;have n1:=fQ false (A:=A) hB;obtain⟨a,ha⟩:∃a,ek false A B=a:=⟨_,rfl⟩;obtain⟨c,hc⟩:∃c,ek false C D=c:=⟨_,rfl⟩;rw[ha] at h1 n1;rw[hc] at h2;rw[ha,hc];have e1:a.raw.q=ek a.neg a.n a.d:=Q.raw_q a;have e2:c.raw.flip.q=ek (!c.neg) c.n c.d:=by simp[Q.raw,Raw.flip,Raw.q,bC]
 have c0:c.neg=false:=by rw[←hc];exact(fQ false hD).2
 have a0:a.neg=false:=n1.2;unfold oZ;rw[e1,e2,c0,a0];have p1:=iw false (A:=a.n) h1.1;have p2:=iw (!false) (A:=c.n) h2.1;have z1:=fQ false (A:=a.n) h1.1;have z2:=fQ (!false) (A:=c.n) h2.1;obtain⟨p,hp⟩:∃p,ek false a.n a.d=p:=⟨_,rfl⟩;obtain⟨q,hq⟩:∃q,ek (!false) c.n c.d=q:=⟨_,rfl⟩;rw[hp] at p1 z1;rw[hq] at p2 z2;rw[hp,hq];have W7:q.neg=true∨q.n=0:=by
  by_cases h:c.n=0
  ·exact .inr (z2.1.2 h)
  ·left;rw[z2.2,decide_eq_false h];rfl
 have hm:=O6 z1.2 W7 p1.1 p2.1;have x1:p.n*B=A*p.d:=by
  have:p.n*B*a.d=A*p.d*a.d:=by
   calc p.n*B*a.d=(p.n*a.d)*B:=by rw[adk]
    _=(a.n*p.d)*B:=by rw[p1.2]
    _=(a.n*B)*p.d:=by rw[adk]
    _=(A*a.d)*p.d:=by rw[h1.2]
    _=A*p.d*a.d:=by rw[adk]
  exact adC h1.1 this
 have x2:q.n*D=C*q.d:=by
  have:q.n*D*c.d=C*q.d*c.d:=by
   calc q.n*D*c.d=(q.n*c.d)*D:=by rw[adk]
    _=(c.n*q.d)*D:=by rw[p2.2]
    _=(c.n*D)*q.d:=by rw[adk]
    _=(C*c.d)*q.d:=by rw[h2.2]
    _=C*q.d*c.d:=by rw[adk]
  exact adC h2.1 this
 have hBD:0<B*D:=Nat.mul_pos hB hD;have hpq:0<p.d*q.d:=Nat.mul_pos p1.1 p2.1;have y1:(p.n*q.d)*(B*D)=(A*D)*(p.d*q.d):=by
  calc (p.n*q.d)*(B*D)=(p.n*B)*(q.d*D):=by rw[adb]
   _=(A*p.d)*(D*q.d):=by rw[x1,ady q.d D]
   _=(A*D)*(p.d*q.d):=by rw[adb]
 have y2:(q.n*p.d)*(B*D)=(C*B)*(p.d*q.d):=by
  calc (q.n*p.d)*(B*D)=(q.n*p.d)*(D*B):=by rw[ady B D]
   _=(q.n*D)*(p.d*B):=by rw[adb]
   _=(C*q.d)*(B*p.d):=by rw[x2,ady p.d B]
   _=(C*B)*(q.d*p.d):=by rw[adb]
   _=(C*B)*(p.d*q.d):=by rw[ady q.d p.d]
 have hlt:∀u v u' v':Nat,u*(B*D)=u'*(p.d*q.d)→v*(B*D)=v'*(p.d*q.d)→(u<v↔u'<v'):=fun u v u' v' e1 e2=>by
  rw[←Nat.mul_lt_mul_right hBD,e1,e2,Nat.mul_lt_mul_right hpq]
 exact⟨hm.1.trans (hlt _ _ _ _ y1 y2),hm.2.trans (hlt _ _ _ _ y2 y1)⟩
theorem oF (a b:Nat):fB a b=ek false a b:=by
 unfold fB;have h1:decide ((a:Int)<0)=false:=decide_eq_false (by omega);have h2:decide ((b:Int)<0)=false:=decide_eq_false (by omega);rw[h1,h2];simp
theorem qA (l:List UInt8):∃n:Nat,(cm l).1=(n:Int):=⟨(cm l).1.toNat,by have:=(ia l).1;omega⟩
theorem Tn {l:List UInt8} (h:jc l=false):(cm (dH l)).2=false:=by
 rcases jI l with h1|⟨k,_,h2,h3,_⟩
 ·rw[(wL h1).2.1];rfl
 ·rw[(qZ h2 h3).2.2] at h;cases h
theorem BD (l:List UInt8):(dP l).1=(iK l).1∧((iK l).1=0→(iK l).2=some (dP l).2):=by
 unfold dP iK;rw[vn,vn];by_cases hn:((cm (dU l)).2&&(cm (dH l)).2)=false
 ·rw[if_pos (.inr hn),if_pos hn];exact⟨rfl,fun h=>by cases h⟩
 ·have hc:¬jc l=false:=fun h=>hn (by rw[Tn h,Bool.and_false]);rw[if_neg (by rintro(h|h);exact hc h;exact hn h),if_neg hn];have uz:(cm (dU l)).2=true∧(cm (dH l)).2=true:=by
   revert hn
   cases (cm (dU l)).2<;>cases (cm (dH l)).2<;>simp
  rw[vk uz.1,vk uz.2];obtain⟨a,ha⟩:=qA (dU l);obtain⟨b,hb⟩:=qA (dH l);rw[ha,hb];have e1:fB 1 1000=ek false 1 1000:=oF 1 1000;have e2:fB 1 2=ek false 1 2:=oF 1 2;rw[oF,e1,e2];have abJ:((b:Int)=0∨1000*(a:Int)<b∨(b:Int)<2*a)↔((b:Int)=0∨oZ (ek false a b) (ek false 1 1000)<0∨0<oZ (ek false a b) (ek false 1 2)):=by
   by_cases hb0:b=0
   ·simp[hb0]
   ·have hbp:0<b:=by omega
    rw[(lV a 1 hbp (by omega:0<1000)).1,(lV a 1 hbp (by omega:0<2)).2];omega
  by_cases h4:(b:Int)=0∨1000*(a:Int)<b∨(b:Int)<2*a
  ·rw[if_pos h4,if_pos (abJ.1 h4)];exact⟨rfl,fun h=>by cases h⟩
  ·rw[if_neg h4,if_neg (fun h=>h4 (abJ.2 h))];exact⟨rfl,fun _=>rfl⟩
theorem EG (s:ByteArray):dE s 0 24=true↔¬(s≠⟨#[]⟩∧nS s=false):=by
 by_cases h:s=⟨#[]⟩
 ·subst h;simp;kernel_rfl
 ·have hs:1≤s.size:=by
   rcases adg s.size with h0|h0
   ·exfalso
    apply h;obtain⟨⟨l⟩⟩:=s;have:l.length=0:=h0;rw[abv this]
   ·exact h0
  have e:nS s=dE s 0 24:=by
   unfold nS dE;rw[decide_eq_true (by omega:(1:Int)≤(s.size:Int)),decide_eq_true (by omega:(0:Int)≤(s.size:Int))];rw[acc,acc,Bool.and_comm]
  rw[e];simp[h]
end Go.Proofs.YtjlhbfbdcfajfaaGreatDoor
