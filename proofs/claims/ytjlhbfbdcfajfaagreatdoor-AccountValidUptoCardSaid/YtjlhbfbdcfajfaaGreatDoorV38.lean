/- Vld1 Ref38 Tm18 Tp1 Ts1 Ts2 Ts3 Ts4 Tp2 -/
import Derived.Test.YtjlhbfbdcfajfaaGreatDoorV00
import Derived.Test.YtjlhbfbdcfajfaaGreatDoorV37
import Derived.Lib.ItoaLen
import Derived.Test.YtjlhbfbdcfajfaaGreatDoorV35
import Derived.Test.YtjlhbfbdcfajfaaGreatDoorV32
import Derived.Test.YtjlhbfbdcfajfaaGreatDoorV09
import Derived.Test.YtjlhbfbdcfajfaaGreatDoorV14
import Derived.Test.YtjlhbfbdcfajfaaGreatDoorV21
import Derived.Test.YtjlhbfbdcfajfaaGreatDoorV18
import Derived.Test.YtjlhbfbdcfajfaaGreatDoorV22
set_option maxHeartbeats 8000000
set_option maxRecDepth 100000
namespace Go.Proofs.YtjlhbfbdcfajfaaGreatDoor
open Go.RowKit Go
structure eJ (e:aa):Prop where
 title:dI e.title
 seed:dI e.seed
 prec:∀s∈e.prec,dI s
 cont:∀x∈e.cont,dI x.name∧∀s∈x.cands,dI s
 styl:∀x∈e.styl,dI x.name
 len:e.cont.length+e.styl.length≤34359738368
theorem bo {s:ByteArray} (h:s.size≤1000):dI s:=aa7 h (by omega)
theorem E6 {n:Int} (h:D9 n):dI (qL n):=by
 refine bo ?_;show(Lib.itoa n).toArray.size≤1000;rw[abW];unfold Lib.itoa;obtain⟨h1,h2⟩:=h;split
 ·have:=Lib.nDigits_le20 n.natAbs (by omega);rw[abs,Lib.decDigits_length];omega
 ·have:=Lib.nDigits_le20 n.toNat (by omega);rw[Lib.decDigits_length];omega
theorem wP (k:ByteArray):∀s∈bb k,s.size≤100:=by
 unfold bb
 repeat' split
 all_goals decide
theorem AO (k:ByteArray) (n:Int):dI (jt k n):=by
 refine bo ?_;unfold jt;split
 ·decide
 ·rw[aar];cases h:(bb k)[n.toNat-1]? with
  | none=>decide
  | some s=>exact aa7 (wP k s (acS h)) (by omega)
theorem B7 {fr:List ByteArray} (h:∀s∈fr,dI s) (i:Int):dI (nameAt fr i):=by
 unfold nameAt;split
 ·rw[aar];cases hh:fr[i.toNat]? with
  | none=>exact bo (by decide)
  | some s=>exact h s (acS hh)
 ·exact bo (by decide)
theorem tl {fr:List ByteArray} (h:∀s∈fr,dI s) (idx:List Int):∀s∈dF idx fr,dI s:=by
 intro s hs;obtain⟨i,_,rfl⟩:=ac1.1 hs;exact B7 h i
theorem uS {r:Raw} (h:r.short 67108864):dI ⟨(ik r.q).toArray⟩:=by
 obtain⟨h1,h2⟩:=mA h (by omega);have l1:=kZ h1;have l2:=kZ h2;show(ik r.q).toArray.size≤17592186044416;rw[abW];unfold ik;rw[aa8,aa8];have l3:(if r.q.neg then[45] else([]:List UInt8)).length≤1:=by split<;>simp
 have l4:(if bG r.q.d=[49] then[] else 47::bG r.q.d).length≤1+(bG r.q.d).length:=by split<;>simp;omega
 omega
def xc (f:ao):Prop:=II f∧f.vals.length≤274877906944
theorem nN {k s:ByteArray} (hk:k.size≤1000) (hs:dI s):xc ⟨k,[s],0⟩:=⟨⟨bo hk,by simpa using hs,by simp⟩,by simp⟩
theorem oC {k:ByteArray} {l:List ByteArray} (hk:k.size≤1000) (hl:∀s∈l,dI s) (hn:l.length≤274877906944):xc ⟨k,l,0⟩:=⟨⟨bo hk,hl,aa7 hn (by omega)⟩,hn⟩
theorem jZ {k:ByteArray} {n:Int} (hk:k.size≤1000) (h:D9 n):xc (gw k n):=nN hk (E6 h)
theorem uA {k:ByteArray} {n:Int} (hk:k.size≤1000):xc (jK k n):=nN hk (AO k n)
theorem ft {x:av} (hk:x.kind.size≤1000) (hn:dI x.name) (hl:x.fields.length≤1000) (hf:∀f∈x.fields,xc f):gZ x:=⟨bo hk,hn,aa7 hl (by omega),hf⟩
theorem AL {x:ah} (h:ow x) (hn:dI x.name) (hc:∀s∈x.cands,dI s):gZ (eW x):=by
 obtain⟨h1,h2,h3,h4,h5,h6,h7,h8⟩:=h;refine ft (abD rfl) hn ?_ ?_
 ·show([jK aM x.method,gw bc x.seats,gw bP x.ranks]++(if x.method=2 then[gw az x.digits] else[])++[jK cV x.ties,jK aU x.over,jK cW x.skip,(⟨cz,x.cands,0⟩:ao)]).length≤1000;split<;>simp
 ·intro f hf;have hf':f∈[jK aM x.method,gw bc x.seats,gw bP x.ranks]++(if x.method=2 then[gw az x.digits] else[])++[jK cV x.ties,jK aU x.over,jK cW x.skip,(⟨cz,x.cands,0⟩:ao)]:=hf;rcases acb.1 hf' with hf'|hf'
  ·rcases acb.1 hf' with hf'|hf'
   ·simp only[aba,abG,or_false] at hf';rcases hf' with rfl|rfl|rfl
    ·exact uA (by decide)
    ·exact jZ (by decide) h2
    ·exact jZ (by decide) h3
   ·split at hf'
    ·simp only[aba,abG,or_false] at hf';subst hf';exact jZ (by decide) h4
    ·cases hf'
  ·simp only[aba,abG,or_false] at hf';rcases hf' with rfl|rfl|rfl|rfl
   ·exact uA (by decide)
   ·exact uA (by decide)
   ·exact uA (by decide)
   ·exact oC (by decide) hc h8
theorem uT {prec conts:List ByteArray} {x:aw} (hx:x.prec.length≤274877906944∧x.cont.length≤274877906944) (hn:dI x.name) (hp:∀s∈prec,dI s) (hc:∀s∈conts,dI s):gZ (fk prec conts x):=by
 refine ft (abD rfl) hn (by simp[fk]) ?_;intro f hf;have hf':f∈[(⟨ae,dF x.prec prec,0⟩:ao),⟨ay,dF x.cont conts,0⟩]:=hf;simp only[aba,abG,or_false] at hf';rcases hf' with rfl|rfl
 ·exact oC (by decide) (tl hp _) (by unfold dF;rw[acn];exact hx.1)
 ·exact oC (by decide) (tl hc _) (by unfold dF;rw[acn];exact hx.2)
theorem LV {e:aa} (h:ga e) (hs:eJ e):DO (eL e):=by
 refine⟨hs.title,?_,fun x hx=>?_⟩
 ·have:=hs.len;simp only[eL,aa8,acn,abs,ab1];omega
 ·have hx':x∈([(⟨aP,⟨#[]⟩,[gw cZ e.dots,gw bp e.blank,gw aZ e.marked],0⟩:av),⟨au,⟨#[]⟩,[gw bV e.scan,gw bW e.batch],0⟩,⟨ae,⟨#[]⟩,[⟨bU,e.prec,0⟩],0⟩]
   ++e.cont.map eW++e.styl.map (fk e.prec (e.cont.map (·.name)))
   ++[⟨aO,⟨#[]⟩,[⟨bJ,[⟨(ik e.risk.q).toArray⟩],0⟩,⟨cH,[e.seed],0⟩],0⟩,⟨aW,⟨#[]⟩,[gw dB e.cell],0⟩]):=hx
  rcases acb.1 hx' with hx'|hx'
  ·rcases acb.1 hx' with hx'|hx'
   ·rcases acb.1 hx' with hx'|hx'
    ·simp only[aba,abG,or_false] at hx';rcases hx' with rfl|rfl|rfl
     ·refine ft (abD rfl) (bo (abD rfl)) (by simp) fun f hf=>?_;simp only[aba,abG,or_false] at hf;rcases hf with rfl|rfl|rfl
      ·exact jZ (by decide) h.dots
      ·exact jZ (by decide) h.blank
      ·exact jZ (by decide) h.marked
     ·refine ft (abD rfl) (bo (abD rfl)) (by simp) fun f hf=>?_;simp only[aba,abG,or_false] at hf;rcases hf with rfl|rfl
      ·exact jZ (by decide) h.scan
      ·exact jZ (by decide) h.batch
     ·refine ft (abD rfl) (bo (abD rfl)) (by simp) fun f hf=>?_;simp only[aba,abG,or_false] at hf;subst hf;exact oC (by decide) hs.prec h.lp
    ·obtain⟨c,hc,rfl⟩:=ac1.1 hx';exact AL (h.conts c hc) (hs.cont c hc).1 (hs.cont c hc).2
   ·obtain⟨c,hc,rfl⟩:=ac1.1 hx';refine uT (h.styls c hc) (hs.styl c hc) hs.prec fun s WY=>?_;obtain⟨d,hd,rfl⟩:=ac1.1 WY;exact(hs.cont d hd).1
  ·simp only[aba,abG,or_false] at hx';rcases hx' with rfl|rfl
   ·refine ft (abD rfl) (bo (abD rfl)) (by simp) fun f hf=>?_;simp only[aba,abG,or_false] at hf;rcases hf with rfl|rfl
    ·exact nN (by decide) (uS h.short)
    ·exact nN (by decide) hs.seed
   ·refine ft (abD rfl) (bo (abD rfl)) (by simp) fun f hf=>?_;simp only[aba,abG,or_false] at hf;subst hf;exact jZ (by decide) h.cell
def oo (v:aC):Prop:=v.risk.short 2
theorem BE (l:List UInt8) (r:Raw) (h:(iK l).2=some r):r.short 2:=by
 unfold iK at h;split at h
 ·cases h
 split at h
 ·cases h
 ·injection h with h
  subst h;have h1:=ia (dU l);have h2:=ia (dH l);exact yf _ _ _ (by omega) (by omega)
theorem Jx {key s:ByteArray} {v:aC} (h:oo v):oo (xy key s v).2:=by
 unfold xy;split
 ·exact h
 split
 ·show oo (v.withRisk _);unfold aC.withRisk;split
  ·exact h
  ·rename_i r hr;exact BE _ r hr
 split
 ·split
  ·exact h
  ·exact h
 split
 ·exact h
 split
 ·exact h
 ·exact h
theorem vc {kind:ByteArray} {f:ao} {v:aC} (h:oo v):oo (aY kind f v).2:=by
 unfold aY;split
 ·exact h
 split
 ·exact h
 split
 ·exact h
 split
 ·exact h
 ·exact Jx h
theorem tj {kind:ByteArray}:∀{fs:List ao} {v:aC},oo v→oo (eY kind fs v).2
 | [],v,h=>h
 | f::l,v,h=>by
  unfold eY;split
  ·exact vc h
  ·exact tj (vc h)
theorem tH {x:av} {b:cG} (h:b.e.risk.short 2):(ig x b).2.e.risk.short 2:=by
 have hz:oo aC.zero:=⟨abS _,abS _⟩;unfold ig;split
 ·exact h
 split
 ·exact h
 split
 ·exact h
 ·show(bE x.kind x.name (eY x.kind x.fields aC.zero).2 (b.named x.kind x.name)).e.risk.short 2;have hr:(eY x.kind x.fields aC.zero).2.risk.short 2:=tj hz;unfold bE
  repeat' split
  all_goals first|exact h|exact hr
theorem rk:∀{l:List av} {b:cG},b.e.risk.short 2→(dO l b).2.e.risk.short 2
 | [],b,h=>h
 | x::l,b,h=>by
  unfold dO;split
  ·exact tH h
  ·exact rk (tH h)
theorem wO (s:cJ):(dw s).1.risk.short 67108864:=by
 have hz:aa.zero.risk.short 67108864:=⟨abS _,abS _⟩;unfold dw;split
 ·exact hz
 split
 ·exact hz
 split
 ·exact hz
 split
 ·exact hz
 ·have:(dO s.blocks (cG.start s.title)).2.e.risk.short 2:=rk ⟨abS _,abS _⟩;exact⟨aa7 this.1 (by omega),aa7 this.2 (by omega)⟩
theorem Kq {n:Int}:dI (Dc n):=by
 unfold Dc;split
 ·exact bo (by decide)
 ·rename_i h;refine bo ?_;show(bG n.toNat).toArray.size≤1000;rw[abW,←yU,Lib.decDigits_length];have:=Lib.nDigits_le20 n.toNat (by omega);omega
theorem Eg {n:Int} {l:List ByteArray} (h:∀s∈l,s.size≤1000):dI (o7 n l):=by
 refine bo ?_;unfold o7;split
 ·decide
 ·rw[aar];cases hh:l[n.toNat-1]? with
  | none=>decide
  | some s=>exact h s (acS hh)
theorem gH {k:ByteArray} {n:Int} (hk:k.size≤1000):xc (dZ k n):=nN hk Kq
theorem oK {k:ByteArray} {n:Int} {l:List ByteArray} (hk:k.size≤1000) (h:∀s∈l,s.size≤1000):xc (fU k n l):=nN hk (Eg h)
theorem AM {x:ah} (h8:x.cands.length≤274877906944) (hn:dI x.name) (hc:∀s∈x.cands,dI s):gZ (dV x):=by
 refine ft (abD rfl) hn ?_ ?_
 ·show([fU aM x.method ew,dZ bc x.seats,dZ bP x.ranks]++(if x.method=2 then[dZ az x.digits] else[])++[fU cV x.ties iH,fU aU x.over iJ,fU cW x.skip iI,(⟨cz,x.cands,0⟩:ao)]).length≤1000;split<;>simp
 ·intro f hf;have hf':f∈[fU aM x.method ew,dZ bc x.seats,dZ bP x.ranks]++(if x.method=2 then[dZ az x.digits] else[])++[fU cV x.ties iH,fU aU x.over iJ,fU cW x.skip iI,(⟨cz,x.cands,0⟩:ao)]:=hf;rcases acb.1 hf' with hf'|hf'
  ·rcases acb.1 hf' with hf'|hf'
   ·simp only[aba,abG,or_false] at hf';rcases hf' with rfl|rfl|rfl
    ·exact oK (by decide) (by decide)
    ·exact gH (by decide)
    ·exact gH (by decide)
   ·split at hf'
    ·simp only[aba,abG,or_false] at hf';subst hf';exact gH (by decide)
    ·cases hf'
  ·simp only[aba,abG,or_false] at hf';rcases hf' with rfl|rfl|rfl|rfl
   ·exact oK (by decide) (by decide)
   ·exact oK (by decide) (by decide)
   ·exact oK (by decide) (by decide)
   ·exact oC (by decide) hc h8
theorem IZ {e:aa} (h:ga e) (hs:eJ e):DO (eK e):=by
 refine⟨hs.title,?_,fun x hx=>?_⟩
 ·have:=hs.len;simp only[eK,aa8,acn,abs,ab1];omega
 ·have hx':x∈([(⟨aP,⟨#[]⟩,[dZ cZ e.dots,dZ bp e.blank,dZ aZ e.marked],0⟩:av),⟨au,⟨#[]⟩,[dZ bV e.scan,dZ bW e.batch],0⟩,⟨ae,⟨#[]⟩,[⟨bU,e.prec,0⟩],0⟩]
   ++e.cont.map dV++e.styl.map (fk e.prec (e.cont.map (·.name)))
   ++[⟨aO,⟨#[]⟩,[⟨bJ,[⟨(ik e.risk.q).toArray⟩],0⟩,⟨cH,[e.seed],0⟩],0⟩,⟨aW,⟨#[]⟩,[dZ dB e.cell],0⟩]):=hx
  rcases acb.1 hx' with hx'|hx'
  ·rcases acb.1 hx' with hx'|hx'
   ·rcases acb.1 hx' with hx'|hx'
    ·simp only[aba,abG,or_false] at hx';rcases hx' with rfl|rfl|rfl
     ·refine ft (abD rfl) (bo (abD rfl)) (by simp) fun f hf=>?_;simp only[aba,abG,or_false] at hf;rcases hf with rfl|rfl|rfl
      ·exact gH (by decide)
      ·exact gH (by decide)
      ·exact gH (by decide)
     ·refine ft (abD rfl) (bo (abD rfl)) (by simp) fun f hf=>?_;simp only[aba,abG,or_false] at hf;rcases hf with rfl|rfl
      ·exact gH (by decide)
      ·exact gH (by decide)
     ·refine ft (abD rfl) (bo (abD rfl)) (by simp) fun f hf=>?_;simp only[aba,abG,or_false] at hf;subst hf;exact oC (by decide) hs.prec h.lp
    ·obtain⟨c,hc,rfl⟩:=ac1.1 hx';obtain⟨_,_,_,_,_,_,_,h8⟩:=h.conts c hc;exact AM h8 (hs.cont c hc).1 (hs.cont c hc).2
   ·obtain⟨c,hc,rfl⟩:=ac1.1 hx';refine uT (h.styls c hc) (hs.styl c hc) hs.prec fun s WY=>?_;obtain⟨d,hd,rfl⟩:=ac1.1 WY;exact(hs.cont d hd).1
  ·simp only[aba,abG,or_false] at hx';rcases hx' with rfl|rfl
   ·refine ft (abD rfl) (bo (abD rfl)) (by simp) fun f hf=>?_;simp only[aba,abG,or_false] at hf;rcases hf with rfl|rfl
    ·exact nN (by decide) (uS h.short)
    ·exact nN (by decide) hs.seed
   ·refine ft (abD rfl) (bo (abD rfl)) (by simp) fun f hf=>?_;simp only[aba,abG,or_false] at hf;subst hf;exact gH (by decide)
noncomputable def C13:iZ Tryz.prog:=d9 Ul [⟨_,_,_,I3⟩,⟨_,_,_,ED⟩,⟨_,_,_,Dk⟩,⟨_,_,_,XT⟩] []
def vlT (e:aa):T XV:=.br (!(ll e)) (.lf (aB false)) (.nd (Ib e) (.nd (EA (eK e)) (.br (decide ((gB (eK e)).2.no=0)) (.br true (.lf (aB (Tc (gB (eK e)).1 e))) (.lf (aB false))) (.br ((gB (eK e)).2.no==0) (.lf (aB (Tc .zero e))) (.lf (aB false))))))
theorem X4 {e:aa} (h:ll e=true):Ib e:=by
 unfold ll at h;simp only[aaO,decide_eq_true_eq,abq] at h;obtain⟨h1,h2,h3,h4,h5,h6,h7⟩:=h;have hn:val e.risk.num<4294967296:=abw (ey _) (by rw[show(4294967296:Nat)=4294967296^1 from rfl];exact ada (by decide) h4);have hd:val e.risk.den<4294967296:=abw (ey _) (by rw[show(4294967296:Nat)=4294967296^1 from rfl];exact ada (by decide) h5);obtain⟨q1,q2⟩:=MV e.risk.neg (val e.risk.num) (val e.risk.den);have hb:(4294967296:Nat)≤2^200:=by decide
 exact⟨by omega,by omega,by omega,fun c hc=>aa7 (h6 c hc) (by decide),fun y hy=>⟨aa7 (h7 y hy).1 (by decide),aa7 (h7 y hy).2 (by decide)⟩,⟨aa7 h4 (by decide),aa7 h5 (by decide)⟩,
  abw (Nat.lt_of_le_of_lt q1 hn) hb,abw (Nat.lt_of_le_of_lt q2 (by omega)) hb⟩
theorem QB {s:cJ} (h:DO s):EA s:=by
 obtain⟨h1,h2,h3⟩:=h;refine⟨aa7 h1 (by decide),aa7 h2 (by decide),fun b hb=>?_⟩;obtain⟨g1,g2,g3,g4⟩:=h3 b hb;exact⟨aa7 g2 (by decide),aa7 g3 (by decide),fun f hf=>⟨⟨fun s hs=>aa7 ((g4 f hf).1.2.1 s hs) (by decide),(g4 f hf).1.2.2⟩,aa7 g1 (by decide),aa7 (g4 f hf).1.1 (by decide)⟩⟩
theorem IR:ax Tryz.prog 12 false (aX [(0,sE)] fun((e:aa),_)=>.nd (ga e∧eJ e) (.lf (aB (nC e)))):=
 bT (C:=C13) (nL _ _) false 99 [(0,sE)] (fun((e:aa),_)=>vlT e)
  (fun⟨(e:aa),_⟩ r _ ⟨⟨h1,h2⟩,h⟩=>by
   obtain rfl:aB (nC e)=r:=h;refine⟨?_,.inr rfl⟩;show(vlT e).hit _;unfold vlT nC;cases hs:ll e with
   | false=>exact bf rfl rfl
   | true=>
    rw[acc];refine bw rfl ⟨X4 hs,QB (IZ h1 h2),?_⟩;by_cases hn:(gB (eK e)).2.no=0
    ·rw[decide_eq_true hn,acc];exact bf rfl (bf rfl rfl)
    ·rw[decide_eq_false hn,acx];exact bw rfl (bw (beq_eq_false_iff_ne.2 hn) rfl)) Tryz.func12
section
variable {w w':World} {S:Nat→Prop} {e:Ending} {P:Program} {f:FuncId}
abbrev Ui (w:World) (S:Nat→Prop) (al:Bool) (x:XV) (e:Ending) (w':World):Prop:=∃v S',e=.returned v∧Below w.heap.size w w'∧(∀b,S' b→(al=true∧S b)∨(w.heap.size≤b∧b<w'.heap.size))∧XR [] w' S' x v
theorem Hl:∀{n:Nat} {l:List XV} {t:Nat} {y:XV},(t,y)∈qM n l→n≤t
 | _,[],_,_,h=>by cases h
 | n,x::l,t,y,h=>by
  rcases aba.1 h with e|h
  ·injection e with e _;omega
  ·have:=Hl h;omega
theorem Z9 {w:World} {S:Nat→Prop}:∀{us vs:List Value} {n:Nat},vs.length=us.length→(∀t y,(t,y)∈qM n (us.map fun u=>XV.one (.sym u))→∃v,vs[t-n]?=some v∧XR [] w S y v)→vs=us
 | [],[],_,_,_=>rfl
 | [],_::_,_,h,_=>by cases h
 | _::_,[],_,h,_=>by cases h
 | u::us,v::vs,n,hl,h=>by
  obtain⟨v',h1,h2,_⟩:=h n _ aaS;rw[Nat.sub_self] at h1;injection h1 with h1
  subst h1 h2;refine congrArg (v::·) (Z9 (w:=w) (S:=S) (n:=n+1) (by simpa using hl) fun t y hy=>?_);obtain⟨k,rfl⟩:∃k,t=n+1+k:=⟨t-(n+1),by have:=Hl hy;omega⟩;have:=h _ y (aa9 _ hy);rw[show n+1+k-n=k+1 by omega] at this;rw[show n+1+k-(n+1)=k by omega];exact this
theorem wT {al:Bool} {l0:List (Nat×SS)} {G:ct l0→T XV} (us:ct l0→List Value) (h:∀(w:World) (S:Nat→Prop) (x:ct l0) (r:XV),Wd w→(G x).hit r→Calls P f (us x).toArray w (Ui w S al r)) (hu:∀x,(di l0 x).env=qM 0 ((us x).map fun u=>XV.one (.sym u)):=by intro x;rfl) (hl:∀x,(us x).length=l0.length:=by intro x;rfl) (mY:∀x:ct l0,(di l0 x).heap=[]:=by intro x;rfl):ax P f al (aX l0 G):=
 zJ (fun w S x vs r hW hS he Bc hr=>by
  obtain rfl:vs=us x:=Z9 (n:=0) (Bc.trans (hl x).symm) fun t y hy=>he t y (by rw[hu x];exact hy);exact h w S x r hW hr) mY
theorem FW {al:Bool} {v:Value} (hv:v.oneCell'=true) (h:j5 w v e w'):Ui w S al (.one (.sym v)) e w':=⟨v,fun _=>False,h.1,h.2,fun _ q=>q.elim,rfl,hv⟩
theorem aiM {al:Bool} {x:XV} {v:Value} (hx:XR [] w' (fun _=>False) x v) (h:xb w v e w'):Ui w S al x e w':=⟨v,fun _=>False,h.1,by obtain⟨n,rfl⟩:=h.2;exact below_drewN (Below.refl _ _) n,fun _ q=>q.elim,hx⟩
theorem aiL {al:Bool} {x:XV} {v:Value} (hx:XR [] w' (fun _=>False) x v) (h:j5 w v e w'):Ui w S al x e w':=⟨v,fun _=>False,h.1,h.2,fun _ q=>q.elim,hx⟩
theorem xrT:∀{us:List Value},(∀u∈us,u.oneCell'=true)→XR [] w S (.tup (us.map fun u=>(false,[.sym u]))) (.tuple us.toArray):=fun {us} h=>⟨us,rfl,by
 induction us with
 | nil=>exact .nil
 | cons u us ih=>exact .cons ⟨_,rfl,rfl,h u aaS⟩ (ih fun v hv=>h v (aa9 _ hv))⟩
end
theorem xY:ax Tryz.prog 64 false (aX [(0,sS),(1,sI),(2,sI)] fun((s:ByteArray),(a:Int),(b:Int),_)=>.nd (dI s) (.lf (aB (dE s a b)))):=
 wT (fun((s:ByteArray),(a:Int),(b:Int),_)=>[.string s,.int .i64 a,.int .i64 b]) fun w S ⟨(s:ByteArray),(a:Int),(b:Int),_⟩ r _ ⟨hs,hr⟩=>by
  obtain rfl:aB (dE s a b)=r:=hr;exact Calls.mono (BR s a b w hs) fun _ _ h=>FW rfl h
abbrev aT (us:List Value):XV:=.tup (us.map fun u=>(false,[.sym u]))
theorem GK:ax Tryz.prog 150 false (aX [(0,sS)] fun((s:ByteArray),_)=>.nd (s.size≤9223372036854775807) (.lf (aT [.int .i64 (cm s.data.toList).1,.bool (cm s.data.toList).2]))):=
 wT (fun((s:ByteArray),_)=>[.string s]) fun w S ⟨(s:ByteArray),_⟩ r _ ⟨hs,hr⟩=>by
  obtain rfl:aT [.int .i64 (cm s.data.toList).1,.bool (cm s.data.toList).2]=r:=hr;exact Calls.mono (Wg s w hs) fun _ _ h=>aiL (xrT (us:=[.int .i64 (cm s.data.toList).1,.bool (cm s.data.toList).2]) (by simp[Value.oneCell'])) h
theorem To:ax Tryz.prog 148 false (aX [(0,sS),(1,sS)] fun((s:ByteArray),(t:ByteArray),_)=>.nd (s.size≤9223372036854775807∧t=⟨#[47]⟩) (.lf (aT [.string ⟨(dU s.data.toList).toArray⟩,.string ⟨(dH s.data.toList).toArray⟩,.bool (jc s.data.toList)]))):=
 wT (fun((s:ByteArray),(t:ByteArray),_)=>[.string s,.string t]) fun w S ⟨(s:ByteArray),(t:ByteArray),_⟩ r _ ⟨⟨hs,ht⟩,hr⟩=>by
  obtain rfl:aT [.string ⟨(dU s.data.toList).toArray⟩,.string ⟨(dH s.data.toList).toArray⟩,.bool (jc s.data.toList)]=r:=hr;subst ht;exact Calls.mono (OW s w hs) fun _ _ h=>aiM (xrT (us:=[.string ⟨(dU s.data.toList).toArray⟩,.string ⟨(dH s.data.toList).toArray⟩,.bool (jc s.data.toList)]) (by simp[Value.oneCell'])) h
theorem Pv:ax Tryz.prog 120 false (aX [(0,sS)] fun((s:ByteArray),_)=>.nd (s.size≤9223372036854775807) (.lf (aB (iz s.data.toList)))):=
 wT (fun((s:ByteArray),_)=>[.string s]) fun w S ⟨(s:ByteArray),_⟩ r _ ⟨hs,hr⟩=>by
  obtain rfl:aB (iz s.data.toList)=r:=hr;exact Calls.mono (Is s w hs) fun _ _ h=>FW rfl h
theorem SV.xr {w:World} {S:Nat→Prop} {v:Value} (k:Nat) {x:FY k} (h:@SV _ (xR k) w S v x):XR [] w S (.agg (lR (.st k) x)) v:=let ⟨cs,e,h⟩:=h;⟨cs,e,j2 (t:=.st k) h⟩
theorem OC:ax Tryz.prog 178 false (aX [(0,sI),(1,sI)] fun((a:Int),(b:Int),_)=>.nd (du a∧du b) (.lf (.agg (lR (.st 8) (fB a b).raw)))):=
 wT (fun((a:Int),(b:Int),_)=>[.int .i64 a,.int .i64 b]) fun w S ⟨(a:Int),(b:Int),_⟩ r _ ⟨⟨⟨h1,h2⟩,h3,h4⟩,hr⟩=>by
  obtain rfl:XV.agg (lR (.st 8) (fB a b).raw)=r:=hr;refine Calls.mono (S6 a b w h1 h2 h3 h4) fun e w' ⟨v,e1,e2,e3⟩=>⟨v,cQ w w',e1,e3,fun b q=>.inr q,SV.xr 8 (x:=(fB a b).raw) e2⟩
theorem FU {w:World} {S:Nat→Prop} {x:Raw} {v:Value} (h:XR [] w S (.agg (lR (.st 8) x)) v):SV w S v x:=by
 obtain⟨vs,rfl,hf⟩:=h;exact⟨vs,rfl,lh (t:=.st 8) (us:=lR (.st 8) x) rfl hf⟩
theorem Ij:ax Tryz.prog 81 false (aX [(0,.st 8),(1,.st 8)] fun((a:Raw),(b:Raw),_)=>.nd (a.short 67108864∧b.short 67108864) (.lf (aI (oe a.q b.flip.q)))):=
 gr fun w S x vs r hS he hl hr=>by
  obtain⟨(a:Raw),(b:Raw),_⟩:=x;obtain⟨v,h1,h2⟩:=he 0 (.agg (lR (.st 8) a)) aaS;obtain⟨v',i9,Bg⟩:=he 1 (.agg (lR (.st 8) b)) (aa9 _ aaS);obtain⟨⟨k1,k2⟩,rfl⟩:=hr
  match vs,hl,h1,i9 with
  | [u,u'],_,h1,i9=>
   injection h1 with h1
   injection i9 with i9
   subst h1 i9;exact Calls.mono (Tw (FU h2) (FU Bg) hS hS k1 k2) fun e w' h=>⟨_,fun _=>False,h.1,h.2,fun _ q=>q.elim,rfl,rfl⟩
theorem RH:ax Tryz.prog 124 false (aX [(0,sL),(1,sI)] fun((l:List ByteArray),(n:Int),_)=>.nd (∀s∈l,dI s) (.lf (aI (eD l n)))):=
 gr fun w S x vs r hS he hl hr=>by
  obtain⟨(l:List ByteArray),(n:Int),_⟩:=x;obtain⟨v,h1,A,q,c,h2,h3,_⟩:=he 0 (.one (.list .str l false)) aaS;obtain⟨v',i9,Bg,_⟩:=he 1 (aI n) (aa9 _ aaS);obtain⟨hn,rfl⟩:=hr
  match vs,hl,h1,i9 with
  | [u,u'],_,h1,i9=>
   injection h1 with h1
   injection i9 with i9
   subst h1 i9 h2 Bg;exact Calls.mono (RF n h3 hS hn) fun _ _ h=>FW rfl h
theorem Hm:ax Tryz.prog 98 false (aX [(0,sL),(1,sS)] fun((l:List ByteArray),(s:ByteArray),_)=>.lf (aI (Lib.idxOfS l s))):=
 gr fun w S x vs r hS he hl hr=>by
  obtain⟨(l:List ByteArray),(s:ByteArray),_⟩:=x;obtain⟨v,h1,A,q,c,h2,h3,_⟩:=he 0 (.one (.list .str l false)) aaS;obtain⟨v',i9,Bg,_⟩:=he 1 (aS s) (aa9 _ aaS);obtain rfl:=hr
  match vs,hl,h1,i9 with
  | [u,u'],_,h1,i9=>
   injection h1 with h1
   injection i9 with i9
   subst h1 i9 h2 Bg;exact Calls.mono (R4 h3 s) fun _ _ h=>FW rfl ⟨h.1,h.2▸Below.refl _ _⟩
theorem HJ:ax Tryz.prog 121 false (aX [(0,sL),(1,sS)] fun((l:List ByteArray),(s:ByteArray),_)=>.lf (aB (Lib.containsS l s))):=
 gr fun w S x vs r hS he hl hr=>by
  obtain⟨(l:List ByteArray),(s:ByteArray),_⟩:=x;obtain⟨v,h1,A,q,c,h2,h3,_⟩:=he 0 (.one (.list .str l false)) aaS;obtain⟨v',i9,Bg,_⟩:=he 1 (aS s) (aa9 _ aaS);obtain rfl:=hr
  match vs,hl,h1,i9 with
  | [u,u'],_,h1,i9=>
   injection h1 with h1
   injection i9 with i9
   subst h1 i9 h2 Bg;exact Calls.mono (rh h3 s) fun _ _ h=>FW rfl ⟨h.1,h.2▸Below.refl _ _⟩
theorem tc:ax Tryz.prog 69 false (aX [(0,sL)] fun((l:List ByteArray),_)=>.nd (l.length≤1099511627776) (.lf (.one (.list .str l false)))):=
 gr fun w S x vs r hS he hl hr=>by
  obtain⟨(l:List ByteArray),_⟩:=x;obtain⟨v,h1,A,q,c,h2,h3,_⟩:=he 0 (.one (.list .str l false)) aaS;obtain⟨hn,rfl⟩:=hr
  match vs,hl,h1 with
  | [u],_,h1=>
   injection h1 with h1
   subst h1 h2;refine Calls.mono (Kx h3 (by rw[←h3.len];exact hn)) fun e w' h=>?_;obtain⟨v',rfl,ho,h2⟩:=h;obtain⟨A,q,c,rfl,_⟩:=ho.slice;exact⟨_,cQ w w',rfl,h2,fun b q=>.inr q,A,q,c,rfl,ho.fresh (aaW _),fun e=>by cases e⟩
def Va (F:ByteArray→XV) (d:XV) (k:ByteArray):List ByteArray→T XV
 | []=>.lf d
 | a::l=>.br (k.toList==a.toList) (.lf (F a)) (Va F d k l)
theorem Il {F:ByteArray→XV} {d:XV} {k:ByteArray}:∀{l:List ByteArray},(k∉l→∀(w:World) (S:Nat→Prop) (v:Value),XR [] w S d v→XR [] w S (F k) v)→∃q,(Va F d k l).hit q∧∀(w:World) (S:Nat→Prop) (v:Value),XR [] w S q v→XR [] w S (F k) v
 | [],h=>⟨_,rfl,h (by simp)⟩
 | a::l,h=>by
  by_cases e:k=a
  ·subst e;exact⟨_,bf (by simp) rfl,fun _ _ _ h=>h⟩
  ·obtain⟨q,h1,h2⟩:=Il (k:=k) (l:=l) fun hl=>h (by simp[e,hl]);exact⟨q,bw (by rw[eu];exact decide_eq_false e) h1,h2⟩
theorem wQ {f:FuncId} {F:ByteArray→XV} {d:XV} {l:List ByteArray} (h:ax Tryz.prog f true (aX [(0,sS)] fun((k:ByteArray),_)=>Va F d k l)) (hd:∀k,k∉l→F k=d∨∃xs:List ByteArray,xs=[]∧F k=.one (.list .str xs true)∧d=.one (.val (.slice none 0 0))):ax Tryz.prog f true (aX [(0,sS)] fun((k:ByteArray),_)=>.lf (F k)):=
 h.imp fun⟨(k:ByteArray),_⟩ r hr=>by
  obtain rfl:F k=r:=hr;refine Il fun hn w S v hv=>?_;rcases hd k hn with e|⟨xs,e,e1,e2⟩
  ·rw[e];exact hv
  ·subst e;rw[e1];rw[e2] at hv;exact⟨none,0,0,hv.1,RS.nil _ _,fun _ _=>rfl⟩
abbrev Vk (xs:List ByteArray):XV:=.one (.list .str xs true)
abbrev aaG:XV:=.one (.val (.slice none 0 0))
theorem sG:ax Tryz.prog 118 true (aX [(0,sS)] fun((k:ByteArray),_)=>.lf (Vk (aJ k))):=
 wQ (F:=fun k=>Vk (aJ k)) (bT (C:=C0) (nL _ _) true 99 [(0,sS)] (fun((k:ByteArray),_)=>Va (fun k=>Vk (aJ k)) aaG k fa) (fun _ _ _ h=>⟨h,.inl rfl⟩) Tryz.func118) fun k h=>.inr ⟨_,by simp only[fa,aba,abG,or_false,not_or] at h;simp[aJ,h],rfl,rfl⟩
abbrev aik:List ByteArray:=[⟨#[109,101,116,104,111,100]⟩,⟨#[116,105,101,115]⟩,⟨#[111,118,101,114,118,111,116,101]⟩,⟨#[115,107,105,112]⟩]
theorem Do:ax Tryz.prog 128 true (aX [(0,sS)] fun((k:ByteArray),_)=>.lf (Vk (bb k))):=
 wQ (F:=fun k=>Vk (bb k)) (bT (C:=C0) (nL _ _) true 99 [(0,sS)] (fun((k:ByteArray),_)=>Va (fun k=>Vk (bb k)) aaG k aik) (fun _ _ _ h=>⟨h,.inl rfl⟩) Tryz.func128) fun k h=>.inr ⟨_,by simp only[aba,abG,or_false,not_or] at h;simp[bb,h],rfl,rfl⟩
theorem RO:ax Tryz.prog 123 true (aX [(0,sS)] fun((k:ByteArray),_)=>.lf (aI (dd k))):=
 wQ (F:=fun k=>aI (dd k)) (bT (C:=C0) (nL _ _) true 99 [(0,sS)] (fun((k:ByteArray),_)=>Va (fun k=>aI (dd k)) (aI 0) k [⟨#[110,97,109,101,115]⟩,⟨#[112,114,101,99,105,110,99,116,115]⟩,⟨#[99,111,110,116,101,115,116,115]⟩,⟨#[99,97,110,100,105,100,97,116,101,115]⟩]) (fun _ _ _ h=>⟨h,.inl rfl⟩) Tryz.func123) fun k h=>.inl (by simp only[aba,abG,or_false,not_or] at h;simp[dd,h])
theorem TA:ax Tryz.prog 122 true (aX [(0,sS)] fun((k:ByteArray),_)=>.lf (aI (eg k))):=
 wQ (F:=fun k=>aI (eg k)) (bT (C:=C0) (nL _ _) true 99 [(0,sS)] (fun((k:ByteArray),_)=>Va (fun k=>aI (eg k)) (aI 6) k [af]) (fun _ _ _ h=>⟨h,.inl rfl⟩) Tryz.func122) fun k h=>.inl (by simp only[acB] at h;rw[show eg k=6 from if_neg h])
theorem TE:ax Tryz.prog 151 true (aX [(0,sS)] fun((k:ByteArray),_)=>.lf (aT [.int .i64 (fj k).1,.int .i64 (fj k).2])):=
 wQ (F:=fun k=>aT [.int .i64 (fj k).1,.int .i64 (fj k).2]) (bT (C:=C0) (nL _ _) true 99 [(0,sS)] (fun((k:ByteArray),_)=>Va (fun k=>aT [.int .i64 (fj k).1,.int .i64 (fj k).2]) (aT [.int .i64 0,.int .i64 0]) k
  [⟨#[100,111,116,115]⟩,bp,aZ,⟨#[99,111,117,110,116]⟩,⟨#[98,97,116,99,104]⟩,bc,⟨#[114,97,110,107,115]⟩,az,⟨#[99,101,108,108]⟩]) (fun _ _ _ h=>⟨h,.inl rfl⟩) Tryz.func151) fun k h=>.inl (by simp only[bp,aZ,bc,az,aba,abG,or_false,not_or] at h;simp[fj,h])
theorem JD:ax Tryz.prog 119 true (aX [(0,sS)] fun((k:ByteArray),_)=>.lf (aB (mD k))):=
 bT (C:=C0) (nL _ _) true 99 [(0,sS)] (fun((k:ByteArray),_)=>.br (k.toList==af.toList) (.lf (aB true)) (.lf (aB (k.toList==(⟨#[115,116,121,108,101]⟩:ByteArray).toList)))) (fun⟨(k:ByteArray),_⟩ r _ h=>⟨by
  obtain rfl:aB (mD k)=r:=h;show(T.br _ _ _).hit (aB (if k=af then true else if k=⟨#[115,116,121,108,101]⟩ then true else false));by_cases e:k=af
  ·exact bf (by rw[e];simp) (by rw[if_pos e];rfl)
  ·refine bw (by rw[eu];exact decide_eq_false e) ?_;rw[if_neg e,eu];split<;>rename_i e2
   ·exact congrArg aB (decide_eq_true e2)
   ·exact congrArg aB (decide_eq_false e2),.inl rfl⟩) Tryz.func119
theorem E5:ax Tryz.prog 66 true (aX [] fun _=>.lf (Vk fa)):=
 bT (C:=C0) (nL _ _) true 99 [] (fun _=>.lf (Vk fa)) (fun _ _ _ h=>⟨h,.inl rfl⟩) Tryz.func66
theorem Nt:ax Tryz.prog 102 false (aX [(0,sI)] fun((n:Int),_)=>.nd (du n) (.lf (aS (qL n)))):=
 zJ fun w S x vs r hW hS he hl hr=>by
  obtain⟨(n:Int),_⟩:=x;obtain⟨v,h1,h2,_⟩:=he 0 (aI n) aaS;obtain⟨⟨hn,hn2⟩,rfl⟩:=hr;obtain⟨B,hB,hT⟩:=hW
  match vs,hl,h1 with
  | [u],_,h1=>
   injection h1 with h1
   subst h1 h2;exact Calls.mono (R3 hT n hn hn2) fun e w' h=>⟨_,fun _=>False,h.1,h.2,fun _ q=>q.elim,rfl,rfl⟩
theorem Dn:ax Tryz.prog 128 true (aX [(0,sS)] fun((k:ByteArray),_)=>.lf (.one (.list .str (bb k) false))):=Do.wk fun⟨(_:ByteArray),_⟩ _ h=>⟨_,rfl,h⟩
theorem BQ:ax Tryz.prog 73 false (aX [(0,.st 8)] fun((x:Raw),_)=>.nd (x.short 67108864) (.lf (aS ⟨(ik x.q).toArray⟩))):=
 gr fun w S x vs r hS he hl hr=>by
  obtain⟨(x:Raw),_⟩:=x;obtain⟨v,h1,Qo,rfl,h2⟩:=he 0 (.agg (lR (.st 8) x)) aaS;obtain⟨a1,rfl⟩:=hr;have hr:@aK.rep (FY 8) (xR 8) w S Qo x:=lh (t:=.st 8) (us:=lR (.st 8) x) rfl h2
  match vs,hl,h1 with
  | [u],_,h1=>
   injection h1 with h1
   subst h1;exact Calls.mono (LF ⟨_,rfl,hr⟩ hS a1) fun e w' h=>⟨_,fun _=>False,h.1,h.2,fun _ q=>q.elim,rfl,rfl⟩
noncomputable def Bp (t:TypeId):Option Ty:=List.lookup t [(9,.str),(3,tI),(113,.st 0),(110,.st 1)]
noncomputable def Cs1:iZ Tryz.prog:=d9 Bp [⟨_,_,_,Nt⟩,⟨_,_,_,Dn⟩] []
def aaJ (f:ao):XV:=.agg [.sym (.string f.key),.list .str f.vals true,.sym (.int .i64 f.line)]
theorem xP:ax Tryz.prog 72 true (aX [(0,sS),(1,sS)] fun((k:ByteArray),(s:ByteArray),_)=>.lf (.agg (lR (.st 0) (⟨k,[s],0⟩:ao)))):=
 (bT (C:=Cs1) (nL _ _) true 99 [(0,sS),(1,sS)] (fun((k:ByteArray),(s:ByteArray),_)=>.lf (aaJ ⟨k,[s],0⟩)) (fun _ _ _ h=>⟨h,.inl rfl⟩) Tryz.func72).wk fun _ r h=>⟨_,rfl,h⟩
theorem uW:ax Tryz.prog 68 true (aX [(0,sS),(1,sI)] fun((k:ByteArray),(n:Int),_)=>.nd (du n) (.lf (.agg (lR (.st 0) (⟨k,[qL n],0⟩:ao))))):=
 (bT (C:=Cs1) (nL _ _) true 99 [(0,sS),(1,sI)] (fun((k:ByteArray),(n:Int),_)=>.nd (du n) (.lf (aaJ ⟨k,[qL n],0⟩))) (fun _ _ _ h=>⟨h,.inl rfl⟩) Tryz.func68).wk fun _ r ⟨h1,h⟩=>⟨_,⟨h1,rfl⟩,h⟩
theorem FH:ax Tryz.prog 103 false (aX [(0,sS),(1,sI)] fun((k:ByteArray),(n:Int),_)=>.nd (du n) (.lf (aS (jt k n)))):=
 bT (C:=Cs1) (nL _ _) false 99 [(0,sS),(1,sI)] (fun((k:ByteArray),(n:Int),_)=>.br (decide (n<1)) (.lf (aS ⟨#[]⟩)) (.br (decide (n>(bb k).length)) (.lf (aS ⟨#[]⟩)) (.nd (du (n-1)) (.nd (0≤n-1∧n-1<(bb k).length) (.lf (aS ((bb k).getD (n-1).toNat ⟨#[]⟩)))))))
  (fun⟨(k:ByteArray),(n:Int),_⟩ r _ ⟨hn,h⟩=>by
   obtain rfl:aS (jt k n)=r:=h;refine⟨?_,.inr rfl⟩;unfold jt;by_cases h1:n<1
   ·rw[if_pos (.inl h1)];exact bf (decide_eq_true h1) rfl
   ·by_cases h2:((bb k).length:Int)<n
    ·rw[if_pos (.inr h2)];exact bw (decide_eq_false h1) (bf (decide_eq_true h2) rfl)
    ·rw[if_neg (by omega)];refine bw (decide_eq_false h1) (bw (decide_eq_false (by omega)) ⟨⟨by omega,by have:=hn.2;omega⟩,⟨by omega,by omega⟩,?_⟩);rw[show(n-1).toNat=n.toNat-1 by omega];rfl) Tryz.func103
noncomputable abbrev aaF:=Tryz.f71
noncomputable abbrev afQ:Rg Tryz.prog aaF.ntmps:=xZ Cs1 aaF
abbrev nfC:List CS:=[.d .str,.own .str 9,.d tI]
abbrev nuC:List CS:=[.d .str,.d (.list .str),.d tI]
abbrev K6:=fc nfC
abbrev Zu:=fc nuC
abbrev nmL:List (Nat×SS):=[(2,sL),(6,.box 113 nuC),(7,.box 113 nfC),(13,sD (.list tI)),(14,sI),(15,sI)]
abbrev nmO:List (Nat×SS):=[(6,.box 113 nuC),(7,.box 113 nfC)]
abbrev NmE:=LE nmL nmO []
def K6.row (f:K6):List ByteArray:=f.2.1
def K6.put (f:K6) (r:List ByteArray):K6:=(f.1,r,f.2.2)
def GL (u:Zu) (f:K6) (r:List ByteArray):NmE:=.out (u,f.put r,())
def Rj (l:List ByteArray) (u:Zu) (f:K6) (x:List Int) (n i:Int) (s:ByteArray):T NmE:=.nd ((f.row.length+1)*17≤140737488355328) (.nd (du (i+1)) (.lf (.back (l,u,f.put (s::f.row),x,n,i+1,()))))
def nmT (l:List ByteArray) (u:Zu) (f:K6) (x:List Int) (n i:Int):T NmE:=.br (decide (i<n)) (.nd (0≤i∧i<x.length) (.br (decide (x.getD i.toNat 0≥0)) (.br (decide (x.getD i.toNat 0<l.length))
 (.nd (0≤x.getD i.toNat 0∧x.getD i.toNat 0<l.length) (Rj l u f x n i (l.getD (x.getD i.toNat 0).toNat ⟨#[]⟩))) (Rj l u f x n i ⟨#[]⟩)) (Rj l u f x n i ⟨#[]⟩))) (.lf (.out (u,f,())))
def nmN (f:K6) (x:List Int) (n i:Int):Prop:=0≤i∧i≤x.length∧n=x.length∧(f.row.length:Int)=i∧x.length≤1099511627776
theorem MM:fO afQ 0 0 nmL nmO [] fun((l:List ByteArray),(u:Zu),(f:K6),(x:List Int),(n:Int),(i:Int),_)=>.nd (nmN f x n i) (.lf (GL u f ((dF (x.drop i.toNat) l).reverse++f.row))):=by
 refine fS _ (nL _ _) 99 0 0 nmL nmO [] (fun((l:List ByteArray),(u:Zu),(f:K6),(x:List Int),(n:Int),(i:Int),_)=>nmT l u f x n i) (fun(_,_,_,(x:List Int),_,(i:Int),_)=>x.length-i.toNat) ?_;rintro⟨(l:List ByteArray),(u:Zu),(f:K6),(x:List Int),(n:Int),(i:Int),_⟩ r _ ⟨⟨h0,h1,rfl,h2,h3⟩,hr⟩;obtain⟨k,rfl⟩:∃k:Nat,i=k:=⟨i.toNat,by omega⟩;have hr:GL u f ((dF (x.drop k) l).reverse++f.row)=r:=hr;subst hr;show∃q,(nmT l u f x x.length k).hit q∧_;unfold nmT;rw[aaf];by_cases hk:k<x.length
 ·rw[getD_drop 0 hk];obtain⟨s,hs⟩:∃s,nameAt l (x.getD k 0)=s:=⟨_,rfl⟩;have nx:nmN (f.put (s::f.row)) x x.length ((k:Int)+1):=⟨by omega,by omega,rfl,by show((s::f.row).length:Int)=_;rw[abs];omega,h3⟩;have eq:GL u (f.put (s::f.row)) ((dF (x.drop (k+1)) l).reverse++s::f.row)=GL u f ((dF (x.getD k 0::x.drop (k+1)) l).reverse++f.row):=by
   unfold dF;rw[acq,ab6,abQ,hs];rfl
  have dec:x.length-(k+1)<x.length-k:=by omega
  have bk:(Rj l u f x x.length k s).hit (.back (l,u,f.put (s::f.row),x,(x.length:Int),(k:Int)+1,())):=⟨by omega,⟨by omega,by omega⟩,rfl⟩;have gR:0≤(k:Int)∧(k:Int)<x.length:=⟨by omega,by omega⟩;by_cases h4:x.getD k 0<0
  ·rw[show s=⟨#[]⟩ by rw[←hs];exact if_neg (by omega)] at nx eq bk;exact⟨_,bf (decide_eq_true (by omega)) ⟨gR,bw (decide_eq_false (by omega)) bk⟩,dec,nx,eq⟩
  by_cases h5:(l.length:Int)≤x.getD k 0
  ·rw[show s=⟨#[]⟩ by rw[←hs];exact if_neg (by omega)] at nx eq bk;exact⟨_,bf (decide_eq_true (by omega)) ⟨gR,bf (decide_eq_true (by omega)) (bw (decide_eq_false (by omega)) bk)⟩,dec,nx,eq⟩
  ·rw[show s=l.getD (x.getD k 0).toNat ⟨#[]⟩ by rw[←hs];exact if_pos ⟨by omega,by omega⟩] at nx eq bk;exact⟨_,bf (decide_eq_true (by omega)) ⟨gR,bf (decide_eq_true (by omega)) (bf (decide_eq_true (by omega)) ⟨⟨by omega,by omega⟩,bk⟩)⟩,dec,nx,eq⟩
 ·rw[aa5 (by omega)];exact⟨_,bw (decide_eq_false (by omega)) rfl,rfl⟩
def nmR (k:ByteArray) (r:List ByteArray):XV:=.agg [.sym (.string k),.list .str r.reverse !r.isEmpty,.sym (.int .i64 0)]
theorem JC:ax Tryz.prog 71 true (aX [(0,sS),(1,sD (.list tI)),(2,sL)] fun((k:ByteArray),(x:List Int),(l:List ByteArray),_)=>.nd (x.length≤1099511627776) (.lf (.agg (lR (.st 0) (⟨k,dF x l,0⟩:ao))))):=
 ax.wk (l0:=[(0,sS),(1,sD (.list tI)),(2,sL)]) (F:=fun((k:ByteArray),(x:List Int),(l:List ByteArray),_)=>.nd (x.length≤1099511627776) (.lf (nmR k (dF x l).reverse)))
  (bT (C:=Cs1) ((nL _ _).add 0 _ MM) true 99 [(0,sS),(1,sD (.list tI)),(2,sL)] (fun((k:ByteArray),(x:List Int),(l:List ByteArray),_)=>.nd (nmN (k,[],(0:Int),()) x x.length 0) (.lf (nmR k ((dF (x.drop 0) l).reverse++[]))))
   (fun⟨(k:ByteArray),(x:List Int),(l:List ByteArray),_⟩ r _ ⟨h1,h⟩=>by
    obtain rfl:nmR k (dF x l).reverse=r:=h;refine⟨⟨⟨by omega,by omega,rfl,rfl,h1⟩,?_⟩,.inl rfl⟩;show nmR k _=_;rw[acC,ado]) Tryz.func71)
  fun⟨(k:ByteArray),(x:List Int),(l:List ByteArray),_⟩ r ⟨h1,h⟩=>⟨_,⟨h1,rfl⟩,by
   obtain rfl:XV.agg (lR (.st 0) (⟨k,dF x l,0⟩:ao))=r:=h;show XV.agg [.sym (.string k),.list .str (dF x l).reverse.reverse false,.sym (.int .i64 0)]=_;rw[aal];rfl⟩
noncomputable def Cs2:iZ Tryz.prog:=d9 Bp [⟨_,_,_,FH⟩,⟨_,_,_,xP⟩,⟨_,_,_,uW⟩,⟨_,_,_,tc⟩] []
def scX (c:ah) (l:List ao):XV:=.agg [.sym (.string af),.sym (.string c.name),.list (.st 0) ([jK aM c.method,gw bc c.seats,gw bP c.ranks]++l++[jK cV c.ties,jK aU c.over,jK cW c.skip,⟨cz,c.cands,0⟩]) true,.sym (.int .i64 0)]
def scE (c:ah) (n:Nat) (l:List ao):T XV:=.nd (du c.ties) (.nd (du c.over) (.nd (du c.skip) (.nd (c.cands.length≤1099511627776) (.nd ((n+4)*49≤140737488355328) (.lf (scX c l))))))
def scB (c:ah):T XV:=.nd (du c.method) (.nd (du c.seats) (.nd (du c.ranks) (.br (c.method==2) (.nd (du c.digits) (.nd ((3+1)*49≤140737488355328) (scE c 4 [gw az c.digits]))) (scE c 3 []))))
theorem zy:ax Tryz.prog 70 true (aX [(0,.st 3)] fun((c:ah),_)=>.nd (ow c) (.lf (.agg (lR (.st 1) (eW c))))):=
 (bT (C:=Cs2) (nL _ _) true 99 [(0,.st 3)] (G:=fun((c:ah),_)=>.nd (ow c) (.lf (scX c (if c.method=2 then[gw az c.digits] else[])))) (fun((c:ah),_)=>scB c)
  (fun⟨(c:ah),_⟩ r _ ⟨⟨h1,h2,h3,h4,h5,h6,h7,h8⟩,h⟩=>by
   obtain rfl:scX c (if c.method=2 then[gw az c.digits] else[])=r:=h;refine⟨⟨h1,h2,h3,?_⟩,.inl rfl⟩;by_cases hm:c.method=2
   ·rw[if_pos hm];exact bf (beq_iff_eq.2 hm) ⟨h4,by omega,h5,h6,h7,by omega,by omega,rfl⟩
   ·rw[if_neg hm];exact bw (beq_eq_false_iff_ne.2 hm) ⟨h5,h6,h7,by omega,by omega,rfl⟩) Tryz.func70).wk
  fun⟨(c:ah),_⟩ r ⟨h0,h⟩=>⟨_,⟨h0,rfl⟩,h⟩
noncomputable def Cs3:iZ Tryz.prog:=d9 Bp [⟨_,_,_,xP⟩,⟨_,_,_,uW⟩,⟨_,_,_,tc⟩,⟨_,_,_,JC⟩,⟨_,_,_,zy⟩,⟨_,_,_,BQ⟩] []
noncomputable abbrev VD:=Tryz.f42
noncomputable abbrev QE:Rg Tryz.prog VD.ntmps:=OA (xZ Cs3 VD) [(9,[4])]
abbrev zeC:List CS:=[.d .str,.d tI,.d tI,.d tI,.d (.list .str),.d (.list (.st 3)),.d (.list (.st 4)),.d tI,.d tI,.d .bool,.d (.list .limb),.d (.list .limb),.d tI,.d .str]
abbrev zsC:List CS:=[.d .str,.own (.st 1) 110]
abbrev zvC:List CS:=[.d .str,.d (.list (.st 1))]
abbrev Iz:=fc zeC
abbrev uD:=fc zsC
abbrev K5:=fc zvC
abbrev szE:SS:=.box 30 zeC
abbrev szS:SS:=.box 81 zsC
abbrev szV:SS:=.box 81 zvC
abbrev ZK:List (Nat×SS):=[(1,szE),(2,szV),(3,szS),(4,.c (.own .str 9))]
abbrev ZL:List (Nat×SS):=[(1,szE),(2,szV),(3,szS),(4,.c (.own .str 9)),(39,sD (.list (.st 3))),(40,sI),(41,sI)]
abbrev ZI:List (Nat×SS):=[(1,szE),(2,szV),(3,szS)]
abbrev ZJ:List (Nat×SS):=[(1,szE),(2,szV),(3,szS),(4,sL),(59,sD (.list (.st 4))),(60,sI),(61,sI)]
def Iz.pr (e:Iz):List ByteArray:=e.2.2.2.2.1
def uD.bs (s:uD):List av:=s.2.1
def uD.put (s:uD) (b:av):uD:=(s.1,b::s.bs,())
def ah.z0:ah:=⟨⟨#[]⟩,[],0,0,0,0,0,0,0⟩
def aw.z0:aw:=⟨⟨#[]⟩,[],[]⟩
def F9 (e:Iz) (v:K5) (s:uD) (l:List ByteArray):LE ZL ZK []:=.out (e,v,s,l,())
def z0E (e:Iz) (v:K5) (s:uD) (l:List ByteArray) (cs:List ah) (n i:Int) (c:ah):T (LE ZL ZK []):=.nd (ow c) (.nd ((s.bs.length+1)*65≤140737488355328) (.nd ((l.length+1)*17≤140737488355328) (.nd (du (i+1)) (.lf (.back (e,v,s.put (eW c),c.name::l,cs,n,i+1,()))))))
def z0T (e:Iz) (v:K5) (s:uD) (l:List ByteArray) (cs:List ah) (n i:Int):T (LE ZL ZK []):=.br (decide (i<n)) (.nd (0≤i∧i<cs.length) (z0E e v s l cs n i (cs.getD i.toNat ah.z0))) (.lf (F9 e v s l))
def z0N (s:uD) (l:List ByteArray) (cs:List ah) (n i:Int):Prop:=0≤i∧i≤cs.length∧n=cs.length∧cs.length≤34359738368∧(∀c∈cs,ow c)∧(l.length:Int)=i∧s.bs.length≤3+i
theorem QD:fO QE 0 0 ZL ZK [] fun((e:Iz),(v:K5),(s:uD),(l:List ByteArray),(cs:List ah),(n:Int),(i:Int),_)=>.nd (z0N s l cs n i) (.lf (F9 e v (s.1,((cs.drop i.toNat).map eW).reverse++s.bs,()) (((cs.drop i.toNat).map ah.name).reverse++l))):=by
 refine fS _ (nL _ _) 99 0 0 ZL ZK [] (fun((e:Iz),(v:K5),(s:uD),(l:List ByteArray),(cs:List ah),(n:Int),(i:Int),_)=>z0T e v s l cs n i)
  (fun(_,_,_,_,(cs:List ah),_,(i:Int),_)=>cs.length-i.toNat) ?_
 rintro⟨(e:Iz),(v:K5),(s:uD),(l:List ByteArray),(cs:List ah),(n:Int),(i:Int),_⟩ r _ ⟨⟨h0,h1,rfl,h2,h3,h4,h5⟩,hr⟩;have hr:F9 e v (s.1,((cs.drop i.toNat).map eW).reverse++s.bs,()) (((cs.drop i.toNat).map ah.name).reverse++l)=r:=hr;obtain rfl:=hr;obtain⟨k,rfl⟩:∃k:Nat,i=k:=⟨i.toNat,by omega⟩;rw[aaf];show∃q,(z0T e v s l cs cs.length k).hit q∧_;unfold z0T;by_cases hk:k<cs.length
 ·rw[getD_drop ah.z0 hk,aaf];obtain⟨c,hc⟩:∃c,cs.getD k ah.z0=c:=⟨_,rfl⟩;have hcc:=h3 c (by rw[←hc,aar,aac hk];exact ab7 hk);rw[hc];refine⟨_,bf (decide_eq_true (by omega)) ⟨⟨by omega,by omega⟩,hcc,by omega,by omega,⟨by omega,by omega⟩,rfl⟩,?_,⟨by omega,by omega,rfl,h2,h3,(show((l.length+1:Nat):Int)=(k:Int)+1 by omega),?_⟩,?_⟩
  ·show cs.length-(k+1)<cs.length-k;omega
  ·have:(s.put (eW c)).bs.length=s.bs.length+1:=rfl;omega
  ·show F9 e v (s.1,((cs.drop (k+1)).map eW).reverse++(eW c::s.bs),()) (((cs.drop (k+1)).map ah.name).reverse++(c.name::l))=_;rw[acq,acq,ab6,ab6,abQ,abQ];rfl
 ·rw[aa5 (by omega)];exact⟨_,bw (decide_eq_false (by omega)) rfl,rfl⟩
def F8 (e:Iz) (v:K5) (s:uD):LE ZJ ZI []:=.out (e,v,s,())
def z1E (e:Iz) (v:K5) (s:uD) (l:List ByteArray) (cs:List aw) (n i:Int) (y:aw):T (LE ZJ ZI []):=.nd (y.prec.length≤1099511627776) (.nd (y.cont.length≤1099511627776) (.nd ((s.bs.length+1)*65≤140737488355328) (.nd (du (i+1)) (.lf (.back (e,v,s.put (fk e.pr l y),l,cs,n,i+1,()))))))
def z1T (e:Iz) (v:K5) (s:uD) (l:List ByteArray) (cs:List aw) (n i:Int):T (LE ZJ ZI []):=.br (decide (i<n)) (.nd (0≤i∧i<cs.length) (z1E e v s l cs n i (cs.getD i.toNat aw.z0))) (.lf (F8 e v s))
def z1N (s:uD) (cs:List aw) (n i:Int):Prop:=0≤i∧i≤cs.length∧n=cs.length∧cs.length≤34359738367∧(∀y∈cs,y.prec.length≤274877906944∧y.cont.length≤274877906944)∧s.bs.length≤34359738371+i
theorem QC:fO QE 1 2 ZJ ZI [] fun((e:Iz),(v:K5),(s:uD),(l:List ByteArray),(cs:List aw),(n:Int),(i:Int),_)=>.nd (z1N s cs n i) (.lf (F8 e v (s.1,((cs.drop i.toNat).map (fk e.pr l)).reverse++s.bs,()))):=by
 refine fS _ (nL _ _) 99 1 2 ZJ ZI [] (fun((e:Iz),(v:K5),(s:uD),(l:List ByteArray),(cs:List aw),(n:Int),(i:Int),_)=>z1T e v s l cs n i)
  (fun(_,_,_,_,(cs:List aw),_,(i:Int),_)=>cs.length-i.toNat) ?_
 rintro⟨(e:Iz),(v:K5),(s:uD),(l:List ByteArray),(cs:List aw),(n:Int),(i:Int),_⟩ r _ ⟨⟨h0,h1,rfl,h2,h3,h5⟩,hr⟩;have hr:F8 e v (s.1,((cs.drop i.toNat).map (fk e.pr l)).reverse++s.bs,())=r:=hr;obtain rfl:=hr;obtain⟨k,rfl⟩:∃k:Nat,i=k:=⟨i.toNat,by omega⟩;rw[aaf];show∃q,(z1T e v s l cs cs.length k).hit q∧_;unfold z1T;by_cases hk:k<cs.length
 ·rw[getD_drop aw.z0 hk,aaf];obtain⟨y,hy⟩:∃y,cs.getD k aw.z0=y:=⟨_,rfl⟩;obtain⟨UH,P1⟩:=h3 y (by rw[←hy,aar,aac hk];exact ab7 hk);rw[hy];refine⟨_,bf (decide_eq_true (by omega)) ⟨⟨by omega,by omega⟩,by omega,by omega,by omega,⟨by omega,by omega⟩,rfl⟩,?_,⟨by omega,by omega,rfl,h2,h3,?_⟩,?_⟩
  ·show cs.length-(k+1)<cs.length-k;omega
  ·have:(s.put (fk e.pr l y)).bs.length=s.bs.length+1:=rfl;omega
  ·show F8 e v (s.1,((cs.drop (k+1)).map (fk e.pr l)).reverse++(fk e.pr l y::s.bs),())=_;rw[acq,ab6,abQ];rfl
 ·rw[aa5 (by omega)];exact⟨_,bw (decide_eq_false (by omega)) rfl,rfl⟩
def ZF (e:aa):List av:=[⟨ae,⟨#[]⟩,[⟨bU,e.prec,0⟩],0⟩,⟨au,⟨#[]⟩,[gw bV e.scan,gw bW e.batch],0⟩,⟨aP,⟨#[]⟩,[gw cZ e.dots,gw bp e.blank,gw aZ e.marked],0⟩]
def zS0 (e:aa):uD:=(e.title,ZF e,())
def zL (e:aa):List ByteArray:=(((e.cont.drop (Int.toNat 0)).map ah.name).reverse++[]).reverse
def YS (e:aa):uD:=(e.title,((e.cont.drop (Int.toNat 0)).map eW).reverse++ZF e,())
def ZH (e:aa):List av:=((e.styl.drop (Int.toNat 0)).map (fk e.prec (zL e))).reverse++(YS e).bs
def zF (e:aa):List av:=⟨aW,⟨#[]⟩,[gw dB e.cell],0⟩::⟨aO,⟨#[]⟩,[⟨bJ,[⟨(ik e.risk.q).toArray⟩],0⟩,⟨cH,[e.seed],0⟩],0⟩::ZH e
def zX (e:aa) (l:List av):XV:=.agg [.sym (.string e.title),.list (.st 1) l true]
def zT (e:aa):T XV:=.nd (du e.dots) (.nd (du e.blank) (.nd (du e.marked) (.nd (du e.scan) (.nd (du e.batch) (.nd (e.prec.length≤1099511627776) (.nd (z0N (zS0 e) [] e.cont e.cont.length 0) (.nd (z1N (YS e) e.styl e.styl.length 0)
 (.nd (e.risk.short 67108864) (.nd (du e.cell) (.nd (((ZH e).length+2)*65≤140737488355328) (.lf (zX e (zF e).reverse))))))))))))
theorem ZG (e:aa):(zF e).reverse=(eL e).blocks:=by
 unfold zF ZH YS zL ZF eL uD.bs;simp
theorem Bu:ax Tryz.prog 42 true (aX [(0,.st 5)] fun((e:aa),_)=>.nd (ga e) (.lf (.agg (lR (.st 2) (eL e))))):=
 (ut (R:=QE) (((nL QE VD).add 0 _ QD).add 1 _ QC) true 99 [(0,.st 5)] (G:=fun((e:aa),_)=>.nd (ga e) (.lf (zX e (eL e).blocks))) (fun((e:aa),_)=>zT e) (fun⟨(e:aa),_⟩ r hb ⟨h0,h⟩=>by
  obtain rfl:zX e (eL e).blocks=r:=h;have e0:(ZH e).length=e.styl.length+(e.cont.length+3):=by
   unfold ZH YS uD.bs ZF;simp
  have e1:(YS e).bs.length=e.cont.length+3:=by
   unfold YS uD.bs ZF;simp
  have l1:=h0.lc;have l2:=h0.ls;have l3:=h0.lp;refine⟨⟨h0.dots,h0.blank,h0.marked,h0.scan,h0.batch,by omega,⟨by omega,adK _,rfl,l1,h0.conts,rfl,by show(3:Int)≤3+0;omega⟩,⟨by omega,adK _,rfl,l2,h0.styls,by rw[e1];omega⟩,h0.short,h0.cell,by rw[e0];omega,?_⟩,.inl rfl⟩;rw[ZG];rfl) Tryz.func42).wk
  fun⟨(e:aa),_⟩ r ⟨h0,h⟩=>⟨_,⟨h0,rfl⟩,h⟩
theorem Fw:ax Tryz.prog 76 false (aX [(0,sL),(1,sL)] fun((xs:List ByteArray),(ys:List ByteArray),_)=>.lf (aB (decide (xs=ys)))):=Pd (t:=.str) (g:=fun(xs ys:List ByteArray)=>decide (xs=ys)) fun _ _ _ _ _ _ _ xs ys _ h1 h2=>yL (xs:=xs) (ys:=ys) h1 h2
theorem Fx:ax Tryz.prog 77 false (Td (t:=.st 3) 78 fun(xs ys:List ah)=>gW bh xs ys):=Vb (t:=.st 3) (q:=fun(xs ys:List ah)=>gW bh xs ys) fun _ _ _ _ _ _ _ xs ys _ h1 h2 hS=>AH (xs:=xs) (ys:=ys) h1 h2 hS hS
theorem Kd:ax Tryz.prog 79 false (Td (t:=.st 4) 80 fun(xs ys:List aw)=>gW bA xs ys):=Vb (t:=.st 4) (q:=fun(xs ys:List aw)=>gW bA xs ys) fun _ _ _ _ _ _ _ xs ys _ h1 h2 hS=>Fv (xs:=xs) (ys:=ys) h1 h2 hS hS
noncomputable def Cs4:iZ Tryz.prog:=d9 rO [⟨_,_,_,Fw⟩,⟨_,_,_,Fx⟩,⟨_,_,_,Kd⟩,⟨_,_,_,Ij⟩] []
def XX (a b:aa):List Bool:=[a.title.toList==b.title.toList,a.dots==b.dots,a.blank==b.blank,a.marked==b.marked,decide (a.prec=b.prec),gW bh a.cont b.cont,gW bA a.styl b.styl,a.scan==b.scan,a.batch==b.batch]
def aid (a b:aa):T XV:=KM (.lf (aB false)) (XX a b) (.nd (a.risk.short 67108864∧b.risk.short 67108864) (KM (.lf (aB false)) [oe a.risk.q b.risk.flip.q==0,a.cell==b.cell] (.lf (aB (a.seed.toList==b.seed.toList)))))
theorem Fu (a b:aa):lv a b=((XX a b).all id&&([oe a.risk.q b.risk.flip.q==0,a.cell==b.cell].all id&&(a.seed.toList==b.seed.toList))):=by
 rw[ac3];simp only[lv,XX,acr,acU,id,eu,aaO,decide_eq_true_eq,beq_iff_eq,and_assoc,true_and]
theorem Kc:ax Tryz.prog 44 false (aX [(0,.st 5),(1,.st 5)] fun((a:aa),(b:aa),_)=>.nd (a.risk.short 67108864∧b.risk.short 67108864) (.lf (aB (lv a b)))):=
 bT (C:=Cs4) (nL _ _) false 99 [(0,.st 5),(1,.st 5)] (fun((a:aa),(b:aa),_)=>aid a b)
  (fun⟨(a:aa),(b:aa),_⟩ r _ ⟨h0,h⟩=>by
   obtain rfl:aB (lv a b)=r:=h;refine⟨?_,.inr rfl⟩;rw[Fu];refine rz (ret:=.lf (aB false)) (r:=aB) rfl _ fun _=>⟨h0,?_⟩;exact rz (ret:=.lf (aB false)) (t:=.lf (aB (a.seed.toList==b.seed.toList))) (r:=aB) rfl _ fun _=>rfl) Tryz.func44
abbrev csV:List CS:=[.mp .s tI,.mp .s (.list .str),.mp .s tI,.d .bool,.d (.list .limb),.d (.list .limb),.d .str]
abbrev sV:SS:=.box 168 csV
abbrev pV:List Nat:=[0]
abbrev VX:=fc csV
abbrev tJ (r:XV) (x:VX):XV×VX×Unit:=(r,x,())
noncomputable def LI (t:TypeId):Option Ty:=List.lookup t [(9,.str),(3,tI),(4,.bool),(22,.list .str)]
noncomputable def CV1:iZ Tryz.prog:=d9 LI [⟨_,_,_,GK⟩,⟨_,_,_,To⟩,⟨_,_,_,OC⟩,⟨_,_,_,Ij⟩] []
def VX.setR (x:VX) (r:Raw):VX:=(x.1,x.2.1,x.2.2.1,r.neg,r.num,r.den,x.2.2.2.2.2.2)
def VX.wr (x:VX):Option Raw→VX
 | none=>x
 | some r=>x.setR r
def szB (s:ByteArray):Prop:=s.size≤9223372036854775807
def Qr (l:List UInt8):ByteArray:=⟨l.toArray⟩
def afn (x:VX) (s:ByteArray):T (XV×VX×Unit):=
 .nd (szB s∧(⟨#[47]⟩:ByteArray)=⟨#[47]⟩) (.nd (szB (Qr (dU s.data.toList))) (.nd (szB (Qr (dH s.data.toList)))
 (.br (!(cm (dU s.data.toList)).2) (.lf (tJ (aI 5) x)) (.br (!(cm (dH s.data.toList)).2) (.lf (tJ (aI 5) x)) (.nd (du (cm (dU s.data.toList)).1∧du (cm (dH s.data.toList)).1)
 (.br ((cm (dH s.data.toList)).1==0) (.lf (tJ (aI 4) x)) (.nd (du 1∧du 1000) (.nd ((fB (cm (dU s.data.toList)).1 (cm (dH s.data.toList)).1).raw.short 67108864∧(fB 1 1000).raw.short 67108864)
 (.br (decide (oZ (fB (cm (dU s.data.toList)).1 (cm (dH s.data.toList)).1) (fB 1 1000)<0)) (.lf (tJ (aI 4) x)) (.nd (du 1∧du 2) (.nd ((fB (cm (dU s.data.toList)).1 (cm (dH s.data.toList)).1).raw.short 67108864∧(fB 1 2).raw.short 67108864)
 (.br (decide (oZ (fB (cm (dU s.data.toList)).1 (cm (dH s.data.toList)).1) (fB 1 2)>0)) (.lf (tJ (aI 4) x)) (.lf (tJ (aI 0) (x.setR (fB (cm (dU s.data.toList)).1 (cm (dH s.data.toList)).1).raw)))))))))))))))
theorem X9 (l:List UInt8):(dU l).length≤l.length∧(dH l).length≤l.length:=by
 unfold dU dH;have h:=congrArg List.length (List.takeWhile_append_dropWhile (p:=(· !=47)) (l:=l));rw[aa8] at h;rw[acL];omega
theorem mH {a b:Int} (ha:du a) (hb:du b):(fB a b).raw.short 67108864:=by
 unfold du at ha hb;obtain⟨h1,h2⟩:=yf (decide (a<0) !=decide (b<0)) a.natAbs b.natAbs (by omega) (by omega);exact⟨aa7 h1 (by decide),aa7 h2 (by decide)⟩
theorem LB {s:ByteArray} {l:List UInt8} (h:szB s) (hl:l.length≤s.data.toList.length):szB (Qr l):=by
 unfold szB Qr at*;have:s.size=s.data.toList.length:=abI.symm;show l.toArray.size≤_;rw[abW];omega
theorem GJ (l:List UInt8):du (cm l).1:=by have:=ia l;unfold du;omega
theorem Mc:fV Tryz.prog 149 pV [(0,sV),(1,sS)] [(0,sV)] fun((x:VX),(s:ByteArray),_)=>.nd (szB s) (.lf (tJ (aI (iK s.data.toList).1) (x.wr (iK s.data.toList).2))):=
 kx (C:=CV1) (nL _ _) 99 [(0,sV),(1,sS)] [(0,sV)] (fun((x:VX),(s:ByteArray),_)=>afn x s) (fun⟨(x:VX),(s:ByteArray),_⟩ r _ ⟨hs,h⟩=>by
  obtain rfl:tJ (aI (iK s.data.toList).1) (x.wr (iK s.data.toList).2)=r:=h;have hc:=X9 s.data.toList;have i1:=GJ (dU s.data.toList);have i2:=GJ (dH s.data.toList);have one:du 1∧du 1000:=by unfold du;omega
  have two:du 1∧du 2:=by unfold du;omega
  refine⟨⟨hs,rfl⟩,LB hs hc.1,LB hs hc.2,?_⟩;unfold iK;by_cases h1:(cm (dU s.data.toList)).2=false
  ·exact bf (by rw[h1];rfl) (by rw[h1];rfl)
  by_cases h2:(cm (dH s.data.toList)).2=false
  ·exact bw (by simpa using h1) (bf (by rw[h2];rfl) (by rw[h2,Bool.and_false];rfl))
  rw[if_neg (by simp[h1,h2])];refine bw (by simpa using h1) (bw (by simpa using h2) ⟨⟨i1,i2⟩,?_⟩);by_cases h3:(cm (dH s.data.toList)).1=0
  ·rw[if_pos (.inl h3)];exact bf (by rw[h3];rfl) rfl
  refine bw (beq_false_of_ne h3) ⟨one,⟨mH i1 i2,mH one.1 one.2⟩,?_⟩;by_cases h4:oZ (fB (cm (dU s.data.toList)).1 (cm (dH s.data.toList)).1) (fB 1 1000)<0
  ·rw[if_pos (.inr (.inl h4))];exact bf (decide_eq_true h4) rfl
  refine bw (decide_eq_false h4) ⟨two,⟨mH i1 i2,mH two.1 two.2⟩,?_⟩;by_cases h5:0<oZ (fB (cm (dU s.data.toList)).1 (cm (dH s.data.toList)).1) (fB 1 2)
  ·rw[if_pos (.inr (.inr h5))];exact bf (decide_eq_true h5) rfl
  ·rw[if_neg (fun q=>q.elim h3 fun q=>q.elim h4 h5)];exact bw (decide_eq_false h5) rfl) Tryz.func149
def VX.setN (x:VX) (k:ByteArray) (v:Int):VX:=((x.1.1+1,mC .s x.1.2 k v),x.2)
def VX.num (x:VX) (k:ByteArray):Int:=(x.1.2 k).getD (0:Int)
def VX.setS (x:VX) (s:ByteArray):VX:=(x.1,x.2.1,x.2.2.1,x.2.2.2.1,x.2.2.2.2.1,x.2.2.2.2.2.1,s,())
def VX.v (x:VX):aC:=⟨x.1.2,x.2.1.2,x.2.2.1.2,⟨x.2.2.2.1,x.2.2.2.2.1,x.2.2.2.2.2.1⟩,x.2.2.2.2.2.2.1⟩
def Hh (k:ByteArray) (x:VX):Prop:=Kt.ok .s k∧x.1.1<1000000000000
def afM (x:VX) (k s:ByteArray):T (XV×VX×Unit):=
 .br (!((bb k).isEmpty)) (.nd (du (Lib.idxOfS (bb k) s+1)) (.nd (Hh k x) (.nd (Kt.ok .s k) (.br ((x.setN k (Lib.idxOfS (bb k) s+1)).num k==0) (.lf (tJ (aI 2) (x.setN k (Lib.idxOfS (bb k) s+1)))) (.lf (tJ (aI 0) (x.setN k (Lib.idxOfS (bb k) s+1))))))))
 (.br (k.toList==bJ.toList) (.nd (szB s) (.lf (tJ (aI (iK s.data.toList).1) (x.wr (iK s.data.toList).2))))
 (.br (k.toList==cH.toList) (.nd (dI s) (.br (!(dE s 0 24)) (.lf (tJ (aI 8) x)) (.lf (tJ (aI 0) (x.setS s)))))
 (.nd (szB s) (.br (!(cm s.data.toList).2) (.lf (tJ (aI 5) x)) (.br (decide ((cm s.data.toList).1<(fj k).1)) (.lf (tJ (aI 4) x)) (.br (decide ((cm s.data.toList).1>(fj k).2)) (.lf (tJ (aI 4) x)) (.nd (Hh k x) (.lf (tJ (aI 0) (x.setN k (cm s.data.toList).1))))))))))
noncomputable def CV2:iZ Tryz.prog:=d9 LI [⟨_,_,_,GK⟩,⟨_,_,_,Do⟩,⟨_,_,_,Hm⟩,⟨_,_,_,xY⟩,⟨_,_,_,TE⟩] [⟨_,_,_,_,_,Mc⟩]
def nO (k s:ByteArray) (x:VX):Int×VX:=
 if bb k≠[] then(if Lib.idxOfS (bb k) s+1=0 then 2 else 0,x.setN k (Lib.idxOfS (bb k) s+1))
 else if k=bJ then((iK s.data.toList).1,x.wr (iK s.data.toList).2)
 else if k=cH then(if dE s 0 24 then(0,x.setS s) else(8,x))
 else if(cm s.data.toList).2=false then(5,x)
 else if(cm s.data.toList).1<(fj k).1∨(fj k).2<(cm s.data.toList).1 then(4,x)
 else(0,x.setN k (cm s.data.toList).1)
theorem Js {α:Type} (f:ByteArray→Option α) (k:ByteArray) (v:α):mC .s f k v=setF f k v:=by
 funext t
 by_cases h:t=k
 ·exact(if_pos (Kt.eqb_iff.2 h)).trans (if_pos h).symm
 ·exact(if_neg fun e=>h (Kt.eqb_iff.1 e)).trans (if_neg h).symm
theorem VX.v_setN (x:VX) (k:ByteArray) (v:Int):(x.setN k v).v={ x.v with num:=setF x.v.num k v }:=
 congrArg (fun f:ByteArray→Option Int=>(⟨f,x.2.1.2,x.2.2.1.2,⟨x.2.2.2.1,x.2.2.2.2.1,x.2.2.2.2.2.1⟩,x.2.2.2.2.2.2.1⟩:aC)) (Js x.1.2 k v)
theorem VX.num_setN (x:VX) (k:ByteArray) (v:Int):(x.setN k v).num k=v:=congrArg (·.getD (0:Int)) (gF (kt:=.s))
theorem VX.v_wr (x:VX) (r:Option Raw):(x.wr r).v=x.v.withRisk r:=by cases r<;>rfl
theorem V9 (k s:ByteArray) (x:VX):xy k s x.v=((nO k s x).1,(nO k s x).2.v):=by
 unfold xy nO;split
 ·rw[VX.v_setN]
 split
 ·rw[VX.v_wr]
 split
 ·split<;>rfl
 split
 ·rfl
 split
 ·rfl
 ·rw[VX.v_setN]
theorem dI.szB {s:ByteArray} (h:dI s):szB s:=aa7 h (by decide)
theorem MB (k s:ByteArray) (x:VX):(nO k s x).2.1.1≤x.1.1+1∧(nO k s x).2.2.1=x.2.1∧(nO k s x).2.2.2.1=x.2.2.1:=by
 have hw:∀r:Option Raw,(x.wr r).1.1≤x.1.1+1∧(x.wr r).2.1=x.2.1∧(x.wr r).2.2.1=x.2.2.1:=fun r=>by cases r<;>exact⟨Nat.le_succ _,rfl,rfl⟩
 have h0:x.1.1≤x.1.1+1∧x.2.1=x.2.1∧x.2.2.1=x.2.2.1:=⟨Nat.le_succ _,rfl,rfl⟩;unfold nO;split
 ·exact⟨aaW _,rfl,rfl⟩
 split
 ·exact hw _
 split
 ·split<;>exact h0
 split
 ·exact h0
 split
 ·exact h0
 ·exact⟨aaW _,rfl,rfl⟩
theorem Q7:fV Tryz.prog 125 pV [(0,sV),(1,sS),(2,sS)] [(0,sV)] fun((x:VX),(k:ByteArray),(s:ByteArray),_)=>.nd (Hh k x∧dI s) (.lf (tJ (aI (nO k s x).1) (nO k s x).2)):=
 kx (C:=CV2) (nL _ _) 99 [(0,sV),(1,sS),(2,sS)] [(0,sV)] (fun((x:VX),(k:ByteArray),(s:ByteArray),_)=>afM x k s) (fun⟨(x:VX),(k:ByteArray),(s:ByteArray),_⟩ r _ ⟨⟨hk,hs⟩,h⟩=>by
  obtain rfl:tJ (aI (nO k s x).1) (nO k s x).2=r:=h;unfold nO;by_cases h1:bb k=[]
  ·rw[if_neg (by simp[h1])];refine bw (by rw[h1];rfl) ?_;by_cases h2:k=bJ
   ·rw[if_pos h2];exact bf (by rw[h2];simp) ⟨hs.szB,rfl⟩
   refine bw (by rw[eu];exact decide_eq_false h2) ?_;rw[if_neg h2];by_cases h3:k=cH
   ·rw[if_pos h3];refine bf (by rw[h3];simp) ⟨hs,?_⟩;cases h4:dE s 0 24
    ·exact bf rfl rfl
    ·exact bw rfl rfl
   refine bw (by rw[eu];exact decide_eq_false h3) ⟨hs.szB,?_⟩;rw[if_neg h3];by_cases h4:(cm s.data.toList).2=false
   ·rw[if_pos h4];exact bf (by rw[h4];rfl) rfl
   refine bw (by simpa using h4) ?_;rw[if_neg h4];by_cases h5:(cm s.data.toList).1<(fj k).1
   ·rw[if_pos (.inl h5)];exact bf (decide_eq_true h5) rfl
   refine bw (decide_eq_false h5) ?_;by_cases h6:(fj k).2<(cm s.data.toList).1
   ·rw[if_pos (.inr h6)];exact bf (decide_eq_true h6) rfl
   ·rw[if_neg (fun q=>q.elim h5 h6)];exact bw (decide_eq_false h6) ⟨hk,rfl⟩
  ·rw[if_pos h1];refine bf (by simpa using h1) ⟨by have:=tr k s;unfold du;omega,hk,hk.1,?_⟩;rw[VX.num_setN];by_cases h2:Lib.idxOfS (bb k) s+1=0
   ·rw[if_pos h2];exact bf (by rw[h2];rfl) rfl
   ·rw[if_neg h2];exact bw (beq_false_of_ne h2) rfl) Tryz.func125
end Go.Proofs.YtjlhbfbdcfajfaaGreatDoor
