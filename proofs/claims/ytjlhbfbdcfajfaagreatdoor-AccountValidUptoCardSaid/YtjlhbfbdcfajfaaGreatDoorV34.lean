/- Tm12 Tm13 Tm14 -/
import Derived.Test.YtjlhbfbdcfajfaaGreatDoorV00
import Derived.Test.YtjlhbfbdcfajfaaGreatDoorV33
set_option maxHeartbeats 8000000
set_option maxRecDepth 100000
namespace Go.Proofs.YtjlhbfbdcfajfaaGreatDoor
open Go Go.RowKit
abbrev bmL:List (Nat×SS):=[(0,sT),(3,sBb),(4,PV),(5,VH),(6,sNb),(7,sLb),(8,sI),(9,sI),(12,sL),(13,sI)]
abbrev BmE:=LE bmL Zp [(0,sT)]
def jW.ln (b:jW):Int:=b.2.2.2.1
def jW.nm (b:jW):ByteArray:=b.2.1
def ox.me (c:ox):Int:=c.2.2.1
section
variable (b:jW) (kn:List ByteArray) (c:ox) (nm:xd) (ln:xf) (d s:Int) (l:List ByteArray) (i:Int)
def Yo (x:bg):BmE:=.back (x,b,kn,c,nm,ln,d,s,l,i+1,())
def za (x:bg):BmE:=.out (x,b,kn,c,nm,ln,d,s,())
def bmN (x:bg):T BmE:=.nd (du (i+1)) (.lf (Yo b kn c nm ln d s l i x))
def bmF (x:bg):T BmE:=.nd ((0:Int)≠6) (bmN b kn c nm ln d s l i (x.note 6 b.ln))
def bmT (x:bg):T BmE:=
 .br (decide (i<l.length)) (.br (x.err==0) (.nd (0≤i∧i<l.length) (.br (decide (Lib.idxOfS kn.reverse (l.getD i.toNat ⟨#[]⟩)<0)) (.nd (0≤i∧i<l.length)
  (.br (!((l.getD i.toNat ⟨#[]⟩).toList==az.toList)) (bmF b kn c nm ln d s l i x) (.br (c.me==2) (bmF b kn c nm ln d s l i x) (bmN b kn c nm ln d s l i x)))) (bmN b kn c nm ln d s l i x))) (.lf (za b kn c nm ln d s x))) (.lf (za b kn c nm ln d s x))
end
theorem Kz:fO (Kh C7 bfn [0]) 1 3 bmL Zp [(0,sT)] fun((x:bg),(b:jW),(kn:List ByteArray),(c:ox),(nm:xd),(ln:xf),(d:Int),(s:Int),(l:List ByteArray),(i:Int),_)=>.nd (0≤i∧i≤l.length) (.lf (za b kn c nm ln d s (x.setE x.e (fR kn.reverse c.me b.ln (l.drop i.toNat) x.er)))):=by
 refine fS _ (nL _ _) 99 1 3 bmL Zp [(0,sT)] (fun((x:bg),(b:jW),(kn:List ByteArray),(c:ox),(nm:xd),(ln:xf),(d:Int),(s:Int),(l:List ByteArray),(i:Int),_)=>bmT b kn c nm ln d s l i x)
  (fun(_,_,_,_,_,_,_,_,(l:List ByteArray),(i:Int),_)=>l.length-i.toNat) ?_
 rintro⟨(x:bg),(b:jW),(kn:List ByteArray),(c:ox),(nm:xd),(ln:xf),(d:Int),(s:Int),(l:List ByteArray),(i:Int),_⟩ r rG ⟨⟨h0,h1⟩,hr⟩;have hl:l.length≤9223372036854775807:=rG.2.2.2.2.2.2.2.2.1;obtain rfl:za b kn c nm ln d s (x.setE x.e (fR kn.reverse c.me b.ln (l.drop i.toNat) x.er))=r:=hr;obtain⟨k,rfl⟩:∃k:Nat,i=k:=⟨i.toNat,by omega⟩;rw[aaf];show∃q,(bmT b kn c nm ln d s l k x).hit q∧_;unfold bmT;by_cases hk:k<l.length
 ·have hx:=getD_drop (⟨#[]⟩:ByteArray) hk;by_cases he:x.err=0
  ·have dec:l.length-(k+1)<l.length-k:=by omega
   have da:du ((k:Int)+1):=⟨by omega,by omega⟩;rw[hx,fR,if_neg (by simpa using(show x.er.no=0 from he))];rw[aaf];have key:∀no,(if bF kn.reverse (l.getD k ⟨#[]⟩)=true∨(l.getD k ⟨#[]⟩=az∧c.me≠2) then(0:Int) else 6)=no→za b kn c nm ln d s ((x.note no b.ln).setE (x.note no b.ln).e (fR kn.reverse c.me b.ln (l.drop (k+1)) (x.note no b.ln).er))=za b kn c nm ln d s (x.setE x.e (fR kn.reverse c.me b.ln (l.drop (k+1)) (x.er.note (if bF kn.reverse (l.getD k ⟨#[]⟩)=true∨(l.getD k ⟨#[]⟩=az∧c.me≠2) then 0 else 6) b.ln))):=by
    rintro no rfl;rw[oH];rfl
   have no0:(x.note 0 b.ln)=x:=uw _;by_cases hh:bF kn.reverse (l.getD k ⟨#[]⟩)=true
   ·refine⟨_,bf (decide_eq_true (by omega)) (bf (beq_iff_eq.2 he) ⟨⟨by omega,by omega⟩,bw (by unfold bF at hh;simpa using hh) ⟨da,rfl⟩⟩),dec,⟨by omega,by omega⟩,?_⟩;have:=key 0 (if_pos (.inl hh));rw[no0] at this;exact this
   ·have hlt:decide (Lib.idxOfS kn.reverse (l.getD k ⟨#[]⟩)<0)=true:=by unfold bF at hh;simpa using hh
    by_cases hd:l.getD k ⟨#[]⟩=az
    ·by_cases hm:c.me=2
     ·refine⟨_,bf (decide_eq_true (by omega)) (bf (beq_iff_eq.2 he) ⟨⟨by omega,by omega⟩,bf hlt ⟨⟨by omega,by omega⟩,bw (by rw[Bool.not_eq_false'];exact zm.2 hd) (bf (beq_iff_eq.2 hm) ⟨by decide,da,rfl⟩)⟩⟩),dec,⟨by omega,by omega⟩,key 6 (if_neg fun q=>q.elim hh fun q=>q.2 hm)⟩
     ·refine⟨_,bf (decide_eq_true (by omega)) (bf (beq_iff_eq.2 he) ⟨⟨by omega,by omega⟩,bf hlt ⟨⟨by omega,by omega⟩,bw (by rw[Bool.not_eq_false'];exact zm.2 hd) (bw (beq_eq_false_iff_ne.2 hm) ⟨da,rfl⟩)⟩⟩),dec,⟨by omega,by omega⟩,?_⟩;have:=key 0 (if_pos (.inr ⟨hd,hm⟩));rw[no0] at this;exact this
    ·refine⟨_,bf (decide_eq_true (by omega)) (bf (beq_iff_eq.2 he) ⟨⟨by omega,by omega⟩,bf hlt ⟨⟨by omega,by omega⟩,bf (by rw[acD,eu];exact decide_eq_false hd) ⟨by decide,da,rfl⟩⟩⟩),dec,⟨by omega,by omega⟩,key 6 (if_neg fun q=>q.elim hh fun q=>hd q.1)⟩
  ·refine⟨_,bf (decide_eq_true (by omega)) (bw (beq_eq_false_iff_ne.2 he) rfl),?_⟩;rw[hx,fR,if_pos (by exact he)];rfl
 ·refine⟨_,bw (decide_eq_false (by omega)) rfl,?_⟩;rw[aa5 (by omega),fR];rfl
def bg.rc (x:bg):List (ah):=x.2.2.2.2.2.1
def bg.ac (x:bg) (v:ah):bg:=(x.1,x.2.1,x.2.2.1,x.2.2.2.1,x.2.2.2.2.1,(List.cons (α:=ah) v x.rc),x.2.2.2.2.2.2.1,x.2.2.2.2.2.2.2.1,x.2.2.2.2.2.2.2.2.1,x.2.2.2.2.2.2.2.2.2.1,x.2.2.2.2.2.2.2.2.2.2.1,x.2.2.2.2.2.2.2.2.2.2.2.1,x.2.2.2.2.2.2.2.2.2.2.2.2.1,x.2.2.2.2.2.2.2.2.2.2.2.2.2.1,x.2.2.2.2.2.2.2.2.2.2.2.2.2.2.1,x.2.2.2.2.2.2.2.2.2.2.2.2.2.2.2.1,x.2.2.2.2.2.2.2.2.2.2.2.2.2.2.2.2.1,x.2.2.2.2.2.2.2.2.2.2.2.2.2.2.2.2.2.1,x.2.2.2.2.2.2.2.2.2.2.2.2.2.2.2.2.2.2.1,())
def bg.rs (x:bg):List (ByteArray):=x.2.2.2.2.2.2.1
def bg.as (x:bg) (v:ByteArray):bg:=(x.1,x.2.1,x.2.2.1,x.2.2.2.1,x.2.2.2.2.1,x.2.2.2.2.2.1,(List.cons (α:=ByteArray) v x.rs),x.2.2.2.2.2.2.2.1,x.2.2.2.2.2.2.2.2.1,x.2.2.2.2.2.2.2.2.2.1,x.2.2.2.2.2.2.2.2.2.2.1,x.2.2.2.2.2.2.2.2.2.2.2.1,x.2.2.2.2.2.2.2.2.2.2.2.2.1,x.2.2.2.2.2.2.2.2.2.2.2.2.2.1,x.2.2.2.2.2.2.2.2.2.2.2.2.2.2.1,x.2.2.2.2.2.2.2.2.2.2.2.2.2.2.2.1,x.2.2.2.2.2.2.2.2.2.2.2.2.2.2.2.2.1,x.2.2.2.2.2.2.2.2.2.2.2.2.2.2.2.2.2.1,x.2.2.2.2.2.2.2.2.2.2.2.2.2.2.2.2.2.2.1,())
def bg.rn (x:bg):List (ByteArray):=x.2.2.2.2.2.2.2.2.2.2.2.2.2.2.1
def bg.an (x:bg) (v:ByteArray):bg:=(x.1,x.2.1,x.2.2.1,x.2.2.2.1,x.2.2.2.2.1,x.2.2.2.2.2.1,x.2.2.2.2.2.2.1,x.2.2.2.2.2.2.2.1,x.2.2.2.2.2.2.2.2.1,x.2.2.2.2.2.2.2.2.2.1,x.2.2.2.2.2.2.2.2.2.2.1,x.2.2.2.2.2.2.2.2.2.2.2.1,x.2.2.2.2.2.2.2.2.2.2.2.2.1,x.2.2.2.2.2.2.2.2.2.2.2.2.2.1,(List.cons (α:=ByteArray) v x.rn),x.2.2.2.2.2.2.2.2.2.2.2.2.2.2.2.1,x.2.2.2.2.2.2.2.2.2.2.2.2.2.2.2.2.1,x.2.2.2.2.2.2.2.2.2.2.2.2.2.2.2.2.2.1,x.2.2.2.2.2.2.2.2.2.2.2.2.2.2.2.2.2.2.1,())
def bg.rl (x:bg):List (Int×Int):=x.2.2.2.2.2.2.2.2.2.2.2.2.2.2.2.1
def bg.al (x:bg) (v:Int×Int):bg:=(x.1,x.2.1,x.2.2.1,x.2.2.2.1,x.2.2.2.2.1,x.2.2.2.2.2.1,x.2.2.2.2.2.2.1,x.2.2.2.2.2.2.2.1,x.2.2.2.2.2.2.2.2.1,x.2.2.2.2.2.2.2.2.2.1,x.2.2.2.2.2.2.2.2.2.2.1,x.2.2.2.2.2.2.2.2.2.2.2.1,x.2.2.2.2.2.2.2.2.2.2.2.2.1,x.2.2.2.2.2.2.2.2.2.2.2.2.2.1,x.2.2.2.2.2.2.2.2.2.2.2.2.2.2.1,(List.cons (α:=Int×Int) v x.rl),x.2.2.2.2.2.2.2.2.2.2.2.2.2.2.2.2.1,x.2.2.2.2.2.2.2.2.2.2.2.2.2.2.2.2.2.1,x.2.2.2.2.2.2.2.2.2.2.2.2.2.2.2.2.2.2.1,())
def bg.rm (x:bg):List (List ByteArray×List ByteArray):=x.2.2.2.2.2.2.2.2.2.2.2.2.2.2.2.2.1
def bg.am (x:bg) (v:List ByteArray×List ByteArray):bg:=(x.1,x.2.1,x.2.2.1,x.2.2.2.1,x.2.2.2.2.1,x.2.2.2.2.2.1,x.2.2.2.2.2.2.1,x.2.2.2.2.2.2.2.1,x.2.2.2.2.2.2.2.2.1,x.2.2.2.2.2.2.2.2.2.1,x.2.2.2.2.2.2.2.2.2.2.1,x.2.2.2.2.2.2.2.2.2.2.2.1,x.2.2.2.2.2.2.2.2.2.2.2.2.1,x.2.2.2.2.2.2.2.2.2.2.2.2.2.1,x.2.2.2.2.2.2.2.2.2.2.2.2.2.2.1,x.2.2.2.2.2.2.2.2.2.2.2.2.2.2.2.1,(List.cons (α:=List ByteArray×List ByteArray) v x.rm),x.2.2.2.2.2.2.2.2.2.2.2.2.2.2.2.2.2.1,x.2.2.2.2.2.2.2.2.2.2.2.2.2.2.2.2.2.2.1,())
def bg.ofN (t:eO) (z:List ByteArray):bg:=(t.e.title,t.e.dots,t.e.blank,t.e.marked,t.e.prec,t.e.cont.reverse,z,t.e.scan,t.e.batch,t.e.risk.neg,t.e.risk.num,t.e.risk.den,t.e.cell,t.e.seed,t.seen.reverse,t.lines.reverse,t.names.reverse,t.f.no,t.f.line,())
def gU (l:List aw):List ByteArray:=l.map (·.name)
def bg.ofR (t:eO):bg:=.ofN t (gU t.e.styl).reverse
theorem zR (l:List ByteArray):gU (l.map fun n=>⟨n,[],[]⟩)=l:=by
 unfold gU;rw[List.map_map];exact List.map_id l
theorem nI (x:bg) (e:aa) (f:eB) (h1:e.cont=x.cont) (h2:e.styl=x.styl):x.setE e f=.ofR ⟨e,x.seen,x.lines,x.names,f⟩:=by
 have r1:x.rc=e.cont.reverse:=by rw[h1];exact(aal _).symm
 have r2:x.rs=(gU e.styl).reverse:=by
  rw[h2];show x.rs=(gU (x.snm.map fun n=>⟨n,[],[]⟩)).reverse;rw[zR];exact(aal _).symm
 have r3:x.rn=x.seen.reverse:=(aal _).symm;have r4:x.rl=x.lines.reverse:=(aal _).symm;have r5:x.rm=x.names.reverse:=(aal _).symm;show(e.title,e.dots,e.blank,e.marked,e.prec,x.rc,x.rs,e.scan,e.batch,e.risk.neg,e.risk.num,e.risk.den,e.cell,e.seed,x.rn,x.rl,x.rm,f.no,f.line,())=_;rw[r1,r2,r3,r4,r5];rfl
theorem vh (t:eO) (no line:Int):(bg.ofR t).note no line=.ofR (t.note no line):=by
 show(bg.ofR t).setF (nt (bg.ofR t).f no line)=.ofN { t with f:=t.f.note no line } (gU t.e.styl).reverse;have:=Ft (t.f.no,t.f.line) no line;have h2:t.f.note no line=⟨(nt (t.f.no,t.f.line) no line).1,(nt (t.f.no,t.f.line) no line).2⟩:=this;rw[h2];rfl
theorem qt {α:Type} (l:List α) (v:α):(l++[v]).reverse=v::l.reverse:=by simp
theorem aaB (t:eO) (v:ah):(bg.ofR t).ac v=.ofR { t with e:={ t.e with cont:=t.e.cont++[v] } }:=by
 have:=qt t.e.cont v;unfold bg.ofR bg.ofN;rw[this];rfl
theorem aaz (t:eO) (v:aw):(bg.ofR t).as v.name=.ofR { t with e:={ t.e with styl:=t.e.styl++[v] } }:=by
 have:(gU (t.e.styl++[v])).reverse=v.name::(gU t.e.styl).reverse:=by unfold gU;simp
 show _=bg.ofN t (gU (t.e.styl++[v])).reverse;rw[this];rfl
theorem aaA (t:eO) (v:ByteArray):(bg.ofR t).an v=.ofR { t with seen:=t.seen++[v] }:=by
 have:=qt t.seen v;unfold bg.ofR bg.ofN;rw[this];rfl
theorem We (t:eO) (v:Int×Int) (u:List ByteArray×List ByteArray):((bg.ofR t).am u).al v=.ofR { t with lines:=t.lines++[v],names:=t.names++[u] }:=by
 have h1:=qt t.lines v;have h2:=qt t.names u;unfold bg.ofR bg.ofN;rw[h1,h2];rfl
def Ys (b:jW) (x:bg):T SR:=.nd ((x.rn.length+1)*17≤140737488355328) (.lf (Iw (.tup []) (x.an b.kind)))
def be3 (b:jW) (c:ox) (x:bg):T SR:=.nd ((x.rc.length+1)*97≤140737488355328) (Ys b (x.ac { K4 c with name:=b.nm }))
def ox.se (c:ox):Int:=c.2.2.2.1
def be2 (b:jW) (c:ox) (s:Int) (x:bg):T SR:=.br (c.me==1) (.br (decide (c.se>1)) (.nd ((0:Int)≠4) (be3 b c (x.note 4 s))) (be3 b c x)) (be3 b c x)
def beC (b:jW) (kn:List ByteArray) (c:ox) (d s:Int) (x:bg):T SR:=.br (decide (Lib.idxOfS kn.reverse az≥0)) (.br (!(c.me==2)) (.nd ((0:Int)≠5) (be2 b c s (x.note 5 d))) (be2 b c s x)) (be2 b c s x)
def beY (b:jW) (nm:xd) (ln:xf) (x:bg):T SR:=.nd ((x.rs.length+1)*65≤140737488355328) (.nd ((x.rm.length+1)*49≤140737488355328) (.nd ((x.rl.length+1)*17≤140737488355328) (Ys b (((x.as b.nm).am (nm.1,nm.2.1)).al (ln.1,ln.2.1)))))
def bg.bl (x:bg):Int:=x.2.2.1
def bg.mk' (x:bg):Int:=x.2.2.2.1
def beN (b:jW) (x:bg):T SR:=.br (is aP b) (.br (decide (x.bl>x.mk')) (.nd ((0:Int)≠4) (Ys b (x.note 4 b.ln))) (Ys b x)) (Ys b x)
def beT (b:jW) (kn:List ByteArray) (c:ox) (nm:xd) (ln:xf) (d s:Int) (x:bg):T SR:=
 .br (!(x.err==0)) (Ys b x) (.br (is af b) (beC b kn c d s x) (.br (is aD b) (beY b nm ln x) (beN b x)))
def Vh (b:av):jW:=(b.kind,b.name,b.fields,b.line,())
def lZ (x:bg) (b:av):cX:=dJ b.kind b.fields (loc (x.note (jS x.r b.kind b.name) b.line) [] (K2 ah.zero) ([],[],()) ((0:Int),(0:Int),()) 0 0)
def Vg (x:bg) (b:av):bg:=(x.note (jS x.r b.kind b.name) b.line).setE (lZ x b).e (lZ x b).f
def beB (x:bg) (b:av):T SR:=.nd (b.name.size≤9223372036854775807) (.nd (Ve (Vh b) [] 0) (.nd ((0:Int)≤0∧(0:Int)≤(aJ b.kind).length)
 (beT (Vh b) (lZ x b).known.reverse (K2 (lZ x b).c) ((lZ x b).n0,(lZ x b).n1,()) ((lZ x b).l0,(lZ x b).l1,()) (lZ x b).digits (lZ x b).seats ((Vg x b).setE (Vg x b).e (fR (lZ x b).known.reverse.reverse (K2 (lZ x b).c).me b.line (aJ b.kind) (Vg x b).er)))))
def FS (x:bg) (b:av):Prop:=b.name.size≤9223372036854775807∧b.fields.length≤1099511627776∧(∀f∈b.fields,Ka b.kind f)∧x.rn.length≤1099511627776∧x.rc.length≤1099511627776∧x.rs.length≤1099511627776∧x.rm.length≤1099511627776∧x.rl.length≤1099511627776
theorem nE (k:ByteArray):∀(l:List ao) (y:cX),(dJ k l y).e.cont=y.e.cont∧(dJ k l y).e.styl=y.e.styl
 | [],_=>⟨rfl,rfl⟩
 | f::l,y=>by
  unfold dJ;split
  ·exact⟨rfl,rfl⟩
  ·obtain⟨h1,h2⟩:=nE k l (aV k y f);obtain⟨h3,h4⟩:=uU k y f;exact⟨h1.trans h3,h2.trans h4⟩
theorem Yt (x:bg) (b:av):lZ x b=dJ b.kind b.fields (cX.start x.r b):=by
 unfold lZ cX.start loc;have:=oH x (jS x.r b.kind b.name) b.line;show dJ b.kind b.fields ⟨x.e,(x.note (jS x.r b.kind b.name) b.line).er,[],ah.zero,[],[],0,0,0,0⟩=_;rw[this];rfl
section
variable {b:av} {t:eO} (hn:t.seen.length≤1099511627776) (hc:t.e.cont.length≤1099511627776) (hs:t.e.styl.length≤1099511627776) (hm:t.names.length≤1099511627776) (hl:t.lines.length≤1099511627776)
include hn in
theorem ry:(Ys (Vh b) (.ofR t)).hit (Iw (.tup []) (.ofR { t with seen:=t.seen++[b.kind] })):=by
 refine⟨?_,?_⟩
 ·show(t.seen.reverse.length+1)*17≤_;rw[aaH];omega
 ·rw[show(Vh b).kind=b.kind from rfl,aaA];rfl
include hn hc in
theorem Ip (c:ah):(be3 (Vh b) (K2 c) (.ofR t)).hit (Iw (.tup []) (.ofR { t with e:={ t.e with cont:=t.e.cont++[{ c with name:=b.name }] },seen:=t.seen++[b.kind] })):=by
 refine⟨?_,?_⟩
 ·show(t.e.cont.reverse.length+1)*97≤_;rw[aaH];omega
 ·rw[aaB];exact ry (t:={ t with e:={ t.e with cont:=t.e.cont++[{ c with name:=b.name }] } }) hn
include hn hc in
theorem Iq (c:ah) (s:Int):(be2 (Vh b) (K2 c) s (.ofR t)).hit (Iw (.tup []) (.ofR { t with e:={ t.e with cont:=t.e.cont++[{ c with name:=b.name }] },seen:=t.seen++[b.kind],f:=t.f.note (if c.method=1∧1<c.seats then 4 else 0) s })):=by
 unfold be2;refine px (F:=fun no=>Iw (.tup []) (.ofR { t with e:={ t.e with cont:=t.e.cont++[{ c with name:=b.name }] },seen:=t.seen++[b.kind],f:=t.f.note no s })) (by show c.method=1∧1<c.seats↔(c.method==1)=true∧decide (c.seats>1)=true;simp) ⟨by decide,?_⟩ ?_
 ·rw[vh];exact Ip (t:=t.note 4 s) hn hc c
 ·have:t.f.note 0 s=t.f:=if_neg fun q=>q.2 rfl;simp only[this];exact Ip (t:=t) hn hc c
end
theorem KD:fV Tryz.prog 47 [0] [(0,sT),(1,sBk)] [(0,sT)] fun((x:bg),(b:av),_)=>.nd (FS x b) (.lf (Iw (.tup []) (.ofR (fZ x.r b)))):=by
 refine kx (C:=C7) (pb:=[0]) (((nL _ _).add 0 _ KA).add 1 _ Kz) 99 [(0,sT),(1,sBk)] [(0,sT)] (fun((x:bg),(b:av),_)=>beB x b) ?_ Tryz.func47;rintro⟨(x:bg),(b:av),_⟩ r rG ⟨⟨h1,h2,h3,h4,h5,h6,h7,h8⟩,hr⟩;obtain rfl:Iw (.tup []) (.ofR (fZ x.r b))=r:=hr;refine⟨h1,⟨by omega,by omega,rfl,h2,h3⟩,⟨by omega,by omega⟩,?_⟩;obtain⟨r1,r2⟩:=nE b.kind b.fields (cX.start x.r b);unfold fZ;rw[←Yt] at r1 r2 ⊢;have hX:(Vg x b).setE (Vg x b).e (fR (lZ x b).known.reverse.reverse (K2 (lZ x b).c).me b.line (aJ b.kind) (Vg x b).er)=.ofR ⟨(lZ x b).e,x.seen,x.lines,x.names,fR (lZ x b).known (lZ x b).c.method b.line (aJ b.kind) (lZ x b).f⟩:=by
  rw[aal];have e1:Vg x b=.ofR ⟨(lZ x b).e,x.seen,x.lines,x.names,(lZ x b).f⟩:=nI (x.note (jS x.r b.kind b.name) b.line) _ _ r1 r2;have e2:(Vg x b).e=(lZ x b).e:=by
   rw[e1];have r2':(lZ x b).e.styl=x.snm.map fun n=>⟨n,[],[]⟩:=r2;have D2:(((gU (lZ x b).e.styl).reverse.reverse).map fun n=>(⟨n,[],[]⟩:aw))=(lZ x b).e.styl:=by
    rw[r2',aal,zR]
   show(⟨(lZ x b).e.title,(lZ x b).e.dots,(lZ x b).e.blank,(lZ x b).e.marked,(lZ x b).e.prec,(lZ x b).e.cont.reverse.reverse,((gU (lZ x b).e.styl).reverse.reverse).map fun n=>⟨n,[],[]⟩,(lZ x b).e.scan,(lZ x b).e.batch,(lZ x b).e.risk,(lZ x b).e.cell,(lZ x b).e.seed⟩:aa)=_;rw[D2,aal]
  rw[e2];exact nI (x.note (jS x.r b.kind b.name) b.line) _ _ r1 r2
 rw[hX];have hn:x.seen.length≤1099511627776:=by show x.rn.reverse.length≤_;rw[aaH];exact h4
 have hc:(lZ x b).e.cont.length≤1099511627776:=by rw[r1];show x.rc.reverse.length≤_;rw[aaH];exact h5
 have hs:(lZ x b).e.styl.length≤1099511627776:=by rw[r2];show(x.rs.reverse.map _).length≤_;rw[acn,aaH];exact h6
 have hm:x.names.length≤1099511627776:=by show x.rm.reverse.length≤_;rw[aaH];exact h7
 have hl:x.lines.length≤1099511627776:=by show x.rl.reverse.length≤_;rw[aaH];exact h8
 clear hX r1 r2 h3 rG;have abe:x.r.seen=x.seen:=rfl;have KX:x.r.names=x.names:=rfl;have D5:x.r.lines=x.lines:=rfl;generalize lZ x b=y at*;unfold ta;simp only;rw[abe,KX,D5];generalize fR y.known y.c.method b.line (aJ b.kind) y.f=f;generalize x.seen=se at*;generalize x.names=na at*;generalize x.lines=li at*;unfold beT;by_cases h0:f.no≠0
 ·rw[if_pos h0];exact bf (by rw[acD];exact beq_eq_false_iff_ne.2 h0) (ry (t:=⟨y.e,se,li,na,f⟩) hn)
 rw[if_neg h0];refine bw (by rw[Bool.not_eq_false'];exact beq_iff_eq.2 (Decidable.not_not.1 h0)) ?_;have WL:∀k,is k (Vh b)=true↔b.kind=k:=fun k=>zm;by_cases h1:b.kind=af
 ·rw[if_pos h1];refine bf ((WL _).2 h1) ?_;unfold beC;rw[aal];refine px (F:=fun no=>Iw (.tup []) (.ofR { e:={ y.e with cont:=y.e.cont++[{ y.c with name:=b.name }] },seen:=se++[b.kind],lines:=li,names:=na,f:=(f.note no y.digits).note (if y.c.method=1∧1<y.c.seats then 4 else 0) y.seats })) (by show bF y.known az=true∧y.c.method≠2↔bF y.known az=true∧(!(y.c.method==2))=true;simp) ⟨by decide,?_⟩ ?_
  ·rw[vh];exact Iq (t:=(⟨y.e,se,li,na,f⟩:eO).note 5 y.digits) hn hc y.c y.seats
  ·have:f.note 0 y.digits=f:=if_neg fun q=>q.2 rfl;rw[this];exact Iq (t:=⟨y.e,se,li,na,f⟩) hn hc y.c y.seats
 rw[if_neg h1];refine bw (by rw[ade];exact fun e=>h1 ((WL _).1 e)) ?_;by_cases h2:b.kind=aD
 ·rw[if_pos h2];refine bf ((WL _).2 h2) ⟨?_,?_,?_,?_⟩
  ·show((gU y.e.styl).reverse.length+1)*65≤_;unfold gU;rw[aaH,acn];omega
  ·show(na.reverse.length+1)*49≤_;rw[aaH];omega
  ·show(li.reverse.length+1)*17≤_;rw[aaH];omega
  ·rw[show(Vh b).nm=(⟨b.name,[],[]⟩:aw).name from rfl,aaz,We];exact ry (t:={ e:={ y.e with styl:=y.e.styl++[⟨b.name,[],[]⟩] },seen:=se,lines:=li++[(y.l0,y.l1)],names:=na++[(y.n0,y.n1)],f:=f }) hn
 rw[if_neg h2];refine bw (by rw[ade];exact fun e=>h2 ((WL _).1 e)) ?_;unfold beN;by_cases h3:b.kind=aP∧y.e.marked<y.e.blank
 ·rw[if_pos h3];refine bf ((WL _).2 h3.1) (bf (decide_eq_true h3.2) ⟨by decide,?_⟩);rw[vh];exact ry (t:=(⟨y.e,se,li,na,f⟩:eO).note 4 b.line) hn
 ·rw[if_neg h3];have et:=ry (b:=b) (t:=⟨y.e,se,li,na,f⟩) hn;by_cases h4:b.kind=aP
  ·exact bf ((WL _).2 h4) (bw (decide_eq_false fun q=>h3 ⟨h4,q⟩) et)
  ·exact bw (by rw[ade];exact fun e=>h4 ((WL _).1 e)) et
noncomputable def Um (t:TypeId):Option Ty:=List.lookup t [(9,.str),(3,tI),(4,.bool)]
noncomputable def C8:iZ Tryz.prog:=d9 Um [⟨_,_,_,find_ok⟩] [⟨_,_,_,_,_,kw⟩]
noncomputable abbrev lfn:=Tryz.f49
abbrev stZ:List CS:=[.d .str,.d tI,.d tI,.d tI,.d (.list .str),.own (.st 3) 95,.zc (.st 4) (.st 10) 97,.d tI,.d tI,.d .bool,.d (.list .limb),.d (.list .limb),.d tI,.d .str,.own .str 9,.own (.st 7) 152,.own (.st 6) 151,.d tI,.d tI]
abbrev stO:List CS:=[.d .str,.d tI,.d tI,.d tI,.d (.list .str),.own (.st 3) 95,.zip (.st 4) (.st 10) 97 [.d .str,.own tI 3,.own tI 3],.d tI,.d tI,.d .bool,.d (.list .limb),.d (.list .limb),.d tI,.d .str,.own .str 9,.own (.st 7) 152,.own (.st 6) 151,.d tI,.d tI]
abbrev sZ:SS:=.box 104 stZ
abbrev sO:SS:=.box 104 stO
abbrev ii:=fc stZ
abbrev jV:=fc stO
abbrev YV:SS:=.c (.own .bool 4)
noncomputable abbrev JI:Rg Tryz.prog lfn.ntmps:=Am (Kh C8 lfn [0]) [(8,oa 0 6)] [(6,Ow 0 6 (.st 4) (.st 10)),(9,U4 0 6),(14,oa 0 6),(16,oa 0 6),(25,oa 0 6)]
abbrev ZcC:=Nat×List aw×List ByteArray
abbrev ZoC:=Nat×List aw×(ByteArray×List Int×List Int×Unit)×List ByteArray
def jV.z (x:jV):ZoC:=x.2.2.2.2.2.2.1
def jV.setZ (x:jV) (z:ZoC):jV:=(x.1,x.2.1,x.2.2.1,x.2.2.2.1,x.2.2.2.2.1,x.2.2.2.2.2.1,z,x.2.2.2.2.2.2.2.1,x.2.2.2.2.2.2.2.2.1,x.2.2.2.2.2.2.2.2.2.1,x.2.2.2.2.2.2.2.2.2.2.1,x.2.2.2.2.2.2.2.2.2.2.2.1,x.2.2.2.2.2.2.2.2.2.2.2.2.1,x.2.2.2.2.2.2.2.2.2.2.2.2.2.1,x.2.2.2.2.2.2.2.2.2.2.2.2.2.2.1,x.2.2.2.2.2.2.2.2.2.2.2.2.2.2.2.1,x.2.2.2.2.2.2.2.2.2.2.2.2.2.2.2.2.1,x.2.2.2.2.2.2.2.2.2.2.2.2.2.2.2.2.2.1,x.2.2.2.2.2.2.2.2.2.2.2.2.2.2.2.2.2.2.1,())
def jV.prec (x:jV):List ByteArray:=x.2.2.2.2.1
def jV.rl (x:jV):List (Int×Int):=x.2.2.2.2.2.2.2.2.2.2.2.2.2.2.2.1
def jV.ln (x:jV) (i:Int):Int×Int:=x.rl.reverse.getD i.toNat (0,0)
def jV.done (x:jV):List aw:=x.z.2.1
def jV.ps (x:jV):List Int:=x.z.2.2.1.2.1
def jV.cs (x:jV):List Int:=x.z.2.2.1.2.2.1
def jV.nm (x:jV):ByteArray:=x.z.2.2.1.1
def jV.withP (x:jV) (ps cs:List Int):jV:=x.setZ (x.z.1,x.z.2.1,(x.z.2.2.1.1,ps,cs,()),x.z.2.2.2)
def ii.z (x:ii):ZcC:=x.2.2.2.2.2.2.1
def ii.setZ (x:ii) (z:ZcC):ii:=(x.1,x.2.1,x.2.2.1,x.2.2.2.1,x.2.2.2.2.1,x.2.2.2.2.2.1,z,x.2.2.2.2.2.2.2.1,x.2.2.2.2.2.2.2.2.1,x.2.2.2.2.2.2.2.2.2.1,x.2.2.2.2.2.2.2.2.2.2.1,x.2.2.2.2.2.2.2.2.2.2.2.1,x.2.2.2.2.2.2.2.2.2.2.2.2.1,x.2.2.2.2.2.2.2.2.2.2.2.2.2.1,x.2.2.2.2.2.2.2.2.2.2.2.2.2.2.1,x.2.2.2.2.2.2.2.2.2.2.2.2.2.2.2.1,x.2.2.2.2.2.2.2.2.2.2.2.2.2.2.2.2.1,x.2.2.2.2.2.2.2.2.2.2.2.2.2.2.2.2.2.1,x.2.2.2.2.2.2.2.2.2.2.2.2.2.2.2.2.2.2.1,())
def ii.setF (x:ii) (p:Int×Int):ii:=(x.1,x.2.1,x.2.2.1,x.2.2.2.1,x.2.2.2.2.1,x.2.2.2.2.2.1,x.2.2.2.2.2.2.1,x.2.2.2.2.2.2.2.1,x.2.2.2.2.2.2.2.2.1,x.2.2.2.2.2.2.2.2.2.1,x.2.2.2.2.2.2.2.2.2.2.1,x.2.2.2.2.2.2.2.2.2.2.2.1,x.2.2.2.2.2.2.2.2.2.2.2.2.1,x.2.2.2.2.2.2.2.2.2.2.2.2.2.1,x.2.2.2.2.2.2.2.2.2.2.2.2.2.2.1,x.2.2.2.2.2.2.2.2.2.2.2.2.2.2.2.1,x.2.2.2.2.2.2.2.2.2.2.2.2.2.2.2.2.1,p.1,p.2,())
def ii.f (x:ii):Int×Int:=(x.2.2.2.2.2.2.2.2.2.2.2.2.2.2.2.2.2.1,x.2.2.2.2.2.2.2.2.2.2.2.2.2.2.2.2.2.2.1)
def ii.note (x:ii) (no line:Int):ii:=x.setF (nt x.f no line)
def jV.cl (x:jV):ii:=(x.1,x.2.1,x.2.2.1,x.2.2.2.1,x.2.2.2.2.1,x.2.2.2.2.2.1,(x.z.1,x.z.2.1++[⟨x.nm,x.ps.reverse,x.cs.reverse⟩],x.z.2.2.2),x.2.2.2.2.2.2.2.1,x.2.2.2.2.2.2.2.2.1,x.2.2.2.2.2.2.2.2.2.1,x.2.2.2.2.2.2.2.2.2.2.1,x.2.2.2.2.2.2.2.2.2.2.2.1,x.2.2.2.2.2.2.2.2.2.2.2.2.1,x.2.2.2.2.2.2.2.2.2.2.2.2.2.1,x.2.2.2.2.2.2.2.2.2.2.2.2.2.2.1,x.2.2.2.2.2.2.2.2.2.2.2.2.2.2.2.1,x.2.2.2.2.2.2.2.2.2.2.2.2.2.2.2.2.1,x.2.2.2.2.2.2.2.2.2.2.2.2.2.2.2.2.2.1,x.2.2.2.2.2.2.2.2.2.2.2.2.2.2.2.2.2.2.1,())
def ii.op (x:ii):jV:=(x.1,x.2.1,x.2.2.1,x.2.2.2.1,x.2.2.2.2.1,x.2.2.2.2.2.1,(x.z.1,x.z.2.1,(x.z.2.2.getD 0 ⟨#[]⟩,[],[],()),x.z.2.2.drop 1),x.2.2.2.2.2.2.2.1,x.2.2.2.2.2.2.2.2.1,x.2.2.2.2.2.2.2.2.2.1,x.2.2.2.2.2.2.2.2.2.2.1,x.2.2.2.2.2.2.2.2.2.2.2.1,x.2.2.2.2.2.2.2.2.2.2.2.2.1,x.2.2.2.2.2.2.2.2.2.2.2.2.2.1,x.2.2.2.2.2.2.2.2.2.2.2.2.2.2.1,x.2.2.2.2.2.2.2.2.2.2.2.2.2.2.2.1,x.2.2.2.2.2.2.2.2.2.2.2.2.2.2.2.2.1,x.2.2.2.2.2.2.2.2.2.2.2.2.2.2.2.2.2.1,x.2.2.2.2.2.2.2.2.2.2.2.2.2.2.2.2.2.2.1,())
def bg.zb (x:bg):ii:=(x.1,x.2.1,x.2.2.1,x.2.2.2.1,x.2.2.2.2.1,x.2.2.2.2.2.1,(x.rs.length,[],x.rs.reverse),x.2.2.2.2.2.2.2.1,x.2.2.2.2.2.2.2.2.1,x.2.2.2.2.2.2.2.2.2.1,x.2.2.2.2.2.2.2.2.2.2.1,x.2.2.2.2.2.2.2.2.2.2.2.1,x.2.2.2.2.2.2.2.2.2.2.2.2.1,x.2.2.2.2.2.2.2.2.2.2.2.2.2.1,x.2.2.2.2.2.2.2.2.2.2.2.2.2.2.1,x.2.2.2.2.2.2.2.2.2.2.2.2.2.2.2.1,x.2.2.2.2.2.2.2.2.2.2.2.2.2.2.2.2.1,x.2.2.2.2.2.2.2.2.2.2.2.2.2.2.2.2.2.1,x.2.2.2.2.2.2.2.2.2.2.2.2.2.2.2.2.2.2.1,())
section
variable (sl:List (Nat×SS)) {L:Type} (back:jV→List Bool→L) (out:jV→L) (ret:ii→L) (x:jV) (us:List Bool) (i:Int) (l:List ByteArray) (n j:Int)
def lkE (no line:Int):T L:=.nd (0≤i∧i<x.rl.length) (.nd ((0:Int)≠no) (.lf (ret (x.cl.note no line))))
def Wt:T L:=.br (decide (j<n)) (.nd (0≤j∧j<l.length) (.br (decide (Lib.idxOfS x.prec (l.getD j.toNat ⟨#[]⟩)<0)) (lkE ret x i 2 (x.ln i).1)
 (.nd (0≤Lib.idxOfS x.prec (l.getD j.toNat ⟨#[]⟩)∧Lib.idxOfS x.prec (l.getD j.toNat ⟨#[]⟩)<us.length) (.br (us.reverse.getD (Lib.idxOfS x.prec (l.getD j.toNat ⟨#[]⟩)).toNat false) (lkE ret x i 3 (x.ln i).1)
 (.nd (0≤Lib.idxOfS x.prec (l.getD j.toNat ⟨#[]⟩)∧Lib.idxOfS x.prec (l.getD j.toNat ⟨#[]⟩)<us.length) (.nd (i=x.done.length) (.nd ((x.ps.length+1)*9≤140737488355328) (.nd (i=x.done.length) (.nd (du (j+1))
  (.lf (back (x.withP (Lib.idxOfS x.prec (l.getD j.toNat ⟨#[]⟩)::x.ps) x.cs) (us.reverse.set (Lib.idxOfS x.prec (l.getD j.toNat ⟨#[]⟩)).toNat true).reverse))))))))))) (.lf (out x))
def Ws (cn:List ByteArray):T L:=.br (decide (j<n)) (.nd (0≤j∧j<l.length) (.br (decide (Lib.idxOfS cn.reverse (l.getD j.toNat ⟨#[]⟩)<0)) (lkE ret x i 2 (x.ln i).2)
 (.nd (i=x.done.length) (.nd ((x.cs.length+1)*9≤140737488355328) (.nd (i=x.done.length) (.nd (du (j+1)) (.lf (back (x.withP x.ps (Lib.idxOfS cn.reverse (l.getD j.toNat ⟨#[]⟩)::x.cs)) us)))))))) (.lf (out x))
end
abbrev Y5:List (Nat×SS):=[(0,sO),(2,PV),(4,YV),(5,sI),(58,sL),(59,sI),(60,sI)]
abbrev l3L:List (Nat×SS):=[(0,sO),(2,PV),(4,YV),(5,sI),(128,sL),(129,sI),(130,sI)]
abbrev Nl:List (Nat×SS):=[(0,sO),(2,PV),(4,YV),(5,sI)]
def WA (cn:List ByteArray) (i:Int) (l:List ByteArray) (n j:Int) (x:jV) (us:List Bool):LE Y5 Nl [(0,sZ)]:=.back (x,cn,us,i,l,n,j+1,())
def Ha (cn:List ByteArray) (us:List Bool) (i:Int) (x:jV):LE Y5 Nl [(0,sZ)]:=.out (x,cn,us,i,())
def Co (x:ii):LE Y5 Nl [(0,sZ)]:=.ret (.tup []) (x,())
def Wz (cn:List ByteArray) (i:Int) (l:List ByteArray) (n j:Int) (x:jV) (us:List Bool):LE l3L Nl [(0,sZ)]:=.back (x,cn,us,i,l,n,j+1,())
def Nk (cn:List ByteArray) (us:List Bool) (i:Int) (x:jV):LE l3L Nl [(0,sZ)]:=.out (x,cn,us,i,())
def Nj (x:ii):LE l3L Nl [(0,sZ)]:=.ret (.tup []) (x,())
def ci (prec:List ByteArray) (line:Int):List ByteArray→List Bool→List Int→(List Bool×List Int)×eB
 | [],u,a=>((u,a),⟨0,0⟩)
 | s::l,u,a=>if Lib.idxOfS prec s<0 then((u,a),⟨2,line⟩) else if u.getD (Lib.idxOfS prec s).toNat false=true then((u,a),⟨3,line⟩) else ci prec line l (u.set (Lib.idxOfS prec s).toNat true) (a++[Lib.idxOfS prec s])
def em (cn:List ByteArray) (line:Int):List ByteArray→List Int→List Int×eB
 | [],a=>(a,⟨0,0⟩)
 | s::l,a=>if Lib.idxOfS cn s<0 then(a,⟨2,line⟩) else em cn line l (a++[Lib.idxOfS cn s])
def Y4 {L:Type} (out:jV→List Bool→L) (ret:ii→L) (x:jV) (u:List Bool) (ps cs:List Int) (e:eB):T L:=.br (decide (e.no=0)) (.lf (out (x.withP ps.reverse cs.reverse) u.reverse)) (.lf (ret ((x.withP ps.reverse cs.reverse).cl.note e.no e.line)))
def Y3 (x:jV) (us:List Bool) (a:List Int) (i:Int) (l:List ByteArray) (n j:Int):Prop:=0≤j∧j≤l.length∧n=l.length∧i=x.done.length∧i<x.rl.length∧us.length=x.prec.length∧(a.length:Int)=j∧l.length≤1099511627776
theorem JS (l:List ByteArray) (s:ByteArray):Lib.idxOfS l s<0∨(0≤Lib.idxOfS l s∧Lib.idxOfS l s<l.length):=by
 have:∀(l:List ByteArray) (i:Nat),Lib.idxFromS l s i<0∨(0≤Lib.idxFromS l s i∧Lib.idxFromS l s i<i+l.length):=by
  intro l;induction l with
  | nil=>intro i;exact .inl (by show(-1:Int)<0;omega)
  | cons x l ih=>
   intro i;unfold Lib.idxFromS;split
   ·exact .inr ⟨by omega,by rw[abs];omega⟩
   ·rcases ih (i+1) with h|h
    ·exact .inl h
    ·exact .inr ⟨h.1,by rw[abs];omega⟩
 have:=this l 0;unfold Lib.idxOfS;omega
theorem M9:fO JI 2 4 Y5 Nl [(0,sZ)] fun((x:jV),(cn:List ByteArray),(us:List Bool),(i:Int),(l:List ByteArray),(n:Int),(j:Int),_)=>
 .nd (Y3 x us x.ps i l n j) (Y4 (fun x u=>Ha cn u i x) Co x (ci x.prec (x.ln i).1 (l.drop j.toNat) us.reverse x.ps.reverse).1.1 (ci x.prec (x.ln i).1 (l.drop j.toNat) us.reverse x.ps.reverse).1.2 x.cs.reverse (ci x.prec (x.ln i).1 (l.drop j.toNat) us.reverse x.ps.reverse).2):=by
  refine fS _ (nL _ _) 99 2 4 Y5 Nl [(0,sZ)] (fun((x:jV),(cn:List ByteArray),(us:List Bool),(i:Int),(l:List ByteArray),(n:Int),(j:Int),_)=>Wt (WA cn i l n j) (Ha cn us i) Co x us i l n j)
   (fun(_,_,_,_,(l:List ByteArray),_,(j:Int),_)=>l.length-j.toNat) ?_
  rintro⟨(x:jV),(cn:List ByteArray),(us:List Bool),(i:Int),(l:List ByteArray),(n:Int),(j:Int),_⟩ r _ ⟨⟨h0,h1,rfl,rfl,h4,h5,h6,h7⟩,hr⟩;have hr:(Y4 (fun x u=>Ha cn u _ x) Co x _ _ _ _).hit r:=hr;obtain⟨k,rfl⟩:∃k:Nat,j=k:=⟨j.toNat,by omega⟩;rw[aaf] at hr;show∃q,(Wt _ _ _ x us _ l l.length k).hit q∧_;have ND:x.withP x.ps.reverse.reverse x.cs.reverse.reverse=x:=by rw[aal,aal];rfl
  unfold Wt;by_cases hk:k<l.length
  ·rw[getD_drop (⟨#[]⟩:ByteArray) hk,ci] at hr;rw[aaf];have hE:∀no line:Int,no≠0→(Y4 (fun x u=>Ha cn u x.done.length x) Co x us.reverse x.ps.reverse x.cs.reverse ⟨no,line⟩).hit r→(lkE (L:=LE Y5 Nl [(0,sZ)]) Co x x.done.length no line).hit r∧(match r with|.back x'=>False|q=>q=r):=fun no line hn h=>by
    have h:=h.2 (decide_eq_false hn);rw[ND] at h;obtain rfl:=h;exact⟨⟨⟨by omega,h4⟩,acJ hn,rfl⟩,rfl⟩
   split at hr
   ·rename_i hlt;obtain⟨q1,q2⟩:=hE 2 _ (by decide) hr;refine⟨r,bf (decide_eq_true (by omega)) ⟨⟨by omega,by omega⟩,bf (decide_eq_true hlt) q1⟩,?_⟩
    revert q2;cases r<;>intro q2<;>first|exact q2|exact q2.elim
   ·rename_i hge;have hx:=(JS x.prec (l.getD k ⟨#[]⟩)).resolve_left hge;split at hr
    ·rename_i hu;obtain⟨q1,q2⟩:=hE 3 _ (by decide) hr;refine⟨r,bf (decide_eq_true (by omega)) ⟨⟨by omega,by omega⟩,bw (decide_eq_false hge) ⟨⟨hx.1,by omega⟩,bf hu q1⟩⟩,?_⟩
     revert q2;cases r<;>intro q2<;>first|exact q2|exact q2.elim
    ·rename_i hu;refine⟨_,bf (decide_eq_true (by omega)) ⟨⟨by omega,by omega⟩,bw (decide_eq_false hge) ⟨⟨hx.1,by omega⟩,bw (by simpa using hu) ⟨⟨hx.1,by omega⟩,rfl,by omega,rfl,⟨by omega,by omega⟩,rfl⟩⟩⟩,?_,?_⟩
     ·show l.length-(k+1)<l.length-k;omega
     ·refine⟨⟨by omega,by omega,rfl,rfl,h4,?_,?_,h7⟩,?_⟩
      ·rw[aaH,abN,aaH];exact h5
      ·show((x.ps.length+1:Nat):Int)=(k:Int)+1;omega
      ·show(Y4 _ _ _ _ _ _ _).hit r;rw[aal];have e:(Lib.idxOfS x.prec (l.getD k ⟨#[]⟩)::x.ps).reverse=x.ps.reverse++[Lib.idxOfS x.prec (l.getD k ⟨#[]⟩)]:=by simp
       rw[←e] at hr;exact hr
  ·rw[aa5 (by omega),ci] at hr;have h:=hr.1 (decide_eq_true rfl);refine⟨r,bw (decide_eq_false (by omega)) ?_,?_⟩
   ·rw[ND,aal] at h;exact h
   ·obtain rfl:=h;rfl
theorem M8:fO JI 3 6 l3L Nl [(0,sZ)] fun((x:jV),(cn:List ByteArray),(us:List Bool),(i:Int),(l:List ByteArray),(n:Int),(j:Int),_)=>
 .nd (Y3 x us x.cs i l n j) (Y4 (fun x u=>Nk cn u i x) Nj x us.reverse x.ps.reverse (em cn.reverse (x.ln i).2 (l.drop j.toNat) x.cs.reverse).1 (em cn.reverse (x.ln i).2 (l.drop j.toNat) x.cs.reverse).2):=by
  refine fS _ (nL _ _) 99 3 6 l3L Nl [(0,sZ)] (fun((x:jV),(cn:List ByteArray),(us:List Bool),(i:Int),(l:List ByteArray),(n:Int),(j:Int),_)=>Ws (Wz cn i l n j) (Nk cn us i) Nj x us i l n j cn)
   (fun(_,_,_,_,(l:List ByteArray),_,(j:Int),_)=>l.length-j.toNat) ?_
  rintro⟨(x:jV),(cn:List ByteArray),(us:List Bool),(i:Int),(l:List ByteArray),(n:Int),(j:Int),_⟩ r _ ⟨⟨h0,h1,rfl,rfl,h4,h5,h6,h7⟩,hr⟩;have hr:(Y4 (fun x u=>Nk cn u _ x) Nj x _ _ _ _).hit r:=hr;obtain⟨k,rfl⟩:∃k:Nat,j=k:=⟨j.toNat,by omega⟩;rw[aaf] at hr;show∃q,(Ws _ _ _ x us _ l l.length k cn).hit q∧_;have ND:x.withP x.ps.reverse.reverse x.cs.reverse.reverse=x:=by rw[aal,aal];rfl
  unfold Ws;by_cases hk:k<l.length
  ·rw[getD_drop (⟨#[]⟩:ByteArray) hk,em] at hr;rw[aaf];split at hr
   ·rename_i hlt;have h:=hr.2 (decide_eq_false (by show¬(2:Int)=0;decide));rw[ND] at h;obtain rfl:=h;exact⟨_,bf (decide_eq_true (by omega)) ⟨⟨by omega,by omega⟩,bf (decide_eq_true hlt) ⟨⟨by omega,h4⟩,by decide,rfl⟩⟩,rfl⟩
   ·rename_i hge;refine⟨_,bf (decide_eq_true (by omega)) ⟨⟨by omega,by omega⟩,bw (decide_eq_false hge) ⟨rfl,by omega,rfl,⟨by omega,by omega⟩,rfl⟩⟩,?_,?_⟩
    ·show l.length-(k+1)<l.length-k;omega
    ·refine⟨⟨by omega,by omega,rfl,rfl,h4,h5,?_,h7⟩,?_⟩
     ·show((x.cs.length+1:Nat):Int)=(k:Int)+1;omega
     ·have e:(Lib.idxOfS cn.reverse (l.getD k ⟨#[]⟩)::x.cs).reverse=x.cs.reverse++[Lib.idxOfS cn.reverse (l.getD k ⟨#[]⟩)]:=by simp
      rw[←e] at hr;exact hr
  ·rw[aa5 (by omega),em] at hr;have h:=hr.1 (decide_eq_true rfl);refine⟨r,bw (decide_eq_false (by omega)) ?_,?_⟩
   ·rw[ND,aal] at h;exact h
   ·obtain rfl:=h;rfl
abbrev l0L:List (Nat×SS):=[(0,sT),(2,PV),(3,sI)]
abbrev l0O:List (Nat×SS):=[(0,sT),(2,PV)]
def WC (x:bg) (cn:List ByteArray) (i:Int):LE l0L l0O [(0,sZ)]:=.back (x,cn,i,())
def Nn (x:bg) (cn:List ByteArray):LE l0L l0O [(0,sZ)]:=.out (x,cn,())
theorem Nb:fO JI 0 0 l0L l0O [(0,sZ)] fun((x:bg),(cn:List ByteArray),(i:Int),_)=>.nd (0≤i∧i≤x.cont.length∧(cn.length:Int)=i∧x.cont.length≤1099511627776) (.lf (Nn x (((x.cont.drop i.toNat).map (·.name)).reverse++cn))):=by
 refine fS _ (nL _ _) 99 0 0 l0L l0O [(0,sZ)] (fun((x:bg),(cn:List ByteArray),(i:Int),_)=>.br (decide (i<x.rc.length)) (.nd (0≤i∧i<x.rc.length) (.nd ((cn.length+1)*17≤140737488355328) (.nd (du (i+1)) (.lf (WC x ((x.cont.getD i.toNat ah.zero).name::cn) (i+1)))))) (.lf (Nn x cn)))
  (fun((x:bg),_,(i:Int),_)=>x.cont.length-i.toNat) ?_
 rintro⟨(x:bg),(cn:List ByteArray),(i:Int),_⟩ r _ ⟨⟨h0,h1,h2,h3⟩,hr⟩;obtain rfl:=hr;obtain⟨k,rfl⟩:∃k:Nat,i=k:=⟨i.toNat,by omega⟩;have hl:x.rc.length=x.cont.length:=(aaH (α:=ah)).symm;show∃q,(T.br (decide ((k:Int)<x.rc.length)) _ _).hit q∧_;rw[hl,aaf];by_cases hk:k<x.cont.length
 ·refine⟨_,bf (decide_eq_true (by omega)) ⟨⟨by omega,by omega⟩,by omega,⟨by omega,by omega⟩,rfl⟩,?_,⟨by omega,by omega,?_,h3⟩,?_⟩
  ·show x.cont.length-(k+1)<x.cont.length-k;omega
  ·rw[abs];omega
  ·show Nn x (((x.cont.drop (k+1)).map (·.name)).reverse++((x.cont.getD k ah.zero).name::cn))=_;rw[getD_drop ah.zero hk,acq,ab6,abQ];rfl
 ·refine⟨_,bw (decide_eq_false (by omega)) rfl,?_⟩;rw[aa5 (by omega)];rfl
abbrev l4L:List (Nat×SS):=[(0,sZ),(4,YV),(12,sI)]
abbrev l4O:List (Nat×SS):=[(0,sZ)]
def Ni (x:ii) (us:List Bool) (i:Int):LE l4L l4O [(0,sZ)]:=.back (x,us,i,())
def Cn (x:ii):LE l4L l4O [(0,sZ)]:=.out (x,())
theorem Rf {x:ii} {c d line vR:Int} (hc:c≠0):(x.note c line).note d vR=x.note c line:=congrArg x.setF (aaC hc)
theorem Rh {x:ii} (line:Int):x.note 0 line=x:=congrArg x.setF (MD line)
theorem M7:fO JI 4 8 l4L l4O [(0,sZ)] fun((x:ii),(us:List Bool),(i:Int),_)=>.nd (0≤i∧i≤us.length) (.lf (Cn (x.note (if(us.reverse.drop i.toNat).contains false then 6 else 0) 0))):=by
 refine fS _ (nL _ _) 99 4 8 l4L l4O [(0,sZ)] (fun((x:ii),(us:List Bool),(i:Int),_)=>.br (decide (i<us.length)) (.nd (0≤i∧i<us.length) (.br (!(us.reverse.getD i.toNat false)) (.nd ((0:Int)≠6) (.nd (du (i+1)) (.lf (Ni (x.note 6 0) us (i+1))))) (.nd (du (i+1)) (.lf (Ni x us (i+1)))))) (.lf (Cn x)))
  (fun(_,(us:List Bool),(i:Int),_)=>us.length-i.toNat) ?_
 rintro⟨(x:ii),(us:List Bool),(i:Int),_⟩ r rG ⟨⟨h0,h1⟩,hr⟩;obtain rfl:=hr;have hl:us.length≤9223372036854775807:=rG.2.1;obtain⟨k,rfl⟩:∃k:Nat,i=k:=⟨i.toNat,by omega⟩;rw[aaf];by_cases hk:k<us.length
 ·have hd:us.length-(k+1)<us.length-k:=by omega
  have da:du ((k:Int)+1):=⟨by omega,by omega⟩;have hx:=getD_drop (xs:=us.reverse) (i:=k) false (by rw[aaH];exact hk);rw[hx];cases hb:us.reverse.getD k false with
  | false=>
   refine⟨_,bf (decide_eq_true (by omega)) ⟨⟨by omega,by omega⟩,bf (by rw[aaf,hb];rfl) ⟨by decide,da,rfl⟩⟩,hd,⟨by omega,by omega⟩,?_⟩;show Cn ((x.note 6 0).note _ 0)=_;rw[Rf (by decide)];simp
  | true=>
   refine⟨_,bf (decide_eq_true (by omega)) ⟨⟨by omega,by omega⟩,bw (by rw[aaf,hb];rfl) ⟨da,rfl⟩⟩,hd,⟨by omega,by omega⟩,?_⟩;show Cn (x.note (if(us.reverse.drop (k+1)).contains false then 6 else 0) 0)=_;simp
 ·refine⟨_,bw (decide_eq_false (by omega)) rfl,?_⟩;rw[aa5 (by rw[aaH];omega)];exact congrArg Cn (Rh _).symm
abbrev P0:List (Nat×SS):=[(0,sZ),(2,PV),(4,YV),(5,sI)]
abbrev PZ:List (Nat×SS):=[(0,sZ),(4,YV)]
def Nm (cn:List ByteArray) (i:Int) (x:ii) (us:List Bool):LE P0 PZ [(0,sZ)]:=.back (x,cn,us,i+1,())
def Hb (x:ii) (us:List Bool):LE P0 PZ [(0,sZ)]:=.out (x,us,())
def vX (x:ii):LE P0 PZ [(0,sZ)]:=.ret (.tup []) (x,())
def ii.rm (x:ii):List (List ByteArray×List ByteArray):=x.2.2.2.2.2.2.2.2.2.2.2.2.2.2.2.2.1
def jV.nmAt (x:jV) (i:Int):List ByteArray×List ByteArray:=List.getD (List.reverse (α:=List ByteArray×List ByteArray) x.2.2.2.2.2.2.2.2.2.2.2.2.2.2.2.2.1) i.toNat ([],[])
def jV.rm (x:jV):List (List ByteArray×List ByteArray):=x.2.2.2.2.2.2.2.2.2.2.2.2.2.2.2.2.1
def RE {L:Type} (out:jV→List Bool→T L) (ret:ii→L) (x:jV) (u:List Bool) (ps cs:List Int) (e:eB):T L:=.br (decide (e.no=0)) (out (x.withP ps.reverse cs.reverse) u.reverse) (.lf (ret ((x.withP ps.reverse cs.reverse).cl.note e.no e.line)))
section
variable (cn:List ByteArray) (i:Int)
def aaU (y:jV) (us:List Bool):T (LE P0 PZ [(0,sZ)]):=.nd (du (i+1)) (.lf (Nm cn i y.cl us))
def aaV (y:jV) (us:List Bool):T (LE P0 PZ [(0,sZ)]):=.nd (0≤i∧i<y.rm.length) (.nd (Y3 y us y.cs i (y.nmAt i).2 (y.nmAt i).2.length 0) (RE (aaU cn i) vX y us.reverse y.ps.reverse (em cn.reverse (y.ln i).2 ((y.nmAt i).2.drop (Int.toNat 0)) y.cs.reverse).1 (em cn.reverse (y.ln i).2 ((y.nmAt i).2.drop (Int.toNat 0)) y.cs.reverse).2))
def af3 (y:jV) (us:List Bool):T (LE P0 PZ [(0,sZ)]):=.nd (Y3 y us y.ps i (y.nmAt i).1 (y.nmAt i).1.length 0) (RE (aaV cn i) vX y (ci y.prec (y.ln i).1 ((y.nmAt i).1.drop (Int.toNat 0)) us.reverse y.ps.reverse).1.1 (ci y.prec (y.ln i).1 ((y.nmAt i).1.drop (Int.toNat 0)) us.reverse y.ps.reverse).1.2 y.cs.reverse (ci y.prec (y.ln i).1 ((y.nmAt i).1.drop (Int.toNat 0)) us.reverse y.ps.reverse).2)
def M5 (x:ii) (us:List Bool):T (LE P0 PZ [(0,sZ)]):=.br (decide (i<x.rm.length)) (.nd (0≤i∧i<x.rm.length) (.nd (x.z.2.1.length<x.z.1) (af3 cn i x.op us))) (.lf (Hb x us))
end
def pG (prec cn:List ByteArray):List (List ByteArray×List ByteArray)→List (Int×Int)→List aw→List ByteArray→List Bool→(List aw×List ByteArray×List Bool)×eB
 | [],_,done,rest,u=>((done,rest,u),⟨0,0⟩)
 | v::vs,ls,done,rest,u=>
  if(ci prec (ls.getD 0 (0,0)).1 v.1 u []).2.no=0 then
   if(em cn (ls.getD 0 (0,0)).2 v.2 []).2.no=0 then pG prec cn vs (ls.drop 1) (done++[⟨rest.getD 0 ⟨#[]⟩,(ci prec (ls.getD 0 (0,0)).1 v.1 u []).1.2,(em cn (ls.getD 0 (0,0)).2 v.2 []).1⟩]) (rest.drop 1) (ci prec (ls.getD 0 (0,0)).1 v.1 u []).1.1
   else((done++[⟨rest.getD 0 ⟨#[]⟩,(ci prec (ls.getD 0 (0,0)).1 v.1 u []).1.2,(em cn (ls.getD 0 (0,0)).2 v.2 []).1⟩],rest.drop 1,(ci prec (ls.getD 0 (0,0)).1 v.1 u []).1.1),(em cn (ls.getD 0 (0,0)).2 v.2 []).2)
  else((done++[⟨rest.getD 0 ⟨#[]⟩,(ci prec (ls.getD 0 (0,0)).1 v.1 u []).1.2,[]⟩],rest.drop 1,(ci prec (ls.getD 0 (0,0)).1 v.1 u []).1.1),(ci prec (ls.getD 0 (0,0)).1 v.1 u []).2)
def ii.rl (x:ii):List (Int×Int):=x.2.2.2.2.2.2.2.2.2.2.2.2.2.2.2.1
def ii.prec (x:ii):List ByteArray:=x.2.2.2.2.1
def ii.go (x:ii) (cn:List ByteArray) (us:List Bool) (i:Int):(List aw×List ByteArray×List Bool)×eB:=pG x.prec cn.reverse (x.rm.reverse.drop i.toNat) (x.rl.reverse.drop i.toNat) x.z.2.1 x.z.2.2 us.reverse
def ii.withZ (x:ii) (d:List aw) (r:List ByteArray):ii:=x.setZ (x.z.1,d,r)
def Wv (x:ii) (g:(List aw×List ByteArray×List Bool)×eB):T (LE P0 PZ [(0,sZ)]):=.br (decide (g.2.no=0)) (.lf (Hb (x.withZ g.1.1 g.1.2.1) g.1.2.2.reverse)) (.lf (vX ((x.withZ g.1.1 g.1.2.1).note g.2.no g.2.line)))
def aaT (x:ii) (us:List Bool) (i:Int):Prop:=0≤i∧i≤x.rm.length∧i=x.z.2.1.length∧x.rl.length=x.rm.length∧x.z.1=x.rm.length∧us.length=x.prec.length∧x.rm.length≤1099511627776∧∀p∈x.rm.reverse,p.1.length≤1099511627776∧p.2.length≤1099511627776
theorem vL (prec:List ByteArray) (line:Int):∀(l:List ByteArray) (u:List Bool) (a:List Int),(ci prec line l u a).1.1.length=u.length
 | [],_,_=>rfl
 | s::l,u,a=>by
  unfold ci;split
  ·rfl
  ·split
   ·rfl
   ·rw[vL];exact abN
theorem Na:fO JI 1 2 P0 PZ [(0,sZ)] fun((x:ii),(cn:List ByteArray),(us:List Bool),(i:Int),_)=>.nd (aaT x us i) (Wv x (x.go cn us i)):=by
 refine fS _ (((nL _ _).add 2 _ M9).add 3 _ M8) 99 1 2 P0 PZ [(0,sZ)] (fun((x:ii),(cn:List ByteArray),(us:List Bool),(i:Int),_)=>M5 cn i x us)
  (fun((x:ii),_,_,(i:Int),_)=>x.rm.length-i.toNat) ?_
 rintro⟨(x:ii),(cn:List ByteArray),(us:List Bool),(i:Int),_⟩ r _ ⟨⟨h0,h1,h2,h3,h4,h5,h6,h7⟩,hr⟩;obtain⟨k,rfl⟩:∃k:Nat,i=k:=⟨i.toNat,by omega⟩;show∃q,(M5 cn k x us).hit q∧_;have hr:(Wv x (x.go cn us k)).hit r:=hr;unfold M5;have yE:x.rm.reverse.length=x.rm.length:=aaH;have Qb:x.rl.reverse.length=x.rl.length:=aaH;by_cases hk:k<x.rm.length
 ·unfold ii.go at hr;rw[aaf,getD_drop (([],[]):List ByteArray×List ByteArray) (by rw[yE];exact hk),pG] at hr;have hm:=h7 (x.rm.reverse.getD k ([],[])) (by rw[aar,aac (by rw[yE];exact hk)];exact ab7 _);have KX:x.op.nmAt k=x.rm.reverse.getD k ([],[]):=rfl;have D5:(x.rl.reverse.drop k).getD 0 (0,0)=x.op.ln k:=by
   show _=x.rl.reverse.getD k (0,0);rw[aar,acy,aar,adA]
  rw[D5,←KX] at hr;rw[←KX] at hm;have sH:=vL x.prec (x.op.ln k).1 (x.op.nmAt k).1 us.reverse [];have abt:Y3 x.op us x.op.ps k (x.op.nmAt k).1 (x.op.nmAt k).1.length 0:=⟨by omega,by omega,rfl,h2,by show(k:Int)<x.rl.length;omega,h5,rfl,hm.1⟩;have hC:∀{q},(RE (aaV cn k) vX x.op (ci x.prec (x.op.ln k).1 (x.op.nmAt k).1 us.reverse []).1.1 (ci x.prec (x.op.ln k).1 (x.op.nmAt k).1 us.reverse []).1.2 [] (ci x.prec (x.op.ln k).1 (x.op.nmAt k).1 us.reverse []).2).hit q→(M5 cn k x us).hit q:=fun h=>bf (decide_eq_true (by omega)) ⟨⟨by omega,by omega⟩,by omega,abt,h⟩;generalize ci x.prec (x.op.ln k).1 (x.op.nmAt k).1 us.reverse []=p at*;obtain⟨⟨u,ps⟩,e⟩:=p;simp only at hr hC sH;by_cases he:e.no=0
  ·rw[if_pos he] at hr;have abr:Y3 (x.op.withP ps.reverse [].reverse) u.reverse [] k (x.op.nmAt k).2 (x.op.nmAt k).2.length 0:=⟨by omega,by omega,rfl,h2,by show(k:Int)<x.rl.length;omega,by rw[aaH,sH,aaH];exact h5,rfl,hm.2⟩;have hD:∀{q},(RE (aaU cn k) vX (x.op.withP ps.reverse [].reverse) u.reverse.reverse ps.reverse.reverse (em cn.reverse (x.op.ln k).2 (x.op.nmAt k).2 []).1 (em cn.reverse (x.op.ln k).2 (x.op.nmAt k).2 []).2).hit q→(M5 cn k x us).hit q:=fun h=>hC (bf (decide_eq_true he) ⟨⟨by omega,by show(k:Int)<x.rm.length;omega⟩,abr,h⟩);generalize em cn.reverse (x.op.ln k).2 (x.op.nmAt k).2 []=c at*;obtain⟨cs,e2⟩:=c;simp only at hr hD;rw[aal,aal] at hD;by_cases Zh:e2.no=0
   ·rw[if_pos Zh] at hr;have uh:((x.op.withP ps.reverse [].reverse).withP ps.reverse cs.reverse).cl=x.withZ (x.z.2.1++[⟨x.z.2.2.getD 0 ⟨#[]⟩,ps,cs⟩]) (x.z.2.2.drop 1):=by
     show x.withZ (x.z.2.1++[⟨x.z.2.2.getD 0 ⟨#[]⟩,ps.reverse.reverse,cs.reverse.reverse⟩]) (x.z.2.2.drop 1)=_;rw[aal,aal]
    have Xc:(x.op.nm:ByteArray)=x.z.2.2.getD 0 ⟨#[]⟩:=rfl;generalize x.z.2.2.getD 0 ⟨#[]⟩=nm at*;generalize hD3:x.z.2.1++[⟨nm,ps,cs⟩]=d at*;generalize x.z.2.2.drop 1=rest at*;refine⟨Nm cn k (x.withZ d rest) u.reverse,hD (bf (decide_eq_true Zh) ⟨⟨by omega,by omega⟩,by rw[←uh];rfl⟩),?_,?_,?_⟩
    ·show x.rm.length-(k+1)<x.rm.length-k;omega
    ·refine⟨by omega,by show((k:Int)+1)≤x.rm.length;omega,?_,h3,h4,?_,h6,h7⟩
     ·show((k:Int)+1)=(d.length:Nat);rw[←hD3,aa8,ab2];omega
     ·show u.reverse.length=x.prec.length;rw[aaH,sH,aaH];exact h5
    ·have hgo:(x.withZ d rest).go cn u.reverse ((k:Int)+1)=pG x.prec cn.reverse (x.rm.reverse.drop (k+1)) ((x.rl.reverse.drop k).drop 1) d rest u:=by
      rw[adM];show pG x.prec cn.reverse (x.rm.reverse.drop (k+1)) (x.rl.reverse.drop (k+1)) d rest u.reverse.reverse=_;rw[aal]
     show(Wv (x.withZ d rest) ((x.withZ d rest).go cn u.reverse ((k:Int)+1))).hit r;rw[hgo];exact hr
   ·rw[if_neg Zh] at hr;have h:=hr.2 (decide_eq_false Zh);refine⟨_,hD (bw (decide_eq_false Zh) rfl),?_⟩;rw[←h];show vX (ii.note (x.withZ (x.z.2.1++[⟨x.z.2.2.getD 0 ⟨#[]⟩,ps.reverse.reverse,cs.reverse.reverse⟩]) (x.z.2.2.drop 1)) e2.no e2.line)=_;rw[aal,aal]
  ·rw[if_neg he] at hr;have h:=hr.2 (decide_eq_false he);refine⟨_,hC (bw (decide_eq_false he) rfl),?_⟩;rw[←h];show vX (ii.note (x.withZ (x.z.2.1++[⟨x.z.2.2.getD 0 ⟨#[]⟩,ps.reverse.reverse,[]⟩]) (x.z.2.2.drop 1)) e.no e.line)=_;rw[aal]
 ·unfold ii.go at hr;rw[aaf,aa5 (by omega),pG] at hr;have h:=hr.1 (decide_eq_true rfl);refine⟨_,bw (decide_eq_false (by omega)) rfl,?_⟩;rw[←h];show Hb x us=Hb x us.reverse.reverse;rw[aal]
def bg.cn (x:bg):List ByteArray:=((x.cont.drop (Int.toNat 0)).map (·.name)).reverse++[]
def bg.prec (x:bg):List ByteArray:=x.2.2.2.2.1
def bg.us (x:bg):List Bool:=List.replicate (x.prec.length:Int).toNat false
def bg.go (x:bg):(List aw×List ByteArray×List Bool)×eB:=x.zb.go x.cn x.us 0
def yj (x:bg):ii:=if x.go.2.no=0 then(x.zb.withZ x.go.1.1 x.go.1.2.1).note (if x.go.1.2.2.contains false then 6 else 0) 0 else(x.zb.withZ x.go.1.1 x.go.1.2.1).note x.go.2.no x.go.2.line
abbrev SRZ:=XV×ii×Unit
def anZ (x:ii):SRZ:=(.tup [],x,())
def lkB (x:bg):T SRZ:=.nd ((0:Int)≤0∧(0:Int)≤x.cont.length∧(([]:List ByteArray).length:Int)=0∧x.cont.length≤1099511627776) (.nd ((0:Int)≤(x.prec.length:Int)∧(x.prec.length:Int)=x.prec.length∧(x.prec.length:Int)*(1+1)≤281474976710656)
 (.nd (aaT x.zb x.us 0) (.br (decide (x.go.2.no=0)) (.nd ((0:Int)≤0∧(0:Int)≤x.go.1.2.2.reverse.length) (.lf (anZ ((x.zb.withZ x.go.1.1 x.go.1.2.1).note (if(x.go.1.2.2.reverse.reverse.drop (Int.toNat 0)).contains false then 6 else 0) 0)))) (.lf (anZ ((x.zb.withZ x.go.1.1 x.go.1.2.1).note x.go.2.no x.go.2.line))))))
def G0 (x:bg):Prop:=x.cont.length≤1099511627776∧x.prec.length≤1099511627776∧x.lines.length=x.names.length∧x.snm.length=x.names.length∧x.names.length≤1099511627776∧∀p∈x.names,p.1.length≤1099511627776∧p.2.length≤1099511627776
theorem Nf:fV Tryz.prog 49 [0] [(0,sT)] [(0,sZ)] fun((x:bg),_)=>.nd (G0 x) (.lf (anZ (yj x))):=by
 refine OO (R:=JI) ((((nL _ _).add 0 _ Nb).add 1 _ Na).add 4 _ M7) 99 [(0,sT)] [(0,sZ)] (fun((x:bg),_)=>lkB x) ?_ Tryz.func49;rintro⟨(x:bg),_⟩ r _ ⟨⟨h1,h2,h3,h4,h5,h6⟩,hr⟩;obtain rfl:=hr;have hl:∀{α:Type} (l:List α),l.reverse.length=l.length:=fun l=>aaH;have e1:x.zb.rm.length=x.names.length:=(hl x.rm).symm;have e2:x.zb.rl.length=x.lines.length:=(hl x.rl).symm;have e3:x.rs.length=x.snm.length:=(hl x.rs).symm;refine⟨⟨by omega,by omega,rfl,h1⟩,⟨by omega,rfl,by omega⟩,⟨by omega,by omega,rfl,by omega,?_,?_,by omega,h6⟩,?_⟩
 ·show x.rs.length=_;omega
 ·show(List.replicate _ false).length=x.prec.length;rw[adz];omega
 ·unfold yj;by_cases h:x.go.2.no=0
  ·rw[if_pos h];refine bf (decide_eq_true h) ⟨⟨by omega,by omega⟩,?_⟩;rw[aal];rfl
  ·rw[if_neg h];exact bw (decide_eq_false h) rfl
noncomputable def lkS:bg→ii:=shut yj
theorem Wu (x:bg):lkS x=yj x:=congrFun (mz yj) x
theorem JK:fV Tryz.prog 49 [0] [(0,sT)] [(0,sZ)] fun((x:bg),_)=>.nd (G0 x) (.lf (anZ (lkS x))):=by
 unfold lkS;rw[mz];exact Nf
noncomputable def C9:iZ Tryz.prog:=d9 Um [⟨_,_,_,find_ok⟩,⟨_,_,_,nM⟩] [⟨_,_,_,_,_,kw⟩,⟨_,_,_,_,_,KD⟩,⟨_,_,_,_,_,JK⟩]
noncomputable abbrev cfn:=Tryz.f31
abbrev elC:List CS:=[.d .str,.d tI,.d tI,.d tI,.d (.list .str),.d (.list (.st 3)),.d (.list (.st 4)),.d tI,.d tI,.d .bool,.d (.list .limb),.d (.list .limb),.d tI,.d .str]
abbrev sEb:SS:=.box 30 elC
abbrev sGb:SS:=.box 76 [.d tI,.d tI]
abbrev sUb:SS:=.box 81 [.d .str,.d (.list (.st 1))]
abbrev K9:=fc elC
abbrev K8:=fc [.d tI,.d tI]
abbrev Vl:=fc [.d .str,.d (.list (.st 1))]
def Vl.bs (u:Vl):List av:=u.2.1
noncomputable abbrev Yc:Rg Tryz.prog cfn.ntmps:=Am (xZ C9 cfn) [(19,acd 0 6)] []
abbrev c0L:List (Nat×SS):=[(4,sT),(1,sUb),(2,sEb),(3,sGb),(5,sI)]
abbrev Qi:List (Nat×SS):=[(4,sT),(2,sEb),(3,sGb)]
def Yl (x:bg) (u:Vl) (e:K9) (g:K8) (i:Int):LE c0L Qi []:=.back (x,u,e,g,i,())
def Dr (x:bg) (e:K9) (g:K8):LE c0L Qi []:=.out (x,e,g,())
def av.zero:av:=⟨⟨#[]⟩,⟨#[]⟩,[],0⟩
def c0T (x:bg) (u:Vl) (e:K9) (g:K8) (i:Int):T (LE c0L Qi []):=.br (decide (i<u.bs.length)) (.br (x.err==0) (.nd (0≤i∧i<u.bs.length) (.nd (FS x (u.bs.getD i.toNat av.zero)) (.nd (du (i+1)) (.lf (Yl (.ofR (fZ x.r (u.bs.getD i.toNat av.zero))) u e g (i+1)))))) (.lf (Dr x e g))) (.lf (Dr x e g))
abbrev c1L:List (Nat×SS):=[(4,sT),(2,sEb),(3,sGb),(50,PV),(51,sI),(52,sI)]
def Pb (x:bg) (e:K9) (g:K8) (l:List ByteArray) (n i:Int):LE c1L Qi []:=.back (x,e,g,l,n,i,())
def Dq (x:bg) (e:K9) (g:K8):LE c1L Qi []:=.out (x,e,g,())
def c1T (x:bg) (e:K9) (g:K8) (l:List ByteArray) (n i:Int):T (LE c1L Qi []):=.br (decide (i<n)) (.nd (0≤i∧i<l.length) (.br (decide (Lib.idxOfS x.seen (l.reverse.getD i.toNat ⟨#[]⟩)<0)) (.nd ((0:Int)≠6) (.nd (du (i+1)) (.lf (Pb (x.note 6 0) e g l n (i+1))))) (.nd (du (i+1)) (.lf (Pb x e g l n (i+1)))))) (.lf (Dq x e g))
def gO (t:eO):Prop:=t.e.styl=(gU t.e.styl).map fun n=>⟨n,[],[]⟩
theorem Uq (x:bg):bg.ofR x.r=x:=(nI x x.e x.er rfl rfl).symm
theorem GD (x:bg):gO x.r:=by
 show x.styl=(gU x.styl).map _;unfold bg.styl;rw[zR]
theorem xX {t:eO} (h:gO t):(bg.ofR t).r=t:=by
 obtain⟨e,seen,lines,names,f⟩:=t;obtain⟨t1,t2,t3,t4,t5,t6,t7,t8,t9,t10,t11,t12⟩:=e;have h:t7=(gU t7).map fun n=>⟨n,[],[]⟩:=h;show(⟨⟨t1,t2,t3,t4,t5,t6.reverse.reverse,(gU t7).reverse.reverse.map fun n=>⟨n,[],[]⟩,t8,t9,t10,t11,t12⟩,seen.reverse.reverse,lines.reverse.reverse,names.reverse.reverse,f⟩:eO)=_;simp only[aal];rw[←h]
def grT (t t':eO):Prop:=t'.seen.length≤t.seen.length+1∧t'.e.cont.length≤t.e.cont.length+1∧t'.e.styl.length≤t.e.styl.length+1∧t'.names.length≤t.names.length+1∧t'.lines.length≤t.lines.length+1
def oV (t:eO):Prop:=t.names.length=t.e.styl.length∧t.lines.length=t.e.styl.length
theorem MK (a b:List aw):gU (a++b)=gU a++gU b:=adp
theorem Fy (t:eO) (b:av) (y:cX) (h1:y.e.cont=t.e.cont) (h2:y.e.styl=t.e.styl):grT t (ta t b y)∧(gO t→gO (ta t b y))∧(oV t→oV (ta t b y)):=by
 unfold ta;simp only;have e1:(t.seen++[b.kind]).length=t.seen.length+1:=by simp
 split
 ·exact⟨⟨by simp,by simp[h1],by simp[h2],by simp,by simp⟩,fun h=>by unfold gO at h ⊢;simp only[h2];exact h,fun h=>by unfold oV at h ⊢;simp only[h2];exact h⟩
 split
 ·exact⟨⟨by simp,by simp[h1],by simp[h2],by simp,by simp⟩,fun h=>by unfold gO at h ⊢;simp only[h2];exact h,fun h=>by unfold oV at h ⊢;simp only[h2];exact h⟩
 split
 ·refine⟨⟨by simp,by simp[h1],by simp[h2],by simp,by simp⟩,fun h=>?_,fun h=>?_⟩
  ·unfold gO at h ⊢;simp only[h2,MK,adp];rw[←h];rfl
  ·unfold oV at h ⊢;simp only[h2,aa8,ab2];omega
 split
 ·exact⟨⟨by simp[eO.note],by simp[h1,eO.note],by simp[h2,eO.note],by simp[eO.note],by simp[eO.note]⟩,fun h=>by unfold gO eO.note at*;simp only[h2];exact h,fun h=>by unfold oV eO.note at*;simp only[h2];exact h⟩
 ·exact⟨⟨by simp,by simp[h1],by simp[h2],by simp,by simp⟩,fun h=>by unfold gO at h ⊢;simp only[h2];exact h,fun h=>by unfold oV at h ⊢;simp only[h2];exact h⟩
theorem j3 (t:eO) (b:av):grT t (fZ t b)∧(gO t→gO (fZ t b))∧(oV t→oV (fZ t b)):=by
 obtain⟨r1,r2⟩:=nE b.kind b.fields (cX.start t b);exact Fy t b _ r1 r2
def Zq (b:av):Prop:=b.name.size≤9223372036854775807∧b.fields.length≤1099511627776∧∀f∈b.fields,Ka b.kind f
def kJ (t:eO) (k:Nat):Prop:=t.seen.length+k≤1099511627776∧t.e.cont.length+k≤1099511627776∧t.e.styl.length+k≤1099511627776∧t.names.length+k≤1099511627776∧t.lines.length+k≤1099511627776
theorem kJ.blk {x:bg} {b:av} {k:Nat} (h:kJ x.r k) (hb:Zq b):FS x b:=by
 obtain⟨h1,h2,h3,h4,h5⟩:=h;have hlr:∀{α:Type} (l:List α),l.reverse.length=l.length:=fun l=>aaH;have l1:x.rn.length=x.r.seen.length:=(hlr x.rn).symm;have l2:x.rc.length=x.r.e.cont.length:=(hlr x.rc).symm;have l3:x.rs.length=x.r.e.styl.length:=by
  show _=(x.snm.map _).length;rw[acn];exact(hlr x.rs).symm
 have l4:x.rm.length=x.r.names.length:=(hlr x.rm).symm;have l5:x.rl.length=x.r.lines.length:=(hlr x.rl).symm;exact⟨hb.1,hb.2.1,hb.2.2,by omega,by omega,by omega,by omega,by omega⟩
theorem kJ.next {t:eO} {b:av} {k:Nat} (h:kJ t (k+1)):kJ (fZ t b) k:=by
 obtain⟨h1,h2,h3,h4,h5⟩:=h;obtain⟨g1,g2,g3,g4,g5⟩:=(j3 t b).1;exact⟨by omega,by omega,by omega,by omega,by omega⟩
noncomputable def Yk:List av→bg→bg:=shut fun l x=>.ofR (cY l x.r)
theorem FL (l:List av) (x:bg):Yk l x=.ofR (cY l x.r):=by unfold Yk;rw[mz]
theorem Di:fO Yc 0 0 c0L Qi [] fun((x:bg),(u:Vl),(e:K9),(g:K8),(i:Int),_)=>.nd (0≤i∧i≤u.bs.length∧u.bs.length≤1099511627776∧(∀b∈u.bs,Zq b)∧kJ x.r (u.bs.length-i.toNat)) (.lf (Dr (Yk (u.bs.drop i.toNat) x) e g)):=by
 refine fS _ (nL _ _) 99 0 0 c0L Qi [] (fun((x:bg),(u:Vl),(e:K9),(g:K8),(i:Int),_)=>c0T x u e g i)
  (fun(_,(u:Vl),_,_,(i:Int),_)=>u.bs.length-i.toNat) ?_
 rintro⟨(x:bg),(u:Vl),(e:K9),(g:K8),(i:Int),_⟩ r _ ⟨⟨h0,h1,h2,h3,h4⟩,hr⟩;have hr:Dr (Yk (u.bs.drop i.toNat) x) e g=r:=hr;rw[FL] at hr;obtain rfl:=hr;obtain⟨k,rfl⟩:∃k:Nat,i=k:=⟨i.toNat,by omega⟩;rw[aaf] at h4 ⊢;show∃q,(c0T x u e g k).hit q∧_;unfold c0T;by_cases hk:k<u.bs.length
 ·rw[getD_drop av.zero hk,cY];have hb:=h3 (u.bs.getD k av.zero) (by rw[aar,aac hk];exact ab7 hk);by_cases he:x.err=0
  ·rw[if_neg (by simpa using(show x.r.f.no=0 from he))];refine⟨_,bf (decide_eq_true (by omega)) (bf (beq_iff_eq.2 he) ⟨⟨by omega,by omega⟩,h4.blk (by rw[aaf];exact hb),⟨by omega,by omega⟩,rfl⟩),?_,⟨by omega,by omega,h2,h3,?_⟩,?_⟩
   ·show u.bs.length-(k+1)<u.bs.length-k;omega
   ·rw[aaf];have hp:=(j3 x.r (u.bs.getD k av.zero)).2.1 (GD x);rw[xX hp];have:u.bs.length-k=(u.bs.length-((k:Int)+1).toNat)+1:=by omega
    rw[this] at h4;exact h4.next
   ·rw[aaf];have hp:=(j3 x.r (u.bs.getD k av.zero)).2.1 (GD x);show Dr (Yk (u.bs.drop (k+1)) (bg.ofR (fZ x.r (u.bs.getD k av.zero)))) e g=_;rw[FL,xX hp]
  ·rw[if_pos (by exact he),Uq];exact⟨_,bf (decide_eq_true (by omega)) (bw (beq_eq_false_iff_ne.2 he) rfl),rfl⟩
 ·rw[aa5 (by omega),cY,Uq];exact⟨_,bw (decide_eq_false (by omega)) rfl,rfl⟩
def GV (seen:List ByteArray) (l:List ByteArray) (f:eB):eB:=l.foldl (fun f k=>f.note (if bF seen k=true then 0 else 6) 0) f
noncomputable def Yj:bg→List ByteArray→bg:=shut fun x l=>x.setE x.e (GV x.seen l x.er)
theorem FK (x:bg) (l:List ByteArray):Yj x l=x.setE x.e (GV x.seen l x.er):=by unfold Yj;rw[mz]
theorem Dh:fO Yc 1 2 c1L Qi [] fun((x:bg),(e:K9),(g:K8),(l:List ByteArray),(n:Int),(i:Int),_)=>.nd (0≤i∧i≤l.length∧n=l.length) (.lf (Dq (Yj x (l.reverse.drop i.toNat)) e g)):=by
 refine fS _ (nL _ _) 99 1 2 c1L Qi [] (fun((x:bg),(e:K9),(g:K8),(l:List ByteArray),(n:Int),(i:Int),_)=>c1T x e g l n i)
  (fun(_,_,_,(l:List ByteArray),_,(i:Int),_)=>l.length-i.toNat) ?_
 rintro⟨(x:bg),(e:K9),(g:K8),(l:List ByteArray),(n:Int),(i:Int),_⟩ r rG ⟨⟨h0,h1,rfl⟩,hr⟩;have hr:Dq (Yj x (l.reverse.drop i.toNat)) e g=r:=hr;rw[FK] at hr;obtain rfl:=hr;have hl:l.length≤9223372036854775807:=rG.2.2.2.1;obtain⟨k,rfl⟩:∃k:Nat,i=k:=⟨i.toNat,by omega⟩;rw[aaf];show∃q,(c1T x e g l l.length k).hit q∧_;unfold c1T;by_cases hk:k<l.length
 ·rw[getD_drop (⟨#[]⟩:ByteArray) (by rw[aaH];exact hk)];have hd:l.length-(k+1)<l.length-k:=by omega
  have da:du ((k:Int)+1):=⟨by omega,by omega⟩;have key:∀no,(if bF x.seen (l.reverse.getD k ⟨#[]⟩)=true then(0:Int) else 6)=no→Dq (Yj (x.note no 0) (l.reverse.drop (k+1))) e g=Dq (x.setE x.e (GV x.seen (l.reverse.getD k ⟨#[]⟩::l.reverse.drop (k+1)) x.er)) e g:=by
   rintro no rfl;rw[FK,oH];rfl
  by_cases h:bF x.seen (l.reverse.getD k ⟨#[]⟩)=true
  ·refine⟨_,bf (decide_eq_true (by omega)) ⟨⟨by omega,by omega⟩,bw (by rw[aaf];unfold bF at h;simpa using h) ⟨da,rfl⟩⟩,hd,⟨by omega,by omega,rfl⟩,?_⟩;have:=key 0 (if_pos h);rw[uw] at this;exact this
  ·exact⟨_,bf (decide_eq_true (by omega)) ⟨⟨by omega,by omega⟩,bf (by rw[aaf];unfold bF at h;simpa using h) ⟨by decide,da,rfl⟩⟩,hd,⟨by omega,by omega,rfl⟩,key 6 (if_neg h)⟩
 ·rw[aa5 (by rw[aaH];omega)];exact⟨_,bw (decide_eq_false (by omega)) rfl,rfl⟩
def cp0 (t:ByteArray):bg:=(t,(0:Int),(0:Int),(0:Int),[],[],[],(0:Int),(0:Int),false,[],[],(0:Int),⟨#[]⟩,[],[],[],(0:Int),(0:Int),())
def ML:AV:=.val (.slice none 0 0)
def Ii (f:Int×Int):XV:=.tup [(true,[.sym (.string ⟨#[]⟩),.sym (.int .i64 0),.sym (.int .i64 0),.sym (.int .i64 0),ML,ML,ML,.sym (.int .i64 0),.sym (.int .i64 0),.sym (.bool false),ML,ML,.sym (.int .i64 0),.sym (.string ⟨#[]⟩)]),(true,[.sym (.int .i64 f.1),.sym (.int .i64 f.2)])]
def ii.rc (x:ii):List ah:=x.2.2.2.2.2.1
def cpO (x:ii):XV:=.tup [(true,[.sym (.string x.1),.sym (.int .i64 x.2.1),.sym (.int .i64 x.2.2.1),.sym (.int .i64 x.2.2.2.1),.list .str x.2.2.2.2.1 false,.list (.st 3) x.rc.reverse !x.rc.isEmpty,.list (.st 4) x.z.2.1.reverse.reverse !x.z.2.1.reverse.isEmpty,.sym (.int .i64 x.2.2.2.2.2.2.2.1),.sym (.int .i64 x.2.2.2.2.2.2.2.2.1),.sym (.bool x.2.2.2.2.2.2.2.2.2.1),.list .limb x.2.2.2.2.2.2.2.2.2.2.1 false,.list .limb x.2.2.2.2.2.2.2.2.2.2.2.1 false,.sym (.int .i64 x.2.2.2.2.2.2.2.2.2.2.2.2.1),.sym (.string x.2.2.2.2.2.2.2.2.2.2.2.2.2.1)]),(true,[.sym (.int .i64 0),.sym (.int .i64 0)])]
noncomputable def cpN (x:ii):T XV:=.br (!(x.f.1==0)) (.lf (Ii x.f)) (.nd (x.z.1=x.z.2.1.length) (.lf (cpO x)))
noncomputable def cpM (x:bg):T XV:=.br (x.err==0) (.nd (G0 x) (cpN (lkS x))) (.br (!(x.err==0)) (.lf (Ii x.f)) .bad)
noncomputable def cpL (bs:List av) (x:bg):T XV:=.nd ((0:Int)≤0∧(0:Int)≤bs.length∧bs.length≤1099511627776∧(∀b∈bs,Zq b)∧kJ x.r (bs.length-Int.toNat 0)) (.nd ((0:Int)≤0∧(0:Int)≤iR.reverse.length∧(iR.reverse.length:Int)=iR.reverse.length)
 (cpM (Yj (Yk (bs.drop (Int.toNat 0)) x) (iR.reverse.reverse.drop (Int.toNat 0)))))
noncomputable def cpB (s:cJ):T XV:=.br (decide ((s.title.size:Int)>60)) (.nd ((0:Int)≠8) (cpL s.blocks ((cp0 s.title).note 8 0))) (.nd (s.title.size≤9223372036854775807) (.br (!fE s.title.data.toList) (.nd ((0:Int)≠8) (cpL s.blocks ((cp0 s.title).note 8 0))) (cpL s.blocks (cp0 s.title))))
end Go.Proofs.YtjlhbfbdcfajfaaGreatDoor
