/- La2 Ef1 Ef2 Ef3 Ef4 Sb2 -/
import Derived.Test.YtdbpbfglhbiadaaGreatDoorH00
import Derived.Test.YtdbpbfglhbiadaaGreatDoorH35
import Derived.Test.YtdbpbfglhbiadaaGreatDoorH02
import Derived.Test.YtdbpbfglhbiadaaGreatDoorH41
import Derived.Test.YtdbpbfglhbiadaaGreatDoorH39
set_option maxHeartbeats 4000000
set_option maxRecDepth 100000
namespace Go.Proofs.YtdbpbfglhbiadaaGreatDoor
open Go Go.RowKit
noncomputable abbrev rsF:=Tryz.f19
noncomputable abbrev ad3:Rg Tryz.prog rsF.ntmps:=mi C0 rsF
abbrev YM:List (Nat×SS):=[(1,sI),(2,Ym),(5,sI),(20,sIz),(21,sI),(22,sI)]
abbrev YL:List (Nat×SS):=[(1,sI),(2,Ym),(5,sI)]
abbrev ag1:=LE YM YL []
def YK (p:Int) (e:sG) (i:Int) (l:List Int) (n k:Int):T ag1:=.br (decide (k<n)) (.nd (0<=k/\k<l.length) (.br (l.getD k.toNat 0==p) (.lf (.ret (aI i) ())) (.nd (cw (k+1)) (.lf (.back (p,e,i,l,n,k+1,())))))) (.lf (.out (p,e,i,())))
def ad4 (p:Int) (e:sG) (i:Int) (b:Bool):T ag1:=.br b (.lf (.ret (aI i) ())) (.lf (.out (p,e,i,())))
theorem NN:cL ad3 1 2 YM YL [] λ((p:Int),(e:sG),(i:Int),(l:List Int),(n:Int),(k:Int),_)=>.nd (0<=k/\k<=l.length/\n=l.length/\l.length<=1099511627776) (ad4 p e i (decide (p∈l.drop k.toNat))):=by
 refine fy _ (nL _ _) 99 1 2 YM YL [] (λ((p:Int),(e:sG),(i:Int),(l:List Int),(n:Int),(k:Int),_)=>YK p e i l n k) (λ(_,_,_,(l:List Int),_,(k:Int),_)=>l.length-k.toNat) ?_;rintro⟨(p:Int),(e:sG),(i:Int),(l:List Int),(n:Int),(k:Int),_⟩ r _ ⟨⟨h0,h1,rfl,h2⟩,hr⟩;obtain⟨k,rfl⟩:∃q:Nat,k=q:=⟨k.toNat,by omega⟩;have hr:(ad4 p e i (decide (p∈l.drop k))).hit r:=hr;show∃q,(YK p e i l l.length k).hit q/\_;unfold YK;rw[aae];by_cases hk:k<l.length
 ·rw[getD_drop (0:Int) hk] at hr;obtain⟨a,ha⟩:∃a,l.getD k 0=a:=⟨_,rfl⟩;rw[ha] at hr ⊢;have gM:0<=(k:Int)/\(k:Int)<l.length:=⟨by omega,by omega⟩;by_cases hx:a=p
  ·rw[decide_eq_true (by rw[hx];exact aaz)] at hr;exact⟨.ret (aI i) (),aC (decide_eq_true (by omega)) ⟨gM,aC (beq_iff_eq.2 hx) rfl⟩,hr.1 rfl⟩
  ·rw[show decide (p∈a::l.drop (k+1))=decide (p∈l.drop (k+1)) from decide_eq_decide.2 ⟨λh=>by rcases abs.1 h with h|h;exact absurd h.symm hx;exact h,λh=>aa0 _ h⟩] at hr;exact⟨.back (p,e,i,l,(l.length:Int),(k:Int)+1,()),aC (decide_eq_true (by omega)) ⟨gM,aK (beq_eq_false_iff_ne.2 hx) ⟨⟨by omega,by omega⟩,rfl⟩⟩,(by show l.length-(k+1)<l.length-k;omega),⟨by omega,by omega,rfl,h2⟩,hr⟩
 ·rw[aaQ (by omega)] at hr;exact⟨.out (p,e,i,()),aK (decide_eq_false (by omega)) rfl,hr.2 (by simp)⟩
def sG.st (e:sG):List aj:=e.2.2.2.2.2.2.1
abbrev YO:List (Nat×SS):=[(1,sI),(2,Ym),(5,sI)]
abbrev ab2:=LE YO [] []
def ajV (p:Int) (e:sG) (i:Int) (s:aj):T ab2:=.nd ((0:Int)<=0/\(0:Int)<=s.prec.length/\(s.prec.length:Int)=s.prec.length/\s.prec.length<=1099511627776) (.br (decide (p∈s.prec.drop (Int.toNat 0))) (.lf (.ret (aI i) ())) (.nd (cw (i+1)) (.lf (.back (p,e,i+1,())))))
def YN (p:Int) (e:sG) (i:Int):T ab2:=.br (decide (i<e.st.length)) (.nd (0<=i/\i<e.st.length) (ajV p e i (e.st.getD i.toNat aj.z0))) (.lf (.out ()))
def ad5 (v:Int):T ab2:=.br (v== -1) (.lf (.out ())) (.lf (.ret (aI v) ()))
theorem YJ:cL ad3 0 0 YO [] [] λ((p:Int),(e:sG),(i:Int),_)=>.nd (oR e.st e.st.length i) (ad5 (gE p (e.st.drop i.toNat) i.toNat)):=by
 refine fy _ ((nL _ _).add 1 _ NN) 99 0 0 YO [] [] (λ((p:Int),(e:sG),(i:Int),_)=>YN p e i) (λ(_,(e:sG),(i:Int),_)=>e.st.length-i.toNat) ?_;rintro⟨(p:Int),(e:sG),(i:Int),_⟩ r _ ⟨⟨h0,h1,_,h2,h3⟩,hr⟩;obtain⟨k,rfl⟩:∃k:Nat,i=k:=⟨i.toNat,by omega⟩;have hr:(ad5 (gE p (e.st.drop k) k)).hit r:=hr;show∃q,(YN p e k).hit q/\_;unfold YN;rw[aae];by_cases hk:k<e.st.length
 ·rw[getD_drop aj.z0 hk] at hr;obtain⟨a,ha⟩:∃a,e.st.getD k aj.z0=a:=⟨_,rfl⟩;have hs:=h3 a (by rw[<-ha,aal,aac hk];exact ach hk);rw[ha] at hr ⊢;have gM:0<=(k:Int)/\(k:Int)<e.st.length:=⟨by omega,by omega⟩;unfold gE at hr;by_cases hx:p∈a.prec
  ·rw[if_pos hx] at hr;have hq:((k:Int)== -1)=false:=beq_eq_false_iff_ne.2 (by omega);exact⟨.ret (aI k) (),aC (decide_eq_true (by omega)) ⟨gM,⟨by omega,by omega,rfl,hs⟩,aC (decide_eq_true hx) rfl⟩,hr.2 hq⟩
  ·rw[if_neg hx] at hr;exact⟨.back (p,e,(k:Int)+1,()),aC (decide_eq_true (by omega)) ⟨gM,⟨by omega,by omega,rfl,hs⟩,aK (decide_eq_false hx) ⟨⟨by omega,by omega⟩,rfl⟩⟩,(by show e.st.length-(k+1)<e.st.length-k;omega),⟨by omega,by omega,rfl,h2,h3⟩,hr⟩
 ·rw[aaQ (by omega)] at hr;exact⟨.out (),aK (decide_eq_false (by omega)) rfl,hr.1 rfl⟩
def rsB (e:aa) (p:Int):T XV:=.nd (oR e.styl e.styl.length 0) (.br (gE p (e.styl.drop (Int.toNat 0)) (Int.toNat 0)== -1) (.lf (aI (-1))) (.lf (aI (gE p (e.styl.drop (Int.toNat 0)) (Int.toNat 0)))))
theorem Kg:ao Tryz.prog 19 false (az [(0,.st 5),(1,sI)] λ((e:aa),(p:Int),_)=>.nd (oR e.styl e.styl.length 0) (.lf (aI (gE p e.styl 0)))):=
 (aN (C:=C0) (((nL _ _).add 1 _ NN).add 0 _ YJ) false 99 [(0,.st 5),(1,sI)] (G:=λ((e:aa),(p:Int),_)=>rsB e p) (λ((e:aa),(p:Int),_)=>rsB e p) (λ⟨_,_,_⟩ r _ h=>⟨h,.inr (by obtain⟨_,h⟩:=h;rcases hB h with⟨_,h⟩|⟨_,h⟩<;>(obtain rfl:=h;rfl))⟩) Tryz.func19).imp λ⟨(e:aa),(p:Int),_⟩ r hr=>by
  obtain⟨h0,rfl⟩:=hr;show∃q,(T.nd _ (.br (gE p e.styl 0== -1) (.lf (aI (-1))) (.lf (aI (gE p e.styl 0))))).hit q/\_;by_cases h:gE p e.styl 0= -1
  ·exact⟨_,⟨h0,aC (beq_iff_eq.2 h) rfl⟩,λw S v hv=>by rw[h];exact hv⟩
  ·exact⟨_,⟨h0,aK (beq_eq_false_iff_ne.2 h) rfl⟩,λw S v hv=>hv⟩
structure kA (v:aJ):Prop where
 num:∀k,(v.ln k).isSome=true->¬0<bL k->aD k=[]->k≠dZ->k≠gJ->(dz k).1<=v.n k/\v.n k<=(dz k).2
 cho:∀k,(v.ln k).isSome=true->¬0<bL k->aD k≠[]->1<=v.n k/\v.n k<=(aD k).length
 lst:∀k,(v.ln k).isSome=true->0<bL k->dl (v.s k) (bL k)=0
theorem BI:kA aJ.zero:=⟨(λ_ h=>by cases h),(λ_ h=>by cases h),(λ_ h=>by cases h)⟩
theorem oT {α:Type} (f:ByteArray->Option α) (k:ByteArray) (x:α):setF f k x k=some x:=if_pos rfl
theorem bN {α:Type} (f:ByteArray->Option α) {k t:ByteArray} (x:α) (h:t≠k):setF f k x t=f t:=if_neg h
theorem qi (x:ByteArray):∀(zs:List ByteArray) (i:Nat),Lib.idxFromS zs x i= -1\/((i:Int)<=Lib.idxFromS zs x i/\Lib.idxFromS zs x i<(i+zs.length:Nat))
 | [],i=>.inl rfl
 | z::zs,i=>by
  have:=qi x zs (i+1);unfold Lib.idxFromS;rw[aaJ];split
  ·exact .inr ⟨by omega,by omega⟩
  ·rcases this with h|h
   ·exact .inl h
   ·exact .inr ⟨by omega,by omega⟩
theorem vZ (zs:List ByteArray) (x:ByteArray):Lib.idxOfS zs x= -1\/(0<=Lib.idxOfS zs x/\Lib.idxOfS zs x<zs.length):=by
 have:=qi x zs 0;rw[acg] at this;exact this
theorem NZ {kind:ByteArray} {f:ai} {v:aJ} (hv:kA v) (h:(bV kind f v).1=0):kA (bV kind f v).2:=by
 unfold bV at h ⊢;split at h
 ·cases h
 rename_i h1;rw[if_neg h1];split at h
 ·cases h
 rename_i h2;rw[if_neg h2];split at h
 ·rename_i h3;rw[if_pos h3];refine⟨λk hk hl hc hr hs=>?_,λk hk hl hc=>?_,λk hk hl=>?_⟩
  ·by_cases e:k=f.key
   ·subst e;exact absurd h3 hl
   ·exact hv.num k (by simpa[bN _ _ e] using hk) hl hc hr hs
  ·by_cases e:k=f.key
   ·subst e;exact absurd h3 hl
   ·exact hv.cho k (by simpa[bN _ _ e] using hk) hl hc
  ·by_cases e:k=f.key
   ·subst e;show dl ((setF v.lst f.key f.vals f.key).getD []) _=0;rw[oT];exact h
   ·show dl ((setF v.lst f.key f.vals k).getD []) _=0;rw[bN _ _ e];exact hv.lst k (by simpa[bN _ _ e] using hk) hl
 ·rename_i h3;rw[if_neg h3];split at h
  ·cases h
  ·rename_i h4;rw[if_neg h4];generalize f.vals.getD 0 ⟨#[]⟩=s at h ⊢;unfold vi at h ⊢;split at h
   ·rename_i h5;rw[if_pos h5];have h6:¬Lib.idxOfS (aD f.key) s+1=0:=λe=>by
     simp only[e,if_true] at h;cases h
    refine⟨λk hk hl hc hr hs=>?_,λk hk hl hc=>?_,λk hk hl=>?_⟩
    ·by_cases e:k=f.key
     ·subst e;exact absurd hc h5
     ·show _<=(setF v.num f.key _ k).getD 0/\(setF v.num f.key _ k).getD 0<=_;rw[bN _ _ e];exact hv.num k (by simpa[bN _ _ e] using hk) hl hc hr hs
    ·by_cases e:k=f.key
     ·subst e;show 1<=(setF v.num f.key _ f.key).getD 0/\(setF v.num f.key _ f.key).getD 0<=_;rw[oT];show 1<=Lib.idxOfS (aD f.key) s+1/\Lib.idxOfS (aD f.key) s+1<=_;rcases vZ (aD f.key) s with h7|h7<;>omega
     ·show 1<=(setF v.num f.key _ k).getD 0/\(setF v.num f.key _ k).getD 0<=_;rw[bN _ _ e];exact hv.cho k (by simpa[bN _ _ e] using hk) hl hc
    ·by_cases e:k=f.key
     ·subst e;exact absurd hl h3
     ·exact hv.lst k (by simpa[bN _ _ e] using hk) hl
   ·rename_i h5;rw[if_neg h5];have h5':aD f.key=[]:=aca.1 h5;have old:∀v':aJ,v'.num=v.num->v'.lst=v.lst->v'.ln=setF v.ln f.key f.line->(f.key=dZ\/f.key=gJ)->kA v':=λv' e1 e2 e3 hk=>by
     refine⟨λk nR hl hc hr hs=>?_,λk nR hl hc=>?_,λk nR hl=>?_⟩
     ·by_cases e:k=f.key
      ·subst e;rcases hk with hk|hk;exact absurd hk hr;exact absurd hk hs
      ·unfold aJ.n;rw[e1];exact hv.num k (by rw[e3,bN _ _ e] at nR;exact nR) hl hc hr hs
     ·by_cases e:k=f.key
      ·subst e;exact absurd h5' hc
      ·unfold aJ.n;rw[e1];exact hv.cho k (by rw[e3,bN _ _ e] at nR;exact nR) hl hc
     ·by_cases e:k=f.key
      ·subst e;exact absurd hl h3
      ·unfold aJ.s;rw[e2];exact hv.lst k (by rw[e3,bN _ _ e] at nR;exact nR) hl
    split at h
    ·rename_i h6;rw[if_pos h6];refine old _ ?_ ?_ ?_ (.inl h6)<;>(unfold aJ.withRisk;split<;>rfl)
    ·rename_i h6;rw[if_neg h6];split at h
     ·rename_i h7;rw[if_pos h7];split at h
      ·rename_i h8;rw[if_pos h8];exact old _ rfl rfl rfl (.inr h7)
      ·cases h
     ·rename_i h7;rw[if_neg h7];split at h
      ·cases h
      ·rename_i h8;rw[if_neg h8];split at h
       ·cases h
       ·rename_i h9;rw[if_neg h9];have h9':(dz f.key).1<=(bQ s.data.toList).1/\(bQ s.data.toList).1<=(dz f.key).2:=by omega
        refine⟨λk hk hl hc hr hs=>?_,λk hk hl hc=>?_,λk hk hl=>?_⟩
        ·by_cases e:k=f.key
         ·subst e;show _<=(setF v.num f.key _ f.key).getD 0/\(setF v.num f.key _ f.key).getD 0<=_;rw[oT];exact h9'
         ·show _<=(setF v.num f.key _ k).getD 0/\(setF v.num f.key _ k).getD 0<=_;rw[bN _ _ e];exact hv.num k (by simpa[bN _ _ e] using hk) hl hc hr hs
        ·by_cases e:k=f.key
         ·subst e;exact absurd h5' hc
         ·show 1<=(setF v.num f.key _ k).getD 0/\(setF v.num f.key _ k).getD 0<=_;rw[bN _ _ e];exact hv.cho k (by simpa[bN _ _ e] using hk) hl hc
        ·by_cases e:k=f.key
         ·subst e;exact absurd hl h3
         ·exact hv.lst k (by simpa[bN _ _ e] using hk) hl
theorem xW {kind:ByteArray}:∀{l:List ai} {v:aJ},kA v->(dU kind l v).1.no=0->kA (dU kind l v).2
 | [],v,hv,_=>hv
 | f::l,v,hv,h=>by
  unfold dU at h ⊢;split at h
  ·rename_i h1;exact absurd h h1
  ·rename_i h1;rw[if_neg h1];exact xW (NZ hv (aca.1 h1)) h
theorem yj {v:aJ} {line:Int} {e:dG}:∀{l:List ByteArray},(mU v line e l).no=0->e.no=0/\∀k∈l,ey v k=false
 | [],h=>⟨h,λk hk=>by cases hk⟩
 | k::l,h=>by
  unfold mU at h;split at h
  ·cases h
  ·rename_i h1;obtain⟨h2,h3⟩:=yj h;refine⟨h2,λj hj=>?_⟩;rcases abs.1 hj with rfl|hj
   ·simpa using h1
   ·exact h3 j hj
theorem rM {v:aJ} {k:ByteArray} (h:ey v k=false) (hk:k≠aH):(v.ln k).isSome=true:=by
 unfold ey at h;rw[decide_eq_true hk,Bool.true_or,Bool.and_true] at h;simpa using h
structure Yd (c:ae):Prop where
 cands:1<=c.cands.length/\c.cands.length<=7
 method:1<=c.method/\c.method<=3
 seats:1<=c.seats/\c.seats<=5
 ranks:1<=c.ranks/\c.ranks<=7
 ties:1<=c.ties/\c.ties<=3
 over:1<=c.over/\c.over<=2
 skip:1<=c.skip/\c.skip<=3
theorem tc {kN:Int}:∀{l pre:List ByteArray},fI kN pre l=0->(pre.length:Int)<=kN->((pre.length+l.length:Nat):Int)<=kN
 | [],pre,_,h=>by simpa using h
 | s::r,pre,h,hp=>by
  unfold fI at h;split at h
  ·cases h
  ·rename_i h1;split at h
   ·cases h
   ·split at h
    ·cases h
    ·have:=tc h (by rw[aaM,abA];omega);rw[aaM,abA] at this;rw[aaJ];omega
theorem oZ {l:List ByteArray} {kN:Int} (h:dl l kN=0) (hm:0<=kN):1<=l.length/\(l.length:Int)<=kN:=by
 unfold dl at h;split at h
 ·cases h
 ·rename_i h1;have:=tc h (by simpa using hm);rw[ab9,acg] at this;refine⟨?_,this⟩;cases l with
  | nil=>exact absurd rfl h1
  | cons a l=>simp
structure pw (b:cE):Prop where
 scan:b.of bZ≠[]->(2<=b.e.dots/\b.e.dots<=7)/\(1<=b.e.blank/\b.e.blank<=b.e.marked/\b.e.marked<=100)
 scanners:b.of aX≠[]->(1<=b.e.scan/\b.e.scan<=6)/\1<=b.e.batch/\b.e.batch<=16
 prec:b.of af≠[]->dl b.e.prec 12=0
 cell:b.of bB≠[]->1<=b.e.cell/\b.e.cell<=400
 cont:∀c∈b.e.cont,Yd c
 lcont:b.e.cont.length=(b.of ar).length/\(b.of ar).length<=4
 styl:∀v∈b.vals,dl (v.s af) 12=0/\dl (v.s ay) 4=0
 lstyl:b.e.styl.length=b.vals.length/\b.vals.length=(b.of aG).length/\(b.of aG).length<=6
theorem KH {b:cE} {k nm t:ByteArray}:(b.named k nm).of t=if t=k then b.of k++[nm] else b.of t:=by
 show(setF b.names k (b.of k++[nm]) t).getD []=_;unfold setF;split<;>rfl
theorem D5 (t:ByteArray):pw (cE.start t):=
 ⟨(λh=>absurd rfl h),(λh=>absurd rfl h),(λh=>absurd rfl h),(λh=>absurd rfl h),(λ_ h=>by cases h),⟨rfl,abz _⟩,(λ_ h=>by cases h),⟨rfl,rfl,abz _⟩⟩
theorem Cs {v:aJ} (hv:kA v) (k:ByteArray) (lo hi:Int) (hm:ey v k=false) (h0:k≠aH:=by decide) (h1:¬0<bL k:=by decide) (h2:aD k=[]:=by decide) (h3:k≠dZ:=by decide) (h4:k≠gJ:=by decide) (h5:dz k=(lo,hi):=by decide):lo<=v.n k/\v.n k<=hi:=by
 have:=hv.num k (rM hm h0) h1 h2 h3 h4;rw[h5] at this;exact this
theorem Jo {v:aJ} (hv:kA v) (k:ByteArray) (n:Nat) (hm:ey v k=false) (h0:k≠aH:=by decide) (h1:¬0<bL k:=by decide) (h2:aD k≠[]:=by decide) (h5:(aD k).length=n:=by decide):1<=v.n k/\v.n k<=n:=by
 have:=hv.cho k (rM hm h0) h1 h2;rw[h5] at this;exact this
theorem Um {v:aJ} (hv:kA v) (k:ByteArray) (n:Int) (hm:ey v k=false) (h0:k≠aH:=by decide) (h1:0<bL k:=by decide) (h5:bL k=n:=by decide):dl (v.s k) n=0:=by
 have:=hv.lst k (rM hm h0) h1;rw[h5] at this;exact this
theorem Pe {k:ByteArray} (h:aO k≠[]):k=bZ\/k=aX\/k=af\/k=ar\/k=aG\/k=bP\/k=bB:=by
 unfold aO at h;split at h
 ·rename_i e;exact .inl e
 split at h
 ·rename_i e;exact .inr (.inl e)
 split at h
 ·rename_i e;exact .inr (.inr (.inl e))
 split at h
 ·rename_i e;exact .inr (.inr (.inr (.inl e)))
 split at h
 ·rename_i e;exact .inr (.inr (.inr (.inr (.inl e))))
 split at h
 ·rename_i e;exact .inr (.inr (.inr (.inr (.inr (.inl e)))))
 split at h
 ·rename_i e;exact .inr (.inr (.inr (.inr (.inr (.inr e)))))
 ·exact absurd rfl h
theorem rR:aO bZ=[iK,cF,bO]:=by rfl
theorem oF:aO aX=[fJ,fL]:=by rfl
theorem K4:aO af=[eA]:=by rfl
theorem iT:aO ar=[bg,bH,gB,aH,il,ck,im,fK]:=by rfl
theorem yz:aO aG=[af,ay]:=by rfl
theorem K2:aO bB=[iL]:=by rfl
theorem Lm {k nm:ByteArray} {ns:List ByteArray} (h:fg k nm ns=0):aO k≠[]/\(kr k=true->(ns.length:Int)≠cI k):=by
 unfold fg at h;split at h
 ·cases h
 rename_i h1;refine⟨h1,λhn=>?_⟩;rw[hn] at h;rw[if_neg (by decide)] at h;split at h
 ·cases h
 split at h
 ·cases h
 split at h
 ·cases h
 split at h
 ·cases h
 ·rename_i h2;exact h2
theorem JX {k nm:ByteArray} {v:aJ} {b:cE} (hb:pw b) (hv:kA v) (hh:fg k nm (b.of k)=0) (hm:∀j∈aO k,ey v j=false) (hr:k=bZ->¬v.n bO<v.n cF):pw (bb k nm v (b.named k nm)):=by
 obtain⟨hk,hc⟩:=Lm hh;have PK:∀(e:aa) (vs:List aJ) (t:ByteArray),cE.of ⟨e,(b.named k nm).names,vs⟩ t=if t=k then b.of k++[nm] else b.of t:=λ_ _ _=>KH
 have ne:∀l:List ByteArray,l++[nm]≠[]:=λl=>by simp
 rcases Pe hk with rfl|rfl|rfl|rfl|rfl|rfl|rfl
 ·have e:bb bZ nm v (b.named bZ nm)=⟨{ b.e with dots:=v.n iK,blank:=v.n cF,marked:=v.n bO },(b.named bZ nm).names,b.vals⟩:=by unfold bb;rw[if_pos rfl];rfl
  rw[e];have h1:=Cs hv iK 2 7 (hm _ (by rw[rR];simp));have h2:=Cs hv cF 1 100 (hm _ (by rw[rR];simp));have h3:=Cs hv bO 1 100 (hm _ (by rw[rR];simp));have h4:=hr rfl;constructor<;>simp only[PK]
  ·exact λ_=>⟨h1,h2.1,by omega,h3.2⟩
  ·rw[if_neg (by decide)];exact hb.scanners
  ·rw[if_neg (by decide)];exact hb.prec
  ·rw[if_neg (by decide)];exact hb.cell
  ·exact hb.cont
  ·rw[if_neg (by decide)];exact hb.lcont
  ·exact hb.styl
  ·rw[if_neg (by decide)];exact hb.lstyl
 ·have e:bb aX nm v (b.named aX nm)=⟨{ b.e with scan:=v.n fJ,batch:=v.n fL },(b.named aX nm).names,b.vals⟩:=by unfold bb;rw[if_neg (by decide),if_pos rfl];rfl
  rw[e];have h1:=Cs hv fJ 1 6 (hm _ (by rw[oF];simp));have h2:=Cs hv fL 1 16 (hm _ (by rw[oF];simp));constructor<;>simp only[PK]
  ·rw[if_neg (by decide)];exact hb.scan
  ·exact λ_=>⟨h1,h2⟩
  ·rw[if_neg (by decide)];exact hb.prec
  ·rw[if_neg (by decide)];exact hb.cell
  ·exact hb.cont
  ·rw[if_neg (by decide)];exact hb.lcont
  ·exact hb.styl
  ·rw[if_neg (by decide)];exact hb.lstyl
 ·have e:bb af nm v (b.named af nm)=⟨{ b.e with prec:=v.s eA },(b.named af nm).names,b.vals⟩:=by unfold bb;rw[if_neg (by decide),if_neg (by decide),if_pos rfl];rfl
  rw[e];have h1:=Um hv eA 12 (hm _ (by rw[K4];simp));constructor<;>simp only[PK]
  ·rw[if_neg (by decide)];exact hb.scan
  ·rw[if_neg (by decide)];exact hb.scanners
  ·exact λ_=>h1
  ·rw[if_neg (by decide)];exact hb.cell
  ·exact hb.cont
  ·rw[if_neg (by decide)];exact hb.lcont
  ·exact hb.styl
  ·rw[if_neg (by decide)];exact hb.lstyl
 ·have e:bb ar nm v (b.named ar nm)=⟨{ b.e with cont:=b.e.cont++[dK nm v] },(b.named ar nm).names,b.vals⟩:=by unfold bb;rw[if_neg (by decide),if_neg (by decide),if_neg (by decide),if_pos rfl];rfl
  rw[e];have kw:=hc (by decide);rw[show cI ar=4 from by decide] at kw;constructor<;>simp only[PK]
  ·rw[if_neg (by decide)];exact hb.scan
  ·rw[if_neg (by decide)];exact hb.scanners
  ·rw[if_neg (by decide)];exact hb.prec
  ·rw[if_neg (by decide)];exact hb.cell
  ·intro c hc;rcases ab7.1 hc with hc|hc
   ·exact hb.cont c hc
   ·obtain rfl:=acb.1 hc;have hl:=oZ (Um hv fK 7 (hm _ (by rw[iT];simp))) (by decide);exact⟨⟨hl.1,by have:=hl.2;show(v.s fK).length<=7;omega⟩,Jo hv bg 3 (hm _ (by rw[iT];simp)),Cs hv bH 1 5 (hm _ (by rw[iT];simp)),Cs hv gB 1 7 (hm _ (by rw[iT];simp)),Jo hv il 3 (hm _ (by rw[iT];simp)),Jo hv ck 2 (hm _ (by rw[iT];simp)),Jo hv im 3 (hm _ (by rw[iT];simp))⟩
  ·have h1:=hb.lcont;simp only[if_true,aaM,abA];omega
  ·exact hb.styl
  ·rw[if_neg (by decide)];exact hb.lstyl
 ·have e:bb aG nm v (b.named aG nm)=⟨{ b.e with styl:=b.e.styl++[⟨nm,[],[]⟩] },(b.named aG nm).names,b.vals++[v]⟩:=by unfold bb;rw[if_neg (by decide),if_neg (by decide),if_neg (by decide),if_neg (by decide),if_pos rfl];rfl
  rw[e];have kw:=hc (by decide);rw[show cI aG=6 from by decide] at kw;constructor<;>simp only[PK]
  ·rw[if_neg (by decide)];exact hb.scan
  ·rw[if_neg (by decide)];exact hb.scanners
  ·rw[if_neg (by decide)];exact hb.prec
  ·rw[if_neg (by decide)];exact hb.cell
  ·exact hb.cont
  ·rw[if_neg (by decide)];exact hb.lcont
  ·intro u hu;rcases ab7.1 hu with hu|hu
   ·exact hb.styl u hu
   ·obtain rfl:=acb.1 hu;exact⟨Um hv af 12 (hm _ (by rw[yz];simp)),Um hv ay 4 (hm _ (by rw[yz];simp))⟩
  ·have h1:=hb.lstyl;simp only[if_true,aaM,abA];omega
 ·have e:bb bP nm v (b.named bP nm)=⟨{ b.e with risk:=v.risk,seed:=v.seed },(b.named bP nm).names,b.vals⟩:=by unfold bb;rw[if_neg (by decide),if_neg (by decide),if_neg (by decide),if_neg (by decide),if_neg (by decide),if_pos rfl];rfl
  rw[e];constructor<;>simp only[PK]
  ·rw[if_neg (by decide)];exact hb.scan
  ·rw[if_neg (by decide)];exact hb.scanners
  ·rw[if_neg (by decide)];exact hb.prec
  ·rw[if_neg (by decide)];exact hb.cell
  ·exact hb.cont
  ·rw[if_neg (by decide)];exact hb.lcont
  ·exact hb.styl
  ·rw[if_neg (by decide)];exact hb.lstyl
 ·have e:bb bB nm v (b.named bB nm)=⟨{ b.e with cell:=v.n iL },(b.named bB nm).names,b.vals⟩:=by unfold bb;rw[if_neg (by decide),if_neg (by decide),if_neg (by decide),if_neg (by decide),if_neg (by decide),if_neg (by decide),if_pos rfl];rfl
  rw[e];have h1:=Cs hv iL 1 400 (hm _ (by rw[K2];simp));constructor<;>simp only[PK]
  ·rw[if_neg (by decide)];exact hb.scan
  ·rw[if_neg (by decide)];exact hb.scanners
  ·rw[if_neg (by decide)];exact hb.prec
  ·exact λ_=>h1
  ·exact hb.cont
  ·rw[if_neg (by decide)];exact hb.lcont
  ·exact hb.styl
  ·rw[if_neg (by decide)];exact hb.lstyl
theorem Kl {k:ByteArray} {line:Int} {v:aJ} (h:(i9 k line v).no=0) (hk:k=bZ):¬v.n bO<v.n cF:=by
 unfold i9 at h;split at h
 ·cases h
 split at h
 ·cases h
 split at h
 ·cases h
 ·rename_i h1;exact λh2=>h1 ⟨hk,h2⟩
theorem LZ {x:ak} {b:cE} (hb:pw b) (h:(fN x b).1.no=0):pw (fN x b).2:=by
 unfold fN at h ⊢;split at h
 ·rename_i h1;exact absurd h h1
 rename_i h1;rw[if_neg h1];split at h
 ·rename_i h2;exact absurd h h2
 rename_i h2;rw[if_neg h2];split at h
 ·rename_i h3;exact absurd h h3
 rename_i h3;rw[if_neg h3];obtain⟨g1,g2⟩:=yj (aca.1 h3);exact JX hb (xW BI (aca.1 h2)) (aca.1 h1) g2 (Kl g1)
theorem wT:∀{l:List ak} {b:cE},pw b->(cA l b).1.no=0->pw (cA l b).2
 | [],_,hb,_=>hb
 | x::l,b,hb,h=>by
  unfold cA at h ⊢;split at h
  ·rename_i h1;exact absurd h h1
  ·rename_i h1;rw[if_neg h1];exact wT (LZ hb (aca.1 h1)) h
structure RI (n:Nat) (used:List Bool) (done:List aj):Prop where
 len:used.length=n
 mem:∀p:Nat,p<n->(used.getD p false=true↔∃s∈done,(p:Int)∈s.prec)
theorem td {prec:List ByteArray} {line:Int}:∀{l:List ByteArray} {used mJ:List Bool} {cY ps:List Int},cR prec line l used cY=.ok (mJ,ps)->used.length=prec.length-> (∀p∈cY,0<=p/\p<prec.length/\used.getD p.toNat false=true)->cY.Nodup-> mJ.length=prec.length/\(∀p∈ps,0<=p/\p<prec.length)/\ps.Nodup/\ps.length=cY.length+l.length/\(∀p∈ps,p∈cY\/used.getD p.toNat false=false)/\(∀p∈cY,p∈ps)/\∀p:Nat,p<prec.length->(mJ.getD p false=true↔used.getD p false=true\/(p:Int)∈ps)
 | [],used,mJ,cY,ps,h,hl,ha,hn=>by
  injection h with h
  injection h with h1 h2
  subst h1 h2;refine⟨hl,λp hp=>⟨(ha p hp).1,(ha p hp).2.1⟩,hn,by simp,λp hp=>.inl hp,λp hp=>hp,λp hp=>⟨λh=>.inl h,λh=>h.elim id λh=>?_⟩⟩;have:=(ha p h).2.2;simpa using this
 | s::l,used,mJ,cY,ps,h,hl,ha,hn=>by
  unfold cR at h;split at h
  ·cases h
  rename_i h1;split at h
  ·cases h
  rename_i h2;have hi:0<=Lib.idxOfS prec s/\Lib.idxOfS prec s<prec.length:=by
   rcases vZ prec s with h3|h3
   ·omega
   ·exact h3
  obtain⟨i,hi1⟩:∃i:Nat,Lib.idxOfS prec s=i:=⟨(Lib.idxOfS prec s).toNat,by omega⟩;rw[hi1] at h h2 hi;rw[aae] at h h2;have h2:used.getD i false=false:=by simpa using h2
  have qm:∀q:Nat,(used.set i true).getD q false=if q=i then true else used.getD q false:=λq=>by
   rw[aal,aal];by_cases e:q=i
   ·subst e;rw[abv (by omega),if_pos rfl];rfl
   ·rw[aaS (λe2=>e e2.symm),if_neg e]
  have hna:(i:Int)∉cY:=λhm=>by
   have:=(ha _ hm).2.2;rw[aae,h2] at this;cases this
  obtain⟨k1,k2,k3,k4,k5,k6,k7⟩:=td h (by rw[ab1];exact hl) (λp hp=>by
   rcases ab7.1 hp with hp|hp
   ·have:=ha p hp;refine⟨this.1,this.2.1,?_⟩;rw[qm];split
    ·rfl
    ·exact this.2.2
   ·obtain rfl:=acb.1 hp;refine⟨by omega,by omega,?_⟩;rw[qm,aae,if_pos rfl]) (by
   rw[List.nodup_append];refine⟨hn,by simp,λa ha' b hb e=>?_⟩;obtain rfl:=acb.1 hb;exact hna (e▸ha'))
  refine⟨k1,k2,k3,?_,λp hp=>?_,λp hp=>k6 p (List.mem_append_left _ hp),λp hp=>?_⟩
  ·rw[k4,aaM,abA,aaJ];omega
  ·rcases k5 p hp with h3|h3
   ·rcases ab7.1 h3 with h3|h3
    ·exact .inl h3
    ·obtain rfl:=acb.1 h3;right
     rw[aae];exact h2
   ·right
    rw[qm] at h3;split at h3
    ·cases h3
    ·exact h3
  ·rw[k7 p hp,qm];constructor
   ·rintro(h3|h3)
    ·split at h3
     ·rename_i e;right;rw[e];exact k6 _ (adr _ aaz)
     ·exact .inl h3
    ·exact .inr h3
   ·rintro(h3|h3)
    ·left;split
     ·rfl
     ·exact h3
    ·exact .inr h3
theorem oG (nm:ByteArray):∀(l:List ae) (i:Nat),bh nm l i= -1\/((i:Int)<=bh nm l i/\bh nm l i<(i+l.length:Nat))
 | [],i=>.inl rfl
 | c::l,i=>by
  have:=oG nm l (i+1);unfold bh;rw[aaJ];split
  ·exact .inr ⟨by omega,by omega⟩
  ·rcases this with h|h
   ·exact .inl h
   ·exact .inr ⟨by omega,by omega⟩
theorem tg {cont:List ae} {line:Int}:∀{l:List ByteArray} {cY cs:List Int},dC cont line l cY=.ok cs->(∀k∈cY,0<=k/\k<cont.length)->(∀k∈cs,0<=k/\k<cont.length)/\cs.length=cY.length+l.length/\cs=cY++l.map λs=>bh s cont 0
 | [],cY,cs,h,ha=>by
  injection h with h
  subst h;exact⟨ha,by simp,by simp⟩
 | s::l,cY,cs,h,ha=>by
  unfold dC at h;split at h
  ·cases h
  rename_i h1;have hi:0<=bh s cont 0/\bh s cont 0<cont.length:=by
   rcases oG s cont 0 with h3|h3<;>omega
  obtain⟨k1,k2,k3⟩:=tg h λk hk=>by
   rcases ab7.1 hk with hk|hk
   ·exact ha k hk
   ·obtain rfl:=acb.1 hk;exact hi
  refine⟨k1,by rw[k2,aaM,abA,aaJ];omega,?_⟩;rw[k3,aco,abS];rfl
structure X4 (n m:Nat) (s:aj):Prop where
 prec:∀p∈s.prec,0<=p/\p<n
 nodup:s.prec.Nodup
 cont:∀k∈s.cont,0<=k/\k<m
 lcont:1<=s.cont.length/\s.cont.length<=4
structure Bn (n m:Nat) (l:List aj):Prop where
 each:∀s∈l,X4 n m s
 once:∀i j:Nat,∀s t:aj,l[i]?=some s->l[j]?=some t->∀p,p∈s.prec->p∈t.prec->i=j
theorem yp {prec:List ByteArray} {cont:List ae}:∀{vs:List aJ} {ss:List aj} {used:List Bool} {done l:List aj},dV prec cont vs ss used done=.ok l->(∀v∈vs,dl (v.s af) 12=0/\dl (v.s ay) 4=0)->vs.length=ss.length->RI prec.length used done->Bn prec.length cont.length done-> Bn prec.length cont.length l/\l.length=done.length+ss.length/\∀p:Nat,p<prec.length->∃s∈l,(p:Int)∈s.prec
 | v::vs,s::ss,used,done,l,h,hv,hl,hu,hd=>by
  unfold dV at h;split at h
  ·cases h
  rename_i mJ ps h1;split at h
  ·cases h
  rename_i cs h2;obtain⟨k1,k2,k3,k4,k5,_,k7⟩:=td h1 hu.len (λp hp=>by cases hp) List.nodup_nil;obtain⟨c1,c2,_⟩:=tg h2 (λp hp=>by cases hp);have hvv:=hv v aaz;have hlc:=oZ hvv.2 (by decide);have my:X4 prec.length cont.length ⟨s.name,ps,cs⟩:=⟨k2,k3,c1,by
   show 1<=cs.length/\cs.length<=4;rw[c2,ab9,acg];omega⟩
  obtain⟨r1,r2,r3⟩:=yp h (λv Ld=>hv v (aa0 _ Ld)) (by simpa using hl) (⟨k1,λp hp=>by
   rw[k7 p hp,hu.mem p hp];constructor
   ·rintro(⟨t,ht,h3⟩|h3)
    ·exact⟨t,List.mem_append_left _ ht,h3⟩
    ·exact⟨_,adr _ aaz,h3⟩
   ·rintro⟨t,ht,h3⟩;rcases ab7.1 ht with ht|ht
    ·exact .inl ⟨t,ht,h3⟩
    ·obtain rfl:=acb.1 ht;exact .inr h3⟩:RI prec.length mJ (done++[⟨s.name,ps,cs⟩])) ⟨λt ht=>by
   rcases ab7.1 ht with ht|ht
   ·exact hd.each t ht
   ·obtain rfl:=acb.1 ht;exact my,by
   have key:∀(i:Nat) (t:aj),(done++[⟨s.name,ps,cs⟩])[i]?=some t->(i<done.length/\done[i]?=some t)\/(i=done.length/\t=⟨s.name,ps,cs⟩):=by
    intro i t ht;by_cases hi:i<done.length
    ·rw[aay hi] at ht;exact .inl ⟨hi,ht⟩
    ·have hlt:=(aad.1 ht).1;rw[aaM,abA] at hlt;obtain rfl:i=done.length:=by omega
     rw[aar (aaG _),adR] at ht;injection ht with ht
     exact .inr ⟨rfl,ht.symm⟩
   have XJ:∀(i:Nat) (t:aj),done[i]?=some t->∀p,p∈t.prec->p∉ps:=by
    intro i t ht p hp Ms;have hb:=(hd.each t (acq ht)).prec p hp;rcases k5 p Ms with h3|h3
    ·cases h3
    ·have:=(hu.mem p.toNat (by omega)).2 ⟨t,acq ht,by rw[show((p.toNat:Nat):Int)=p by omega];exact hp⟩;rw[h3] at this;cases this
   intro i j t u ht uk p hp hq;rcases key i t ht with⟨_,ht⟩|⟨e1,e2⟩
   ·rcases key j u uk with⟨_,uk⟩|⟨e3,e4⟩
    ·exact hd.once i j t u ht uk p hp hq
    ·subst e4;exact absurd hq (XJ i t ht p hp)
   ·rcases key j u uk with⟨_,uk⟩|⟨e3,e4⟩
    ·subst e2;exact absurd hp (XJ j u uk p hq)
    ·omega⟩
  refine⟨r1,?_,r3⟩;rw[r2,aaM,abA,aaJ];omega
 | [],ss,used,done,l,h,_,hl,hu,hd=>by
  have hs:ss=[]:=aaY (by simpa using hl.symm);subst hs;unfold dV at h;split at h
  ·cases h
  rename_i h1;injection h with h
  subst h;refine⟨hd,by simp,λp hp=>(hu.mem p hp).1 ?_⟩;cases e:used.getD p false with
  | true=>rfl
  | false=>
   exfalso
   refine h1 (List.contains_iff_mem.2 ?_);have hp2:p<used.length:=by rw[hu.len];exact hp
   rw[aal,aac hp2] at e;have e:used[p]=false:=e;rw[<-e];exact ach _
 | v::vs,[],used,done,l,h,_,hl,hu,hd=>by cases hl
structure JN (e:aa):Prop where
 dots:2<=e.dots/\e.dots<=7
 marks:1<=e.blank/\e.blank<=e.marked/\e.marked<=100
 scan:1<=e.scan/\e.scan<=6
 batch:1<=e.batch/\e.batch<=16
 prec:1<=e.prec.length/\e.prec.length<=12
 lcont:e.cont.length<=4
 lstyl:e.styl.length<=6
 cont:∀c∈e.cont,Yd c
 styl:Bn e.prec.length e.cont.length e.styl
 has:∀p:Nat,p<e.prec.length->∃s∈e.styl,(p:Int)∈s.prec
theorem vV:et=[bZ,aX,af,ar,aG,bP,bB]:=by rfl
theorem LU {s:aF} (h:(bj s).2.no=0):JN (bj s).1:=by
 unfold bj at h ⊢;split at h
 ·cases h
 rename_i h1;rw[if_neg h1];split at h
 ·rename_i h2;exact absurd h h2
 rename_i h2;rw[if_neg h2];split at h
 ·cases h
 rename_i h3;rw[if_neg h3];have hb:=wT (D5 s.title) (aca.1 h2);generalize (cA s.blocks (cE.start s.title)).2=b at h h3 hb ⊢;have hk:∀k∈et,b.of k≠[]:=λk hk he=>h3 (adf.2 ⟨k,hk,decide_eq_true he⟩);split at h
 ·rename_i e he;exfalso
  have:∀{vs:List aJ} {ss:List aj} {u:List Bool} {d:List aj} {e:dG},dV b.e.prec b.e.cont vs ss u d=.error e->e.no≠0:=by
   have hp:∀{line:Int} {l:List ByteArray} {u:List Bool} {cY:List Int} {e:dG},cR b.e.prec line l u cY=.error e->e.no≠0:=by
    intro line l;induction l with
    | nil=>intro u cY e h;cases h
    | cons s l ih=>
     intro u cY e h;unfold cR at h;split at h
     ·injection h with h;subst h;exact(by omega:(2:Int)≠0)
     split at h
     ·injection h with h;subst h;exact(by omega:(3:Int)≠0)
     ·exact ih h
   have hc:∀{line:Int} {l:List ByteArray} {cY:List Int} {e:dG},dC b.e.cont line l cY=.error e->e.no≠0:=by
    intro line l;induction l with
    | nil=>intro cY e h;cases h
    | cons s l ih=>
     intro cY e h;unfold dC at h;split at h
     ·injection h with h;subst h;exact(by omega:(2:Int)≠0)
     ·exact ih h
   intro vs;induction vs with
   | nil=>
    intro ss u d e h;unfold dV at h;split at h
    ·injection h with h;subst h;decide
    ·cases h
   | cons v vs ih=>
    intro ss u d e h;cases ss with
    | nil=>
     unfold dV at h;split at h
     ·injection h with h;subst h;decide
     ·cases h
    | cons s ss=>
     unfold dV at h;split at h
     ·rename_i e' h1;injection h with h;subst h;exact hp h1
     ·split at h
      ·rename_i e' h1;injection h with h;subst h;exact hc h1
      ·exact ih h
  exact this (vs:=b.vals) (ss:=b.e.styl) he h
 ·rename_i l hl;have hl:dV b.e.prec b.e.cont b.vals b.e.styl (List.replicate b.e.prec.length false) []=.ok l:=hl;obtain⟨r1,r2,r3⟩:=yp hl hb.styl (by have:=hb.lstyl;omega) ⟨by simp,λp hp=>by simp[hp]⟩ ⟨(λs hs=>by cases hs),(λi j s t hs=>by cases hs)⟩;have h4:=hb.scan (hk _ (by rw[vV];simp));have h5:=hb.scanners (hk _ (by rw[vV];simp));have h6:=oZ (hb.prec (hk _ (by rw[vV];simp))) (by decide);have h7:=hb.lcont;have h8:=hb.lstyl;exact⟨h4.1,h4.2,h5.1,h5.2,⟨h6.1,by have:=h6.2;show b.e.prec.length<=12;omega⟩,(by show b.e.cont.length<=4;omega),(by show l.length<=6;rw[r2,ab9];omega),hb.cont,r1,r3⟩
theorem wZ {α:Type} {f:α->α->Bool} (hf:∀a b,f a b=true->a=b):∀{l m:List α},gw f l m=true->l=m
 | [],[],_=>rfl
 | x::l,y::m,h=>by
  simp only[gw,aav] at h;rw[hf _ _ h.1,wZ hf h.2]
 | [],_::_,h=>by cases h
 | _::_,[],h=>by cases h
theorem zQ {a b:aj} (h:be a b=true):a=b:=by
 unfold be at h;simp only[aav,decide_eq_true_eq] at h;obtain⟨h1,h2,h3⟩:=h;cases a;cases b;simp_all
theorem uY {a b:ae} (h:aU a b=true):a=b:=by
 unfold aU at h;simp only[aav,decide_eq_true_eq] at h;cases a;cases b;simp_all
theorem SU {e:aa} (h:gy e=true):JN e:=by
 unfold gy gd at h;simp only[aav,decide_eq_true_eq] at h;obtain⟨h0,_,_,h2,h3,h4,h5,h6,h7,h8,h9,_⟩:=h;have hf:=LU h0;have h6:=wZ (λ_ _=>uY) h6;have h7:=wZ (λ_ _=>zQ) h7;obtain⟨g1,g2,g3,g4,g5,g6,g7,g8,g9,g10⟩:=hf;rw[h2] at g1;rw[h3,h4] at g2;rw[h8] at g3;rw[h9] at g4;rw[h5] at g5 g9 g10;rw[h6] at g6 g8 g9;rw[h7] at g7 g9 g10;exact⟨g1,g2,g3,g4,g5,g6,g7,g8,g9,g10⟩
theorem Ay {α:Type} [DecidableEq α]:∀{l m:List α},l.Nodup->(∀x∈l,x∈m)->l.length<=m.length
 | [],m,_,_=>abz _
 | a::l,m,hn,hs=>by
  rw[List.nodup_cons] at hn;have ha:=hs a aaz;have:=Ay (l:=l) (m:=m.erase a) hn.2 λx hx=>(List.mem_erase_of_ne λe=>hn.1 (by rw[<-e];exact hx)).2 (hs x (aa0 _ hx));rw[List.length_erase_of_mem ha] at this;have:=List.length_pos_of_mem ha;simp only[aaJ];omega
def ry:List aj->Nat
 | []=>0
 | s::l=>s.prec.length+ry l
theorem sJ:∀l:List aj,ry l=(l.flatMap (·.prec)).length
 | []=>rfl
 | s::l=>by rw[adt,aaM,<-sJ l];rfl
theorem wB {n m:Nat}:∀{l:List aj},Bn n m l->(l.flatMap (·.prec)).Nodup
 | [],_=>List.nodup_nil
 | s::l,h=>by
  rw[adt,List.nodup_append];refine⟨(h.each s aaz).nodup,wB ⟨λt ht=>h.each t (aa0 _ ht),λi j s t hi hj p hp hq=>Nat.succ_inj.1 (h.once (i+1) (j+1) s t hi hj p hp hq)⟩,λa ha b hb e=>?_⟩;subst e;obtain⟨t,ht,nU⟩:=adA.1 hb;obtain⟨j,hj⟩:=List.getElem?_of_mem ht;exact absurd (h.once 0 (j+1) s t rfl hj a ha nU) (by omega)
theorem Yi {e:aa} (h:JN e):ry e.styl=e.prec.length:=by
 rw[sJ];have h1:=wB h.styl;have e1:((List.range e.prec.length).map λp:Nat=>(p:Int)).length=e.prec.length:=by simp
 refine Nat.le_antisymm ?_ ?_
 ·rw[<-e1];refine Ay h1 λx hx=>?_;obtain⟨s,hs,Lb⟩:=adA.1 hx;have:=(h.styl.each s hs).prec x Lb;exact acu.2 ⟨x.toNat,abU.2 (by omega),by omega⟩
 ·have hn:((List.range e.prec.length).map λp:Nat=>(p:Int)).Nodup:=by
   refine List.Pairwise.map _ (λa b h e=>h ?_) List.nodup_range;exact Int.ofNat_inj.1 e
  rw[<-e1];refine Ay hn λx hx=>?_;obtain⟨p,hp,rfl⟩:=acu.1 hx;obtain⟨s,hs,Ms⟩:=h.has p (abU.1 hp);exact adA.2 ⟨s,hs,Ms⟩
theorem Hl {p:Int}:∀{l:List aj} (i:Nat),(∃s∈l,p∈s.prec)->(i:Int)<=gE p l i/\gE p l i<((i+l.length:Nat):Int)
 | [],_,h=>by obtain⟨_,h,_⟩:=h;cases h
 | s::l,i,h=>by
  unfold gE;by_cases hp:p∈s.prec
  ·rw[if_pos hp,aaJ];omega
  ·rw[if_neg hp,aaJ];obtain⟨t,ht,hpt⟩:=h;rcases abs.1 ht with rfl|ht
   ·exact absurd hpt hp
   ·have:=Hl (l:=l) (i+1) ⟨t,ht,hpt⟩;omega
def muI (m i:Int):Nat:=(m-i).toNat
def TU (e:aa) (i:Int):Int:=((e.styl.getD i.toNat ⟨⟨#[]⟩,[],[]⟩).prec.length:Int)
def J0 (t:Int) (e:aa) (i:Int):Int:=t+((ry (e.styl.drop i.toNat):Nat):Int)
noncomputable def Css:eP Tryz.prog:=bA xM [⟨_,_,_,od⟩,⟨_,_,_,rp⟩,⟨_,_,_,BM⟩,⟨_,_,_,Kg⟩] []
noncomputable abbrev ssF:=Tryz.f4
abbrev sEv:SS:=NL
def eE (x:mg):aa:=Yr 5 x
abbrev ss1:List (Nat×SS):=[(1,sI),(2,sEv),(5,sI),(16,sI),(17,sI)]
abbrev Nx:List (Nat×SS):=[(1,sI),(2,sEv),(5,sI)]
abbrev ss2:List (Nat×SS):=[(1,sI),(2,sEv),(5,sI),(8,sI),(44,sI),(45,sI)]
abbrev Nw:List (Nat×SS):=[(1,sI),(2,sEv),(5,sI),(8,sI)]
def Yu:LE ss1 Nx []:=.ret (.one (.val (.bool false))) ()
def adK (x:mg) (e:aa) (p n m i:Int):T (LE ss1 Nx []):=.br (decide (i<m)) (.nd (oR e.styl e.styl.length 0) (.br (decide (gE i e.styl 0<0)) (.lf Yu) (.br (decide (gE i e.styl 0>=e.styl.length)) (.lf Yu) (.nd (oR e.styl e.styl.length 0) (.br (!(gE i e.styl 0==gE i e.styl 0)) (.lf Yu) (.nd (cw (n+1)) (.nd (cw (i+1)) (.lf (.back (p,x,n+1,m,i+1,())))))))))) (.lf (.out (p,x,n,())))
def ssN (e:aa) (n m i:Int):Prop:=JN e/\oR e.styl e.styl.length 0/\m=e.prec.length/\n=i/\0<=i/\i<=m
theorem Yt:cL (mi Css ssF) 0 0 ss1 Nx [] λx=>.nd (ssN (eE x.2.1) x.2.2.1 x.2.2.2.1 x.2.2.2.2.1) (.lf (.out (x.1,x.2.1,x.2.2.2.1,()))):=by
 refine j1 _ (nL _ _) 99 0 0 ss1 Nx [] (λx=>adK x.2.1 (eE x.2.1) x.1 x.2.2.1 x.2.2.2.1 x.2.2.2.2.1) (λx=>muI x.2.2.2.1 x.2.2.2.2.1) ?_;rintro⟨(p:Int),(x:mg),(n:Int),(m:Int),(i:Int),_⟩ r _ ⟨h,hr⟩;obtain⟨e,he⟩:∃e,eE x=e:=⟨_,rfl⟩;have h:ssN (eE x) n m i:=h;rw[he] at h;obtain⟨h1,h2,h3,rfl,h4,h5⟩:ssN e n m i:=h;obtain rfl:(LE.out (p,x,m,()):LE ss1 Nx [])=r:=hr;show∃q,(adK x (eE x) p n m n).hit q/\_;rw[he];have hb:=h1.prec.2;by_cases hi:n<m
 ·obtain⟨s,hs,Ms⟩:=h1.has n.toNat (by omega);rw[show((n.toNat:Nat):Int)=n by omega] at Ms;have h6:=Hl 0 ⟨s,hs,Ms⟩;refine⟨.back (p,x,n+1,m,n+1,()),aC (decide_eq_true hi) ⟨h2,aK (decide_eq_false (by omega)) (aK (decide_eq_false (by omega)) ⟨h2,aK (by simp) ⟨⟨by omega,by omega⟩,⟨by omega,by omega⟩,rfl⟩⟩)⟩,?_,⟨(show ssN (eE x) (n+1) m (n+1) from by rw[he];exact⟨h1,h2,h3,rfl,by omega,by omega⟩),rfl⟩⟩;show(m-(n+1)).toNat<(m-n).toNat;omega
 ·obtain rfl:n=m:=by omega
  exact⟨.out (p,x,n,()),aK (decide_eq_false hi) rfl,rfl⟩
def adJ (x:mg) (e:aa) (p n t m i:Int):T (LE ss2 Nw []):=.br (decide (i<m)) (.nd (0<=i/\i<(e.styl.length:Int)) (.nd (cw (t+TU e i)) (.nd (cw (i+1)) (.lf (.back (p,x,n,t+TU e i,m,i+1,())))))) (.lf (.out (p,x,n,t,())))
def Nv (e:aa) (t m i:Int):Prop:=m=e.styl.length/\0<=i/\i<=m/\0<=t/\m<=1000/\J0 t e i<=1000
theorem Ys:cL (mi Css ssF) 1 2 ss2 Nw [] λx=>.nd (Nv (eE x.2.1) x.2.2.2.1 x.2.2.2.2.1 x.2.2.2.2.2.1) (.lf (.out (x.1,x.2.1,x.2.2.1,J0 x.2.2.2.1 (eE x.2.1) x.2.2.2.2.2.1,()))):=by
 refine j1 _ (nL _ _) 99 1 2 ss2 Nw [] (λx=>adJ x.2.1 (eE x.2.1) x.1 x.2.2.1 x.2.2.2.1 x.2.2.2.2.1 x.2.2.2.2.2.1) (λx=>muI x.2.2.2.2.1 x.2.2.2.2.2.1) ?_;rintro⟨(p:Int),(x:mg),(n:Int),(t:Int),(m:Int),(i:Int),_⟩ r _ ⟨h,hr⟩;obtain⟨e,he⟩:∃e,eE x=e:=⟨_,rfl⟩;have h:Nv (eE x) t m i:=h;have hr:(LE.out (p,x,n,J0 t (eE x) i,()):LE ss2 Nw [])=r:=hr;rw[he] at h hr;obtain⟨rfl,h1,h2,h3,h4,h5⟩:Nv e t m i:=h;obtain⟨k,rfl⟩:∃k:Nat,i=k:=⟨i.toNat,by omega⟩;obtain rfl:=hr;show∃q,(adJ x (eE x) p n t e.styl.length k).hit q/\q.nx _ _ (muI e.styl.length k) _;rw[he];by_cases hi:k<e.styl.length
 ·have hs:J0 t e k=J0 (t+TU e k) e ((k:Int)+1)/\0<=TU e k/\t+TU e k<=J0 t e k:=by
   unfold J0 TU;rw[aae,show((k:Int)+1).toNat=k+1 by omega,getD_drop (⟨⟨#[]⟩,[],[]⟩:aj) hi,show∀s l,ry (s::l)=s.prec.length+ry l from λ_ _=>rfl];omega
  obtain⟨q1,q2,q3⟩:=hs;refine⟨.back (p,x,n,t+TU e k,(e.styl.length:Int),(k:Int)+1,()),aC (decide_eq_true (by omega)) ⟨⟨by omega,by omega⟩,⟨by omega,by omega⟩,⟨by omega,by omega⟩,rfl⟩,?_,⟨(show Nv (eE x) (t+TU e k) e.styl.length ((k:Int)+1) from by rw[he];exact⟨rfl,by omega,by omega,by omega,h4,by omega⟩),?_⟩⟩
  ·show((e.styl.length:Int)-((k:Int)+1)).toNat<((e.styl.length:Int)-k).toNat;omega
  ·show(LE.out (p,x,n,J0 (t+TU e k) (eE x) ((k:Int)+1),()):LE ss2 Nw [])=_;rw[he,q1]
 ·have e9:J0 t e k=t:=by unfold J0;rw[aae,aaQ (by omega)];show t+((0:Nat):Int)=t;omega
  rw[e9];exact⟨.out (p,x,n,t,()),aK (decide_eq_false (by omega)) rfl,rfl⟩
def ssT (e:aa) (p:Int):T XV:=.nd (dP e/\di e) (.br (!fH e) tT (.nd (ssN e 0 e.prec.length 0) (.nd (Nv e 0 e.styl.length 0) (.br true (.br ((e.prec.length:Int)==J0 0 e 0) (.nd (oR e.styl e.styl.length 0) (.nd (oR e.styl e.styl.length 0) (.lf (aB (gE p e.styl 0==gE p e.styl 0))))) fF) fF))))
theorem Tc {e:aa} (h:dP e):oR e.styl e.styl.length 0:=⟨acR _,by omega,rfl,aax h.ls (by decide),λs hs=>aax (h.styls s hs).1 (by decide)⟩
theorem lawSS_ok:ao Tryz.prog 4 false (az [(0,.st 5),(1,sI)] λ((e:aa),(_:Int),_)=>.nd (MA e) (.lf (aB true))):=
 aN (C:=Css) (((nL _ _).add 0 _ Yt).add 1 _ Ys) false 99 [(0,.st 5),(1,sI)] (λ((e:aa),(p:Int),_)=>ssT e p)
  (λ⟨(e:aa),(p:Int),_⟩ r _ ⟨h,hr⟩=>by
   obtain rfl:aB true=r:=hr;refine⟨?_,.inr rfl⟩;show(ssT e p).hit _;refine⟨h,?_⟩;cases hv:fH e with
   | false=>exact aC rfl rfl
   | true=>
    have hf:=SU ((valid_eq e).symm.trans hv);have hs:=Tc h.1;have ht:J0 0 e 0=e.prec.length:=by unfold J0;rw[show Int.toNat 0=0 from rfl,acr,Yi hf];omega
    have h1:=hf.prec.2;have h2:=hf.lstyl;refine aK rfl ⟨⟨hf,hs,rfl,rfl,acR _,by omega⟩,⟨rfl,acR _,by omega,acR _,by omega,by omega⟩,aC rfl ?_⟩;rw[ht,beq_self_eq_true,beq_self_eq_true];exact aC rfl ⟨hs,hs,rfl⟩) Tryz.func4
theorem lawSS_any {W:World} {B:Nat} (hT:Ei B W) (hB:B<=W.heap.size) {v:Value} {e:aa} {p:Int} (h:SV W (λb=>b<W.heap.size) v e) (he:dP e/\di e):Calls Tryz.prog 4 #[v,.int .i64 p] W (kB W (.bool true)):=
 lawSS_ok.retVL (xs:=[.agg (jS (.st 5) e),aI p]) (vs:=[v,.int .i64 p]) ⟨B,hB,hT⟩ (λ_ h=>h) (.cons (h.xr 5) (.cons ⟨rfl,rfl⟩ .nil)) (⟨he,rfl⟩:(T.nd (MA e) (.lf (aB true))).hit (aB true))
end Go.Proofs.YtdbpbfglhbiadaaGreatDoor
