/- Same2 Elec -/
import Derived.Test.YtjlhbfbdcfajfaaGreatDoorB18
namespace Go.Proofs.YtjlhbfbdcfajfaaGreatDoor
open Go.RowKit
structure ay where
 name:ByteArray
 cands:List ByteArray
 method:Int
 seats:Int
 ranks:Int
 digits:Int
 ties:Int
 over:Int
 skip:Int
instance:bG ay where
 sz:=9
 rep w S cs x:=∃A n c,cs=[.string x.name,.slice A n c,.int .i64 x.method,.int .i64 x.seats,.int .i64 x.ranks,.int .i64 x.digits,.int .i64 x.ties,.int .i64 x.over,.int .i64 x.skip]∧RS w S A n c x.cands
 len h:=by obtain⟨A,n,c,rfl,_⟩:=h;rfl
 keep h hS hk:=by
  obtain⟨A,n,c,rfl,h1⟩:=h;exact⟨A,n,c,rfl,h1.keep hS hk⟩
def bf (a b:ay):Bool:=decide (a.name=b.name)&&(decide (a.cands=b.cands)&&(decide (a.method=b.method)&&(decide (a.seats=b.seats)&&(decide (a.ranks=b.ranks)&&(decide (a.digits=b.digits)&&(decide (a.ties=b.ties)&&(decide (a.over=b.over)&&(decide (a.skip=b.skip)))))))))
set_option maxRecDepth 20000 in
set_option maxHeartbeats 2000000 in
theorem Dl {w:World} {S S2:Nat→Prop} {v v2:Value} {a b:ay} (h:SV w S v a) (h2:SV w S2 v2 b) (hS:∀b,S b→b<w.heap.size) (eF:∀b,S2 b→b<w.heap.size) : Calls Tryz.prog 78 #[v,v2] w (gy w (.bool (bf a b))):=by
 obtain⟨cs,rfl,A,n,c,rfl,r1⟩:=h;obtain⟨cs,rfl,A3,n3,c3,rfl,r3⟩:=h2;obtain⟨w1,bj⟩:∃x,(w.alloc (.cells #[.string a.name,.slice A n c,.int .i64 a.method,.int .i64 a.seats,.int .i64 a.ranks,.int .i64 a.digits,.int .i64 a.ties,.int .i64 a.over,.int .i64 a.skip] 95)).alloc (.cells #[.string b.name,.slice A3 n3 c3,.int .i64 b.method,.int .i64 b.seats,.int .i64 b.ranks,.int .i64 b.digits,.int .i64 b.ties,.int .i64 b.over,.int .i64 b.skip] 95)=x:=⟨_,rfl⟩;have bd:Below w.heap.size w w1:=by rw[←bj];exact((Below.refl _ _).alloc (Nat.le_refl _) _).alloc (by simp) _
 have jz:aK w1 w.heap.size 95 #[.string a.name,.slice A n c,.int .i64 a.method,.int .i64 a.seats,.int .i64 a.ranks,.int .i64 a.digits,.int .i64 a.ties,.int .i64 a.over,.int .i64 a.skip]:=by rw[←bj];exact(aK.new _ _ _).alloc _
 have ow:aK w1 (w.heap.size+1) 95 #[.string b.name,.slice A3 n3 c3,.int .i64 b.method,.int .i64 b.seats,.int .i64 b.ranks,.int .i64 b.digits,.int .i64 b.ties,.int .i64 b.over,.int .i64 b.skip]:=by
  rw[←bj];have:=aK.new (w.alloc (.cells #[.string a.name,.slice A n c,.int .i64 a.method,.int .i64 a.seats,.int .i64 a.ranks,.int .i64 a.digits,.int .i64 a.ties,.int .i64 a.over,.int .i64 a.skip] 95)) 95 #[.string b.name,.slice A3 n3 c3,.int .i64 b.method,.int .i64 b.seats,.int .i64 b.ranks,.int .i64 b.digits,.int .i64 b.ties,.int .i64 b.over,.int .i64 b.skip];simpa using this
 have H1:=zH (r1.below bd hS);have H3:=zH (r3.below bd eF);obtain⟨na,pa,a0,a1,a2,a3,a4,a5,a6⟩:=a;obtain⟨nb,pb,b0,b1,b2,b3,b4,b5,b6⟩:=b;obtain⟨z,hz⟩:∃z,bf ⟨na,pa,a0,a1,a2,a3,a4,a5,a6⟩ ⟨nb,pb,b0,b1,b2,b3,b4,b5,b6⟩=z:=⟨_,rfl⟩;have eh:z=(decide (na=nb)&&(decide (pa=pb)&&(decide (a0=b0)&&(decide (a1=b1)&&(decide (a2=b2)&&(decide (a3=b3)&&(decide (a4=b4)&&(decide (a5=b5)&&(decide (a6=b6)))))))))):=hz.symm;rw[hz];have d0:w1.cell? ⟨w.heap.size,0,none⟩=some (.string na):=jz.cell 0;have d1:w1.cell? ⟨w.heap.size,1,none⟩=some (.slice A n c):=jz.cell 1;have e0:w1.cell? ⟨w.heap.size+1,0,none⟩=some (.string nb):=ow.cell 0;have e1:w1.cell? ⟨w.heap.size+1,1,none⟩=some (.slice A3 n3 c3):=ow.cell 1;have d2:w1.cell? ⟨w.heap.size,2,none⟩=some (.int .i64 a0):=jz.cell 2;have e2:w1.cell? ⟨w.heap.size+1,2,none⟩=some (.int .i64 b0):=ow.cell 2;have d3:w1.cell? ⟨w.heap.size,3,none⟩=some (.int .i64 a1):=jz.cell 3;have e3:w1.cell? ⟨w.heap.size+1,3,none⟩=some (.int .i64 b1):=ow.cell 3;have d4:w1.cell? ⟨w.heap.size,4,none⟩=some (.int .i64 a2):=jz.cell 4;have e4:w1.cell? ⟨w.heap.size+1,4,none⟩=some (.int .i64 b2):=ow.cell 4;have d5:w1.cell? ⟨w.heap.size,5,none⟩=some (.int .i64 a3):=jz.cell 5;have e5:w1.cell? ⟨w.heap.size+1,5,none⟩=some (.int .i64 b3):=ow.cell 5;have d6:w1.cell? ⟨w.heap.size,6,none⟩=some (.int .i64 a4):=jz.cell 6;have e6:w1.cell? ⟨w.heap.size+1,6,none⟩=some (.int .i64 b4):=ow.cell 6;have d7:w1.cell? ⟨w.heap.size,7,none⟩=some (.int .i64 a5):=jz.cell 7;have e7:w1.cell? ⟨w.heap.size+1,7,none⟩=some (.int .i64 b5):=ow.cell 7;have d8:w1.cell? ⟨w.heap.size,8,none⟩=some (.int .i64 a6):=jz.cell 8;have e8:w1.cell? ⟨w.heap.size+1,8,none⟩=some (.int .i64 b6):=ow.cell 8;have dO:=zH bj;have bS:=zH bd;have HZ:=zH eh;clear bj bd hz eh jz ow r1 r3;go_enter Tryz.func78,Tryz.ntmps78;by_cases hn:na=nb
 case neg=>
  have av:=HZ.out;rw[decide_eq_false hn,Bool.false_and] at av;have bm:=zH av;have Fl:(na.toList==nb.toList)=false:=(Lib.bytes_beq_false_iff na nb).2 hn;clear av HZ hn;go_wp2_with fail;rw[dO.out];go_wp2_with fail;go_ret
  exact⟨by rw[bm.out];rfl,bS.out⟩
 have av:=HZ.out;rw[decide_eq_true hn,Bool.true_and] at av;have xE:=zH av;have Fl:(na.toList==nb.toList)=true:=by rw[hn];simp
 clear av HZ hn;go_wp2_with fail;rw[dO.out];go_wp2_with fail;refine(Hf H1.out H3.out).mono ?_;rintro e w' ⟨rfl,m,rfl⟩;by_cases hx:pa=pb
 case neg=>
  have av:=xE.out;rw[decide_eq_false hx,Bool.false_and] at av;rw[decide_eq_false hx];have bm:=zH av;clear av xE hx;go_wp2_with fail;go_ret
  exact⟨by rw[bm.out];rfl,below_drewN bS.out m⟩
 have av:=xE.out;rw[decide_eq_true hx,Bool.true_and] at av;rw[decide_eq_true hx];have fy:=zH av;clear av xE hx;by_cases h0:a0=b0
 case neg=>
  have av:=fy.out;rw[decide_eq_false h0,Bool.false_and] at av;have bm:=zH av;have g0:(a0==b0)=false:=by rw[beq_eq_false_iff_ne];exact h0
  clear av fy h0;go_wp2_with fail;go_ret
  exact⟨by rw[bm.out];rfl,below_drewN bS.out m⟩
 have av:=fy.out;rw[decide_eq_true h0,Bool.true_and] at av;have iL:=zH av;have g0:(a0==b0)=true:=by rw[beq_iff_eq];exact h0
 clear av fy h0;by_cases h1:a1=b1
 case neg=>
  have av:=iL.out;rw[decide_eq_false h1,Bool.false_and] at av;have bm:=zH av;have g1:(a1==b1)=false:=by rw[beq_eq_false_iff_ne];exact h1
  clear av iL h1;go_wp2_with fail;go_ret
  exact⟨by rw[bm.out];rfl,below_drewN bS.out m⟩
 have av:=iL.out;rw[decide_eq_true h1,Bool.true_and] at av;have rU:=zH av;have g1:(a1==b1)=true:=by rw[beq_iff_eq];exact h1
 clear av iL h1;by_cases h2:a2=b2
 case neg=>
  have av:=rU.out;rw[decide_eq_false h2,Bool.false_and] at av;have bm:=zH av;have g2:(a2==b2)=false:=by rw[beq_eq_false_iff_ne];exact h2
  clear av rU h2;go_wp2_with fail;go_ret
  exact⟨by rw[bm.out];rfl,below_drewN bS.out m⟩
 have av:=rU.out;rw[decide_eq_true h2,Bool.true_and] at av;have JM:=zH av;have g2:(a2==b2)=true:=by rw[beq_iff_eq];exact h2
 clear av rU h2;by_cases h3:a3=b3
 case neg=>
  have av:=JM.out;rw[decide_eq_false h3,Bool.false_and] at av;have bm:=zH av;have g3:(a3==b3)=false:=by rw[beq_eq_false_iff_ne];exact h3
  clear av JM h3;go_wp2_with fail;go_ret
  exact⟨by rw[bm.out];rfl,below_drewN bS.out m⟩
 have av:=JM.out;rw[decide_eq_true h3,Bool.true_and] at av;have HZ5:=zH av;have g3:(a3==b3)=true:=by rw[beq_iff_eq];exact h3
 clear av JM h3;by_cases h4:a4=b4
 case neg=>
  have av:=HZ5.out;rw[decide_eq_false h4,Bool.false_and] at av;have bm:=zH av;have g4:(a4==b4)=false:=by rw[beq_eq_false_iff_ne];exact h4
  clear av HZ5 h4;go_wp2_with fail;go_ret
  exact⟨by rw[bm.out];rfl,below_drewN bS.out m⟩
 have av:=HZ5.out;rw[decide_eq_true h4,Bool.true_and] at av;have HZ6:=zH av;have g4:(a4==b4)=true:=by rw[beq_iff_eq];exact h4
 clear av HZ5 h4;by_cases h5:a5=b5
 case neg=>
  have av:=HZ6.out;rw[decide_eq_false h5,Bool.false_and] at av;have bm:=zH av;have g5:(a5==b5)=false:=by rw[beq_eq_false_iff_ne];exact h5
  clear av HZ6 h5;go_wp2_with fail;go_ret
  exact⟨by rw[bm.out];rfl,below_drewN bS.out m⟩
 have av:=HZ6.out;rw[decide_eq_true h5,Bool.true_and] at av;have HZ7:=zH av;have g5:(a5==b5)=true:=by rw[beq_iff_eq];exact h5
 clear av HZ6 h5;by_cases h6:a6=b6
 case neg=>
  have av:=HZ7.out;rw[decide_eq_false h6] at av;have bm:=zH av;have g6:(a6==b6)=false:=by rw[beq_eq_false_iff_ne];exact h6
  clear av HZ7 h6;go_wp2_with fail;go_ret
  exact⟨by rw[bm.out];rfl,below_drewN bS.out m⟩
 have av:=HZ7.out;rw[decide_eq_true h6] at av;have HZ8:=zH av;have g6:(a6==b6)=true:=by rw[beq_iff_eq];exact h6
 clear av HZ7 h6;go_wp2_with fail;go_ret
 exact⟨by rw[HZ8.out];rfl,below_drewN bS.out m⟩
structure am where
 title:ByteArray
 dots:Int
 blank:Int
 marked:Int
 prec:List ByteArray
 cont:List ay
 styl:List aX
 scan:Int
 batch:Int
 risk:Raw
 cell:Int
 seed:ByteArray
def am.zero:am:=⟨⟨#[]⟩,0,0,0,[],[],[],0,0,⟨false,[],[]⟩,0,⟨#[]⟩⟩
def iw (e:am) (vP vC vS vN vD:Value):List Value:=
 [.string e.title,.int .i64 e.dots,.int .i64 e.blank,.int .i64 e.marked,vP,vC,vS,.int .i64 e.scan,.int .i64 e.batch,.bool e.risk.neg,vN,vD,.int .i64 e.cell,.string e.seed]
instance:bG am where
 sz:=14
 rep w S cs x:=∃A n c A2 n2 c2 A3 n3 c3 A4 n4 c4 A5 n5 c5,cs=iw x (.slice A n c) (.slice A2 n2 c2) (.slice A3 n3 c3) (.slice A4 n4 c4) (.slice A5 n5 c5)
  ∧RS w S A n c x.prec∧RS w S A2 n2 c2 x.cont∧RS w S A3 n3 c3 x.styl∧RS w S A4 n4 c4 x.risk.num∧RS w S A5 n5 c5 x.risk.den
 len h:=by obtain⟨A,n,c,A2,n2,c2,A3,n3,c3,A4,n4,c4,A5,n5,c5,rfl,_⟩:=h;rfl
 keep h hS hk:=by
  obtain⟨A,n,c,A2,n2,c2,A3,n3,c3,A4,n4,c4,A5,n5,c5,rfl,h1,h2,h3,h4,h5⟩:=h;exact⟨A,n,c,A2,n2,c2,A3,n3,c3,A4,n4,c4,A5,n5,c5,rfl,h1.keep hS hk,h2.keep hS hk,h3.keep hS hk,h4.keep hS hk,h5.keep hS hk⟩
structure ap where
 kind:ByteArray
 name:ByteArray
 fields:List ag
 line:Int
instance:bG ap where
 sz:=4
 rep w S cs x:=∃A n c,cs=[.string x.kind,.string x.name,.slice A n c,.int .i64 x.line]∧RS w S A n c x.fields
 len h:=by obtain⟨A,n,c,rfl,_⟩:=h;rfl
 keep h hS hk:=by
  obtain⟨A,n,c,rfl,h1⟩:=h;exact⟨A,n,c,rfl,h1.keep hS hk⟩
structure kN where
 title:ByteArray
 blocks:List ap
instance:bG kN where
 sz:=2
 rep w S cs x:=∃A n c,cs=[.string x.title,.slice A n c]∧RS w S A n c x.blocks
 len h:=by obtain⟨A,n,c,rfl,_⟩:=h;rfl
 keep h hS hk:=by
  obtain⟨A,n,c,rfl,h1⟩:=h;exact⟨A,n,c,rfl,h1.keep hS hk⟩
structure cZ where
 e:am
 names:ByteArray→Option (List ByteArray)
 vals:List aS
def cZ.of (b:cZ) (k:ByteArray):List ByteArray:=(b.names k).getD []
def ak:ByteArray:=⟨#[115,99,97,110,110,101,114,115]⟩
def af:ByteArray:=⟨#[112,114,101,99,105,110,99,116,115]⟩
def aQ:ByteArray:=⟨#[115,116,121,108,101]⟩
def aI:ByteArray:=⟨#[97,117,100,105,116]⟩
def aJ:ByteArray:=⟨#[112,114,105,118,97,99,121]⟩
def bD:ByteArray:=⟨#[100,111,116,115]⟩
def bc:ByteArray:=⟨#[99,111,117,110,116]⟩
def be:ByteArray:=⟨#[98,97,116,99,104]⟩
def bk:ByteArray:=⟨#[110,97,109,101,115]⟩
def bU:ByteArray:=⟨#[99,97,110,100,105,100,97,116,101,115]⟩
def bp:ByteArray:=⟨#[114,97,110,107,115]⟩
def bH:ByteArray:=⟨#[116,105,101,115]⟩
def ar:ByteArray:=⟨#[111,118,101,114,118,111,116,101]⟩
def bI:ByteArray:=⟨#[115,107,105,112]⟩
def df:ByteArray:=⟨#[99,101,108,108]⟩
def aE:ByteArray:=⟨#[99,111,110,116,101,115,116,115]⟩
def aS.s (v:aS) (k:ByteArray):List ByteArray:=(v.lst k).getD []
def gT (nm:ByteArray) (v:aS):ay:=⟨nm,v.s bU,v.n au,v.n ax,v.n bp,v.n ao,v.n bH,v.n ar,v.n bI⟩
def ch (kind nm:ByteArray) (v:aS) (b:cZ):cZ:=
 if kind=aB then { b with e:={ b.e with dots:=v.n bD,blank:=v.n aO,marked:=v.n az } }
 else if kind=ak then { b with e:={ b.e with scan:=v.n bc,batch:=v.n be } }
 else if kind=af then { b with e:={ b.e with prec:=v.s bk } }
 else if kind=ah then { b with e:={ b.e with cont:=b.e.cont++[gT nm v] } }
 else if kind=aQ then { b with e:={ b.e with styl:=b.e.styl++[⟨nm,[],[]⟩] },vals:=b.vals++[v] }
 else if kind=aI then { b with e:={ b.e with risk:=v.risk,seed:=v.seed } }
 else if kind=aJ then { b with e:={ b.e with cell:=v.n df } }
 else b
def iz (kind:ByteArray):List ag→aS→fc×aS
 | [],v=>(⟨0,0⟩,v)
 | f::l,v=>if(bo kind f v).1≠0 then(⟨(bo kind f v).1,f.line⟩,(bo kind f v).2) else iz kind l (bo kind f v).2
def cZ.named (b:cZ) (kind nm:ByteArray):cZ:={ b with names:=setF b.names kind (b.of kind++[nm]) }
def jk (x:ap) (b:cZ):fc×cZ:=
 if mT x.kind x.name (b.of x.kind)≠0 then(⟨mT x.kind x.name (b.of x.kind),x.line⟩,b)
 else if(iz x.kind x.fields aS.zero).1.no≠0 then((iz x.kind x.fields aS.zero).1,b.named x.kind x.name)
 else if(lB x.kind x.line (iz x.kind x.fields aS.zero).2).no≠0 then(lB x.kind x.line (iz x.kind x.fields aS.zero).2,b.named x.kind x.name)
 else(⟨0,0⟩,ch x.kind x.name (iz x.kind x.fields aS.zero).2 (b.named x.kind x.name))
def fX:List ap→cZ→fc×cZ
 | [],b=>(⟨0,0⟩,b)
 | x::l,b=>if(jk x b).1.no≠0 then jk x b else fX l (jk x b).2
def dX (prec:List ByteArray) (line:Int):List ByteArray→List Bool→List Int→Except fc (List Bool×List Int)
 | [],used,lR=>.ok (used,lR)
 | s::l,used,lR=>
  if Lib.idxOfS prec s<0 then .error ⟨2,line⟩
  else if used.getD (Lib.idxOfS prec s).toNat false=true then .error ⟨3,line⟩
  else dX prec line l (used.set (Lib.idxOfS prec s).toNat true) (lR++[Lib.idxOfS prec s])
def fV (nm:ByteArray):List ay→Nat→Int
 | [],_=>-1
 | c::l,i=>if c.name=nm then(i:Int) else fV nm l (i+1)
def fw (cont:List ay) (line:Int):List ByteArray→List Int→Except fc (List Int)
 | [],lR=>.ok lR
 | s::l,lR=>if fV s cont 0<0 then .error ⟨2,line⟩ else fw cont line l (lR++[fV s cont 0])
def fT (prec:List ByteArray) (cont:List ay):List aS→List aX→List Bool→List aX→Except fc (List aX)
 | v::vs,s::ss,used,done=>
  match dX prec (v.l af) (v.s af) used [] with
  | .error e=>.error e
  | .ok (Tm,ps)=>
   match fw cont (v.l aE) (v.s aE) [] with
   | .error e=>.error e
   | .ok cs=>fT prec cont vs ss Tm (done++[⟨s.name,ps,cs⟩])
 | _,_,used,done=>if used.contains false then .error ⟨6,0⟩ else .ok done
def wJ (b:cZ):Except fc (List aX):=fT b.e.prec b.e.cont b.vals b.e.styl (List.replicate b.e.prec.length false) []
def cZ.start (title:ByteArray):cZ:=⟨{ am.zero with title:=title },fun _=>none,[]⟩
def iZ (s:kN):am×fc:=
 if jh s.title 0 60=false then(am.zero,⟨8,0⟩)
 else if(fX s.blocks (cZ.start s.title)).1.no≠0 then(am.zero,(fX s.blocks (cZ.start s.title)).1)
 else if pD.any (fun k=>decide ((fX s.blocks (cZ.start s.title)).2.of k=[])) then(am.zero,⟨6,0⟩)
 else match wJ (fX s.blocks (cZ.start s.title)).2 with
  | .error e=>(am.zero,e)
  | .ok l=>({ (fX s.blocks (cZ.start s.title)).2.e with styl:=l },⟨0,0⟩)
def bZ (k:ByteArray) (n:Int):ag:=⟨k,[Br n],0⟩
def il (k:ByteArray) (n:Int):ag:=⟨k,[fJ k n],0⟩
def eg (c:ay):ap:=
 ⟨ah,c.name,[il au c.method,bZ ax c.seats,bZ bp c.ranks]++(if c.method=2 then[bZ ao c.digits] else[])++[il bH c.ties,il ar c.over,il bI c.skip,⟨bU,c.cands,0⟩],0⟩
def jP (prec conts:List ByteArray) (s:aX):ap:=⟨aQ,s.name,[⟨af,eK s.prec prec,0⟩,⟨aE,eK s.cont conts,0⟩],0⟩
def mC (e:am):kN:=
 ⟨e.title,[⟨aB,⟨#[]⟩,[bZ bD e.dots,bZ aO e.blank,bZ az e.marked],0⟩,⟨ak,⟨#[]⟩,[bZ bc e.scan,bZ be e.batch],0⟩,⟨af,⟨#[]⟩,[⟨bk,e.prec,0⟩],0⟩]
  ++e.cont.map eg++e.styl.map (jP e.prec (e.cont.map (·.name)))
  ++[⟨aI,⟨#[]⟩,[⟨bP,[⟨(iV e.risk.q).toArray⟩],0⟩,⟨ck,[e.seed],0⟩],0⟩,⟨aJ,⟨#[]⟩,[bZ df e.cell],0⟩]⟩
def lG {α:Type} (f:α→α→Bool):List α→List α→Bool
 | [],[]=>true
 | x::l,y::m=>f x y&&lG f l m
 | _,_=>false
def AQ (a b:am):Bool:=
 decide (a.title=b.title)&&(decide (a.dots=b.dots)&&(decide (a.blank=b.blank)&&(decide (a.marked=b.marked)&&(decide (a.prec=b.prec)&&(lG bf a.cont b.cont&&(lG dc a.styl b.styl
  &&(decide (a.scan=b.scan)&&(decide (a.batch=b.batch)&&(decide (xz a.risk.q b.risk.flip.q=0)&&(decide (a.cell=b.cell)&&decide (a.seed=b.seed)))))))))))
def kW (e:am):Bool:=decide ((iZ (mC e)).2.no=0)&&(e.risk.valid&&AQ (iZ (mC e)).1 e)
end Go.Proofs.YtjlhbfbdcfajfaaGreatDoor
