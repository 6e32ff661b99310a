/- Sch5 Map2 Sch6 -/
import Derived.Test.YtjlhbfbdcfajfaaGreatDoorB15
import Derived.Test.YtjlhbfbdcfajfaaGreatDoorB02
import Derived.BigQuiet
import Derived.Deep.RegionHeld3
namespace Go.Proofs.YtjlhbfbdcfajfaaGreatDoor
open Go.RowKit Go.Maps Go.WideMaps
def bP:ByteArray:=⟨#[114,105,115,107]⟩
def ck:ByteArray:=⟨#[115,101,101,100]⟩
def xd (key s:ByteArray) (v:aS):Int×aS:=
 if cU key≠[] then(if Lib.idxOfS (cU key) s+1=0 then 2 else 0,{ v with num:=setF v.num key (Lib.idxOfS (cU key) s+1) })
 else if key=bP then((np s.data.toList).1,v.withRisk (np s.data.toList).2)
 else if key=ck then(if jh s 0 24 then(0,{ v with seed:=s }) else(8,v))
 else if(jX s.data.toList).2=false then(5,v)
 else if(jX s.data.toList).1<(jb key).1∨(jb key).2<(jX s.data.toList).1 then(4,v)
 else(0,{ v with num:=setF v.num key (jX s.data.toList).1 })
theorem nO (x:ByteArray):∀(zs:List ByteArray) (i:Nat),-1≤Lib.idxFromS zs x i∧Lib.idxFromS zs x i≤(i+zs.length:Nat)
 | [],i=>⟨by simp[Lib.idxFromS],by simp only[Lib.idxFromS];omega⟩
 | z::zs,i=>by
  have:=nO x zs (i+1);unfold Lib.idxFromS;rw[List.length_cons];split<;>omega
theorem I5 (k:ByteArray):(cU k).length≤3:=by
 unfold cU;split
 ·decide
 split
 ·decide
 split
 ·decide
 split<;>decide
theorem Bs (k s:ByteArray):-1≤Lib.idxOfS (cU k) s∧Lib.idxOfS (cU k) s≤10:=by
 have h:=nO s (cU k) 0;have:=I5 k;unfold Lib.idxOfS;omega
theorem bE {w:World} {b n:Nat} {f:ByteArray→Option Value} {ops:Array Oper} {rest:List Oper} {o:Oper} {a:Act} {Q:Exit→Act→World→Prop} (hg:o.guard=none) (m x:Operand) (t e:TypeId) (FS:o.op=Op.lookup t m x false) (ht:Tryz.prog.underlying t=some (.map 9 e)) (z:Value) (hz:(zeroValue e).run Tryz.prog w=.ok z w) (hm:a.eval m=.map (some b)) (h:dr w b n f) (s:ByteArray) (hx:a.eval x=.string s) (hs:s.size≤maxLen) (u:Value) (hu:(f s).getD z=u) (hK:wpList Tryz.prog ops Q rest (a.put o.dst u) w):wpList Tryz.prog ops Q (o::rest) a w:=
 xZ hg m x t e FS ht z hz hm h s hx hs (by rw[hu];exact hK)
theorem kx.mono {w:World} {B g N m1 m2 m3:Nat} {f:ByteArray→Option Value} {A A2:Option Addr} {n c n2 c2:Nat} {v:aS} (h:kx w B g N m1 m2 m3 f A n c A2 n2 c2 v) {M:Nat} (hM:N≤M):kx w B g M m1 m2 m3 f A n c A2 n2 c2 v:=
 { h with num:=h.num.mono hM,lst:=h.lst.mono hM,ln:=h.ln.mono hM }
theorem kx.drew {w:World} {B g N m1 m2 m3:Nat} {f:ByteArray→Option Value} {A A2:Option Addr} {n c n2 c2:Nat} {v:aS} (h:kx w B g N m1 m2 m3 f A n c A2 n2 c2 v):kx w.drew B g N m1 m2 m3 f A n c A2 n2 c2 v:=h.keep (Below.refl _ _).drew
theorem dr.drew {w:World} {b n:Nat} {f:ByteArray→Option Value} (h:dr w b n f):dr w.drew b n f:=h.keep (Below.refl _ _).drew
theorem lT.mono {w:World} {B g N:Nat} {v:aS} (h:lT w B g N v) {M:Nat} (hM:N≤M):lT w B g M v:=by
 obtain⟨m1,m2,m3,f,A,n,c,A2,n2,c2,h⟩:=h;exact⟨m1,m2,m3,f,A,n,c,A2,n2,c2,h.mono hM⟩
set_option maxRecDepth 20000 in
set_option maxHeartbeats 2000000 in
theorem MZ {w:World} {B g N:Nat} {v:aS} (h:lT w B g N v) (hB:B≤w.heap.size) (hN:N<4398046511104) (key s:ByteArray) (hk:fG key) (hs:fG s) : Calls Tryz.prog 125 #[.pointer (some ⟨g,0,none⟩),.string key,.string s] w (CZ w B g (N+1) (xd key s v).1 (xd key s v).2):=by
 have AI:key.size≤maxLen:=Nat.le_trans hk (by unfold maxLen;omega);obtain⟨p,hp⟩:∃p,xd key s v=p:=⟨_,rfl⟩;have kS:=hp;unfold xd at kS;rw[hp];have HP:=zH kS;have HV:=zH h;clear hp kS h;go_enter Tryz.func125,Tryz.ntmps125;go_wp2_with fail;refine(BH key w).mono ?_;rintro e w1 ⟨A,n,c,rfl,hr,oP,bd⟩;have HR:=zH hr;have bS:=zH bd;by_cases dA:cU key=[]
 ·obtain rfl:A=none:=oP.2 dA;have hn0:n=0:=by rw[←hr.len,dA];rfl
  subst hn0;have kS:=HP.out;rw[if_neg (by simp[dA])] at kS;have C3:=zH kS;have HV1:=zH (HV.out.keep bd);clear hr oP bd dA kS HP HR;by_cases hr:key=bP
  ·subst hr;have kS:=C3.out;rw[if_pos rfl] at kS;have EW:=zH kS;clear kS C3;unfold bP;go_wp2_with fail;refine(Kn HV1.out (Nat.le_trans hB bS.out.size) s hs).mono ?_;rintro e w2 ⟨rfl,Ny,bY⟩;have HV2:=zH Ny;have bX:=zH bY;clear Ny bY;go_wp2_with fail;go_ret
   rw[←EW.out];exact⟨rfl,HV2.out.mono (Nat.le_succ _),(pp bS.out hB).trans bX.out⟩
  have er:(key.toList==[114,105,115,107])=false:=aC (l:=[114,105,115,107]) hr;by_cases he:key=ck
  ·subst he;have kS:=C3.out;rw[if_neg hr,if_pos rfl] at kS;obtain⟨q,hq⟩:∃q,jh s 0 24=q:=⟨_,rfl⟩;have yJ:=Dx s 0 24 w1 (Nat.le_trans hs (by omega));rw[hq] at kS yJ;have EW:=zH kS;have Wt:=zH yJ;clear kS C3 hq yJ hr;unfold ck at er ⊢;go_wp2_with fail;refine Wt.out.mono ?_;rintro e w2 ⟨rfl,bY⟩;obtain⟨m1,m2,m3,f,A1,n1,c1,A2,n2,c2,ed⟩:=HV1.out.keep bY;have fz:=zH ed;have k6:w2.cell? ⟨g,6,none⟩=some (.string v.seed):=ed.blk.cell 6;have f6:=ed.blk.frozen 6;have bX:=zH (show BC B g w w2 from(pp bS.out hB).trans (pp bY (Nat.le_trans hB bS.out.size)));clear ed bY Wt;cases q
   ·have sT:=EW.out;rw[if_neg (by decide)] at sT;have OH:=zH sT;clear sT EW;go_wp2_with fail;go_ret
    rw[←OH.out];exact⟨rfl,⟨_,_,_,_,_,_,_,_,_,_,fz.out.mono (Nat.le_succ _)⟩,bX.out⟩
   ·have sT:=EW.out;rw[if_pos rfl] at sT;have OH:=zH sT;clear sT EW;go_wp2_with fail;go_ret
    rw[←OH.out];exact⟨rfl,⟨_,_,_,_,_,_,_,_,_,_,(fz.out.setSeed s).mono (Nat.le_succ _)⟩,bX.out.set fz.out.hg 6 _⟩
  have ee:(key.toList==[115,101,101,100])=false:=aC (l:=[115,101,101,100]) he;have kS:=C3.out;rw[if_neg hr,if_neg he] at kS;have wt:=Nk s w1 (Nat.le_trans hs (by omega));obtain⟨z,hz⟩:∃z,(jX s.data.toList).1=z:=⟨_,rfl⟩;obtain⟨q,hq⟩:∃z,(jX s.data.toList).2=z:=⟨_,rfl⟩;obtain⟨lo,nR⟩:∃z,(jb key).1=z:=⟨_,rfl⟩;obtain⟨hi,yM⟩:∃z,(jb key).2=z:=⟨_,rfl⟩;have hbo:=Ow key;rw[hz,hq] at wt kS;rw[nR,yM] at kS;simp only[nR,yM] at hbo;have EW:=zH kS;have SQ:=zH wt;have HBO:=zH hbo;clear kS C3 hq hz nR yM wt hbo hr he;go_wp2_with fail;refine SQ.out.mono ?_;rintro e w2 ⟨rfl,bY⟩;obtain⟨m1,m2,m3,f,A1,n1,c1,A2,n2,c2,ed⟩:=HV1.out.keep bY;have fz:=zH ed;have k0:w2.cell? ⟨g,0,none⟩=some (.map (some m1)):=ed.blk.cell 0;have bX:=zH (show BC B g w w2 from(pp bS.out hB).trans (pp bY (Nat.le_trans hB bS.out.size)));have HS:=zH bY.size;clear ed bY SQ er ee;go_wp2_with fail;refine(HBO.out w2).mono ?_;rintro e w3 ⟨rfl,rfl⟩;cases q
  ·have sT:=EW.out;rw[if_pos rfl] at sT;have OH:=zH sT;clear sT EW;go_wp2_with fail;go_ret
   rw[←OH.out];exact⟨rfl,⟨_,_,_,_,_,_,_,_,_,_,fz.out.mono (Nat.le_succ _)⟩,bX.out⟩
  have sT:=EW.out;rw[if_neg (by decide)] at sT;by_cases h1:z<lo
  ·rw[if_pos (Or.inl h1)] at sT;have OH:=zH sT;clear sT EW;go_wp2_with fail;go_ret
   rw[←OH.out];exact⟨rfl,⟨_,_,_,_,_,_,_,_,_,_,fz.out.mono (Nat.le_succ _)⟩,bX.out⟩
  by_cases h2:hi<z
  ·rw[if_pos (Or.inr h2)] at sT;have OH:=zH sT;have SB:(z<lo)=False:=by simpa using h1
   clear sT EW h1;go_wp2_with fail;go_ret
   rw[←OH.out];exact⟨rfl,⟨_,_,_,_,_,_,_,_,_,_,fz.out.mono (Nat.le_succ _)⟩,bX.out⟩
  rw[if_neg (by omega)] at sT;have OH:=zH sT;have SB:(z<lo)=False:=by simpa using h1
  have h2':(hi<z)=False:=by simpa using h2
  clear sT EW h1 h2;go_wp2_with (refine zL rfl _ _ _ _ 3 rfl Tryz.underlying166 rfl fz.out.num (Nat.lt_of_lt_of_le hN (by unfold maxLen;omega)) key (.int .i64 z) rfl rfl AI ?_;intro w4 NK hgr4;have IN:=fz.out.setNum key z NK hgr4;have xt:=zn bX.out fz.out.num hgr4 IN.h1 (Nat.le_trans (Nat.le_trans hB bS.out.size) HS.out);have RN:=zH IN;have wF:=zH xt;clear NK hgr4 IN xt);go_ret
  rw[←OH.out];exact⟨rfl,⟨_,_,_,_,_,_,_,_,_,_,RN.out⟩,wF.out⟩
 ·have xo:0<n:=by rw[←hr.len];exact List.length_pos_iff.2 dA
  obtain⟨b,o,rfl⟩:=hr.some_of xo;have kS:=HP.out;rw[if_pos dA] at kS;obtain⟨z,hz⟩:∃z,Lib.idxOfS (cU key) s=z:=⟨_,rfl⟩;have tB:=fun w' (hu:Below w1.heap.size w1 w')=>Pd (hr.below hu (fun _ h=>h.2)) s;have acy:=Bs key s;rw[hz] at kS tB acy;have HZR:=zH acy;clear acy;have C3:=zH kS;have HI:=zH tB;obtain⟨m1,m2,m3,f,A1,n1,c1,A2,n2,c2,ed⟩:=HV.out.keep bd;have k0:w1.cell? ⟨g,0,none⟩=some (.map (some m1)):=ed.blk.cell 0;have fz:=zH ed;clear hr oP bd dA kS hz tB ed HP;have hzr:-1≤z∧z≤10:=HZR.out;obtain⟨z1,eQ⟩:∃z1,z+1=z1:=⟨_,rfl⟩;have wz:IntKind.i64.wrap z1=z1:=by rw[IntKind.wrap_i64];omega
  go_wp2_with fail;refine oX (fun w'=>w'.cell? ⟨g,0,none⟩=some (.map (some m1))) 9
   [(0,true),(1,true),(2,true),(3,true),(4,true),(5,true),(6,true),(7,false),(8,true)]
   (by kernel_rfl) rfl (by kernel_rfl) (by kernel_rfl) (by kernel_rfl) (fun _ _ d _ _ h=>by cases d<;>exact h) k0 ?_
  iterate 7
   refine bh (v:=?_) rfl rfl ?_ ?_;rotate_left 1
   ·intro w hS;go_simp;with_reducible rfl
   simp only[Act.put,List.getElem_toArray,List.getElem_cons_zero,List.getElem_cons_succ,List.setIfInBounds_toArray,List.set_cons_zero,List.set_cons_succ]
  refine fB rfl fun K hK=>?_;go_simp;refine(HI.out w1.drew (Below.refl _ _).drew).mono ?_;rintro e w' ⟨rfl,rfl⟩;refine hK _ _ k0 ?_;clear hK K;try simp only[Act.put,List.getElem_toArray,List.getElem_cons_zero,List.getElem_cons_succ,List.setIfInBounds_toArray,List.set_cons_zero,List.set_cons_succ]
  refine bh (v:=?_) rfl rfl ?_ ?_;rotate_left 1
  ·intro w hS;go_simp;with_reducible rfl
  simp only[Act.put,List.getElem_toArray,List.getElem_cons_zero,List.getElem_cons_succ,List.setIfInBounds_toArray,List.set_cons_zero,List.set_cons_succ];refine dW rfl rfl fun K hK=>?_;refine pS _ _ _ 166 3 rfl Tryz.underlying166 rfl fz.out.num.drew (Nat.lt_of_lt_of_le hN (by unfold maxLen;omega)) key (.int .i64 z1) rfl rfl AI ?_;intro w2 xR hgr2;refine hK _ _ ?_;clear hK K;have YD:=fz.out.drew.setNum key z1 xR hgr2;have kk:w2.cell? ⟨g,0,none⟩=some (.map (some m1)):=YD.blk.cell 0;have xt:BC B g w w2:=zn (pp bS.out hB).drew fz.out.num.drew hgr2 YD.h1 (Nat.le_trans hB bS.out.size);have ZE:=zH xR;have amk:=zH YD;have wF:=zH xt;clear xR hgr2 YD xt;have sT:=C3.out;rw[eQ] at sT;by_cases h0:z1=0
  ·subst h0;rw[if_pos rfl] at sT;have OH:=zH sT;clear sT C3 eQ;go_wp2_with (at_lookup;refine bE rfl _ _ _ 3 rfl Tryz.underlying166 (.int .i64 0) rfl rfl ZE.out key rfl AI (.int .i64 0) (by simp[upd]) ?_);go_ret
   rw[←OH.out];exact⟨rfl,⟨_,_,_,_,_,_,_,_,_,_,amk.out⟩,wF.out⟩
  ·rw[if_neg h0] at sT;have OH:=zH sT;have av:(z1==0)=false:=by simpa using h0
   clear sT C3 eQ h0;go_wp2_with (at_lookup;refine bE rfl _ _ _ 3 rfl Tryz.underlying166 (.int .i64 0) rfl rfl ZE.out key rfl AI (.int .i64 z1) (by simp[upd]) ?_);go_ret
   rw[←OH.out];exact⟨rfl,⟨_,_,_,_,_,_,_,_,_,_,amk.out⟩,wF.out⟩
theorem dr.drewN {w:World} {b n:Nat} {f:ByteArray→Option Value} (h:dr w b n f) (k:Nat):dr (w.drewN k) b n f:=h.keep (below_drewN (Below.refl _ _) k)
theorem aP {w:World} {b n:Nat} {f:ByteArray→Option Value} {ops:Array Oper} {rest:List Oper} {o:Oper} {a:Act} {Q:Exit→Act→World→Prop} (hg:o.guard=none) (m x:Operand) (t e:TypeId) (FS:o.op=Op.lookup t m x true) (ht:Tryz.prog.underlying t=some (.map 9 e)) (z:Value) (hz:(zeroValue e).run Tryz.prog w=.ok z w) (hm:a.eval m=.map (some b)) (h:dr w b n f) (s:ByteArray) (hx:a.eval x=.string s) (hs:s.size≤maxLen) (u:Value) (hu:(f s).getD z=u) (d:Bool) (hd:(f s).isSome=d) (hK:wpList Tryz.prog ops Q rest (a.put o.dst (.tuple #[u,.bool d])) w):wpList Tryz.prog ops Q (o::rest) a w:=
 ux hg m x t e FS ht z hz hm h s hx hs (by rw[hu,hd];exact hK)
theorem FF {W:World} {b n:Nat} {f:ByteArray→Option Value} {o:Oper} {a:Act} {K:Act→Prop} (m x:Operand) (t e:TypeId) (FS:o.op=Op.lookup t m x true) (ht:Tryz.prog.underlying t=some (.map 9 e)) (z:Value) (hz:∀w,(zeroValue e).run Tryz.prog w=.ok z w) (hm:a.eval m=.map (some b)) (h:dr W b n f) (s:ByteArray) (hx:a.eval x=.string s) (hs:s.size≤maxLen) (u:Value) (hu:(f s).getD z=u) (d:Bool) (hd:(f s).isSome=d) (hK:K (a.put o.dst (.tuple #[u,.bool d]))):o.quiet Tryz.prog a (fun w'=>∃n,w'=W.drewN n) K:=by
 refine⟨_,fun w hw=>?_,hK⟩;obtain⟨k,rfl⟩:=hw;obtain⟨D,h1,_,h2,h3⟩:=h.drewN k;obtain⟨v,ps,rN,hv⟩:=h1.look_ok o9 ht (hz _) (zd:=.held z) (zp:=[]) rfl (rf s hs);rw[h3] at hv;have Sf:v=(f s).getD z:=sB hv;unfold Oper.quietAt;simp[execOp,FS,hm,hx,rN,Oper.quietUpon,Sf,hu,h2,hd]
theorem cI {W:World} {b n:Nat} {f:ByteArray→Option Value} {o:Oper} {a:Act} {K:Act→Prop} (m x:Operand) (t e:TypeId) (FS:o.op=Op.lookup t m x false) (ht:Tryz.prog.underlying t=some (.map 9 e)) (z:Value) (hz:∀w,(zeroValue e).run Tryz.prog w=.ok z w) (hm:a.eval m=.map (some b)) (h:dr W b n f) (s:ByteArray) (hx:a.eval x=.string s) (hs:s.size≤maxLen) (u:Value) (hu:(f s).getD z=u) (hK:K (a.put o.dst u)):o.quiet Tryz.prog a (fun w'=>∃n,w'=W.drewN n) K:=by
 refine⟨_,fun w hw=>?_,hK⟩;obtain⟨k,rfl⟩:=hw;obtain⟨D,h1,_,h2,h3⟩:=h.drewN k;obtain⟨v,ps,rN,hv⟩:=h1.lookup o9 ht (hz _) (zd:=.held z) (zp:=[]) rfl (rf s hs);rw[h3] at hv;have Sf:v=(f s).getD z:=sB hv;unfold Oper.quietAt;simp[execOp,FS,hm,hx,rN,Oper.quietUpon,Sf,hu]
structure ag where
 key:ByteArray
 vals:List ByteArray
 line:Int
def bo (kind:ByteArray) (f:ag) (v:aS):Int×aS:=
 if Lib.containsS (aN kind) f.key=false then(2,v)
 else if(v.ln f.key).isSome then(3,v)
 else if 0<fU f.key then(fS f.vals (fU f.key),{ v with ln:=setF v.ln f.key f.line,lst:=setF v.lst f.key f.vals })
 else if f.vals.length≠1 then(7,{ v with ln:=setF v.ln f.key f.line })
 else xd f.key (f.vals.getD 0 ⟨#[]⟩) { v with ln:=setF v.ln f.key f.line }
set_option maxRecDepth 20000 in
set_option maxHeartbeats 2000000 in
theorem XS {w:World} {B g N:Nat} {v:aS} (h:lT w B g N v) (hB:B≤w.heap.size) (hN:N<2199023255552) (kind k:ByteArray) (hk:fG k) {S:Nat→Prop} {A:Option Addr} {n c:Nat} {xs:List ByteArray} (hr:RS w S A n c xs) (hS:∀b,S b→b<B) (hs:∀s∈xs,fG s) (hn:n≤1099511627776) (line:Int) : Calls Tryz.prog 95 #[.pointer (some ⟨g,0,none⟩),.string kind,.agg #[.string k,.slice A n c,.int .i64 line]] w (CZ w B g (N+2) (bo kind ⟨k,xs,line⟩ v).1 (bo kind ⟨k,xs,line⟩ v).2):=by
 have AI:k.size≤maxLen:=Nat.le_trans hk (by unfold maxLen;omega);obtain⟨p,hp⟩:∃p,bo kind ⟨k,xs,line⟩ v=p:=⟨_,rfl⟩;have kS:=hp;unfold bo at kS;rw[hp];have bq:Below w.heap.size w (w.alloc (.cells #[.string k,.slice A n c,.int .i64 line] 113)):=(Below.refl _ _).alloc (Nat.le_refl _) _;have ct:aK (w.alloc (.cells #[.string k,.slice A n c,.int .i64 line] 113)) w.heap.size 113 #[.string k,.slice A n c,.int .i64 line]:=aK.new _ _ _;obtain⟨w1,bj⟩:∃x,w.alloc (.cells #[.string k,.slice A n c,.int .i64 line] 113)=x:=⟨_,rfl⟩;rw[bj] at bq ct;obtain⟨q,hq⟩:∃q,Lib.containsS (aN kind) k=q:=⟨_,rfl⟩;have c0:w1.cell? ⟨w.heap.size,0,none⟩=some (.string k):=ct.cell 0;have dO:=zH bj;have jc:=zH bq;have mY:=zH ct;have HR:=zH hr;obtain⟨m1,m2,m3,f,A5,n5,c5,A6,n6,c6,QP⟩:=h;have HLT:=zH (show g<w.heap.size∧m1<w.heap.size∧m2<w.heap.size∧m3<w.heap.size from⟨QP.blk.lt,QP.num.lt,QP.lst.lt,QP.ln.lt⟩);have HV:=zH (QP.keep bq);have HP:=zH kS;have HQ:=zH hq;have OM:=zH hr.len;clear hp kS QP hr bj bq ct hq;have HH:=zH (show∀w',Up w1 w'→Up w1 w'∧w'.cell? ⟨w.heap.size,0,none⟩=some (.string k) from fun w' hu=>⟨hu,(mY.out.keep hu).cell 0⟩);have HC:=zH (show∀(w':World) (S':Nat→Prop) (A':Option Addr) (n' c':Nat),RS w' S' A' n' c' (aN kind)→Calls Tryz.prog 121 #[.slice A' n' c',.string k] w' (gq w' (.bool q)) from fun w' S' A' n' c' h=>by rw[←HQ.out];exact tI h k);go_enter Tryz.func95,Tryz.ntmps95;go_wp2_with fail;rw[dO.out];go_region_held3 (fun w'=>Up w1 w'∧w'.cell? ⟨w.heap.size,0,none⟩=some (.string k))
 (first|assumption|exact HH.out _ (Up.start w1)|exact HH.out _ (Up.more (‹Up w1 _∧_›).1 ‹Below _ _ _›))
 (first
  | (go_at_call 118; (with_reducible refine(D5 kind _).mono ?_); rintro e w2 ⟨A2,n2,c2,rfl,ri,hn2,bY⟩; have sW:=zH ri; clear ri hn2)
  | (go_at_call 121; (with_reducible refine(HC.out _ _ _ _ _ sW.out).mono ?_); rintro e w3 ⟨rfl,rfl⟩))
 have hu:=(‹Up w1 w2∧_›).1;have uj:Below w.heap.size w w2:=ae jc.out hu;have fM:=mY.out.keep hu;have q0:w2.cell? ⟨w.heap.size,0,none⟩=some (.string k):=fM.cell 0;have q1:w2.cell? ⟨w.heap.size,1,none⟩=some (.slice A n c):=fM.cell 1;have q2:w2.cell? ⟨w.heap.size,2,none⟩=some (.int .i64 line):=fM.cell 2;have kQ:=zH uj;have jg:=zH fM;have ed:=HV.out.keep hu;have fz:=zH ed;have g2:w2.cell? ⟨g,2,none⟩=some (.map (some m3)):=ed.blk.cell 2;have HBS:=zH (Nat.le_trans hB uj.size);clear bY sW hu uj fM ed dO HH HC c0 ‹Up w1 w2∧_› mY HV;have kS:=HP.out;rw[HQ.out] at kS;clear HP;cases q
 ·rw[if_pos rfl] at kS;have C3:=zH kS;clear kS HQ;go_wp2_with fail;go_ret
  rw[←C3.out];exact⟨rfl,⟨_,_,_,_,_,_,_,_,_,_,fz.out.mono (Nat.le_add_right _ _)⟩,pp kQ.out hB⟩
 rw[if_neg (by decide)] at kS;obtain⟨d,hd⟩:∃d,(v.ln k).isSome=d:=⟨_,rfl⟩;obtain⟨u,hu⟩:∃u,((ints v.ln) k).getD (.int .i64 0)=u:=⟨_,rfl⟩;have Xk:((ints v.ln) k).isSome=d:=by rw[←hd];unfold ints;cases v.ln k<;>rfl
 rw[hd] at kS;have C3:=zH kS;have HU:=zH hu;have HD:=zH Xk;clear kS HQ hd hu Xk;go_wp2_with fail;refine Go.wp_region_quiet_lit (by kernel_rfl) (by kernel_rfl) ?_;repeat (first|(go_big_quiet_step (fail))|(go_big_quiet_want;(with_reducible (refine FF _ _ _ 3 rfl Tryz.underlying166 (.int .i64 0) (fun _=>rfl) rfl fz.out.ln k rfl AI u HU.out d HD.out ?_));(try simp only[Act.put,List.setIfInBounds_toArray,List.set_cons_zero,List.set_cons_succ]);(try simp only[List.getElem_toArray,List.getElem_cons_zero,List.getElem_cons_succ]);go_big_quiet_on))
 refine Go.wpQuiet_nil ?_;intro _ Ux;obtain⟨nq,aqo⟩:=Ux;subst aqo;have ey:Below w2.heap.size w2 (w2.drewN nq):=below_drewN (Below.refl _ _) nq;obtain⟨w3,qc⟩:∃x,w2.drewN nq=x:=⟨_,rfl⟩;rw[qc] at ey ⊢;have iF:=jg.out.keep ey;have adw:=fz.out.keep ey;have p0:w3.cell? ⟨w.heap.size,0,none⟩=some (.string k):=iF.cell 0;have p1:w3.cell? ⟨w.heap.size,1,none⟩=some (.slice A n c):=iF.cell 1;have p2:w3.cell? ⟨w.heap.size,2,none⟩=some (.int .i64 line):=iF.cell 2;have g3:w3.cell? ⟨g,2,none⟩=some (.map (some m3)):=adw.blk.cell 2;have un:=zH iF;have WG:=zH adw;have afV:=zH (ae kQ.out ey);have amx:=zH (Nat.le_trans hB (ae kQ.out ey).size);clear ey qc iF adw jg fz kQ q0 q1 q2 g2 HU HD;cases d
 case true=>
  have kS:=C3.out;rw[if_pos rfl] at kS;have EW:=zH kS;clear kS C3;go_wp2_with fail;go_ret
  rw[←EW.out];exact⟨rfl,⟨_,_,_,_,_,_,_,_,_,_,WG.out.mono (Nat.le_add_right _ _)⟩,pp afV.out hB⟩
 have kS:=C3.out;rw[if_neg (by decide)] at kS;have EW:=zH kS;clear kS C3;go_wp2_with fail;refine oX (fun w'=>w'.cell? ⟨g,2,none⟩=some (.map (some m3))∧w'.cell? ⟨w.heap.size,0,none⟩=some (.string k)∧w'.cell? ⟨w.heap.size,2,none⟩=some (.int .i64 line)) 8
  [(0,true),(1,true),(2,true),(3,true),(4,true),(5,true),(6,true),(7,true)]
  (by kernel_rfl) rfl (by kernel_rfl) (by kernel_rfl) (by kernel_rfl) (fun _ _ d _ _ h=>by cases d<;>exact h) ⟨g3,p0,p2⟩ ?_
 iterate 8
  refine bh (v:=?_) rfl rfl ?_ ?_;rotate_left 1
  ·intro w hS;obtain⟨Xo,Ct,eF⟩:=hS;go_simp;with_reducible rfl
  simp only[Act.put,List.getElem_toArray,List.getElem_cons_zero,List.getElem_cons_succ,List.setIfInBounds_toArray,List.set_cons_zero,List.set_cons_succ]
 refine dW rfl rfl fun K hK=>?_;refine pS _ _ _ 166 3 rfl Tryz.underlying166 rfl WG.out.ln.drew (Nat.lt_of_lt_of_le hN (by unfold maxLen;omega)) k (.int .i64 line) rfl rfl AI ?_;intro w4 NK hgr4;refine hK _ _ ?_;clear hK K;obtain⟨v1,hv1⟩:∃v1:aS,{ v with ln:=setF v.ln k line }=v1:=⟨_,rfl⟩;have IN:=WG.out.drew.setLn k line NK hgr4;rw[hv1] at IN;have jj:=un.out.drew.grown hgr4 (fun e=>by injection e with e;have:=HLT.out;omega);have Lf:BC B g w w4:=zn (pp afV.out hB).drew WG.out.ln.drew hgr4 IN.h3 amx.out;have r0:w4.cell? ⟨w.heap.size,0,none⟩=some (.string k):=jj.cell 0;have r1:w4.cell? ⟨w.heap.size,1,none⟩=some (.slice A n c):=jj.cell 1;have g1:w4.cell? ⟨g,1,none⟩=some (.map (some m2)):=IN.blk.cell 1;obtain⟨L,hL⟩:∃L,fU k=L:=⟨_,rfl⟩;have fL:=Nr k w4;rw[hL] at fL;have kS:=EW.out;rw[hL] at kS;have Ny:{ v with ln:=setF v.ln k line,lst:=setF v.lst k xs }={ v1 with lst:=setF v1.lst k xs }:=by rw[←hv1]
 rw[Ny,hv1] at kS;have SO:=zH kS;have RN:=zH IN;have Gl:=zH jj;have afS:=zH Lf;have ew:=zH fL;have px:=zH (HR.out.below Lf.1 hS);have afQ:=zH (show B≤w4.heap.size from Nat.le_trans hB Lf.1.size);have avR:=zH (show w.heap.size≤w4.heap.size from Lf.1.size);clear NK hgr4 IN jj Lf fL kS hv1 Ny hL EW p0 p1 p2 g3 un WG afV HBS amx;go_wp2_with fail;refine ew.out.mono ?_;rintro e w' ⟨rfl,rfl⟩;by_cases xo:0<L
 ·have kS:=SO.out;rw[if_pos xo] at kS;obtain⟨z,hz⟩:∃z,fS xs L=z:=⟨_,rfl⟩;have ui:=fun w' (h:RS w' S A n c xs) (h2:∀b,S b→b<w'.heap.size)=>X7 L h h2 hs;rw[hz] at kS ui;have C5:=zH ui;have HP4:=zH kS;clear kS SO ui hz;go_wp2_with fail;refine oX (fun w'=>w'.cell? ⟨g,1,none⟩=some (.map (some m2))∧w'.cell? ⟨w.heap.size,0,none⟩=some (.string k)∧w'.cell? ⟨w.heap.size,1,none⟩=some (.slice A n c)) 9
   [(0,true),(1,true),(2,true),(3,true),(4,true),(5,true),(6,true),(7,true),(8,false)]
   (by kernel_rfl) rfl (by kernel_rfl) (by kernel_rfl) (by kernel_rfl) (fun _ _ d _ _ h=>by cases d<;>exact h) ⟨g1,r0,r1⟩ ?_
  iterate 8
   refine bh (v:=?_) rfl rfl ?_ ?_;rotate_left 1
   ·intro w hS;obtain⟨Xo,Ct,eF⟩:=hS;go_simp;with_reducible rfl
   simp only[Act.put,List.getElem_toArray,List.getElem_cons_zero,List.getElem_cons_succ,List.setIfInBounds_toArray,List.set_cons_zero,List.set_cons_succ]
  refine fB rfl fun K hK=>?_;go_simp;refine(vQ px.out.drew hn).mono ?_;rintro e w5 ⟨v5,rfl,dB,mE⟩;obtain⟨A3,n3,c3,rfl,_⟩:=dB.slice;have U3:=RN.out.drew.keep mE;have mx:=Gl.out.drew.keep mE;have KW:RS w5 (Data w5 B g m1 m2 m3) A3 n3 c3 xs:=dB.rs8.sub (fun b hb=>by
   have h1:=HLT.out;have h2:=avR.out;have h3:=afQ.out;have h4:w4.heap.size≤b:=hb.1;exact⟨by omega,hb.2,by omega,by omega,by omega,by omega⟩)
  have adW:BC B g w w5:=afS.out.trans (pp (EG mE) afQ.out);refine hK _ _ ⟨U3.blk.cell 1,mx.cell 0,mx.cell 1⟩ ?_;clear hK K;try simp only[Act.put,List.getElem_toArray,List.getElem_cons_zero,List.getElem_cons_succ,List.setIfInBounds_toArray,List.set_cons_zero,List.set_cons_succ]
  refine dW rfl rfl fun K hK=>?_;refine pS _ _ _ 132 22 rfl Tryz.underlying132 rfl U3.lst (Nat.lt_of_le_of_lt (Nat.succ_le_of_lt hN) (by unfold maxLen;omega)) k (.slice A3 n3 c3) rfl rfl AI ?_;intro w6 hm6 hgr6;refine hK _ _ ?_;clear hK K;have adv:=U3.setLst k KW hm6 hgr6;have jz:=mx.grown hgr6 (fun e=>by injection e with e;have:=HLT.out;omega);have YS:BC B g w w6:=zn adW U3.lst hgr6 adv.h2 (Nat.le_trans hB adW.1.size);have s1:w6.cell? ⟨w.heap.size,1,none⟩=some (.slice A n c):=jz.cell 1;have awa:=zH adv;have amB:=zH YS;have avS:=zH (C5.out w6 (HR.out.below YS.1 hS) (fun b hb=>Nat.lt_of_lt_of_le (hS b hb) (Nat.le_trans hB YS.1.size)));clear dB mE U3 mx KW adW hm6 hgr6 adv jz YS C5 r0 r1 g1 RN Gl px ew;go_wp2_with fail;refine avS.out.mono ?_;rintro e w7 ⟨rfl,uZ⟩;have RX:=zH uZ;clear uZ;go_wp2_with fail;go_ret
  rw[←HP4.out];exact⟨rfl,⟨_,_,_,_,_,_,_,_,_,_,awa.out.keep RX.out⟩,amB.out.trans (pp RX.out (Nat.le_trans hB amB.out.1.size))⟩
 have kS:=SO.out;rw[if_neg xo] at kS;have axo:(0<L)=False:=eq_false xo;have Ef:=OM.out;by_cases h1:n=1
 ·have KP:xs.length=1:=by omega
  rw[if_neg (by omega)] at kS;obtain⟨x,rfl⟩:=List.length_eq_one_iff.1 KP;subst h1;obtain⟨b,o,x',rfl,yR,hx',ef⟩:=px.out.str_at (k:=0) (by omega);obtain rfl:x=x':=by simpa using hx'
  have lJ:[x].getD 0 (⟨#[]⟩:ByteArray)=x:=rfl;rw[lJ] at kS;obtain⟨r,hr⟩:∃r,xd k x v1=r:=⟨_,rfl⟩;have Ec:=fun w' (hv:lT w' B g (N+1) v1) (hB':B≤w'.heap.size)=>MZ hv hB' (by omega) k x hk (hs x (by simp));rw[hr] at Ec kS;have uY:w4.cell? ⟨b,o,none⟩=some (.string x):=ef;have HP4:=zH kS;have bq:b<B:=hS b yR;have afm:=zH (show∀w',Up w4 w'→Calls Tryz.prog 125 #[.pointer (some ⟨g,0,none⟩),.string k,.string x] w' (CZ w' B g (N+1+1) r.1 r.2) from fun w' hu=>Ec w' ⟨_,_,_,_,_,_,_,_,_,_,RN.out.keep hu⟩ (Nat.le_trans afQ.out hu.size));clear kS SO xo Ef KP hx' ef lJ hr Ec g1 ew px OM yR;go_wp2_with fail;refine oX (fun w'=>w'.cell? ⟨w.heap.size,0,none⟩=some (.string k)∧w'.cell? ⟨w.heap.size,1,none⟩=some (.slice (some ⟨b,o,none⟩) 1 c)∧w'.cell? ⟨b,o,none⟩=some (.string x)) 8
   [(0,true),(1,true),(2,true),(3,true),(4,true),(5,true),(6,true),(7,false)]
   (by kernel_rfl) rfl (by kernel_rfl) (by kernel_rfl) (by kernel_rfl) (fun _ _ d _ _ h=>by cases d<;>exact h) ⟨r0,r1,uY⟩ ?_
  iterate 7
   refine bh (v:=?_) rfl rfl ?_ ?_;rotate_left 1
   ·intro w hS;obtain⟨Xo,Ct,eF⟩:=hS;go_simp;with_reducible rfl
   simp only[Act.put,List.getElem_toArray,List.getElem_cons_zero,List.getElem_cons_succ,List.setIfInBounds_toArray,List.set_cons_zero,List.set_cons_succ]
  refine fB rfl fun K hK=>?_;go_simp;refine(afm.out _ (Up.start w4)).mono ?_;rintro e w5 ⟨rfl,hv5,mE⟩;have mx:=mE.2 _ _ _ (by have:=HLT.out;show w.heap.size≠g;omega) Gl.out.drew;refine hK _ _ ⟨mx.cell 0,mx.cell 1,by rw[mE.1.cell bq];exact uY⟩ ?_;clear hK K;have HV5:=zH hv5;have qM:=zH (show BC B g w w5 from afS.out.drew.trans mE);clear mx hv5 mE;try simp only[Act.put,List.getElem_toArray,List.getElem_cons_zero,List.getElem_cons_succ,List.setIfInBounds_toArray,List.set_cons_zero,List.set_cons_succ]
  refine dW rfl rfl fun K hK=>?_;go_simp;refine hK _ _ ?_;clear hK K;go_wp2_with fail;go_ret
  rw[←HP4.out];exact⟨rfl,HV5.out,qM.out⟩
 ·rw[if_pos (by omega)] at kS;have hn1:((n:Int)==1)=false:=by simp;omega
  have HP4:=zH kS;clear kS SO xo Ef h1;go_wp2_with fail;go_ret
  rw[←HP4.out];exact⟨rfl,⟨_,_,_,_,_,_,_,_,_,_,RN.out.mono (Nat.le_succ _)⟩,afS.out⟩
end Go.Proofs.YtjlhbfbdcfajfaaGreatDoor
