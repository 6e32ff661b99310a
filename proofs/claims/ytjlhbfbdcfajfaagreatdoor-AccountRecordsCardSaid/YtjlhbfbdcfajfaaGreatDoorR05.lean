/- Rec5 Push -/
import Derived.Test.YtjlhbfbdcfajfaaGreatDoorR04
namespace Go.Proofs.YtjlhbfbdcfajfaaGreatDoor
open Go Go.RowKit
section
variable {S S2:Nat→Prop} {w:World} {va vb:Value}
set_option maxRecDepth 20000 in
theorem equalR_ok {x y:RecV} (h1:SV w S va x) (h2:SV w S2 vb y) (hS:∀b,S b→b<w.heap.size) (eF:∀b,S2 b→b<w.heap.size):Calls Tryz.prog 36 #[va,vb] w (gy w (.bool (decide (x=y)))):=by
 obtain⟨_,rfl,A,n,c,rfl,r1⟩:=h1;obtain⟨_,rfl,A2,n2,c2,rfl,r2⟩:=h2;refine lIn Tryz.func36 [(0,.agg #[.int .i64 x.prec,.slice A n c,.bool x.doubt]),(1,.agg #[.int .i64 y.prec,.slice A2 n2 c2,.bool y.doubt])] fun a hf=>?_;refine WlR hf [gB w 0 42 #[.int .i64 x.prec,.slice A n c,.bool x.doubt],gB w 1 42 #[.int .i64 y.prec,.slice A2 n2 c2,.bool y.doubt],gV (.bool false)] 0 [0,1] ⟨bxG,bxG,trivial⟩ fun a col w1 hb hf hH=>?_;obtain⟨g,e2,_,_,k1⟩:=gotB hH 0 2;obtain⟨g2,e3,_,_,k2⟩:=gotB hH 1 3;replace hf:=(hf.c e2).c e3;obtain⟨b,hp⟩:∃b,(x.prec==y.prec)=b:=⟨_,rfl⟩;obtain⟨d,hd⟩:∃b,(x.doubt==y.doubt)=b:=⟨_,rfl⟩;cases b
 ·have dA:x≠y:=fun e=>by rw[e] at hp;simp at hp
  exact WlP hf [cl (k1.at 0),cl (k2.at 0),tb 4 hp] [(4,.bool false)] fun a hf=>lRet (rt1 hf ⟨by rw[decide_eq_false dA],hb⟩)
 cases d
 ·have dA:x≠y:=fun e=>by rw[e] at hd;simp at hd
  exact WlP hf [cl (k1.at 0),cl (k2.at 0),tb 4 hp,cl (k1.at 2),cl (k2.at 2),tb 10 hd] [(4,.bool false)] fun a hf=>lRet (rt1 hf ⟨by rw[decide_eq_false dA],hb⟩)
 refine WlR hf [gV (.pointer (some ⟨g,0,none⟩)),gV (.int .i64 x.prec),gV (.pointer (some ⟨g2,0,none⟩)),gV (.int .i64 y.prec),gV (.bool true),gV (.bool true),gV (.pointer (some ⟨g,2,none⟩)),gV (.bool x.doubt),gV (.pointer (some ⟨g2,2,none⟩)),gV (.bool y.doubt),gV (.bool true),gV (.bool true),gV (.bool true),gV (.pointer (some ⟨g,1,none⟩)),gV (.slice A n c),gV (.pointer (some ⟨g2,1,none⟩)),gV (.slice A2 n2 c2),gV (.bool (decide (x.votes=y.votes))),gV (.bool (decide (x.votes=y.votes)))] 1 [1,3,4,7,9,10,14,16,17]
  ⟨ldG (k1.at 0),ldG (k2.at 0),teG hp,ldG (k1.at 2),ldG (k2.at 2),teG hd,ldG (k1.at 1),ldG (k2.at 1),cvG fun w' xU=>eqVotes_ok (r1.below (hb.trans (xU.mono hb.size)) hS) (r2.below (hb.trans (xU.mono hb.size)) eF) (fun b h=>Nat.lt_of_lt_of_le (hS b h) (Nat.le_trans hb.size xU.size)) (fun b h=>Nat.lt_of_lt_of_le (eF b h) (Nat.le_trans hb.size xU.size)),trivial⟩ fun a col w2 bY hf _=>tPu hf 4 fun a hf=>?_
 have he:decide (x=y)=decide (x.votes=y.votes):=by
  rw[decide_eq_decide];have h3:x.prec=y.prec:=by simpa using hp
  have h4:x.doubt=y.doubt:=by simpa using hd
  cases x;cases y;simp_all
 exact lRet (rt1 hf ⟨by rw[he],hb.trans (bY.mono hb.size)⟩)
set_option maxRecDepth 20000 in
theorem eq13_ok {x y:VoteV} (h1:SV w S va x) (h2:SV w S2 vb y) (hS:∀b,S b→b<w.heap.size) (eF:∀b,S2 b→b<w.heap.size):Calls Tryz.prog 40 #[va,vb] w (gy w (.bool (decide (x=y)))):=by
 obtain⟨_,rfl,A,n,c,rfl,r1⟩:=h1;obtain⟨_,rfl,A2,n2,c2,rfl,r2⟩:=h2;have l1:=r1.len;have l2:=r2.len;have hm:=r1.max;refine lIn Tryz.func40 [(0,.agg #[.int .i64 x.cont,.slice A n c]),(1,.agg #[.int .i64 y.cont,.slice A2 n2 c2])] fun a hf=>?_;refine WlR hf [gB w 0 93 #[.int .i64 x.cont,.slice A n c],gB w 1 93 #[.int .i64 y.cont,.slice A2 n2 c2],gV (.bool false)] 0 [0,1] ⟨bxG,bxG,trivial⟩ fun a col w1 hb hf hH=>?_;obtain⟨g,e2,hg,_,k1⟩:=gotB hH 0 2;obtain⟨g2,e3,hg2,_,k2⟩:=gotB hH 1 3;have Fj:=((hf.c e2).c e3).sub [(2,.pointer (some ⟨g,0,none⟩)),(3,.pointer (some ⟨g2,0,none⟩))];obtain⟨b,hp⟩:∃b,(x.cont !=y.cont)=b:=⟨_,rfl⟩;obtain⟨d,hd⟩:∃b,((n:Int) !=(n2:Int))=b:=⟨_,rfl⟩;cases b
 case true=>
  have dA:x≠y:=fun e=>by rw[e] at hp;simp at hp
  exact WlP Fj [cl (k1.at 0),cl (k2.at 0),tb 4 hp] [(19,.bool true)] fun a hf=>WlT hf (WlP hf [] [(4,.bool false)] fun a hf=>lRet (rt1 hf ⟨by rw[decide_eq_false dA],hb⟩))
 cases d
 case true=>
  have dA:x≠y:=fun e=>by rw[bne_iff_ne] at hd;exact hd (by rw[←l1,←l2,e])
  exact WlP Fj [cl (k1.at 0),cl (k2.at 0),tb 4 hp,cl (k1.at 1),cl (k2.at 1),tb 12 hd] [(19,.bool true)] fun a hf=>WlT hf (WlP hf [] [(4,.bool false)] fun a hf=>lRet (rt1 hf ⟨by rw[decide_eq_false dA],hb⟩))
 have hn:n=n2:=by
  have:(n:Int)=n2:=by simpa using hd
  omega
 have hc:x.cont=y.cont:=by simpa using hp
 subst hn;refine WlP Fj [cl (k1.at 0),cl (k2.at 0),tb 4 hp,cl (k1.at 1),cl (k2.at 1),tb 12 hd] [(2,.pointer (some ⟨g,0,none⟩)),(3,.pointer (some ⟨g2,0,none⟩)),(19,.bool false)] fun a hf=>WlF hf (WlP hf [] [(2,.pointer (some ⟨g,0,none⟩)),(3,.pointer (some ⟨g2,0,none⟩)),(5,.int .i64 0)] fun a hf=>?_);refine lLoop (fun a w'=>∃k:Nat,k≤n∧Fr 39 [(2,.pointer (some ⟨g,0,none⟩)),(3,.pointer (some ⟨g2,0,none⟩)),(5,.int .i64 k)] a∧x.ranks.take k=y.ranks.take k∧Below w1.heap.size w1 w') (fun a _=>n-(slotI 5 a).toNat) ⟨0,Nat.zero_le _,hf,rfl,Below.refl _ _⟩ ?_;rintro a0 w2 ⟨k,hk,QR,he,bY⟩;have b2:=hb.trans (bY.mono hb.size);by_cases bn:k<n
 ·obtain⟨b1,o1,u,A3,n3,c3,rfl,_,hx,e1,rx⟩:=(r1.below b2 hS).rowA bn;obtain⟨b3,o2,v,A4,n4,c4,rfl,_,hy,e2,ry⟩:=(r2.below b2 eF).rowA bn;refine WlP QR [cl ((k1.keep bY).at 1),tb 4 (ltT bn)] [(2,.pointer (some ⟨g,0,none⟩)),(3,.pointer (some ⟨g2,0,none⟩)),(5,.int .i64 k),(24,.bool true)] fun a hf=>WlT hf (lBlk ?_);refine WlR hf [gV (.pointer (some ⟨g,1,none⟩)),gV (.slice (some ⟨b1,o1,none⟩) n c),gV (.int .i64 k),gV (.pointer (some ⟨b1,o1+k*1,none⟩)),gV (.slice A3 n3 c3),gV (.pointer (some ⟨g2,1,none⟩)),gV (.slice (some ⟨b3,o2,none⟩) n c2),gV (.int .i64 k),gV (.pointer (some ⟨b3,o2+k*1,none⟩)),gV (.slice A4 n4 c4),gV (.bool (decide (u=v)))] 1 [1,3,4,6,8,9,10]
   ⟨ldG ((k1.keep bY).at 1),ixG c Tryz.rowsW bn,ldG e1,ldG ((k2.keep bY).at 1),ixG c2 Tryz.rowsW bn,ldG e2,cvG fun w' xU=>eqI05_ok (rx.below xU fun b h=>Nat.lt_of_lt_of_le (hS b h) b2.size) (ry.below xU fun b h=>Nat.lt_of_lt_of_le (eF b h) b2.size) (fun b h=>Nat.lt_of_lt_of_le (hS b h) (Nat.le_trans b2.size xU.size)) (fun b h=>Nat.lt_of_lt_of_le (eF b h) (Nat.le_trans b2.size xU.size)),trivial⟩ fun a col w3 ey hf _=>tPu hf 38 fun a hf=>lIfB (b:=!decide (u=v)) hf (fun huv=>?_) fun huv=>?_
  ·have dA:x≠y:=fun e=>ne_of_at hx hy (by simpa using huv) (by rw[e]);exact WlP hf [] [(4,.bool false)] fun a hf=>lRet (rt1 hf ⟨by rw[decide_eq_false dA],b2.trans (ey.mono b2.size)⟩)
  ·have e:u=v:=by simpa using huv
   subst e;refine WlP hf [tl 1 (wrap1 (k:=k) (by omega))] [(2,.pointer (some ⟨g,0,none⟩)),(3,.pointer (some ⟨g2,0,none⟩)),(5,.int .i64 (k+1:Nat))] fun a' hf'=>⟨⟨k+1,bn,hf',by rw[du hx,du hy,he],bY.trans (ey.mono bY.size)⟩,?_⟩;rw[QR.slotI (t:=5) (x:=k),hf'.slotI (t:=5) (x:=(k+1:Nat))];omega
 ·have uP:x=y:=by
   have:=eq_of_take he (by omega) (by omega);cases x;cases y;simp_all
  exact WlP QR [cl ((k1.keep bY).at 1),tb 4 (ltF bn)] [(24,.bool false)] fun a hf=>WlF hf (lExit (WlP hf [] [(4,.bool true)] fun a hf=>lRet (rt1 hf ⟨by rw[decide_eq_true uP],b2⟩)))
end
section
variable {α:Type} [bG α] {D:Nat→Prop} {W w w':World} {g i:Nat} {ty e:TypeId} {cs:List Value} {xs:List α}
structure AccV (D:Nat→Prop) (W w:World) (g i:Nat) (ty e:TypeId) (cs:List Value) (xs:List α) (v:Value) (S:Nat→Prop):Prop where
 k:aK w g ty (cs.set i v).toArray
 o:Own w S W.heap.size e v xs
 s:∀b,S b→D b
 d:¬D g
 l:g<W.heap.size
 g:W.grownBy w (some g)
def Acc (D:Nat→Prop) (W w:World) (g i:Nat) (ty e:TypeId) (cs:List Value) (xs:List α):Prop:=∃v S,AccV D W w g i ty e cs xs v S
theorem grownBy.trans' {a b c:World} {r:Nat} {row:Option Nat} (h1:a.grownBy b (some r)) (h2:b.grownBy c row) (hr:∀k,row=some k→k=r∨a.heap.size≤k):a.grownBy c (some r):=
 ⟨h2.os.trans h1.os,h2.tape.trans h1.tape,h2.output.trans h1.output,Nat.le_trans h1.size h2.size,fun k hk dA=>(h2.block k (Nat.lt_of_lt_of_le hk h1.size) (fun e=>by
  rcases hr k e.symm with q|q
  ·exact dA (by rw[q])
  ·omega)).trans (h1.block k hk dA)⟩
theorem AccV.keep {v:Value} {S:Nat→Prop} (h:AccV D W w g i ty e cs xs v S) (hb:Below w.heap.size w w'):AccV D W w' g i ty e cs xs v S:=
 ⟨h.k.keep hb,h.o.below hb,h.s,h.d,h.l,grownBy.trans' h.g (sD hb (Nat.le_refl _) none) (fun k hk=>by cases hk)⟩
theorem Acc.keep (h:Acc D W w g i ty e cs xs) (hb:Below w.heap.size w w'):Acc D W w' g i ty e cs xs:=by
 obtain⟨v,S,h⟩:=h;exact⟨v,S,h.keep hb⟩
theorem Acc.startD (hd:¬D g) (hk:aK W g ty (cs.set i (.slice none 0 0)).toArray):Acc D W W g i ty e cs ([]:List α):=
 ⟨.slice none 0 0,fun _=>False,hk,Own.nil _ _ _,fun _ h=>h.elim,hd,hk.lt,⟨rfl,rfl,rfl,Nat.le_refl _,fun _ _ _=>rfl⟩⟩
theorem Acc.start (hk:aK W g ty (cs.set i (.slice none 0 0)).toArray):Acc (W.heap.size≤·) W W g i ty e cs ([]:List α):=Acc.startD (Nat.not_le_of_lt hk.lt) hk
theorem AccV.wide {v:Value} {S T:Nat→Prop} (h:AccV D W w g i ty e cs xs v S) (hT:∀b,T b→D b∧b<w.heap.size∧some b≠v.ownBlock):Own w (fun b=>S b∨T b) W.heap.size e v xs:=
 h.o.widen (fun _=>.inl) fun b hb=>hb.elim (h.o.apart b) fun t=>(hT b t).2
theorem AccV.fresh {v:Value} {S:Nat→Prop} {w2:World} {k q:Nat} {col:Nat→Nat} (h:AccV D W w g i ty e cs xs v S):∀b,(RD w k col w2 b∧col b≠q)→W.heap.size≤b∧b<w2.heap.size∧some b≠v.ownBlock:=fun b hb=>⟨Nat.le_trans h.g.size hb.1.1,hb.1.2.1,fun e=>by
 have:=(h.o.lt b e.symm).2;have:=hb.1.1;omega⟩
theorem AccV.next {S T:Nat→Prop} {v v':Value} {w3 w4:World} {ys:List α} (h:AccV D W w g i ty e cs xs v S) (hT:∀b,T b→D b) (o3:Own w3 (fun b=>S b∨T b) W.heap.size e v' ys) (g3:w.grownBy w3 v.ownBlock) (p4:Puts g w3 w4) (k4:aK w4 g ty (cs.set i v').toArray):Acc D W w4 g i ty e cs ys:=by
 have hl:=h.l;refine⟨v',_,k4,o3.keep p4.g (.inr fun q=>?_) (fun b hb q=>?_),fun b hb=>hb.elim (h.s b) (hT b),h.d,hl,grownBy.trans' (grownBy.trans' h.g g3 fun k hk=>.inr (h.o.lt k hk).1) p4.g fun k hk=>.inl (by injection hk with hk;exact hk.symm)⟩
 ·have:=(o3.lt g q).1;omega
 ·injection q with q
  subst q;exact h.d (hb.elim (h.s _) (hT _))
theorem AccV.stored {v:Value} {S:Nat→Prop} {w3:World} (h:AccV D W w g i ty e cs xs v S) (g3:w.grownBy w3 v.ownBlock):aK w3 g ty (cs.set i v).toArray:=
 h.k.grown g3 fun q=>by
  have:=(h.o.lt g q.symm).1;have:=h.l;omega
theorem Acc.below {B:Nat} {w0:World} (h:Acc D W w g i ty e cs xs) (hb:Below B w0 W) (hB:B≤g):Below B w0 w:=by
 obtain⟨v,S,h⟩:=h;exact hb.grown h.g (Nat.le_trans hB (Nat.le_of_lt h.l)) fun k hk=>by injection hk with hk;omega
theorem Acc.rsD (h:Acc D W w g i ty e cs xs):∃A n c,aK w g ty (cs.set i (.slice A n c)).toArray∧RS w (fun b=>(D b∨W.heap.size≤b)∧b<w.heap.size) A n c xs:=by
 obtain⟨v,S,h⟩:=h;obtain⟨A,n,c,rfl,hn⟩:=h.o.slice;exact⟨A,n,c,h.k,h.o.rs (fun b hb=>⟨.inl (h.s b hb),(h.o.apart b hb).1⟩) fun k h1 h2=>⟨.inr h1,h2⟩⟩
theorem Acc.rs (h:Acc (W.heap.size≤·) W w g i ty e cs xs):∃A n c,aK w g ty (cs.set i (.slice A n c)).toArray∧RS w (fun b=>W.heap.size≤b∧b<w.heap.size) A n c xs:=by
 obtain⟨A,n,c,k,h⟩:=h.rsD;exact⟨A,n,c,k,h.keep (fun b hb=>⟨hb.1.elim id id,hb.2⟩) (aD.refl _ _)⟩
end
section
variable {P:Program} {ops:Array Oper} {Q:Exit→Act→World→Prop} {m r n:Nat} {l:List (Nat×Value)} {a:Act} {w:World} {o o1 o2:Oper}
theorem tSt1 (hf:Fr m l a) {t ty:TypeId} {x y:Operand} {g:Nat} {cs:List Value} (hb:aK w g ty cs.toArray) (i:Nat) (v:Value) (hi:i<cs.length) (h:∀w',Puts g w w'→aK w' g ty (cs.set i v).toArray→gd P ops Q r (n+1) a w') (hv:v.cells=#[v]:=by rfl) (h1:v.oneCell'=true:=by rfl) (ho:ops[n]?=some o:=by rfl) (FS:o.op=.store t x y:=by rfl) (hg:o.guard=none:=by rfl) (hd:o.dst=none:=by rfl) (hx:evL l x=.pointer (some ⟨g,i,none⟩):=by kernel_rfl) (hy:evL l y=v:=by kernel_rfl) (hxi:inL l x=true:=by kernel_rfl) (hyi:inL l y=true:=by kernel_rfl) (lk:(P.info? t).map (·.size)=some 1:=by kernel_rfl):gd P ops Q (r+1) n a w:=by
 refine tSt hf hb i (cs.set i v).toArray h ho FS hg hd hx hxi hyi (by rw[hy,hv];exact lk) (by rw[hy,hv];exact decide_eq_true (by show i+1≤cs.length;omega)) (by rw[hy,hv];simpa using h1) ?_;rw[hy,hv];show(List.take i cs++[v]++List.drop (i+1) cs).toArray=_;congr 1
 rw[List.set_eq_take_append_cons_drop,if_pos hi,List.append_assoc];rfl
theorem tStA (hf:Fr m l a) {t ty:TypeId} {x y:Operand} {g:Nat} {Hn:Array Value} (hb:aK w g ty Hn) (cs:List Value) (hl:cs.length=Hn.size) (h1:∀u∈cs,u.oneCell'=true) (lk:(P.info? t).map (·.size)=some cs.length) (h:∀w',Puts g w w'→aK w' g ty cs.toArray→gd P ops Q r (n+1) a w') (ho:ops[n]?=some o:=by rfl) (FS:o.op=.store t x y:=by rfl) (hg:o.guard=none:=by rfl) (hd:o.dst=none:=by rfl) (hx:evL l x=.pointer (some ⟨g,0,none⟩):=by kernel_rfl) (hy:evL l y=.agg cs.toArray:=by kernel_rfl) (hxi:inL l x=true:=by kernel_rfl) (hyi:inL l y=true:=by kernel_rfl):gd P ops Q (r+1) n a w:=by
 have hc:(Value.agg cs.toArray).cells=cs.toArray:=rfl;refine tSt hf hb 0 cs.toArray h ho FS hg hd hx hxi hyi (by rw[hy,hc];simpa using lk) (by rw[hy,hc];exact decide_eq_true (by simp[hl])) (by rw[hy,hc];exact Array.all_eq_true'.2 fun u hu=>h1 u (by simpa using hu)) ?_;rw[hy,hc];simp[hl]
theorem tGrow {α:Type} [bG α] {D S T:Nat→Prop} {W:World} {g i bytes d f gr nn:Nat} {gty tt e ty tw:TypeId} {v:Value} {cs ds:List Value} {xs ys:List α} {s x y z:Operand} (hf:Fr m l a) (ac:AccV D W w g i gty e cs xs v S) (ht:cW P tt e (bG.sz α) bytes) (hi:i<cs.length) (hT:∀b,T b→D b∧b<w.heap.size∧some b≠v.ownBlock) (hk:aK w gr ty ds.toArray) (CP:Flat w T ds ys) (h1:∀u∈ds,u.oneCell'=true) (hn:nn=ys.length) (hl:(xs.length+ys.length)*(bytes+1)≤140737488355328) (h:∀A n' c w',Acc D W w' g i gty e cs (xs++ys)→∀a',Fr m ((f,.pointer (some ⟨g,i,none⟩))::List.filter (fun p=>!(p.1==f)) ((d,.slice A n' c)::l.filter fun p=>!(p.1==d))) a'→gd P ops Q r (n+3) a' w') (ho:ops[n]?=some o:=by rfl) (FS:o.op=.call { callee:=.builtin .append,args:=#[s,x],argTypes:=#[tt,tt] }:=by rfl) (hd:o.dst=some d:=by rfl) (hg:o.guard=none:=by rfl) (Ff:evL l s=v:=by kernel_rfl) (hxv:evL l x=.slice (some ⟨gr,0,none⟩) nn nn:=by kernel_rfl) (hsi:inL l s=true:=by kernel_rfl) (hxi:inL l x=true:=by kernel_rfl) (hdm:d<m:=by decide) (zF:ops[n+1]?=some o1:=by rfl) (Vb:o1.dst=some f:=by rfl) (hg1:o1.guard=none:=by rfl) (hfm:f<m:=by decide) (hin1:∀A n' c,opsIn ((d,.slice A n' c)::l.filter fun p=>!(p.1==d)) o1.op=true:=by intros;kernel_rfl) (hr1:∀A n' c w,(execOp (evL ((d,.slice A n' c)::l.filter fun p=>!(p.1==d))) o1).run P w=.ok (.value (.pointer (some ⟨g,i,none⟩))) w:=by intros;kernel_rfl) (fK:ops[n+2]?=some o2:=by rfl) (hop2:o2.op=.store tw y z:=by rfl) (hd2:o2.dst=none:=by rfl) (hg2:o2.guard=none:=by rfl) (GX:∀A n' c,(fun l=>(evL l y,evL l z,inL l y,inL l z)) ((f,.pointer (some ⟨g,i,none⟩))::List.filter (fun p=>!(p.1==f)) ((d,.slice A n' c)::l.filter fun p=>!(p.1==d)))=(.pointer (some ⟨g,i,none⟩),.slice A n' c,true,true):=by intros;kernel_rfl) (lk:(P.info? tw).map (·.size)=some 1:=by kernel_rfl):gd P ops Q (r+3) n a w:=by
 refine tAp hf ht (ac.wide hT) ac.g.size hk (CP.keep (fun _=>.inr) (aD.refl _ _)) h1 hn hl (fun A n' c w3 o3 g3 _ a hf=>?_) ho FS hd hg Ff hxv hsi hxi hdm;refine wpOp_now zF hg1 ?_;unfold Oper.wp;rw[runG hf.k (hin1 A n' c) (hr1 A n' c w3),Oper.upon_value,Vb];have hq:=GX A n' c;injection hq with e1 hq
 injection hq with e2 hq
 injection hq with e3 e4
 have hl2:(cs.set i v).length=cs.length:=List.length_set ..;refine tSt (hf.put f _ hfm) (ac.stored g3) i (cs.set i (.slice A n' c)).toArray (fun w4 p4 k4=>h A n' c w4 (ac.next (fun b hb=>(hT b hb).1) o3 g3 p4 k4) _ (hf.put f _ hfm)) fK hop2 hg2 hd2 e1 e3 e4 (by rw[e2];exact lk) (by rw[e2];exact decide_eq_true (by show i+1≤(cs.set i v).length;omega)) (by rw[e2];simp[Value.cells,Value.oneCell']) ?_;rw[e2];show(List.take i (cs.set i v)++[Value.slice A n' c]++List.drop (i+1) (cs.set i v)).toArray=_;congr 1
 rw[List.take_set_of_le (Nat.le_refl _),List.drop_set_of_lt (Nat.lt_succ_self _)];rw[List.set_eq_take_append_cons_drop,if_pos hi,List.append_assoc];rfl
end
def ΦW (W:World) (k:Nat) (t:TypeId) (cs:Array Value) (n:Nat) (v:Value) (col:Nat→Nat) (w:World):Prop:=∃g,v=.slice (some ⟨g,0,none⟩) n n∧W.heap.size≤g∧col g=k∧aK w g t cs
theorem ΦW.mono {W w1 w2:World} {k n:Nat} {c1 c2:Nat→Nat} {v:Value} {t:TypeId} {cs:Array Value} (h:ΦW W k t cs n v c1 w1) (hb:Below w1.heap.size w1 w2) (hc:∀b,b<w1.heap.size→c2 b=c1 b):ΦW W k t cs n v c2 w2:=by
 obtain⟨g,e,h1,h2,h3⟩:=h;exact⟨g,e,h1,by rw[hc g h3.lt];exact h2,h3.keep hb⟩
abbrev WgW (W:World) (k:Nat) (t:TypeId) (cs:Array Value) (n:Nat):Gv:=.p (ΦW W k t cs n) ΦW.mono
section
variable {P:Program} {ops:Array Oper} {gs:List Gv} {out:List (Nat×Value)} {a0:Act} {W:World} {i:Nat} {o:Oper}
theorem rsG {α:Type} [bG α] {k bytes tj:Nat} {t e:TypeId} {x:List α} (j:Nat) (ht:cW P t e 1 bytes) (ho:ops[i]?=some o:=by rfl) (FS:o.op=.buildSlice t 1 #[(0,.tmp tj)]:=by rfl) (hv:gs[i]?=some (gR (α:=List α) W k i e [x] 1):=by rfl) (hj:gY ops j=some tj:=by rfl) (hgj:gs[j]?=some (gL W k x):=by rfl) (hw:waits ops i j=true:=by kernel_rfl) (hg:gdK ops gs i=true:=by kernel_rfl) (hg2:gdG ops gs i=true:=by kernel_rfl):JobG P ops gs out a0 W i:=by
 intro Q a col w _ hb hk eN hd;obtain⟨v,Sf,hΦ⟩:=hd.out j hw;unfold phi at hΦ;rw[hgj] at hΦ;obtain⟨A,n,c,rfl,hr⟩:ΦL W k x v col w:=hΦ;have he:a.eval (.tmp tj)=.slice A n c:=by
  show a.tmps.getD tj undef=_;rw[Array.getD_eq_getD_getElem?,Sf tj hj];rfl
 refine CS (.slice (some ⟨w.heap.size,0,none⟩) 1 1) ho ((wanted_gd ho hg hd.out).trans hg2) ?_ (aT _ _) ?_ (w':=w.alloc (.cells [.slice A n c].toArray e))
 ·have hr:=run_row (P:=P) (w:=w) (n:=1) (ps:=#[(0,.slice A n c)]) (vs:=[.slice A n c]) ht rfl (fun v hv=>by
   rcases List.mem_cons.1 hv with rfl|hv
   ·rfl
   ·cases hv) rfl (by decide) (by decide)
  unfold execOp;simp only[FS,List.map_toArray,List.map_cons,List.map_nil,he,Sem.run_bind,hr,Result.andThen_ok,Sem.run_pure];rfl
 ·unfold phi;rw[hv];exact ΦR.built (Flat.cons (α:=List α) (ds:=[.slice A n c]) ⟨A,n,c,rfl,hr⟩ .nil) (fun b hb=>eN.out b hb.1 hb.2.1) rfl (by simp[Value.oneCell']) hb.size
theorem clG {α:Type} [bG α] {k:Nat} {xs:List α} {f:FuncId} {args:Array Value} (hc:∀w,Below W.heap.size W w→Calls P f args w (Rt w xs)) (ho:ops[i]?=some o:=by rfl) (hv:gs[i]?=some (gL W k xs):=by rfl) (YF:i≠k:=by decide) (ed:opsIn (knG ops gs out i) o.op=true:=by kernel_rfl) (hr:∀w,(execOp (evL (knG ops gs out i)) o).run P w=.ok (.enter f args) w:=by intro w;kernel_rfl) (hg:gdK ops gs i=true:=by kernel_rfl) (hg2:gdG ops gs i=true:=by kernel_rfl):JobG P ops gs out a0 W i:=by
 intro Q a col w _ hb hk _ hd;exact En f args ho ((wanted_gd ho hg hd.out).trans hg2) (runG hk ed (hr w)) (hc w hb) fun e w2 h=>by
  obtain⟨v,h1,h2,h3⟩:=ΦL.of_ret (i:=i) (col:=col) h hb.size YF;exact⟨v,h1,h2,by unfold phi;rw[hv];exact h3⟩
theorem wrG {k n:Nat} {t:TypeId} {cs:Array Value} (YF:k=i:=by rfl) (ho:ops[i]?=some o:=by rfl) (hv:gs[i]?=some (WgW W k t cs n):=by rfl) (ed:opsIn (knG ops gs out i) o.op=true:=by kernel_rfl) (hr:∀w,(execOp (evL (knG ops gs out i)) o).run P w=.ok (.value (.slice (some ⟨w.heap.size,0,none⟩) n n)) (w.alloc (.cells cs t)):=by intro w;kernel_rfl) (hg:gdK ops gs i=true:=by kernel_rfl) (hg2:gdG ops gs i=true:=by kernel_rfl):JobG P ops gs out a0 W i:=by
 intro Q a col w _ hb hk _ hd;subst YF;refine CS _ ho ((wanted_gd ho hg hd.out).trans hg2) (runG hk ed (hr w)) (aT _ _) ?_;unfold phi;rw[hv];exact⟨w.heap.size,rfl,hb.size,nW (Nat.le_refl _),aK.new _ _ _⟩
theorem gotW {a:Act} {w:World} {col:Nat→Nat} {k n:Nat} {ty:TypeId} {cs:Array Value} (hH:∀j,j<gs.length→Has ops (phi gs) a col w j) (j t:Nat) (hg:gs[j]?=some (WgW W k ty cs n):=by rfl) (ht:gY ops j=some t:=by rfl) (hj:decide (j<gs.length)=true:=by kernel_rfl):∃g,a.tmps[t]?=some (.slice (some ⟨g,0,none⟩) n n)∧W.heap.size≤g∧aK w g ty cs:=by
 obtain⟨v,hv,hΦ⟩:=hH j (of_decide_eq_true hj);unfold phi at hΦ;rw[hg] at hΦ;obtain⟨g,rfl,h1,h2,h3⟩:ΦW W k ty cs n v col w:=hΦ;exact⟨g,hv t ht,h1,h3⟩
end
end Go.Proofs.YtjlhbfbdcfajfaaGreatDoor
