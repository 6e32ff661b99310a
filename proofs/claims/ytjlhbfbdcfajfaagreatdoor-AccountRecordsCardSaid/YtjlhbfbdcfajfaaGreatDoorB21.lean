/- Bld -/
import Derived.Test.YtjlhbfbdcfajfaaGreatDoorB20
namespace Go.Proofs.YtjlhbfbdcfajfaaGreatDoor
open Go.RowKit Go.Maps Go.WideMaps
inductive Tag where
 | data|tmp|bb|mn|cs|ss|vs|nm (k:ByteArray)
def Dat (w:World) (B:Nat) (τ:Nat→Tag) (b:Nat):Prop:=B≤b∧b<w.heap.size∧τ b=.data
def fi (w:World) (τ τ':Nat→Tag):Prop:=∀b,b<w.heap.size→τ' b=τ b
structure Kept (w w':World) (τ:Nat→Tag) (T:Tag→Prop):Prop where
 size:w.heap.size≤w'.heap.size
 block:∀b,b<w.heap.size→¬T (τ b)→w'.heap[b]?=w.heap[b]?
structure bQ (k:Nat) where
 cells:List Value
 len:cells.length=k
instance (k:Nat):bG (bQ k) where
 sz:=k
 rep _ _ cs x:=cs=x.cells
 len h:=by rw[h];exact bQ.len _
 keep h _ _:=h
def uk {α β:Type} (R:α→β→Prop) (xs:List α) (ys:List β):Prop:=xs.length=ys.length∧∀(i:Nat) x y,xs[i]?=some x→ys[i]?=some y→R x y
theorem uk.mono {α β:Type} {R R':α→β→Prop} {xs:List α} {ys:List β} (h:uk R xs ys) (hR:∀x y,R x y→R' x y):uk R' xs ys:=⟨h.1,fun i x y hx hy=>hR x y (h.2 i x y hx hy)⟩
theorem uk.snoc {α β:Type} {R:α→β→Prop} {xs:List α} {ys:List β} {x:α} {y:β} (h:uk R xs ys) (hr:R x y):uk R (xs++[x]) (ys++[y]):=by
 refine⟨by simp[h.1],fun i a b ha hb=>?_⟩;rw[List.getElem?_append] at ha hb;rw[←h.1] at hb;split at ha
 ·rename_i hi;rw[if_pos hi] at hb;exact h.2 i a b ha hb
 ·rename_i hi;rw[if_neg hi] at hb;obtain⟨h0,e⟩:=List.getElem?_eq_some_iff.1 ha;obtain⟨h1,e1⟩:=List.getElem?_eq_some_iff.1 hb;simp only[List.length_cons,List.length_nil,Nat.zero_add] at h0 h1;simp only[List.getElem_singleton] at e e1;subst e e1;exact hr
def wR:Tag→Prop:=fun _=>False
def One (t:Tag):Tag→Prop:=fun x=>x=t
def mb (t u:Tag):Tag→Prop:=fun x=>x=t∨x=u
def cH (τ:Nat→Tag) (n:Nat) (t:Tag):Nat→Tag:=fun b=>if b<n then τ b else t
section
variable {w w':World} {B:Nat} {τ τ':Nat→Tag} {T:Tag→Prop}
theorem Dat.mono (hs:w.heap.size≤w'.heap.size) (hE:fi w τ τ'):∀b,Dat w B τ b→Dat w' B τ' b:=fun b hb=>⟨hb.1,Nat.lt_of_lt_of_le hb.2.1 hs,(hE b hb.2.1).trans hb.2.2⟩
theorem fi.refl (w:World) (τ:Nat→Tag):fi w τ τ:=fun _ _=>rfl
theorem fi.set (w:World) (τ:Nat→Tag) (t:Tag):fi w τ (cH τ w.heap.size t):=fun _ hb=>if_pos hb
theorem fu (τ:Nat→Tag) {n b:Nat} (t:Tag) (h:n≤b):cH τ n t b=t:=if_neg (by omega)
theorem fi.trans {w1:World} {τ1:Nat→Tag} (h:fi w τ τ1) (hs:w.heap.size≤w1.heap.size) (k:fi w1 τ1 τ'):fi w τ τ':=fun b hb=>(k b (Nat.lt_of_lt_of_le hb hs)).trans (h b hb)
theorem Kept.of_below (h:Below w.heap.size w w'):Kept w w' τ T:=⟨h.size,fun b hb _=>h.block b hb⟩
theorem Kept.of_grown {row:Option Nat} (h:w.grownBy w' row) (hr:∀g,row=some g→g<w.heap.size→T (τ g)):Kept w w' τ T:=
 ⟨h.size,fun b hb ht=>h.block b hb fun e=>ht (hr b e.symm hb)⟩
theorem Kept.of_set (w:World) {p:Addr} (h:T (τ p.block)) (u:Value):Kept w (w.setCell p u) τ T:=
 ⟨by simp,fun b _ ht=>(grownBy_setCell w p u).block b (by assumption) fun e=>by injection e with e;subst e;exact ht h⟩
theorem Kept.trans {w1:World} {τ1:Nat→Tag} (h:Kept w w1 τ T) (hE:fi w τ τ1) (k:Kept w1 w' τ1 T):Kept w w' τ T:=
 ⟨Nat.le_trans h.size k.size,fun b hb ht=>(k.block b (Nat.lt_of_lt_of_le hb h.size) (by rw[hE b hb];exact ht)).trans (h.block b hb ht)⟩
theorem Kept.weak {T':Tag→Prop} (h:Kept w w' τ T) (hT:∀t,T t→T' t):Kept w w' τ T':=⟨h.size,fun b hb ht=>h.block b hb fun h=>ht (hT _ h)⟩
theorem Kept.keeps (h:Kept w w' τ T) (ht:¬T .data):aD (Dat w B τ) w w':=fun p hp=>World.cell?_of_block (h.block p.block hp.2.1 (by rw[hp.2.2];exact ht))
theorem aK.tag {g:Nat} {ty:TypeId} {cs:Array Value} (h:aK w g ty cs) (hk:Kept w w' τ T) (hg:¬T (τ g)):aK w' g ty cs:=(hk.block g h.lt hg).trans h
theorem dr.tag {m n:Nat} {f:ByteArray→Option Value} (h:dr w m n f) (hk:Kept w w' τ T) (hg:¬T (τ m)):dr w' m n f:=by
 have bn:=h.lt;obtain⟨D,⟨es,clock,h0,h1⟩,h2⟩:=h;exact⟨D,⟨es,clock,(hk.block m bn hg).trans h0,h1⟩,h2⟩
theorem Own.tag {α:Type} [bG α] {e:TypeId} {v:Value} {xs:List α} (h:Own w aA B e v xs) (hk:Kept w w' τ T) (hg:∀g,v.ownBlock=some g→¬T (τ g)):Own w' aA B e v xs:=by
 have bn:=h.lt;obtain⟨cs,⟨h0,h1⟩,h2,h3⟩:=h;refine⟨cs,⟨h0,?_⟩,h2.keep (fun _ h=>h) (fun p hp=>hp.elim),fun b hb=>hb.elim⟩;rcases h1 with h1|⟨g,cap,SE,hv,nT,hh,hr⟩
 ·exact .inl h1
 ·refine .inr ⟨g,cap,SE,hv,nT,(hk.block g (bn g (by rw[hv];rfl)).2 (hg g (by rw[hv];rfl))).trans hh,hr⟩
end
def iB {α:Type} [bG α] (w:World) (S:Nat→Prop) (v:Value) (xs:List α):Prop:=∃A n c,v=.slice A n c∧RS w S A n c xs
theorem iB.keep {α:Type} [bG α] {w w':World} {S S':Nat→Prop} {v:Value} {xs:List α} (h:iB w S v xs) (hS:∀b,S b→S' b) (hk:aD S w w'):iB w' S' v xs:=by
 obtain⟨A,n,c,e,h⟩:=h;exact⟨A,n,c,e,h.keep hS hk⟩
def xD (w:World) (B:Nat) (τ:Nat→Tag) (cs:List Value) (v:aS):Prop:=
 ∃m1 m2 m3 N f vN vD,cs=[.map (some m1),.map (some m2),.map (some m3),.bool v.risk.neg,vN,vD,.string v.seed]∧Dat w B τ m1∧Dat w B τ m2∧Dat w B τ m3
  ∧dr w m1 N (ints v.num)∧dr w m2 N f∧wS w (Dat w B τ) f v.lst∧dr w m3 N (ints v.ln)∧iB w (Dat w B τ) vN v.risk.num∧iB w (Dat w B τ) vD v.risk.den
theorem xD.tag {w w':World} {B:Nat} {τ τ':Nat→Tag} {T:Tag→Prop} {cs:List Value} {v:aS} (h:xD w B τ cs v) (hk:Kept w w' τ T) (ht:¬T .data) (hE:fi w τ τ'):xD w' B τ' cs v:=by
 obtain⟨m1,m2,m3,N,f,vN,vD,e,d1,d2,d3,h1,h2,h3,h4,h5,h6⟩:=h;have hd:=Dat.mono (B:=B) hk.size hE;have ct:aD (Dat w B τ) w w':=hk.keeps ht;exact⟨m1,m2,m3,N,f,vN,vD,e,hd _ d1,hd _ d2,hd _ d3,h1.tag hk (by rw[d1.2.2];exact ht),h2.tag hk (by rw[d2.2.2];exact ht),h3.keep hd ct,h4.tag hk (by rw[d3.2.2];exact ht),h5.keep hd ct,h6.keep hd ct⟩
def C0 (w:World) (B:Nat) (τ:Nat→Tag) (f:ByteArray→Option Value) (names:ByteArray→Option (List ByteArray)):Prop:=
 ∀k,match names k with|none=>f k=none|some xs=>∃v,f k=some v∧Own w aA B 9 v xs∧∀g,v.ownBlock=some g→τ g=.nm k
def Dg (s:aX):List Value:=[.string s.name,.slice none 0 0,.slice none 0 0]
def km (x:bQ 3) (y:aX):Prop:=x.cells=Dg y∧y.prec=[]∧y.cont=[]
structure iO (w:World) (B bb mn N:Nat) (τ:Nat→Tag) (f:ByteArray→Option Value) (vP vC vS vN vD vV:Value) (rC:List (bQ 9)) (rS:List (bQ 3)) (rV:List (bQ 7)) (s:cZ):Prop where
 hb:B≤bb
 hm:B≤mn
 tb:τ bb=.bb
 tm:τ mn=.mn
 blk:aK w bb 135 (iw s.e vP vC vS vN vD++[.map (some mn),vV]).toArray
 map:dr w mn N f
 nms:C0 w B τ f s.names
 lens:∀k,(s.of k).length≤N
 oC:Own w aA B 95 vC rC
 tC:∀g,vC.ownBlock=some g→τ g=.cs
 dC:uk (fun x y=>bG.rep w (Dat w B τ) x.cells y) rC s.e.cont
 oS:Own w aA B 97 vS rS
 tS:∀g,vS.ownBlock=some g→τ g=.ss
 dS:uk km rS s.e.styl
 oV:Own w aA B 168 vV rV
 tV:∀g,vV.ownBlock=some g→τ g=.vs
 dV:uk (fun x y=>xD w B τ x.cells y) rV s.vals
 lC:s.e.cont.length≤N
 lS:s.e.styl.length≤N
 lV:s.vals.length≤N
 dP:iB w (Dat w B τ) vP s.e.prec
 dN:iB w (Dat w B τ) vN s.e.risk.num
 dD:iB w (Dat w B τ) vD s.e.risk.den
def OT (w:World) (B bb N:Nat) (τ:Nat→Tag) (s:cZ):Prop:=(∃mn f vP vC vS vN vD vV rC rS rV,iO w B bb mn N τ f vP vC vS vN vD vV rC rS rV s)∧s.vals.length=s.e.styl.length
section
variable {w w':World} {B bb mn N:Nat} {τ τ':Nat→Tag} {f:ByteArray→Option Value} {vP vC vS vN vD vV:Value} {rC:List (bQ 9)} {rS:List (bQ 3)} {rV:List (bQ 7)} {s:cZ} {T:Tag→Prop}
theorem C0.tag {names:ByteArray→Option (List ByteArray)} (h:C0 w B τ f names) (hk:Kept w w' τ T) (hE:fi w τ τ') (ht:∀k,¬T (.nm k)):C0 w' B τ' f names:=by
 intro k;have:=h k;cases hn:names k with
 | none=>rw[hn] at this;exact this
 | some xs=>
  rw[hn] at this;obtain⟨v,e,ho,hg⟩:=this;exact⟨v,e,ho.tag hk (fun g h=>by rw[hg g h];exact ht k),fun g h=>by rw[hE g (ho.lt g h).2];exact hg g h⟩
theorem iO.tag (h:iO w B bb mn N τ f vP vC vS vN vD vV rC rS rV s) (hk:Kept w w' τ T) (hT:∀t,T t→t=.tmp) (hE:fi w τ τ') {M:Nat} (hM:N≤M):iO w' B bb mn M τ' f vP vC vS vN vD vV rC rS rV s:=
 have hd:=Dat.mono (B:=B) hk.size hE;have ct:aD (Dat w B τ) w w':=hk.keeps (fun h=>by cases hT _ h)
 { h with
   tb:=(hE bb h.blk.lt).trans h.tb
   tm:=(hE mn h.map.lt).trans h.tm
   blk:=h.blk.tag hk (by rw[h.tb];exact fun h=>by cases hT _ h)
   map:=(h.map.tag hk (by rw[h.tm];exact fun h=>by cases hT _ h)).mono hM
   nms:=h.nms.tag hk hE (fun k h=>by cases hT _ h)
   lens:=fun k=>Nat.le_trans (h.lens k) hM
   lC:=Nat.le_trans h.lC hM
   lS:=Nat.le_trans h.lS hM
   lV:=Nat.le_trans h.lV hM
   oC:=h.oC.tag hk (fun g hg=>by rw[h.tC g hg];exact fun h=>by cases hT _ h)
   tC:=fun g hg=>(hE g (h.oC.lt g hg).2).trans (h.tC g hg)
   dC:=h.dC.mono fun x y hr=>bG.keep hr hd ct
   oS:=h.oS.tag hk (fun g hg=>by rw[h.tS g hg];exact fun h=>by cases hT _ h)
   tS:=fun g hg=>(hE g (h.oS.lt g hg).2).trans (h.tS g hg)
   oV:=h.oV.tag hk (fun g hg=>by rw[h.tV g hg];exact fun h=>by cases hT _ h)
   tV:=fun g hg=>(hE g (h.oV.lt g hg).2).trans (h.tV g hg)
   dV:=h.dV.mono fun x y hr=>hr.tag hk (fun h=>by cases hT _ h) hE
   dP:=h.dP.keep hd ct
   dN:=h.dN.keep hd ct
   dD:=h.dD.keep hd ct }
theorem iO.keep (h:iO w B bb mn N τ f vP vC vS vN vD vV rC rS rV s) (hb:Below w.heap.size w w') (hE:fi w τ τ'):iO w' B bb mn N τ' f vP vC vS vN vD vV rC rS rV s:=h.tag (T:=wR) (Kept.of_below hb) (fun _ h=>h.elim) hE (Nat.le_refl _)
theorem OT.tag (h:OT w B bb N τ s) (hk:Kept w w' τ T) (hT:∀t,T t→t=.tmp) (hE:fi w τ τ') {M:Nat} (hM:N≤M):OT w' B bb M τ' s:=by
 obtain⟨⟨mn,f,vP,vC,vS,vN,vD,vV,rC,rS,rV,h⟩,hl⟩:=h;exact⟨⟨mn,f,vP,vC,vS,vN,vD,vV,rC,rS,rV,h.tag hk hT hE hM⟩,hl⟩
theorem OT.keep (h:OT w B bb N τ s) (hb:Below w.heap.size w w') (hE:fi w τ τ'):OT w' B bb N τ' s:=by
 obtain⟨⟨mn,f,vP,vC,vS,vN,vD,vV,rC,rS,rV,h⟩,hl⟩:=h;exact⟨⟨mn,f,vP,vC,vS,vN,vD,vV,rC,rS,rV,h.keep hb hE⟩,hl⟩
theorem iO.setE (h:iO w B bb mn N τ f vP vC vS vN vD vV rC rS rV s) (hk:Kept w w' τ (One .bb)) (hE:fi w τ τ') {e':am} {WV vN' WW:Value} (Oz:aK w' bb 135 (iw e' WV vC vS vN' WW++[.map (some mn),vV]).toArray) (hc:e'.cont=s.e.cont) (hs:e'.styl=s.e.styl) (dP':iB w (Dat w B τ) WV e'.prec) (dN':iB w (Dat w B τ) vN' e'.risk.num) (dD':iB w (Dat w B τ) WW e'.risk.den):iO w' B bb mn N τ' f WV vC vS vN' WW vV rC rS rV { s with e:=e' }:=
 have hd:=Dat.mono (B:=B) hk.size hE;have ct:aD (Dat w B τ) w w':=hk.keeps (by simp[One])
 { h with
   tb:=(hE bb h.blk.lt).trans h.tb
   tm:=(hE mn h.map.lt).trans h.tm
   blk:=Oz
   map:=h.map.tag hk (by rw[h.tm];simp[One])
   nms:=h.nms.tag hk hE (by simp[One])
   oC:=h.oC.tag hk (fun g hg=>by rw[h.tC g hg];simp[One])
   tC:=fun g hg=>(hE g (h.oC.lt g hg).2).trans (h.tC g hg)
   dC:=by
    show uk _ rC e'.cont;rw[hc];exact h.dC.mono fun x y hr=>bG.keep hr hd ct
   lC:=by show e'.cont.length≤N;rw[hc];exact h.lC
   lS:=by show e'.styl.length≤N;rw[hs];exact h.lS
   oS:=h.oS.tag hk (fun g hg=>by rw[h.tS g hg];simp[One])
   tS:=fun g hg=>(hE g (h.oS.lt g hg).2).trans (h.tS g hg)
   dS:=by show uk km rS e'.styl;rw[hs];exact h.dS
   oV:=h.oV.tag hk (fun g hg=>by rw[h.tV g hg];simp[One])
   tV:=fun g hg=>(hE g (h.oV.lt g hg).2).trans (h.tV g hg)
   dV:=h.dV.mono fun x y hr=>hr.tag hk (by simp[One]) hE
   dP:=dP'.keep hd ct
   dN:=dN'.keep hd ct
   dD:=dD'.keep hd ct }
theorem iO.addC (h:iO w B bb mn N τ f vP vC vS vN vD vV rC rS rV s) (hk:Kept w w' τ (mb .cs .bb)) (hE:fi w τ τ') {v':Value} {r:bQ 9} {y:ay} (Oz:aK w' bb 135 (iw s.e vP v' vS vN vD++[.map (some mn),vV]).toArray) (ho:Own w' aA B 95 v' (rC++[r])) (ht:∀g,v'.ownBlock=some g→τ' g=.cs) (hr:bG.rep w (Dat w B τ) r.cells y):iO w' B bb mn (N+1) τ' f vP v' vS vN vD vV (rC++[r]) rS rV { s with e:={ s.e with cont:=s.e.cont++[y] } }:=
 have hd:=Dat.mono (B:=B) hk.size hE;have ct:aD (Dat w B τ) w w':=hk.keeps (by simp[mb])
 { h with
   tb:=(hE bb h.blk.lt).trans h.tb
   tm:=(hE mn h.map.lt).trans h.tm
   blk:=Oz
   map:=(h.map.tag hk (by rw[h.tm];simp[mb])).mono (Nat.le_succ _)
   nms:=h.nms.tag hk hE (by simp[mb])
   lens:=fun k=>Nat.le_trans (h.lens k) (Nat.le_succ _)
   oC:=ho
   tC:=ht
   dC:=(h.dC.mono fun x y hr=>bG.keep hr hd ct).snoc (bG.keep hr hd ct)
   lC:=by show(s.e.cont++[y]).length≤N+1;rw[List.length_append];exact Nat.succ_le_succ h.lC
   lS:=Nat.le_trans h.lS (Nat.le_succ _)
   lV:=Nat.le_trans h.lV (Nat.le_succ _)
   oS:=h.oS.tag hk (fun g hg=>by rw[h.tS g hg];simp[mb])
   tS:=fun g hg=>(hE g (h.oS.lt g hg).2).trans (h.tS g hg)
   oV:=h.oV.tag hk (fun g hg=>by rw[h.tV g hg];simp[mb])
   tV:=fun g hg=>(hE g (h.oV.lt g hg).2).trans (h.tV g hg)
   dV:=h.dV.mono fun x y hr=>hr.tag hk (by simp[mb]) hE
   dP:=h.dP.keep hd ct
   dN:=h.dN.keep hd ct
   dD:=h.dD.keep hd ct }
theorem iO.addS (h:iO w B bb mn N τ f vP vC vS vN vD vV rC rS rV s) (hk:Kept w w' τ (mb .ss .bb)) (hE:fi w τ τ') {v':Value} {r:bQ 3} {y:aX} (Oz:aK w' bb 135 (iw s.e vP vC v' vN vD++[.map (some mn),vV]).toArray) (ho:Own w' aA B 97 v' (rS++[r])) (ht:∀g,v'.ownBlock=some g→τ' g=.ss) (hr:km r y):iO w' B bb mn (N+1) τ' f vP vC v' vN vD vV rC (rS++[r]) rV { s with e:={ s.e with styl:=s.e.styl++[y] } }:=
 have hd:=Dat.mono (B:=B) hk.size hE;have ct:aD (Dat w B τ) w w':=hk.keeps (by simp[mb])
 { h with
   tb:=(hE bb h.blk.lt).trans h.tb
   tm:=(hE mn h.map.lt).trans h.tm
   blk:=Oz
   map:=(h.map.tag hk (by rw[h.tm];simp[mb])).mono (Nat.le_succ _)
   nms:=h.nms.tag hk hE (by simp[mb])
   lens:=fun k=>Nat.le_trans (h.lens k) (Nat.le_succ _)
   oC:=h.oC.tag hk (fun g hg=>by rw[h.tC g hg];simp[mb])
   tC:=fun g hg=>(hE g (h.oC.lt g hg).2).trans (h.tC g hg)
   dC:=h.dC.mono fun x y hr=>bG.keep hr hd ct
   lC:=Nat.le_trans h.lC (Nat.le_succ _)
   lS:=by show(s.e.styl++[y]).length≤N+1;rw[List.length_append];exact Nat.succ_le_succ h.lS
   lV:=Nat.le_trans h.lV (Nat.le_succ _)
   oS:=ho
   tS:=ht
   dS:=h.dS.snoc hr
   oV:=h.oV.tag hk (fun g hg=>by rw[h.tV g hg];simp[mb])
   tV:=fun g hg=>(hE g (h.oV.lt g hg).2).trans (h.tV g hg)
   dV:=h.dV.mono fun x y hr=>hr.tag hk (by simp[mb]) hE
   dP:=h.dP.keep hd ct
   dN:=h.dN.keep hd ct
   dD:=h.dD.keep hd ct }
theorem iO.addV (h:iO w B bb mn N τ f vP vC vS vN vD vV rC rS rV s) (hk:Kept w w' τ (mb .vs .bb)) (hE:fi w τ τ') {v':Value} {r:bQ 7} {y:aS} (Oz:aK w' bb 135 (iw s.e vP vC vS vN vD++[.map (some mn),v']).toArray) (ho:Own w' aA B 168 v' (rV++[r])) (ht:∀g,v'.ownBlock=some g→τ' g=.vs) (hr:xD w B τ r.cells y) (hlv:s.vals.length<N):iO w' B bb mn N τ' f vP vC vS vN vD v' rC rS (rV++[r]) { s with vals:=s.vals++[y] }:=
 have hd:=Dat.mono (B:=B) hk.size hE;have ct:aD (Dat w B τ) w w':=hk.keeps (by simp[mb])
 { h with
   tb:=(hE bb h.blk.lt).trans h.tb
   tm:=(hE mn h.map.lt).trans h.tm
   blk:=Oz
   map:=h.map.tag hk (by rw[h.tm];simp[mb])
   nms:=h.nms.tag hk hE (by simp[mb])
   oC:=h.oC.tag hk (fun g hg=>by rw[h.tC g hg];simp[mb])
   tC:=fun g hg=>(hE g (h.oC.lt g hg).2).trans (h.tC g hg)
   dC:=h.dC.mono fun x y hr=>bG.keep hr hd ct
   lV:=by show(s.vals++[y]).length≤N;rw[List.length_append];exact hlv
   oS:=h.oS.tag hk (fun g hg=>by rw[h.tS g hg];simp[mb])
   tS:=fun g hg=>(hE g (h.oS.lt g hg).2).trans (h.tS g hg)
   oV:=ho
   tV:=ht
   dV:=(h.dV.mono fun x y hr=>hr.tag hk (by simp[mb]) hE).snoc (hr.tag hk (by simp[mb]) hE)
   dP:=h.dP.keep hd ct
   dN:=h.dN.keep hd ct
   dD:=h.dD.keep hd ct }
theorem iO.addN (h:iO w B bb mn N τ f vP vC vS vN vD vV rC rS rV s) (kind nm:ByteArray) (hk:Kept w w' τ (mb (.nm kind) .mn)) (hE:fi w τ τ') {v':Value} (hm:dr w' mn (N+1) (upd f kind v')) (ho:Own w' aA B 9 v' (s.of kind++[nm])) (ht:∀g,v'.ownBlock=some g→τ' g=.nm kind):iO w' B bb mn (N+1) τ' (upd f kind v') vP vC vS vN vD vV rC rS rV (s.named kind nm):=
 have hd:=Dat.mono (B:=B) hk.size hE;have ct:aD (Dat w B τ) w w':=hk.keeps (by simp[mb])
 { h with
   tb:=(hE bb h.blk.lt).trans h.tb
   tm:=(hE mn h.map.lt).trans h.tm
   blk:=h.blk.tag hk (by rw[h.tb];simp[mb])
   map:=hm
   nms:=by
    intro k;have:=h.nms k;show match setF s.names kind (s.of kind++[nm]) k with|none=>_|some xs=>_
    unfold setF upd;by_cases ct:k=kind
    ·rw[if_pos ct,if_pos ct];subst ct;exact⟨v',rfl,ho,ht⟩
    ·rw[if_neg ct,if_neg ct];cases hn:s.names k with
     | none=>rw[hn] at this;exact this
     | some xs=>
      rw[hn] at this;obtain⟨v,e,ho,hg⟩:=this;refine⟨v,e,ho.tag hk (fun g h=>?_),fun g h=>by rw[hE g (ho.lt g h).2];exact hg g h⟩;rw[hg g h];rintro(h|h)
      ·injection h with h;exact ct h
      ·cases h
   lens:=by
    intro k;show((setF s.names kind (s.of kind++[nm]) k).getD []).length≤N+1;unfold setF;split
    ·have:=h.lens kind;simp;omega
    ·exact Nat.le_trans (h.lens k) (Nat.le_succ _)
   oC:=h.oC.tag hk (fun g hg=>by rw[h.tC g hg];simp[mb])
   tC:=fun g hg=>(hE g (h.oC.lt g hg).2).trans (h.tC g hg)
   dC:=h.dC.mono fun x y hr=>bG.keep hr hd ct
   lC:=Nat.le_trans h.lC (Nat.le_succ _)
   lS:=Nat.le_trans h.lS (Nat.le_succ _)
   lV:=Nat.le_trans h.lV (Nat.le_succ _)
   oS:=h.oS.tag hk (fun g hg=>by rw[h.tS g hg];simp[mb])
   tS:=fun g hg=>(hE g (h.oS.lt g hg).2).trans (h.tS g hg)
   oV:=h.oV.tag hk (fun g hg=>by rw[h.tV g hg];simp[mb])
   tV:=fun g hg=>(hE g (h.oV.lt g hg).2).trans (h.tV g hg)
   dV:=h.dV.mono fun x y hr=>hr.tag hk (by simp[mb]) hE
   dP:=h.dP.keep hd ct
   dN:=h.dN.keep hd ct
   dD:=h.dD.keep hd ct }
end
def BK (w w':World) (B:Nat) (τ:Nat→Tag):Prop:=Below B w w'∧Kept w w' τ (fun t=>t≠.data∧t≠.tmp)
end Go.Proofs.YtjlhbfbdcfajfaaGreatDoor
