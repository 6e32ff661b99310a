/- Map Val Sch4 -/
import Derived.Test.YtjlhbfbdcfajfaaGreatDoorChecked
import Derived.Test.YtjlhbfbdcfajfaaGreatDoorB02
import Derived.Test.YtjlhbfbdcfajfaaGreatDoorB09
import Derived.Maps.OwnSet
import Derived.Maps.OwnOps
import Derived.Test.YtjlhbfbdcfajfaaGreatDoorB14
namespace Go.Proofs.YtjlhbfbdcfajfaaGreatDoor
open Go.RowKit Go.Maps Go.WideMaps
def zo (v:Value):Option (DataW Value×List MemPlace):=some (.held v,[])
def IF (s:ByteArray):Lit:=.string s.data.toList
theorem rf (s:ByteArray) (hs:s.size≤maxLen):keyOf Tryz.prog 9 (.string s)=some (IF s):=keyOf_string_mk Tryz.underlying9 hs
theorem yD {s t:ByteArray} (h:IF s=IF t):s=t:=by
 unfold IF at h;injection h with h
 exact ByteArray.ext (Array.toList_inj.1 h)
theorem o9:Keyed Tryz.prog 9:=string_keyed Tryz.underlying9
def dr (w:World) (b n:Nat) (f:ByteArray→Option Value):Prop:=
 ∃D:DataW Value,w.ownsMap Tryz.prog 9 zo b n D∧IsMap D∧(∀s,has D (IF s)=(f s).isSome)∧∀s z,D.atKey (IF s) (.held z)=.held ((f s).getD z)
def upd (f:ByteArray→Option Value) (s:ByteArray) (v:Value):ByteArray→Option Value:=fun t=>if t=s then some v else f t
section
variable {w w':World} {b n:Nat} {f:ByteArray→Option Value}
theorem dr.lt (h:dr w b n f):b<w.heap.size:=by
 obtain⟨D,h,_⟩:=h;exact h.lt
theorem dr.made (w:World):dr (w.alloc (.map #[] 0)) w.heap.size 0 (fun _=>none):=
 ⟨.map [],World.ownsMap_made w _ _ _,isMap_empty,fun _=>rfl,fun _ _=>rfl⟩
theorem dr.kept {row:Option Nat} (h:dr w b n f) (hg:w.grownBy w' row) (dA:some b≠row):dr w' b n f:=by
 obtain⟨D,h1,h2⟩:=h;exact⟨D,h1.kept hg dA,h2⟩
theorem dr.alloc (h:dr w b n f) (o:Obj):dr (w.alloc o) b n f:=h.kept (World.grownBy_alloc w o none) (by simp)
theorem dr.below {B:Nat} (h:dr w b n f) (hb:Below B w w') (hB:b<B):dr w' b n f:=by
 obtain⟨D,⟨es,clock,h0,h1⟩,h2⟩:=h;exact⟨D,⟨es,clock,(hb.block b hB).trans h0,h1⟩,h2⟩
theorem dr.keep (h:dr w b n f) (hb:Below w.heap.size w w'):dr w' b n f:=h.below hb h.lt
theorem dr.setCell (h:dr w b n f) {a:Addr} (ha:b≠a.block) (u:Value):dr (w.setCell a u) b n f:=by
 obtain⟨D,h1,h2⟩:=h;exact⟨D,h1.setCell ha u,h2⟩
theorem dr.mono (h:dr w b n f) {m:Nat} (hm:n≤m):dr w b m f:=by
 obtain⟨D,h1,h2⟩:=h;exact⟨D,h1.mono hm,h2⟩
theorem IG (s:ByteArray):WideAt.IsKeyLit (IF s):=trivial
theorem sB {v u:Value} {ps:List MemPlace} (h:zo v=some (.held u,ps)):v=u:=by
 simp only[zo,Option.some.injEq,Prod.mk.injEq,DataW.held.injEq] at h;exact h.1
end
theorem xZ {w:World} {b n:Nat} {f:ByteArray→Option Value} {ops:Array Oper} {rest:List Oper} {o:Oper} {a:Act} {Q:Exit→Act→World→Prop} (hg:o.guard=none) (m x:Operand) (t e:TypeId) (FS:o.op=Op.lookup t m x false) (ht:Tryz.prog.underlying t=some (.map 9 e)) (z:Value) (hz:(zeroValue e).run Tryz.prog w=.ok z w) (hm:a.eval m=.map (some b)) (h:dr w b n f) (s:ByteArray) (hx:a.eval x=.string s) (hs:s.size≤maxLen) (hK:wpList Tryz.prog ops Q rest (a.put o.dst ((f s).getD z)) w):wpList Tryz.prog ops Q (o::rest) a w:=by
 obtain⟨D,h1,_,_,h3⟩:=h;obtain⟨v,ps,rN,hv⟩:=h1.lookup o9 ht hz (zd:=.held z) (zp:=[]) rfl (rf s hs);rw[h3] at hv;have Sf:v=(f s).getD z:=sB hv;subst Sf;refine wpList_plain hg fun K' hK'=>?_;unfold Oper.wp;simp[execOp,FS,hm,hx,rN,Result.andThen];exact hK' _ _ hK
theorem ux {w:World} {b n:Nat} {f:ByteArray→Option Value} {ops:Array Oper} {rest:List Oper} {o:Oper} {a:Act} {Q:Exit→Act→World→Prop} (hg:o.guard=none) (m x:Operand) (t e:TypeId) (FS:o.op=Op.lookup t m x true) (ht:Tryz.prog.underlying t=some (.map 9 e)) (z:Value) (hz:(zeroValue e).run Tryz.prog w=.ok z w) (hm:a.eval m=.map (some b)) (h:dr w b n f) (s:ByteArray) (hx:a.eval x=.string s) (hs:s.size≤maxLen) (hK:wpList Tryz.prog ops Q rest (a.put o.dst (.tuple #[(f s).getD z,.bool (f s).isSome])) w):wpList Tryz.prog ops Q (o::rest) a w:=by
 obtain⟨D,h1,_,h2,h3⟩:=h;refine wpList_lookup_own_ok w hg m x t FS 9 e o9 ht zo hz (.held z) [] rfl b n D hm h1 (.string s) (IF s) hx (rf s hs) fun v ps hv=>?_;rw[h3] at hv;have Sf:v=(f s).getD z:=sB hv;subst Sf;rw[h2];exact hK
theorem zL {w:World} {b n:Nat} {f:ByteArray→Option Value} {ops:Array Oper} {rest:List Oper} {o:Oper} {a:Act} {Q:Exit→Act→World→Prop} (hg:o.guard=none) (m x v:Operand) (t e:TypeId) (FS:o.op=Op.mapUpdate t m x v) (ht:Tryz.prog.underlying t=some (.map 9 e)) (hm:a.eval m=.map (some b)) (h:dr w b n f) (hn:n<maxLen) (s:ByteArray) (u:Value) (hx:a.eval x=.string s) (hv:a.eval v=u) (hs:s.size≤maxLen) (hK:∀w',dr w' b (n+1) (upd f s u)→w.grownBy w' (some b)→wpList Tryz.prog ops Q rest (a.put o.dst undef) w'):wpList Tryz.prog ops Q (o::rest) a w:=by
 obtain⟨D,h1,h0,h2,h3⟩:=h;refine wpList_mapUpdate_own w hg m x v t FS 9 e o9 ht zo b n D hm h1 hn (.string s) u (IF s) hx hv (rf s hs) (.held u) [] rfl fun w' hw uV=>hK w' ⟨_,hw,h0.put _ _,fun r=>?_,fun r z=>?_⟩ uV
 ·by_cases hr:r=s
  ·subst hr;rw[has_put_same h0 (IG r)];simp[upd]
  ·rw[has_put_other (fun e=>hr (yD e)),h2];simp[upd,hr]
 ·by_cases hr:r=s
  ·subst hr;rw[atKey_put_same h0 (IG r)];simp[upd]
  ·rw[atKey_put_other (fun e=>hr (yD e)),h3];simp[upd,hr]
theorem pS {w:World} {b n:Nat} {f:ByteArray→Option Value} {o:Oper} {a:Act} {K:Act→World→Prop} {Q:Exit→Act→World→Prop} (m x v:Operand) (t e:TypeId) (FS:o.op=Op.mapUpdate t m x v) (ht:Tryz.prog.underlying t=some (.map 9 e)) (hm:a.eval m=.map (some b)) (h:dr w b n f) (hn:n<maxLen) (s:ByteArray) (u:Value) (hx:a.eval x=.string s) (hv:a.eval v=u) (hs:s.size≤maxLen) (hK:∀w',dr w' b (n+1) (upd f s u)→w.grownBy w' (some b)→K (a.put o.dst undef) w'):o.wp Tryz.prog a w K Q:=by
 obtain⟨D,h1,h0,h2,h3⟩:=h;obtain⟨w',rN,r1,r2⟩:=h1.update (key:=.string s) (val:=u) o9 ht hn (rf s hs) (d:=.held u) (ps:=[]) rfl;unfold Oper.wp;simp[execOp,FS,hm,hx,hv,rN,Result.andThen];refine hK w' ⟨_,r1,h0.put _ _,fun r=>?_,fun r z=>?_⟩ r2
 ·by_cases hr:r=s
  ·subst hr;rw[has_put_same h0 (IG r)];simp[upd]
  ·rw[has_put_other (fun e=>hr (yD e)),h2];simp[upd,hr]
 ·by_cases hr:r=s
  ·subst hr;rw[atKey_put_same h0 (IG r)];simp[upd]
  ·rw[atKey_put_other (fun e=>hr (yD e)),h3];simp[upd,hr]
structure aS where
 num:ByteArray→Option Int
 lst:ByteArray→Option (List ByteArray)
 ln:ByteArray→Option Int
 risk:Raw
 seed:ByteArray
def aS.zero:aS:=⟨fun _=>none,fun _=>none,fun _=>none,⟨false,[],[]⟩,⟨#[]⟩⟩
def setF {α:Type} (f:ByteArray→Option α) (k:ByteArray) (x:α):ByteArray→Option α:=fun t=>if t=k then some x else f t
def Data (w:World) (B g m1 m2 m3:Nat) (b:Nat):Prop:=B≤b∧b<w.heap.size∧b≠g∧b≠m1∧b≠m2∧b≠m3
def ints (f:ByteArray→Option Int):ByteArray→Option Value:=fun s=>(f s).map (Value.int .i64)
def wS (w:World) (S:Nat→Prop) (f:ByteArray→Option Value) (l:ByteArray→Option (List ByteArray)):Prop:=
 ∀s,match l s with|none=>f s=none|some xs=>∃A n c,f s=some (.slice A n c)∧RS w S A n c xs
theorem wS.keep {w w':World} {S S':Nat→Prop} {f:ByteArray→Option Value} {l:ByteArray→Option (List ByteArray)} (h:wS w S f l) (hS:∀b,S b→S' b) (hk:aD S w w'):wS w' S' f l:=by
 intro s;have:=h s;cases hl:l s with
 | none=>rw[hl] at this;exact this
 | some xs=>
  rw[hl] at this;obtain⟨A,n,c,e,hr⟩:=this;exact⟨A,n,c,e,hr.keep hS hk⟩
theorem ints_set (f:ByteArray→Option Int) (k:ByteArray) (x:Int):upd (ints f) k (.int .i64 x)=ints (setF f k x):=by
 funext t
 unfold upd ints setF;split<;>rfl
theorem wS.set {w:World} {S:Nat→Prop} {f:ByteArray→Option Value} {l:ByteArray→Option (List ByteArray)} (h:wS w S f l) {A:Option Addr} {n c:Nat} {xs:List ByteArray} (hr:RS w S A n c xs) (k:ByteArray) : wS w S (upd f k (.slice A n c)) (setF l k xs):=by
 intro s;unfold upd setF;by_cases hs:s=k
 ·rw[if_pos hs,if_pos hs];exact⟨A,n,c,rfl,hr⟩
 ·rw[if_neg hs,if_neg hs];exact h s
structure kx (w:World) (B g N m1 m2 m3:Nat) (f:ByteArray→Option Value) (A:Option Addr) (n c:Nat) (A2:Option Addr) (n2 c2:Nat) (v:aS):Prop where
 hg:B≤g
 h1:B≤m1
 h2:B≤m2
 h3:B≤m3
 d1:g≠m1
 d2:g≠m2
 d3:g≠m3
 d4:m1≠m2
 d5:m1≠m3
 d6:m2≠m3
 blk:aK w g 168 #[.map (some m1),.map (some m2),.map (some m3),.bool v.risk.neg,.slice A n c,.slice A2 n2 c2,.string v.seed]
 num:dr w m1 N (ints v.num)
 lst:dr w m2 N f
 lsts:wS w (Data w B g m1 m2 m3) f v.lst
 ln:dr w m3 N (ints v.ln)
 rn:RS w (Data w B g m1 m2 m3) A n c v.risk.num
 rd:RS w (Data w B g m1 m2 m3) A2 n2 c2 v.risk.den
def lT (w:World) (B g N:Nat) (v:aS):Prop:=∃m1 m2 m3 f A n c A2 n2 c2,kx w B g N m1 m2 m3 f A n c A2 n2 c2 v
theorem Data.mono {w w':World} {B g m1 m2 m3:Nat} (h:w.heap.size≤w'.heap.size):∀b,Data w B g m1 m2 m3 b→Data w' B g m1 m2 m3 b:=fun _ hb=>⟨hb.1,Nat.lt_of_lt_of_le hb.2.1 h,hb.2.2⟩
section
variable {w w':World} {B g N m1 m2 m3:Nat} {f:ByteArray→Option Value} {A A2:Option Addr} {n c n2 c2:Nat} {v:aS}
theorem kx.keep (h:kx w B g N m1 m2 m3 f A n c A2 n2 c2 v) (hb:Below w.heap.size w w'):kx w' B g N m1 m2 m3 f A n c A2 n2 c2 v:=
 have hk:aD (Data w B g m1 m2 m3) w w':=(aD.of_below hb).sub fun _b hb=>hb.2.1
 { h with blk:=h.blk.keep hb,num:=h.num.keep hb,lst:=h.lst.keep hb,lsts:=h.lsts.keep (Data.mono hb.size) hk,ln:=h.ln.keep hb,rn:=h.rn.keep (Data.mono hb.size) hk,rd:=h.rd.keep (Data.mono hb.size) hk }
theorem lT.keep (h:lT w B g N v) (hb:Below w.heap.size w w'):lT w' B g N v:=by
 obtain⟨m1,m2,m3,f,A,n,c,A2,n2,c2,h⟩:=h;exact⟨m1,m2,m3,f,A,n,c,A2,n2,c2,h.keep hb⟩
theorem kx.setNum (h:kx w B g N m1 m2 m3 f A n c A2 n2 c2 v) (k:ByteArray) (x:Int) (hm:dr w' m1 (N+1) (upd (ints v.num) k (.int .i64 x))) (uV:w.grownBy w' (some m1)):kx w' B g (N+1) m1 m2 m3 f A n c A2 n2 c2 { v with num:=setF v.num k x }:=
 have hk:aD (Data w B g m1 m2 m3) w w':=(aD.grown uV).sub fun b hb=>⟨hb.2.1,fun e=>hb.2.2.2.1 (by injection e)⟩
 { h with blk:=h.blk.grown uV (fun e=>h.d1 (by injection e)),num:=by rw[←ints_set];exact hm,lst:=(h.lst.kept uV (fun e=>h.d4 (by injection e with e;exact e.symm))).mono (Nat.le_succ _),lsts:=h.lsts.keep (Data.mono uV.size) hk, ln:=(h.ln.kept uV (fun e=>h.d5 (by injection e with e;exact e.symm))).mono (Nat.le_succ _),rn:=h.rn.keep (Data.mono uV.size) hk,rd:=h.rd.keep (Data.mono uV.size) hk }
theorem kx.setLn (h:kx w B g N m1 m2 m3 f A n c A2 n2 c2 v) (k:ByteArray) (x:Int) (hm:dr w' m3 (N+1) (upd (ints v.ln) k (.int .i64 x))) (uV:w.grownBy w' (some m3)):kx w' B g (N+1) m1 m2 m3 f A n c A2 n2 c2 { v with ln:=setF v.ln k x }:=
 have hk:aD (Data w B g m1 m2 m3) w w':=(aD.grown uV).sub fun b hb=>⟨hb.2.1,fun e=>hb.2.2.2.2.2 (by injection e)⟩
 { h with blk:=h.blk.grown uV (fun e=>h.d3 (by injection e)),num:=(h.num.kept uV (fun e=>h.d5 (by injection e))).mono (Nat.le_succ _),lst:=(h.lst.kept uV (fun e=>h.d6 (by injection e))).mono (Nat.le_succ _),lsts:=h.lsts.keep (Data.mono uV.size) hk, ln:=by rw[←ints_set];exact hm,rn:=h.rn.keep (Data.mono uV.size) hk,rd:=h.rd.keep (Data.mono uV.size) hk }
theorem kx.setLst (h:kx w B g N m1 m2 m3 f A n c A2 n2 c2 v) (k:ByteArray) {A3:Option Addr} {n3 c3:Nat} {xs:List ByteArray} (hr:RS w (Data w B g m1 m2 m3) A3 n3 c3 xs) (hm:dr w' m2 (N+1) (upd f k (.slice A3 n3 c3))) (uV:w.grownBy w' (some m2)) : kx w' B g (N+1) m1 m2 m3 (upd f k (.slice A3 n3 c3)) A n c A2 n2 c2 { v with lst:=setF v.lst k xs }:=
 have hk:aD (Data w B g m1 m2 m3) w w':=(aD.grown uV).sub fun b hb=>⟨hb.2.1,fun e=>hb.2.2.2.2.1 (by injection e)⟩
 { h with blk:=h.blk.grown uV (fun e=>h.d2 (by injection e)),num:=(h.num.kept uV (fun e=>h.d4 (by injection e))).mono (Nat.le_succ _),lst:=hm,lsts:=(h.lsts.set hr k).keep (Data.mono uV.size) hk, ln:=(h.ln.kept uV (fun e=>h.d6 (by injection e with e;exact e.symm))).mono (Nat.le_succ _),rn:=h.rn.keep (Data.mono uV.size) hk,rd:=h.rd.keep (Data.mono uV.size) hk }
theorem kx.setSeed (h:kx w B g N m1 m2 m3 f A n c A2 n2 c2 v) (s:ByteArray):kx (w.setCell ⟨g,6,none⟩ (.string s)) B g N m1 m2 m3 f A n c A2 n2 c2 { v with seed:=s }:=
 have hk:aD (Data w B g m1 m2 m3) w (w.setCell ⟨g,6,none⟩ (.string s)):=(aD.refl _ _).setCell (fun h=>h.2.2.1 rfl) _;have hd:∀b,Data w B g m1 m2 m3 b→Data (w.setCell ⟨g,6,none⟩ (.string s)) B g m1 m2 m3 b:=Data.mono (by simp)
 { h with blk:=h.blk.set_ 6 _,num:=h.num.setCell (fun e=>h.d1 e.symm) _,lst:=h.lst.setCell (fun e=>h.d2 e.symm) _,lsts:=h.lsts.keep hd hk,ln:=h.ln.setCell (fun e=>h.d3 e.symm) _,rn:=h.rn.keep hd hk,rd:=h.rd.keep hd hk }
theorem kx.setRisk (h:kx w B g N m1 m2 m3 f A n c A2 n2 c2 v) {A3 A4:Option Addr} {n3 c3 n4 c4:Nat} (r:Raw) (hn:RS w (Data w B g m1 m2 m3) A3 n3 c3 r.num) (hd':RS w (Data w B g m1 m2 m3) A4 n4 c4 r.den) : kx (((w.setCell ⟨g,3,none⟩ (.bool r.neg)).setCell ⟨g,4,none⟩ (.slice A3 n3 c3)).setCell ⟨g,5,none⟩ (.slice A4 n4 c4)) B g N m1 m2 m3 f A3 n3 c3 A4 n4 c4 { v with risk:=r }:=
 have hk:aD (Data w B g m1 m2 m3) w (((w.setCell ⟨g,3,none⟩ (.bool r.neg)).setCell ⟨g,4,none⟩ (.slice A3 n3 c3)).setCell ⟨g,5,none⟩ (.slice A4 n4 c4)):=(((aD.refl _ _).setCell (fun h=>h.2.2.1 rfl) _).setCell (fun h=>h.2.2.1 rfl) _).setCell (fun h=>h.2.2.1 rfl) _;have hd:∀b,Data w B g m1 m2 m3 b→Data (((w.setCell ⟨g,3,none⟩ (.bool r.neg)).setCell ⟨g,4,none⟩ (.slice A3 n3 c3)).setCell ⟨g,5,none⟩ (.slice A4 n4 c4)) B g m1 m2 m3 b:=Data.mono (by simp)
 { h with blk:=((h.blk.set_ 3 _).set_ 4 _).set_ 5 _,num:=((h.num.setCell (fun e=>h.d1 e.symm) _).setCell (fun e=>h.d1 e.symm) _).setCell (fun e=>h.d1 e.symm) _,lst:=((h.lst.setCell (fun e=>h.d2 e.symm) _).setCell (fun e=>h.d2 e.symm) _).setCell (fun e=>h.d2 e.symm) _,lsts:=h.lsts.keep hd hk, ln:=((h.ln.setCell (fun e=>h.d3 e.symm) _).setCell (fun e=>h.d3 e.symm) _).setCell (fun e=>h.d3 e.symm) _,rn:=hn.keep hd hk,rd:=hd'.keep hd hk }
end
theorem Lr {x:UInt8} {d:Nat} (h:Lib.digitVal x=some d):d<10:=by
 unfold Lib.digitVal at h;split at h
 ·injection h with h;omega
 ·cases h
theorem decFrom_lt:∀(l:List UInt8) (lR n:Nat),Lib.decFrom lR l=some n→n<(lR+1)*10^l.length
 | [],lR,n,h=>by simp[Lib.decFrom] at h;subst h;simp
 | x::l,lR,n,h=>by
  unfold Lib.decFrom at h;split at h
  ·rename_i d hd;have h1:=decFrom_lt l _ _ h;have h2:=Lr hd;rw[List.length_cons,Nat.pow_succ',←Nat.mul_assoc];exact Nat.lt_of_lt_of_le h1 (Nat.mul_le_mul_right _ (by omega))
  ·cases h
theorem kY (l:List UInt8):0≤(jX l).1∧(jX l).1≤999999:=by
 unfold jX;split
 ·rename_i h;obtain⟨h0,h1,h2⟩:=mI h;obtain⟨n,hn⟩:=ry l 0 h2;have h3:=decFrom_lt l 0 n hn;have h4:(10:Nat)^l.length≤10^6:=Nat.pow_le_pow_right (by omega) h1;have h5:Lib.decNat l=some n:=by unfold Lib.decNat;rw[if_neg (by simpa using h0)];exact hn
  rw[h5];simp;omega
 ·simp
def lK (a b:Int):Q:=ij (decide (a<0) !=decide (b<0)) a.natAbs b.natAbs
def xA (a b:Q):Int:=xz a.raw.q b.raw.flip.q
def np (l:List UInt8):Int×Option Raw:=
 if((jX (iX l)).2&&(jX (iG l)).2)=false then(5,none)
 else if(jX (iG l)).1=0∨xA (lK (jX (iX l)).1 (jX (iG l)).1) (lK 1 1000)<0∨0<xA (lK (jX (iX l)).1 (jX (iG l)).1) (lK 1 2) then(4,none)
 else(0,some (lK (jX (iX l)).1 (jX (iG l)).1).raw)
def aS.withRisk (v:aS) (r:Option Raw):aS:=match r with|none=>v|some r=>{ v with risk:=r }
def CK (g:Nat) (w w':World):Prop:=∀b t cs,b≠g→aK w b t cs→aK w' b t cs
def BC (B g:Nat) (w w':World):Prop:=Below B w w'∧CK g w w'
theorem pp {B g:Nat} {w w':World} (h:Below w.heap.size w w') (hB:B≤w.heap.size):BC B g w w':=⟨h.mono hB,fun _ _ _ _ hb=>hb.keep h⟩
theorem BC.trans {B g:Nat} {w w1 w2:World} (h:BC B g w w1) (k:BC B g w1 w2):BC B g w w2:=⟨h.1.trans k.1,fun b t cs hg hb=>k.2 b t cs hg (h.2 b t cs hg hb)⟩
theorem BC.drew {B g:Nat} {w w1:World} (h:BC B g w w1):BC B g w w1.drew:=⟨h.1.drew,fun b t cs hg hb=>h.2 b t cs hg hb⟩
theorem BC.set {B g:Nat} {w w1:World} (h:BC B g w w1) (hB:B≤g) (i:Nat) (u:Value):BC B g w (w1.setCell ⟨g,i,none⟩ u):=⟨h.1.setCell (p:=⟨g,i,none⟩) hB u,fun b t cs hg hb=>(h.2 b t cs hg hb).far (p:=⟨g,i,none⟩) hg u⟩
theorem zn {B g m n:Nat} {f:ByteArray→Option Value} {w0 w w':World} (h:BC B g w0 w) (hm:dr w m n f) (hg:w.grownBy w' (some m)) (hB:B≤m) (hs:B≤w.heap.size):BC B g w0 w':=
 ⟨h.1.grown hg hs (fun k hk=>by injection hk with hk;omega),fun b t cs hbg hb=>(h.2 b t cs hbg hb).grown hg (fun e=>by
  injection e with e
  subst e;obtain⟨D,⟨es,clock,h0,_⟩,_⟩:=hm;have h1:=h.2 b t cs hbg hb;unfold aK at h1;rw[h0] at h1;cases h1)⟩
def CZ (w:World) (B g N:Nat) (er:Int) (v:aS) (e:Ending) (w':World):Prop:=e=.returned (.int .i64 er)∧lT w' B g N v∧BC B g w w'
theorem vF (neg:Bool) (X Y:Nat) (hx:X<18446744073709551616) (hy:Y<18446744073709551616):(ij neg X Y).raw.short 2:=by
 unfold ij;split
 ·exact⟨by simp[Q.raw,fD],by simp[Q.raw,O5]⟩
 ·exact⟨O9 (Nat.lt_of_le_of_lt (Nat.div_le_self _ _) hx),O9 (Nat.lt_of_le_of_lt (Nat.div_le_self _ _) hy)⟩
set_option maxRecDepth 20000 in
set_option maxHeartbeats 2000000 in
theorem Kn {w:World} {B g N:Nat} {v:aS} (h:lT w B g N v) (hB:B≤w.heap.size) (s:ByteArray) (hs:fG s) : Calls Tryz.prog 149 #[.pointer (some ⟨g,0,none⟩),.string s] w (CZ w B g N (np s.data.toList).1 (v.withRisk (np s.data.toList).2)):=by
 have hs':s.size≤9223372036854775807:=Nat.le_trans hs (by omega);have hcut:=VT s w hs';have Pm:=fun w=>Nk ⟨(iX s.data.toList).toArray⟩ w (Nat.le_trans (AT s) hs');have rj:=fun w=>Nk ⟨(iG s.data.toList).toArray⟩ w (Nat.le_trans (AR s) hs');obtain⟨p,hp⟩:∃p,np s.data.toList=p:=⟨_,rfl⟩;have kS:np s.data.toList=np s.data.toList:=rfl;unfold np at kS;rw[←np] at kS;obtain⟨a,YN⟩:∃a:ByteArray,⟨(iX s.data.toList).toArray⟩=a:=⟨_,rfl⟩;obtain⟨b,YL⟩:∃a:ByteArray,⟨(iG s.data.toList).toArray⟩=a:=⟨_,rfl⟩;obtain⟨c,YK⟩:∃a,qg s.data.toList=a:=⟨_,rfl⟩;have dT:iX s.data.toList=a.data.toList:=by rw[←YN]
 have qB:iG s.data.toList=b.data.toList:=by rw[←YL]
 rw[YN,YL,YK] at hcut;rw[YN] at Pm;rw[YL] at rj;have uR:=kY a.data.toList;have JG:=kY b.data.toList;have sT:p=np s.data.toList:=hp.symm;unfold np at sT;rw[dT,qB] at sT;obtain⟨⟨x,xb⟩,hx⟩:∃x,jX a.data.toList=x:=⟨_,rfl⟩;obtain⟨⟨y,yb⟩,hy⟩:∃x,jX b.data.toList=x:=⟨_,rfl⟩;rw[hx] at Pm uR sT;rw[hy] at rj JG sT;simp only at Pm rj uR JG sT;rw[hp];have OP:=zH hcut;have HNA:=zH Pm;have LR:=zH rj;have HP:=zH sT;have HV:=zH h;obtain⟨lJ,KP⟩:=uR;obtain⟨pG,Pf⟩:=JG;clear hcut Pm rj sT hp kS YN YL YK dT qB hx hy h hs';go_enter Tryz.func149,Tryz.ntmps149;go_wp2_with fail;refine OP.out.mono ?_;rintro e w1 ⟨rfl,m,rfl⟩;go_wp2_with fail;refine(HNA.out _).mono ?_;rintro e w2 ⟨rfl,bY⟩;have B2:=zH (show Below w.heap.size w w2 from(below_drewN (Below.refl _ _) m).trans bY);clear bY;go_wp2_with fail;refine(LR.out _).mono ?_;rintro e w3 ⟨rfl,ey⟩;have B3:=zH (ae B2.out ey);clear ey;cases xb with
 | false=>
  have KX:p=(5,none):=by rw[HP.out];rfl
  have Wu:=zH KX;clear KX;go_wp2_with fail;go_ret
  rw[Wu.out];exact⟨rfl,HV.out.keep B3.out,pp B3.out hB⟩
 | true=>
  cases yb with
  | false=>
   have KX:p=(5,none):=by rw[HP.out];rfl
   have Wu:=zH KX;clear KX;go_wp2_with fail;go_ret
   rw[Wu.out];exact⟨rfl,HV.out.keep B3.out,pp B3.out hB⟩
  | true=>
   have Me:=HP.out;rw[if_neg (by simp)] at Me;have C3:=zH Me;clear Me;go_wp2_with fail;refine(IW x y w3 (by omega) (by omega) (by omega) (by omega)).mono ?_;rintro e w4 ⟨v4,rfl,⟨cs,rfl,hr4⟩,fa⟩;obtain⟨q,hq⟩:∃q,lK x y=q:=⟨_,rfl⟩;rw[show ij (decide (x<0) !=decide (y<0)) x.natAbs y.natAbs=q from hq] at hr4;have hqs:q.raw.short 2:=by rw[←hq];exact vF _ _ _ (by omega) (by omega)
   have Me:=C3.out;rw[hq] at Me;have EW:=zH Me;have HQS:=zH hqs;obtain⟨A5,n5,c5,A6,n6,c6,rfl,h5,h6⟩:=hr4;have B4:=zH (ae B3.out fa);have H5:=zH h5;have H6:=zH h6;have S34:=zH fa.size;clear fa h5 h6 Me hqs hq C3 HP;have hW:Below w4.heap.size w4 (w4.alloc (.cells #[.bool q.neg,.slice A5 n5 c5,.slice A6 n6 c6] 28)):=(Below.refl _ _).alloc (Nat.le_refl _) _;have hK:aK (w4.alloc (.cells #[.bool q.neg,.slice A5 n5 c5,.slice A6 n6 c6] 28)) w4.heap.size 28 #[.bool q.neg,.slice A5 n5 c5,.slice A6 n6 c6]:=aK.new _ _ _;obtain⟨W,hWW⟩:∃x,w4.alloc (.cells #[.bool q.neg,.slice A5 n5 c5,.slice A6 n6 c6] 28)=x:=⟨_,rfl⟩;rw[hWW] at hW hK;have HWW:=zH hWW;have JU:=zH (ae B4.out hW);have SN:=zH hW.size;have HK:=zH hK;have hR5:∀w',Up W w'→RS w' (bz w3 w4) A5 n5 c5 (fC q.n):=fun w' hu=>(H5.out.below hW (fun _ h=>h.2)).below hu.out (fun _ h=>Nat.lt_of_lt_of_le h.2 SN.out);have hR6:∀w',Up W w'→RS w' (bz w3 w4) A6 n6 c6 (fC q.d):=fun w' hu=>(H6.out.below hW (fun _ h=>h.2)).below hu.out (fun _ h=>Nat.lt_of_lt_of_le h.2 SN.out);have hF1:∀w',Calls Tryz.prog 178 #[.int .i64 1,.int .i64 1000] w' (gh w' (lK 1 1000)):=fun w'=>IW 1 1000 w' (by omega) (by omega) (by omega) (by omega);have hF2:∀w',Calls Tryz.prog 178 #[.int .i64 1,.int .i64 2] w' (gh w' (lK 1 2)):=fun w'=>IW 1 2 w' (by omega) (by omega) (by omega) (by omega);have hC:∀(w':World) (S':Nat→Prop) (v':Value) (r:Q),Up W w'→SV w' S' v' r→(∀b,S' b→b<w'.heap.size)→r.raw.short 2→Calls Tryz.prog 81 #[.agg #[.bool q.neg,.slice A5 n5 c5,.slice A6 n6 c6],v'] w' (gy w' (.int .i64 (xA q r))):=fun w' S' v' r hu hv hS hr=>
    Pv (ra:=q.raw) (rb:=r.raw) ⟨_,rfl,A5,n5,c5,A6,n6,c6,rfl,hR5 w' hu,hR6 w' hu⟩ hv.raw (fun b h=>Nat.lt_of_lt_of_le h.2 (Nat.le_trans SN.out hu.out.size)) hS ⟨Nat.le_trans HQS.out.1 (by omega),Nat.le_trans HQS.out.2 (by omega)⟩ ⟨Nat.le_trans hr.1 (by omega),Nat.le_trans hr.2 (by omega)⟩
   have hH:∀w',Up W w'→Up W w'∧w'.cell? ⟨w4.heap.size,0,none⟩=some (.bool q.neg)∧w'.cell? ⟨w4.heap.size,1,none⟩=some (.slice A5 n5 c5)∧w'.cell? ⟨w4.heap.size,2,none⟩=some (.slice A6 n6 c6):=
    fun w' hu=>⟨hu,(HK.out.keep hu).cell 0,(HK.out.keep hu).cell 1,(HK.out.keep hu).cell 2⟩
   have Fv:=zH hR5;have HR6:=zH hR6;have HM1:Hid ((lK 1 1000).raw.short 2):=zH (vF _ _ _ (by decide) (by decide));have ZE:Hid ((lK 1 2).raw.short 2):=zH (vF _ _ _ (by decide) (by decide));have vz:=zH hF1;have lY:=zH hF2;have HC:=zH hC;have HH:=zH hH;clear hW hK hWW hR5 hR6 hF1 hF2 hC hH;go_upto_region 7 with(fail);rw[HWW.out];obtain⟨l1,hl1⟩:∃z,xA q (lK 1 1000)=z:=⟨_,rfl⟩;obtain⟨l2,hl2⟩:∃z,xA q (lK 1 2)=z:=⟨_,rfl⟩;have hp2:=EW.out;rw[hl1,hl2] at hp2;have SO:=zH hp2;have vw:=zH hl1;have ua:=zH hl2;have hC1:∀(w':World) (S':Nat→Prop) (v':Value),Up W w'→SV w' S' v' (lK 1 1000)→(∀b,S' b→b<w'.heap.size)→Calls Tryz.prog 81 #[.agg #[.bool q.neg,.slice A5 n5 c5,.slice A6 n6 c6],v'] w' (gy w' (.int .i64 l1)):=fun w' S' v' hu hv hS=>by
    have:=HC.out w' S' v' _ hu hv hS HM1.out
    rwa [hl1] at this
   have HC1:=zH hC1;clear hp2 hl1 hl2 EW hC1;obtain⟨_,t0,t1,t2⟩:=HH.out W (Below.refl _ _);by_cases Qx:y=0
   ·have KX:p=(4,none):=by rw[SO.out,if_pos (.inl Qx)]
    have Wu:=zH KX;subst Qx;clear KX;go_quiet (fail)
    go_wp2_with fail;go_ret
    rw[Wu.out];exact⟨rfl,HV.out.keep (below_drewN JU.out _),pp (below_drewN JU.out _) hB⟩
   ·have hyb:((y:Int)==0)=false:=by rw[beq_eq_false_iff_ne];exact Qx
    by_cases h1:l1<0
    ·have d1:(l1<0)=True:=eq_true h1;have d1':decide (l1<0)=true:=decide_eq_true h1;have KX:p=(4,none):=by rw[SO.out,if_pos (.inr (.inl h1))]
     have Wu:=zH KX;clear KX Qx h1;go_region_with (first | (go_at_call 178; (with_reducible refine(vz.out _).mono ?_); rintro e w6 ⟨v6,rfl,hv6,kC⟩; obtain⟨S6,Az,Xn⟩:∃S6:Nat→Prop,SV w6 S6 v6 (lK 1 1000)∧∀b,S6 b→b<w6.heap.size:=⟨_,hv6,fun b h=>h.2⟩; obtain⟨A7,n7,c7,A8,n8,c8,rfl,_,_⟩:=Az.raw.raw_cases; have hu6:Up W w6:=⟨kC.os,kC.tape,kC.output,kC.size,kC.block⟩; obtain⟨_,q0,q1,q2⟩:=HH.out _ hu6; have HU6:=zH hu6; have HC6:=zH (HC1.out w6 S6 _ hu6 Az Xn); have HC7:=zH (HC1.out w6.drew S6 _ hu6.drew Az.drew Xn); have HC8:=zH (HC1.out w6.drew.drew S6 _ hu6.drew.drew Az.drew.drew Xn); clear hv6 Az Xn kC hu6) | (go_at_call 81; (with_reducible first|refine HC6.out.mono ?_|refine HC7.out.mono ?_|refine HC8.out.mono ?_); rintro e w7 ⟨rfl,uZ⟩; have HU7:Hid (Up W w7):=zH (HU6.out.more ⟨uZ.os,uZ.tape,uZ.output,uZ.size,uZ.block⟩); clear uZ))
     all_goals
      go_wp2_with fail;go_ret
      rw[Wu.out];exact⟨rfl,HV.out.keep (JU.out.trans (HU7.out.mono JU.out.size)),pp (JU.out.trans (HU7.out.mono JU.out.size)) hB⟩
    ·have d1:(l1<0)=False:=eq_false h1;have d1':decide (l1<0)=false:=decide_eq_false h1;by_cases h2:0<l2
     ·have d2:(0<l2)=True:=eq_true h2;have d2':decide (0<l2)=true:=decide_eq_true h2;have KX:p=(4,none):=by rw[SO.out,if_pos (.inr (.inr h2))]
      have Wu:=zH KX;clear KX Qx h1 h2;go_region_held3 (fun w'=>Up W w'∧w'.cell? ⟨w4.heap.size,0,none⟩=some (.bool q.neg)∧w'.cell? ⟨w4.heap.size,1,none⟩=some (.slice A5 n5 c5)∧w'.cell? ⟨w4.heap.size,2,none⟩=some (.slice A6 n6 c6))
      (first|assumption|exact HH.out _ (Up.start W)|exact HH.out _ (Up.more (‹Up W _∧_›).1 ‹Below _ _ _›))
      (first
       | (go_at_call 178; (with_reducible refine(vz.out _).mono ?_); rintro e w6 ⟨v6,rfl,hv6,kC⟩; obtain⟨S6,Az,Xn⟩:∃S6:Nat→Prop,SV w6 S6 v6 (lK 1 1000)∧∀b,S6 b→b<w6.heap.size:=⟨_,hv6,fun b h=>h.2⟩; obtain⟨A7,n7,c7,A8,n8,c8,rfl,_,_⟩:=Az.raw.raw_cases; have HV6:=zH Az; have HS6:=zH Xn; clear hv6 Az Xn)
       | (go_at_call 178; (with_reducible refine(lY.out _).mono ?_); rintro e w8 ⟨v8,rfl,hv8,oy⟩; obtain⟨S8,Nx,hS8⟩:∃S6:Nat→Prop,SV w8 S6 v8 (lK 1 2)∧∀b,S6 b→b<w8.heap.size:=⟨_,hv8,fun b h=>h.2⟩; obtain⟨A9,n9,c9,A0,n0,c0,rfl,_,_⟩:=Nx.raw.raw_cases; have HV8:=zH Nx; have HS8:=zH hS8; clear hv8 Nx hS8)
       | (go_at_call 81; (with_reducible refine(HC.out _ _ _ _ (‹Up W _∧_›).1 HV6.out HS6.out HM1.out).mono ?_); rintro e w7 ⟨rfl,uZ⟩; rw[vw.out])
       | (go_at_call 81; (with_reducible refine(HC.out _ _ _ _ (‹Up W _∧_›).1 HV8.out HS8.out ZE.out).mono ?_); rintro e w9 ⟨rfl,Lg⟩; rw[ua.out]))
      all_goals
       go_wp2_with fail;go_ret
       rw[Wu.out];have Ym:=(‹Up W w9∧_›).1;exact⟨rfl,HV.out.keep (JU.out.trans (Ym.mono JU.out.size)),pp (JU.out.trans (Ym.mono JU.out.size)) hB⟩
     ·have d2:(0<l2)=False:=eq_false h2;have d2':decide (0<l2)=false:=decide_eq_false h2;have KX:p=(0,some q.raw):=by rw[SO.out,if_neg (by rintro(h|h|h)<;>contradiction)]
      have Wu:=zH KX;clear KX Qx h1 h2;go_region_held3 (fun w'=>Up W w'∧w'.cell? ⟨w4.heap.size,0,none⟩=some (.bool q.neg)∧w'.cell? ⟨w4.heap.size,1,none⟩=some (.slice A5 n5 c5)∧w'.cell? ⟨w4.heap.size,2,none⟩=some (.slice A6 n6 c6))
      (first|assumption|exact HH.out _ (Up.start W)|exact HH.out _ (Up.more (‹Up W _∧_›).1 ‹Below _ _ _›))
      (first
       | (go_at_call 178; (with_reducible refine(vz.out _).mono ?_); rintro e w6 ⟨v6,rfl,hv6,kC⟩; obtain⟨S6,Az,Xn⟩:∃S6:Nat→Prop,SV w6 S6 v6 (lK 1 1000)∧∀b,S6 b→b<w6.heap.size:=⟨_,hv6,fun b h=>h.2⟩; obtain⟨A7,n7,c7,A8,n8,c8,rfl,_,_⟩:=Az.raw.raw_cases; have HV6:=zH Az; have HS6:=zH Xn; clear hv6 Az Xn)
       | (go_at_call 178; (with_reducible refine(lY.out _).mono ?_); rintro e w8 ⟨v8,rfl,hv8,oy⟩; obtain⟨S8,Nx,hS8⟩:∃S6:Nat→Prop,SV w8 S6 v8 (lK 1 2)∧∀b,S6 b→b<w8.heap.size:=⟨_,hv8,fun b h=>h.2⟩; obtain⟨A9,n9,c9,A0,n0,c0,rfl,_,_⟩:=Nx.raw.raw_cases; have HV8:=zH Nx; have HS8:=zH hS8; clear hv8 Nx hS8)
       | (go_at_call 81; (with_reducible refine(HC.out _ _ _ _ (‹Up W _∧_›).1 HV6.out HS6.out HM1.out).mono ?_); rintro e w7 ⟨rfl,uZ⟩; rw[vw.out])
       | (go_at_call 81; (with_reducible refine(HC.out _ _ _ _ (‹Up W _∧_›).1 HV8.out HS8.out ZE.out).mono ?_); rintro e w9 ⟨rfl,Lg⟩; rw[ua.out]))
      all_goals
       have Ym:=(‹Up W w9∧_›).1;have adZ:Below w.heap.size w w9:=JU.out.trans (Ym.mono JU.out.size);obtain⟨_,t0,t1,t2⟩:=HH.out _ Ym;obtain⟨m1,m2,m3,f,A1,n1,c1,A2,n2,c2,ed⟩:=HV.out;have K6:=ed.keep adZ;have vI:=ed.blk.lt;have hl1:=ed.num.lt;have hl2:=ed.lst.lt;have hl3:=ed.ln.lt;have s23:=B3.out.size;have hD:∀b,bz w3 w4 b→Data w9 B g m1 m2 m3 b:=fun b hb=>by
        have h1:=hb.1;have h2:=hb.2;have h3:=SN.out;have h4:=Ym.size;exact⟨by omega,by omega,by omega,by omega,by omega,by omega⟩
       have aiv:=K6.setRisk q.raw ((Fv.out w9 Ym).sub hD) ((HR6.out w9 Ym).sub hD);have k3:=K6.blk.cell 3;have k4:=K6.blk.cell 4;have k5:=K6.blk.cell 5;have f3:=K6.blk.frozen 3;have f4:=K6.blk.frozen 4;have f5:=K6.blk.frozen 5;have CR:=ed.hg;have au6:=zH aiv;have HB9:=zH adZ;have k3':w9.cell? ⟨g,3,none⟩=some (.bool v.risk.neg):=k3;have k4':w9.cell? ⟨g,4,none⟩=some (.slice A1 n1 c1):=k4;have k5':w9.cell? ⟨g,5,none⟩=some (.slice A2 n2 c2):=k5;clear ed K6 aiv hD hl1 hl2 hl3 vI s23 adZ Ym k3 k4 k5;go_wp2_with fail;go_ret
       rw[Wu.out];exact⟨rfl,⟨m1,m2,m3,f,A5,n5,c5,A6,n6,c6,au6.out⟩,(((pp HB9.out hB).set CR 3 _).set CR 4 _).set CR 5 _⟩
end Go.Proofs.YtjlhbfbdcfajfaaGreatDoor
