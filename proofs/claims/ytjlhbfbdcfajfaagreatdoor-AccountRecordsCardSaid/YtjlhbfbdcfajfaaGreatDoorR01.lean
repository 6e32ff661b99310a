/- Gro -/
import Derived.Test.YtjlhbfbdcfajfaaGreatDoorB29
namespace Go.Proofs.YtjlhbfbdcfajfaaGreatDoor
open Go Go.RowKit
inductive Gv where
 | v (u:Value)
 | p (Φ:Value→(Nat→Nat)→World→Prop) (mono:∀{v c1 w1 c2 w2},Φ v c1 w1→Below w1.heap.size w1 w2→(∀b,b<w1.heap.size→c2 b=c1 b)→Φ v c2 w2)
def Gv.Φ:Gv→Value→(Nat→Nat)→World→Prop
 | .v u=>ΦV u
 | .p Φ _=>Φ
theorem Gv.mono:∀{g:Gv} {v c1 w1 c2 w2},g.Φ v c1 w1→Below w1.heap.size w1 w2→(∀b,b<w1.heap.size→c2 b=c1 b)→g.Φ v c2 w2
 | .v _,_,_,_,_,_,h,_,_=>h
 | .p _ m,_,_,_,_,_,h,hb,hc=>m h hb hc
abbrev gV (u:Value):Gv:=.v u
abbrev gS {α:Type} [bG α] (W:World) (k:Nat) (x:α):Gv:=.p (ΦS W k x) ΦS.mono
abbrev gL {α:Type} [bG α] (W:World) (k:Nat) (xs:List α):Gv:=.p (ΦL W k xs) ΦL.mono
abbrev gB (W:World) (k:Nat) (t:TypeId) (cs:Array Value):Gv:=.p (ΦB W k t cs) ΦB.mono
abbrev gR {α:Type} [bG α] (W:World) (k i:Nat) (t:TypeId) (xs:List α) (n:Nat):Gv:=.p (ΦR W k i t xs n) ΦR.mono
def phi (l:List Gv) (i:Nat):Value→(Nat→Nat)→World→Prop:=match l[i]? with
 | some g=>g.Φ
 | none=>fun _ _ _=>False
def rW (c:Nat→Nat) (w:World):List Gv→(List Value→Prop)→Prop
 | [],G=>G []
 | .v u::l,G=>rW c w l fun vs=>G (u::vs)
 | .p Φ _::l,G=>∀v,Φ v c w→rW c w l fun vs=>G (v::vs)
inductive sV (G:Nat→Prop):Nat→List Gv→Prop where
 | nil {i:Nat}:sV G i []
 | cons {i:Nat} {g:Gv} {l:List Gv}:G i→sV G (i+1) l→sV G i (g::l)
theorem sV.get {G:Nat→Prop}:∀{i:Nat} {l:List Gv},sV G i l→∀k,k<l.length→G (i+k)
 | i,[],_,k,hk=>absurd hk (Nat.not_lt_zero _)
 | i,g::l,.cons h _,0,_=>h
 | i,g::l,.cons _ h,k+1,hk=>by
  have:=h.get k (by simpa using hk)
  rwa [show i+1+k=i+(k+1) by omega] at this
theorem IY:∀{l:List Gv} {vs:List Value} {c:Nat→Nat} {w:World} {G:List Value→Prop},rW c w l G→vs.length=l.length→(∀j v,vs[j]?=some v→phi l j v c w)→G vs
 | [],vs,_,_,_,hG,h,_=>by rw[List.length_eq_zero_iff.1 h];exact hG
 | g::l,[],_,_,_,_,h,_=>by cases h
 | .v u::l,v::vs,c,w,G,hG,h,hΦ=>by
  have h0:v=u:=hΦ 0 v rfl;subst h0;exact IY (G:=fun vs=>G (v::vs)) hG (by simpa using h) fun j u hu=>hΦ (j+1) u (by simpa using hu)
 | .p Φ _::l,v::vs,c,w,G,hG,h,hΦ=>IY (G:=fun vs=>G (v::vs)) (hG v (hΦ 0 v rfl)) (by simpa using h) fun j u hu=>hΦ (j+1) u (by simpa using hu)
section
variable {P:Program} {ops:Array Oper} {Q:Exit→Act→World→Prop}
theorem dd {id:Nat} {a:Act} {W:World} (l:List Gv) (r:Nat) (bV:∀(Q':Exit→Act→World→Prop) a' col w',PD ops l.length a a'→Below W.heap.size W w'→ sV (fun i=>Hid (∀b,W.heap.size≤b→b<w'.heap.size→col b≠i)→Hid (∀j,waits ops i j=true→Has ops (phi l) a' col w' j)→wpOp P ops Q' i (qI ops (phi l) i a' col w') a' w') 0 l) (tD:∀col w',Below W.heap.size W w'→rW col w' l fun vs=>gd P ops Q (r+1) l.length (iD (ops.toList.take l.length) vs a) w') (hm:P.follows .mixedOrders=true:=by kernel_rfl) (hb:kH (l.length+(r+1)) ops=true:=by kernel_rfl) (sx:Ul ops l.length (l.length+(r+1))=true:=by kernel_rfl) (rk:Ev ops l.length a.tmps.size=true:=by kernel_rfl) : (Code.region id ops true).wp P Q a W:=
 cf l.length r (phi l) hm hb sx rk
  (fun i v c1 w1 c2 w2 h hb hc=>by
   unfold phi at h ⊢;cases hg:l[i]? with
   | none=>rw[hg] at h;exact h.elim
   | some g=>rw[hg] at h;exact Gv.mono h hb hc)
  (fun Q' i hi a' col w' ho hb eN ac=>by
   have:=(bV Q' a' col w' ho hb).get i hi;rw[Nat.zero_add] at this;exact this (zH eN) (zH ac))
  (fun _ col w' hl hb hΦ=>IY (tD col w' hb) hl hΦ)
variable {Φ:Nat→Value→(Nat→Nat)→World→Prop} {i:Nat} {o:Oper} {a:Act} {col:Nat→Nat} {w:World}
theorem oE {n:Nat} {a0:Act} (h:PD ops n a0 a) (t:Nat) {v:Value} (h1:Iy ops n t=true:=by kernel_rfl) (h2:a0.tmps[t]?=some v:=by rfl):a.tmps[t]?=some v:=(h.2 t h1).trans h2
theorem dV {x:Value} (h:Hid (∀j,waits ops i j=true→Has ops Φ a col w j)) (j t:Nat) (h1:waits ops i j=true:=by kernel_rfl) (h2:gY ops j=some t:=by rfl) (h3:Φ j=ΦV x:=by rfl):a.tmps[t]?=some x:=by
 obtain⟨v,hv,hΦ⟩:=h.out j h1;rw[h3] at hΦ;have ap7:v=x:=hΦ;rw[←ap7];exact hv t h2
theorem dG (h:Hid (∀j,waits ops i j=true→Has ops Φ a col w j)) (j t:Nat) (h1:waits ops i j=true:=by kernel_rfl) (h2:gY ops j=some t:=by rfl):∃v,a.tmps[t]?=some v∧Φ j v col w:=by
 obtain⟨v,hv,hΦ⟩:=h.out j h1;exact⟨v,hv t h2,hΦ⟩
theorem dR {α:Type} [bG α] {W:World} {k q n:Nat} {ty:TypeId} {xs:List α} (h:Hid (∀j,waits ops i j=true→Has ops Φ a col w j)) (j t:Nat) (h1:waits ops i j=true:=by kernel_rfl) (h2:gY ops j=some t:=by rfl) (h3:Φ j=ΦR W k q ty xs n:=by rfl) (h4:q≠k:=by decide) (h5:n≤maxLen:=by decide) : ∃g,a.tmps[t]?=some (.slice (some ⟨g,0,none⟩) n n)∧RS w (RD W k col w) (some ⟨g,0,none⟩) n n xs:=by
 obtain⟨v,hv,hΦ⟩:=h.out j h1;rw[h3] at hΦ;obtain⟨g,cs,rfl,hg,hcg,hk,hf,hn,_⟩:=hΦ;exact⟨g,hv t h2,tg hg hcg h4 hk hf hn h5⟩
theorem JW {K:Act→World→Prop} (ho:ops[i]?=some o) (hw:Region.wanted o (yielded ops a.tmps)=true) (h:o.wp P a w K Q):wpOp P ops Q i K a w:=by
 unfold wpOp;rw[ho];simp only[hw,if_true];exact .inl h
theorem CS {w':World} (v:Value) (ho:ops[i]?=some o) (hw:Region.wanted o (yielded ops a.tmps)=true) (hr:(execOp a.eval o).run P w=.ok (.value v) w') (hb:Below w.heap.size w w') (h:Φ i v (tJ col w i) w'):wpOp P ops Q i (qI ops Φ i a col w) a w:=by
 refine JW ho hw ?_;unfold Oper.wp;rw[hr,Oper.upon_value];exact⟨v,by unfold gY;rw[ho];rfl,hb,h⟩
theorem En (f:FuncId) (args:Array Value) (ho:ops[i]?=some o) (hw:Region.wanted o (yielded ops a.tmps)=true) (hr:(execOp a.eval o).run P w=.ok (.enter f args) w) {R:Ending→World→Prop} (hc:Calls P f args w R) (h:∀e w',R e w'→∃v,e=.returned v∧Below w.heap.size w w'∧Φ i v (tJ col w i) w'):wpOp P ops Q i (qI ops Φ i a col w) a w:=by
 refine JW ho hw ?_;unfold Oper.wp;rw[hr,Oper.upon_enter];refine hc.mono fun e w' he=>?_;obtain⟨v,rfl,hb,hv⟩:=h e w' he;exact⟨v,by unfold gY;rw[ho];rfl,hb,hv⟩
theorem gw {j t:Nat} {b want:Bool} (h:Hid (∀j,waits ops i j=true→Has ops Φ a col w j)) (_ho:ops[i]?=some o:=by rfl) (hg:o.guard=some (j,want):=by rfl) (h3:Φ j=ΦV (.bool b):=by rfl) (h2:gY ops j=some t:=by rfl) (h1:waits ops i j=true:=by kernel_rfl):Region.wanted o (yielded ops a.tmps)=(b==want):=by
 have e:=dV h j t h1 h2 h3;unfold Region.wanted;rw[hg];have hy:yielded ops a.tmps j=some b:=by
  unfold yielded;unfold gY at h2;cases ho':ops[j]? with
  | none=>rw[ho'] at h2;cases h2
  | some q=>
   rw[ho'] at h2;have h2':q.dst=some t:=h2;simp[h2',e]
 simp only[hy];cases b<;>cases want<;>rfl
theorem ka {j t:Nat} {want:Bool} (h:Hid (∀j,waits ops i j=true→Has ops Φ a col w j)) (ho:ops[i]?=some o:=by rfl) (hg:o.guard=some (j,want):=by rfl) (h3:Φ j=ΦV (.bool want):=by rfl) (h2:gY ops j=some t:=by rfl) (h1:waits ops i j=true:=by kernel_rfl):Region.wanted o (yielded ops a.tmps)=true:=
 (gw h ho hg h3 h2 h1).trans (by cases want<;>rfl)
theorem Ob {j t:Nat} {want:Bool} (h:Hid (∀j,waits ops i j=true→Has ops Φ a col w j)) (ho:ops[i]?=some o:=by rfl) (hg:o.guard=some (j,want):=by rfl) (h3:Φ j=ΦV (.bool (!want)):=by rfl) (h2:gY ops j=some t:=by rfl) (h1:waits ops i j=true:=by kernel_rfl):Region.wanted o (yielded ops a.tmps)=false:=
 (gw h ho hg h3 h2 h1).trans (by cases want<;>rfl)
theorem qD (hw:Region.wanted o (yielded ops a.tmps)=false) (ho:ops[i]?=some o:=by rfl) (h3:Φ i=ΦV undef:=by rfl):wpOp P ops Q i (qI ops Φ i a col w) a w:=by
 unfold wpOp;rw[ho];simp only[hw,Bool.false_eq_true,if_false];exact⟨undef,by unfold gY;rw[ho];rfl,Below.refl _ _,by rw[h3];rfl⟩
theorem gv {v:Value} (hΦ:Φ i v (tJ col w i) w:=by rfl) (ho:ops[i]?=some o:=by rfl) (hw:Region.wanted o (yielded ops a.tmps)=true:=by rfl) (hr:(execOp a.eval o).run P w=.ok (.value v) w:=by go_simp):wpOp P ops Q i (qI ops Φ i a col w) a w:=
 CS v ho hw hr (Below.refl _ _) hΦ
theorem gs {α:Type} [bG α] {W:World} {k:Nat} {x:α} {v:Value} (hs:ΦS W k x v col w) (h3:Φ i=ΦS W k x:=by rfl) (ho:ops[i]?=some o:=by rfl) (hw:Region.wanted o (yielded ops a.tmps)=true:=by rfl) (hr:(execOp a.eval o).run P w=.ok (.value v) w:=by(go_simp;try rfl)):wpOp P ops Q i (qI ops Φ i a col w) a w:=
 CS v ho hw hr (Below.refl _ _) (by rw[h3];exact ΦS.mono hs (Below.refl _ _) fun b hb=>fE hb)
theorem gr {α:Type} [bG α] {W:World} {k n:Nat} {ty:TypeId} {xs:List α} {cs:List Value} (eN:Hid (∀b,W.heap.size≤b→b<w.heap.size→col b≠i)) (hb:Below W.heap.size W w) (hf:Flat w (RD W k col w) cs xs) (h3:Φ i=ΦR W k i ty xs n:=by rfl) (h4:n=xs.length:=by rfl) (h5:∀u∈cs,u.oneCell'=true:=by(simp[Value.oneCell'])) (ho:ops[i]?=some o:=by rfl) (hw:Region.wanted o (yielded ops a.tmps)=true:=by rfl) (hr:(execOp a.eval o).run P w=.ok (.value (.slice (some ⟨w.heap.size,0,none⟩) n n)) (w.alloc (.cells cs.toArray ty)):=by(go_simp;try rfl)):wpOp P ops Q i (qI ops Φ i a col w) a w:=
 CS _ ho hw hr (aT _ _) (by rw[h3];exact ΦR.built hf (fun b hb=>eN.out b hb.1 hb.2.1) h4 h5 hb.size)
theorem gb {W:World} {k:Nat} {ty:TypeId} {cs:Array Value} (hb:Below W.heap.size W w) (h3:Φ i=ΦB W k ty cs:=by rfl) (h4:k=i:=by rfl) (ho:ops[i]?=some o:=by rfl) (hw:Region.wanted o (yielded ops a.tmps)=true:=by rfl) (hr:(execOp a.eval o).run P w=.ok (.value (.pointer (some ⟨w.heap.size,0,none⟩))) (w.alloc (.cells cs ty)):=by(go_simp;try rfl)):wpOp P ops Q i (qI ops Φ i a col w) a w:=by
 subst h4;exact CS _ ho hw hr (aT _ _) (by rw[h3];exact ΦB.made hb.size)
theorem BA {f:FuncId} {args:Array Value} {u:Value} (hc:Calls P f args w (gy w u)) (h3:Φ i=ΦV u:=by rfl) (ho:ops[i]?=some o:=by rfl) (hw:Region.wanted o (yielded ops a.tmps)=true:=by rfl) (hr:(execOp a.eval o).run P w=.ok (.enter f args) w:=by(go_simp;try rfl)):wpOp P ops Q i (qI ops Φ i a col w) a w:=
 En f args ho hw hr hc fun e w2 h=>by rw[h3];exact ΦV.of_ret h
theorem Ps {α:Type} [bG α] {W:World} {k:Nat} {f:FuncId} {args:Array Value} {x:α} (hb:Below W.heap.size W w) (hc:Calls P f args w (gh w x)) (h3:Φ i=ΦS W k x:=by rfl) (h4:i≠k:=by decide) (ho:ops[i]?=some o:=by rfl) (hw:Region.wanted o (yielded ops a.tmps)=true:=by rfl) (hr:(execOp a.eval o).run P w=.ok (.enter f args) w:=by(go_simp;try rfl)):wpOp P ops Q i (qI ops Φ i a col w) a w:=
 En f args ho hw hr hc fun e w2 h=>by rw[h3];exact ΦS.of_ret h hb.size h4
theorem gcL {α:Type} [bG α] {W:World} {k:Nat} {f:FuncId} {args:Array Value} {xs:List α} (hb:Below W.heap.size W w) (hc:Calls P f args w (Rt w xs)) (h3:Φ i=ΦL W k xs:=by rfl) (h4:i≠k:=by decide) (ho:ops[i]?=some o:=by rfl) (hw:Region.wanted o (yielded ops a.tmps)=true:=by rfl) (hr:(execOp a.eval o).run P w=.ok (.enter f args) w:=by(go_simp;try rfl)):wpOp P ops Q i (qI ops Φ i a col w) a w:=
 En f args ho hw hr hc fun e w2 h=>by rw[h3];exact ΦL.of_ret h hb.size h4
end
theorem aK.c14 {w:World} {g:Nat} {t:TypeId} {a0 a1 a2 a3 a4 a5 a6 a7 a8 a9 a10 a11 a12 a13:Value} (h:aK w g t #[a0,a1,a2,a3,a4,a5,a6,a7,a8,a9,a10,a11,a12,a13]):w.cell? ⟨g,0,none⟩=some a0∧w.cell? ⟨g,1,none⟩=some a1∧w.cell? ⟨g,2,none⟩=some a2∧w.cell? ⟨g,3,none⟩=some a3∧w.cell? ⟨g,4,none⟩=some a4∧w.cell? ⟨g,5,none⟩=some a5∧w.cell? ⟨g,6,none⟩=some a6∧w.cell? ⟨g,7,none⟩=some a7∧w.cell? ⟨g,8,none⟩=some a8∧w.cell? ⟨g,9,none⟩=some a9∧w.cell? ⟨g,10,none⟩=some a10∧w.cell? ⟨g,11,none⟩=some a11∧w.cell? ⟨g,12,none⟩=some a12∧w.cell? ⟨g,13,none⟩=some a13:=
 ⟨h.cell 0,h.cell 1,h.cell 2,h.cell 3,h.cell 4,h.cell 5,h.cell 6,h.cell 7,h.cell 8,h.cell 9,h.cell 10,h.cell 11,h.cell 12,h.cell 13⟩
theorem aK.at {w:World} {g:Nat} {t:TypeId} {cs:Array Value} (h:aK w g t cs) (i:Nat) {v:Value} (hv:cs[i]?=some v:=by rfl):w.cell? ⟨g,i,none⟩=some v:=(h.cell i).trans hv
end Go.Proofs.YtjlhbfbdcfajfaaGreatDoor
