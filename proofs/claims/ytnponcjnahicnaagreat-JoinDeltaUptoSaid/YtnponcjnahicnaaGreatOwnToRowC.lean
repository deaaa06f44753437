/- Parts of the proof. -/
import Derived.Test.YtnponcjnahicnaaGreatHdToData
import Derived.OrdersHeld
import Derived.OrdersIn
import Derived.Deep.Onto
import Derived.BigQuiet
set_option linter.unusedSimpArgs false
set_option linter.unusedVariables false
open List(map_toArray nil_append size_toArray take_left)
namespace Go.Ink
open Go.RowKit
def qcj (P:Program)(t e:TypeId)(size bytes:Nat):Prop:=
 P.underlying t=some (.slice e)/\0<size/\bytes<=4096/\ ∃i z,P.info? e=some i/\i.zero=some z/\i.size=size/\i.bytes=bytes/\z.cells.size=size
theorem qc2 {P:Program}{t e:TypeId}{z:Value}{size b:Nat}(h:P.underlying t=some (.slice e))(hi:(P.info? e).map (fun i=>(i.zero,i.size,i.bytes))=some (some z,size,b))(m:z.cells.size=size)(p:0<size)(d:b<=4096):qcj P t e size b:=by
 obtain⟨i,g,l,q,c⟩:=info_parts hi;exact⟨h,p,d,i,z,g,l,q,c,m⟩
theorem qao (w:World)(o:Obj)(k:Nat):(w.alloc o).heap[k]?=if k=w.heap.size then some o else w.heap[k]?:=by
 show(w.heap.push o)[k]?=_;rw [Array.getElem?_push]
theorem qgn {w:World}{B t:Nat}{v:Value}{c:Nat×Nat}(u:Value)(h:w.heap[B]?=some (.cells #[v] t c)):(w.setCell ⟨B,0,none⟩ u).heap[B]?=some (.cells #[u] t c):=by
 obtain⟨b,d⟩:=Array.getElem?_eq_some_iff.1 h;show(w.heap.modify B _)[B]?=_;rw [xT (by rw [Array.size_modify];exact b),Array.getElem_modify_self,d]
 rfl
theorem qag {w:World}{B t:Nat}{c:Array Value}{d:Nat×Nat}(i:Nat)(u:Value)(h:w.heap[B]?=some (.cells c t d)):(w.setCell ⟨B,i,none⟩ u).heap[B]?=some (.cells (c.setIfInBounds i u) t d):=by
 obtain⟨b,e⟩:=Array.getElem?_eq_some_iff.1 h;show(w.heap.modify B _)[B]?=_;rw [xT (by rw [Array.size_modify];exact b),Array.getElem_modify_self,e]
 rfl
variable {P : Program}
theorem app {t e:TypeId}{size X:Nat}(hE:qcj P t e size X)(ty:TypeId){w:World}{base:Nat}{v:Value}{n:Nat}{xs:List Value}(h:w.ownsRow base e size v n xs)
  (a:Addr) (m c:Nat) (d:List Value) (hl:d.length=m*size) (q: ∀j u,d[j]?=some u->w.cell? (a.add j)=some u) (h1: ∀u∈d,u.oneCell'=true)
  (aw:0<m) (ag:n+m<=8589934592) (aa:base<=w.heap.size):
  ∃v' w',(Builtin.append_ #[t,t] ty #[v,.slice (some a) m c]).run P w=.ok v' w'/\w'.ownsRow base e size v' (n+m) (xs++d)/\Keep (fun b=>some b≠v.ownBlock) w w'/\
   ∃g cap,v'=.slice (some ⟨g,0,none⟩) (n+m) cap/\(v.ownBlock=some g∨w.heap.size<=g)/\g<w'.heap.size:=by
 obtain⟨ht,ap,aj,i,z,hi,hz,Y,y,al⟩:=hE;subst Y;subst y;have R:(n+m)*i.bytes<=140737488355328:=zW (Nat.mul_le_mul ag aj) wF;have am:n+m<=maxLen:=by simp only [maxLen];omega
 have r:(xs++d).length=(n+m)*i.size:=by rw [zR,h.1,hl,xK]
 have x: ∀(l:Nat),l<n+m-> ∀(row:Option Nat),
   (w.drew.alloc (.cells (xs.toArray++d.toArray++Builtin.zeroCells z.cells (grownCap w (n+m) l e-(n+m))) e)).ownsRow base e i.size
    (.slice (some ⟨w.heap.size,0,none⟩) (n+m) (grownCap w (n+m) l e)) (n+m) (xs++d)/\
   w.grownBy (w.drew.alloc (.cells (xs.toArray++d.toArray++Builtin.zeroCells z.cells (grownCap w (n+m) l e-(n+m))) e)) row:=by
  intro l ho row;have ah:=grownCap_ge w (n+m) l e;have U:grownCap w (n+m) l e<=maxLen:=grownCap_le_maxLen w (n+m) l e am;refine⟨⟨r,.inr ⟨w.heap.size,_,_,rfl,aa,xP w.drew _,ah,U,?_,?_⟩⟩,⟨rfl,rfl,rfl,wE,fun k hk _=>xO w.drew _ k hk⟩⟩
  ·simp only [Array.size_append,size_toArray,size_zeroCells,al,h.1,hl,←xK]
   congr 1
   omega
  ·simp only [Array.toList_append,yu];rw [←yu,←r];exact take_left
 rcases h.2 with ⟨rfl,rfl⟩ |⟨g,cap,cur,rfl,hbg,hg,hnc,U,hcs,htake⟩
 ·have hx:xs= []:=yq (by simpa using h.1);subst hx;have hr:=run_append_nil (P:=P) w t ty e i z ht hi hz a m c d hl q wC wC (by have hb:=R;simp only [zD] at hb;omega);have s:=x 0 wC (Value.ownBlock (.slice none 0 0));simp only [zD,nil_append,Array.empty_append]at s⊢;exact⟨_,_,hr,s.1,Keep.of_grown s.2,_,_,rfl,.inr (zG _),wE⟩
 ·by_cases p:n+m<=cap
  ·have ae:n*i.size+d.length<=cur.size:=by rw [hl,hcs,←xK];exact yY _ p
   have hr:=run_append_room (P:=P) w t ty e i ht hi g n cap cur hg a m c d hl q h1 p ae;have hG:w.grownBy (w.setRow g (cur.toList.take (n*i.size)++d++cur.toList.drop (n*i.size+d.length)).toArray) (some g):=⟨rfl,rfl,rfl,wE,fun k _ hk=>setRow_other w g k _ (fun e=>hk (by simp [e]))⟩;refine⟨_,_,hr,⟨r,.inr ⟨g,cap,_,rfl,hbg,setRow_heap w g cur _ e _ hg,p,U,?_,?_⟩⟩,Keep.of_grown hG,g,cap,rfl,.inl rfl,?_⟩
   ·simp only [size_toArray,zR,yC,xx,Array.length_toList];omega
   ·rw [htake,←r];exact take_left
   ·exact zk (qe hg) hG.size
  ·have holds: ∀j u,xs[j]?=some u->w.cell? ((⟨g,0,none⟩:Addr).add j)=some u:=h.cells (g:=g) rfl;have hr:=run_append_grow (P:=P) w t ty e i z ht hi hz ⟨g,0,none⟩ n cap xs h.1 holds a m c d hl q wC wC (growslice_fits wC R);have s:=x cap wC (Value.ownBlock (.slice (some ⟨g,0,none⟩) n cap));exact⟨_,_,hr,s.1,Keep.of_grown s.2,_,_,rfl,.inr (zG _),wE⟩
theorem qc8 {t e:TypeId}{size d:Nat}(R:qcj P t e size d)(r:TypeId){w:World}{base:Nat}{v:Value}{n:Nat}{xs:List Value}(l:w.ownsRow base e size v n xs)
  (c:List Value) (Y:c.length=size) (z: ∀u∈c,u.oneCell'=true) (p:n+1<=8589934592) (q:base<=w.heap.size):
  ∃v' w',(Builtin.append_ #[t,t] r #[v,.slice (some ⟨w.heap.size,0,none⟩) 1 1]).run P (w.alloc (.cells c.toArray e))=.ok v' w'/\w'.ownsRow base e size v' (n+1) (xs++c)/\Keep (fun b=>some b≠v.ownBlock) w w'/\
   ∃g cap,v'=.slice (some ⟨g,0,none⟩) (n+1) cap/\(v.ownBlock=some g∨w.heap.size<=g)/\g<w'.heap.size:=by
 have s:wG w (w.alloc (.cells c.toArray e)):=kAl;obtain⟨v',w',x,ho,hK,g,cap,y,U,m⟩:=app R r (qf l s (fun _ _=>wH)) ⟨w.heap.size,0,none⟩ 1 1 c wC (fun j u X=>by
   have:=qb (qh w (.cells c.toArray e)) j u (by simpa using X);simp only [zD]at this;rw [show((⟨w.heap.size,0,none⟩:Addr).add j)=⟨w.heap.size,j,none⟩ from by unfold Addr.add;split<;>simp_all];exact this) z wC p (by simp;omega)
 refine⟨v',w',x,ho,s.mt.trans hK,g,cap,y,U.imp id (fun h=>?_),m⟩;simp at h;omega
theorem qck {F:Fence}{n:Nat}{w w':World}{ops:Array Oper}{rest:List Oper}{o:Oper}{a:Act}{Q:Exit->Act->World->Prop}{v u v':Value}
  (g:o.guard=none) (s x:Operand) (t:TypeId) (b:o.op=Op.call {callee:=Callee.builtin Builtin.append,args:= #[s,x],argTypes:= #[t,t]}) (hs:a.eval s=v) (hx:a.eval x=u)
  (hrun:(Builtin.append_ #[t,t] o.type #[v,u]).run P w=.ok v' w') (hK:wpListIn F n P ops Q rest (a.put o.dst v') w'):wpListIn F n P ops Q (o::rest) a w:=by
 refine wpListIn_plain g fun K e=>?_;unfold Oper.wpIn;refine⟨?_,?_⟩
 ·simp [Oper.about,b,resolve,Target.leads,Sem.run_pure]
 ·rw [Oper.semAt_plain F _ _ (by rw [b];intro c d;cases d)];simp [execOp,b,resolve,invoke,builtin,hs,hx,hrun,Result.andThen];exact e _ _ hK
theorem qbu {w w':World}{ops:Array Oper}{rest:List Oper}{o:Oper}{a:Act}{Q:Exit->Act->World->Prop}{v u v':Value}
  (d:o.guard=none) (s x:Operand) (t:TypeId) (c:o.op=Op.call {callee:=Callee.builtin Builtin.append,args:= #[s,x],argTypes:= #[t,t]}) (hs:a.eval s=v) (hx:a.eval x=u)
  (hrun:(Builtin.append_ #[t,t] o.type #[v,u]).run P w=.ok v' w') (hK:wpList P ops Q rest (a.put o.dst v') w'):wpList P ops Q (o::rest) a w:=by
 refine wpList_plain d fun K b=>?_;unfold Oper.wp execOp;simp only [c,resolve,invoke,builtin,yt,Sem.run_pure,Result.andThen_ok,map_toArray,yZ,xk,hs,hx,hrun];exact b _ _ hK
variable {P : Program}
theorem q8r {t e:TypeId}{size Y:Nat}(hE:qcj P t e size Y)(ty:TypeId){w:World}{base:Nat}{v:Value}{n:Nat}{xs:List Value}(l:w.ownsRow base e size v n xs)
  (a:Addr) (m c:Nat) (d:List Value) (hl:d.length=m*size) (r: ∀j u,d[j]?=some u->w.cell? (a.add j)=some u) (h1: ∀u∈d,u.oneCell'=true)
  (ax:0<m) (ah:n+m<=8589934592) (ab:base<=w.heap.size):
  ∃v' w',(Builtin.append_ #[t,t] ty #[v,.slice (some a) m c]).run P w=.ok v' w'/\w'.ownsRow base e size v' (n+m) (xs++d)/\
   ∃g cap,v'=.slice (some ⟨g,0,none⟩) (n+m) cap/\(v.ownBlock=some g∨w.heap.size<=g)/\g<w'.heap.size/\Keep (fun b=>b≠g) w w':=by
 obtain⟨ht,aq,ak,i,z,hi,hz,aa,R,am⟩:=hE;subst aa;subst R;have U:(n+m)*i.bytes<=140737488355328:=zW (Nat.mul_le_mul ah ak) wF;have an:n+m<=maxLen:=by simp only [maxLen];omega
 have s:(xs++d).length=(n+m)*i.size:=by rw [zR,l.1,hl,xK]
 have y: ∀(p:Nat),p<n+m-> ∀(row:Option Nat),
   (w.drew.alloc (.cells (xs.toArray++d.toArray++Builtin.zeroCells z.cells (grownCap w (n+m) p e-(n+m))) e)).ownsRow base e i.size
    (.slice (some ⟨w.heap.size,0,none⟩) (n+m) (grownCap w (n+m) p e)) (n+m) (xs++d)/\
   w.grownBy (w.drew.alloc (.cells (xs.toArray++d.toArray++Builtin.zeroCells z.cells (grownCap w (n+m) p e-(n+m))) e)) row:=by
  intro p ho row;have ai:=grownCap_ge w (n+m) p e;have X:grownCap w (n+m) p e<=maxLen:=grownCap_le_maxLen w (n+m) p e an;refine⟨⟨s,.inr ⟨w.heap.size,_,_,rfl,ab,xP w.drew _,ai,X,?_,?_⟩⟩,⟨rfl,rfl,rfl,wE,fun k hk _=>xO w.drew _ k hk⟩⟩
  ·simp only [Array.size_append,size_toArray,size_zeroCells,am,l.1,hl,←xK]
   congr 1
   omega
  ·simp only [Array.toList_append,yu];rw [←yu,←s];exact take_left
 rcases l.2 with ⟨rfl,rfl⟩ |⟨g,cap,cur,rfl,hbg,hg,hnc,X,hcs,htake⟩
 ·have hx:xs= []:=yq (by simpa using l.1);subst hx;have hr:=run_append_nil (P:=P) w t ty e i z ht hi hz a m c d hl r wC wC (by have hb:=U;simp only [zD] at hb;omega);have x:=y 0 wC none;simp only [zD,nil_append,Array.empty_append]at x⊢;exact⟨_,_,hr,x.1,_,_,rfl,.inr (zG _),wE,(Keep.of_grown x.2).mono fun _ _ _=>wE⟩
 ·by_cases q:n+m<=cap
  ·have af:n*i.size+d.length<=cur.size:=by rw [hl,hcs,←xK];exact yY _ q
   have hr:=run_append_room (P:=P) w t ty e i ht hi g n cap cur hg a m c d hl r h1 q af;have hG:w.grownBy (w.setRow g (cur.toList.take (n*i.size)++d++cur.toList.drop (n*i.size+d.length)).toArray) (some g):=⟨rfl,rfl,rfl,wE,fun k _ hk=>setRow_other w g k _ (fun e=>hk (by simp [e]))⟩;refine⟨_,_,hr,⟨s,.inr ⟨g,cap,_,rfl,hbg,setRow_heap w g cur _ e _ hg,q,X,?_,?_⟩⟩,g,cap,rfl,.inl rfl,?_,(Keep.of_grown hG).mono fun _ _ h=>by simpa using h⟩
   ·simp only [size_toArray,zR,yC,xx,Array.length_toList];omega
   ·rw [htake,←s];exact take_left
   ·exact zk (qe hg) hG.size
  ·have holds: ∀j u,xs[j]?=some u->w.cell? ((⟨g,0,none⟩:Addr).add j)=some u:=l.cells (g:=g) rfl;have hr:=run_append_grow (P:=P) w t ty e i z ht hi hz ⟨g,0,none⟩ n cap xs l.1 holds a m c d hl r wC wC (growslice_fits wC U);have x:=y cap wC none;exact⟨_,_,hr,x.1,_,_,rfl,.inr (zG _),wE,(Keep.of_grown x.2).mono fun _ _ _=>wE⟩
theorem qw4 {t e:TypeId}{size d:Nat}(s:qcj P t e size d)(m:TypeId)(w:World)(b:Option Addr)(n cap:Nat)(l:n<=cap)(a:Option Addr)(c:Nat):
  (Builtin.append_ #[t,t] m #[.slice b n cap,.slice a 0 c]).run P w=.ok (.slice b n cap) w:=by
 obtain⟨q,p,r,i,z,hi,v,h,g,u⟩:=s;cases a<;>cases b<;>simp [Builtin.append_,yo q,sizeOf,typeInfo,hi,Builtin.lenOf,Builtin.firstCells,loadCells,loadCellsFrom,l,storeCells]
theorem qhz {t e:TypeId}{size q:Nat}(hE:qcj P t e size q)(U:TypeId){w:World}{base:Nat}{v:Value}{n:Nat}{xs:List Value}(l:w.ownsRow base e size v n xs)
  (a:Option Addr) (m c:Nat) (d:List Value) (Y:d.length=m*size) (r: ∀b,a=some b-> ∀j u,d[j]?=some u->w.cell? (b.add j)=some u) (hn:a=none->m=0) (h1: ∀u∈d,u.oneCell'=true)
  (z:n+m<=8589934592) (s:base<=w.heap.size):
  ∃v' w',(Builtin.append_ #[t,t] U #[v,.slice a m c]).run P w=.ok v' w'/\w'.ownsRow base e size v' (n+m) (xs++d)/\(∀g,v'.ownBlock=some g->v.ownBlock=some g∨w.heap.size<=g)/\Keep (fun b=>v'.ownBlock≠some b) w w':=by
 by_cases h0:m=0
 ·subst h0;have:d= []:=yq (by simpa using Y);subst this;rw [yQ];have x: ∃b y cap,v=.slice b y cap/\y<=cap:=by
   rcases l.2 with ⟨e1,e2⟩ |⟨g,cap,cur,e1,e2,e3,e4,e5,_⟩
   ·exact⟨none,0,0,e1,zG _⟩
   ·exact⟨_,_,_,e1,e4⟩
  obtain⟨b,y,cap,rfl,X⟩:=x;exact⟨_,_,qw4 hE U w b y cap X a c,l,fun g R=>.inl R,Keep.refl _ _⟩
 ·cases a with
  |none=>exact absurd (hn rfl) h0
  |some ad=>
   obtain⟨v',w',hr,ho,g,cap,x,R,af,hK⟩:=q8r hE U l ad m c d Y (r ad rfl) h1 wC z s;refine⟨v',w',hr,ho,fun g' p=>?_,hK.mono fun b _ h e=>h ?_⟩
   ·rw [x]at p;simp only [Value.ownBlock,yd]at p;subst p;exact R
   ·rw [x,e];rfl
section
variable {P : Program} {ops : Array Oper} {Q : Exit -> Act -> World -> Prop} {md : Region.Mode} {S : World -> Prop} {late : List Nat}
def qc6 (P:Program)(md:Region.Mode)(ops:Array Oper)(Q:Exit->Act->World->Prop)(S:World->Prop)(late:List Nat):Nat->Array Bool->Act->World->Prop
 |0,listed,a,w=>Region.ready md ops listed= []/\Q .normal a w
 |fuel+1,listed,a,w=>
  (Region.ready md ops listed= []->Q .normal a w)/\
  ∀i∈Region.ready md ops listed,wpOp P ops Q i (fun a' w'=>(late.contains i=false->S w')/\qc6 P md ops Q S late fuel (listed.setIfInBounds i true) a' w') a w
theorem qqq: ∀(fuel:Nat) (listed:Array Bool) (a:Act) (w:World),qc6 P md ops Q S late fuel listed a w->wpAny P md ops Q fuel listed a w
 |0,_,_,_,h=>h
 |fuel+1,_,_,_,h=>⟨h.1,fun i hi=>wpOp_mono (fun a' w' h'=>qqq fuel _ a' w' h'.2) (h.2 i hi)⟩
def qg5 (md:Region.Mode)(ops:Array Oper)(late:List Nat)(i:Nat):Bool:=
 late.all fun j=>match ops[j]? with
  |some oj=>oj.after.any fun e=>Region.binds md e&&e.on==i
  |none=>false
theorem quu {i:Nat}{x:Oper}{v:Value}(hi:ops[i]?=some x)(p: ∀(j:Nat) (o:Oper) cs b,ops[j]?=some o->o.op≠.select cs b)
  (hQ: ∀c a w,Q (.panic c) (a.put x.dst v) w->Q (.panic c) a w) (u:qg5 md ops late i=true):
  ∀(fuel:Nat) (listed:Array Bool) (a:Act) (w:World),
   (∀j oj,ops[j]?=some oj->j≠i->listed.getD j true=false->(∀e∈oj.after,Region.binds md e=true->e.on≠i)->x.apart ops oj=true)->
   i∈Region.ready md ops listed->YieldsIf P ops S x v a->S w->
   qc6 P md ops Q S late fuel (listed.setIfInBounds i true) (a.put x.dst v) w->qc6 P md ops Q S late (fuel+1) listed a w:=by
 intro fuel
 induction fuel with
 |zero=>
  intro listed a w _ t hy R H;refine⟨fun h=>(by rw [h] at t;cases t),fun j hj=>?_⟩;by_cases d:j=i
  ·subst d;exact hy.wpOp hi R ⟨fun _=>R,H⟩
  ·have:=ready_mono hj d;rw [H.1]at this;cases this
 |succ fuel ih=>
  intro listed a w g t hy R H;refine⟨fun h=>(by rw [h] at t;cases t),fun j hj=>?_⟩;by_cases d:j=i
  ·subst d;exact hy.wpOp hi R ⟨fun _=>R,H⟩
  ·have s:=H.2 j (ready_mono hj d);obtain⟨r,oj,m,y⟩:=mem_ready.1 hj;have q: ∀e∈oj.after,Region.binds md e=true->e.on≠i:=fun e he Y ah=>by
    have s:=y e he Y;have h0:=(mem_ready.1 t).1;rw [ah]at s;rcases y7 i listed.size with h' |h'
    ·simp [h']at h0 s;rw [h0]at s;cases s
    ·simp [Array.getElem?_eq_none h']at s
   have ai:late.contains j=false:=by
    cases hc:late.contains j with
    |false=>rfl
    |true=>
     have hm:j∈late:=by simpa using hc
     have:=yM.1 u j hm;rw [m]at this;simp only at this;obtain⟨e,he,Y⟩:=Array.any_eq_true'.1 this;simp only [zV,xE]at Y;exact absurd Y.2 (q e he Y.1)
   have h2:=wpOp_putIf m (g j oj m d r q) (fun cs b=>p i x cs b hi) (fun cs b=>p j oj cs b m) hQ hy s;have l: ∀k X,ops[k]?=some X->k≠i->(listed.setIfInBounds j true).getD k true=false->
     (∀e∈X.after,Region.binds md e=true->e.on≠i)->x.apart ops X=true:=fun k X hk af z ae=>by
    refine g k X hk af ?_ ae;by_cases U:j=k
    ·subst U;exact r
    ·rw [getD_set_ne true U]at z;exact z
   refine wpOp_mono (fun a' w' h3=>⟨h3.2.1,ih (listed.setIfInBounds j true) a' w' l (ready_mono t (Ne.symm d)) h3.1 (h3.2.1 ai) ?_⟩) h2;rw [Array.setIfInBounds_comm _ _ d];exact h3.2.2
theorem qzs {i:Nat}{e:Oper}{v:Value}{d:Nat}{b:Array Bool}{a:Act}{w:World}(hi:ops[i]?=some e)
  (q:Region.noSelect ops=true) (r:Region.free md ops b i=true) (l:(Region.ready md ops b).contains i=true) (m:qg5 md ops late i=true)
  (s: ∀c a w,Q (.panic c) (a.put e.dst v) w->Q (.panic c) a w) (p:S w) (g:YieldsIf P ops S e v a)
  (h:qc6 P md ops Q S late d (b.setIfInBounds i true) (a.put e.dst v) w):qc6 P md ops Q S late (d+1) b a w:=
 quu hi (Region.noSelect_spec q) s m d b a w (Region.free_spec hi r) (by simpa using l) g p h
theorem qf5 {i:Nat}{m:Oper}{g:Nat}{b:Array Bool}{a:Act}{w:World}(hi:ops[i]?=some m)(s:Region.ready md ops b= [i])
  (h: ∀K:Act->World->Prop,(∀a' w',(late.contains i=false->S w')->qc6 P md ops Q S late g (b.setIfInBounds i true) a' w'->K a' w')->wpList P ops (Exit.then K Q) [m] a w):
  qc6 P md ops Q S late (g+1) b a w:=by
 refine⟨fun v=>(by rw [s] at v;cases v),fun j t=>?_⟩;rw [s]at t;have p:j=i:=by simpa using t
 subst p;have c:=h (fun a' w'=>(late.contains j=false->S w')/\qc6 P md ops Q S late g (b.setIfInBounds j true) a' w') (fun a' w' x y=>⟨x,y⟩);unfold wpOp;rw [hi];unfold wpList at c;simp only at c⊢;split
 ·rename_i hw;rw [zI hw]at c;rcases c with c |c
  ·refine .inl ?_;unfold Oper.wp at c⊢;generalize (execOp a.eval m).run P w=r at c⊢;cases r with
   |ok n w'=>
    cases n<;>simp only [Oper.upon] at c⊢
    case value u=>exact c
    case skip=>exact c
    case defer d=>exact c
    case enter f args=>exact Calls.mono c fun e l q=>by cases e<;>exact q
    case row row args=>exact Rows.mono c fun u l q=>q
   |halt x w'=>cases x<;>simp only [Oper.upon] at c⊢;exact c
  ·exact .inr c
 ·rename_i hw;rw [zF hw]at c;exact c
theorem qbh {c:Nat}{b:Array Bool}{a:Act}{w:World}(d:Region.ready md ops b= [])(h:Q .normal a w):qc6 P md ops Q S late c b a w:=by
 cases c with
 |zero=>exact⟨d,h⟩
 |succ n=>exact⟨fun _=>h,fun i hi=>(by rw [d] at hi;cases hi)⟩
theorem qa5 {b:Nat}{a:Act}{w:World}(c:P.follows .mixedOrders=true)(S:World->Prop)(late:List Nat)
  (h:qc6 P .any ops Q S late ops.size (Array.replicate ops.size false) a w.drew):(Code.region b ops true).wp P Q a w:=
 wp_region_any c (qqq _ _ _ _ h)
end
section
variable {P : Program} {ops : Array Oper} {Q : Exit -> Act -> World -> Prop} {md : Region.Mode} {S : World -> Prop} {late : List Nat}
theorem qnn {i:Nat}{g:Oper}{a:Act}{w:World}{K:Act->World->Prop}(hi:ops[i]?=some g)(b:wpList P ops (Exit.then K Q) [g] a w):wpOp P ops Q i K a w:=by
 unfold wpOp;rw [hi];unfold wpList at b;simp only at b⊢;split
 ·rename_i hw;rw [zI hw]at b;rcases b with b |b
  ·refine .inl ?_;unfold Oper.wp at b⊢;generalize (execOp a.eval g).run P w=r at b⊢;cases r with
   |ok n w'=>
    cases n<;>simp only [Oper.upon] at b⊢
    case value u=>exact b
    case skip=>exact b
    case defer d=>exact b
    case enter f args=>exact Calls.mono b fun e c h=>by cases e<;>exact h
    case row row args=>exact Rows.mono b fun u c h=>h
   |halt x w'=>cases x<;>simp only [Oper.upon] at b⊢;exact b
  ·exact .inr b
 ·rename_i hw;rw [zF hw]at b;exact b
theorem q2i {i j:Nat}{h g:Oper}{c:Nat}{b:Array Bool}{a:Act}{w:World}(hi:ops[i]?=some h)(q:ops[j]?=some g)(e:Region.ready md ops b= [i,j])
  (m: ∀K:Act->World->Prop,(∀a' w',(late.contains i=false->S w')->qc6 P md ops Q S late c (b.setIfInBounds i true) a' w'->K a' w')->wpList P ops (Exit.then K Q) [h] a w)
  (p: ∀K:Act->World->Prop,(∀a' w',(late.contains j=false->S w')->qc6 P md ops Q S late c (b.setIfInBounds j true) a' w'->K a' w')->wpList P ops (Exit.then K Q) [g] a w):
  qc6 P md ops Q S late (c+1) b a w:=by
 refine⟨fun l=>(by rw [e] at l;cases l),fun k d=>?_⟩;rw [e]at d;rcases zw.1 d with rfl |d
 ·exact qnn hi (m (fun a' w'=>(late.contains k=false->S w')/\qc6 P md ops Q S late c (b.setIfInBounds k true) a' w') (fun a' w' x y=>⟨x,y⟩))
 ·rcases zw.1 d with rfl |d
  ·exact qnn q (p (fun a' w'=>(late.contains k=false->S w')/\qc6 P md ops Q S late c (b.setIfInBounds k true) a' w') (fun a' w' x y=>⟨x,y⟩))
  ·cases d
end
section
variable {F : Fence} {n : Nat} {P : Program} {ops : Array Oper} {Q : Exit -> Act -> World -> Prop} {md : Region.Mode} {S : World -> Prop} {late : List Nat}
theorem qmn {i:Nat}{o:Oper}{v:Value}{a:Act}(d: ∀f,F.fn f)(b: ∀c,o.op≠.defer c)(hi:ops[i]?=some o)(e:YieldsIf P ops S o v a)
  {K:Act->World->Prop} {w:World} (g:S w) (h:K (a.put o.dst v) w):wpOpIn F n P ops Q i K a w:=by
 unfold Go.wpOpIn;simp only [hi];rcases e with ⟨hw,hv⟩ |⟨hw,rfl⟩
 ·simp only [hw,yj];unfold Oper.wpIn;rw [Oper.semAt_plain F _ _ b,hv w g];exact⟨fun f _=>d f,h⟩
 ·simp only [hw,zz,xA];exact⟨fun f _=>d f,h⟩
theorem quv {j:Nat}{g m:Oper}{v:Value}(hF: ∀f,F.fn f)(z: ∀c,m.op≠.defer c)(hj:ops[j]?=some m)(R:g.apart ops m=true)
  (U: ∀cs b,g.op≠.select cs b) (X: ∀cs b,m.op≠.select cs b)
  (Y: ∀c a w,Q (.panic c) (a.put g.dst v) w->Q (.panic c) a w) {K:Act->World->Prop} {a:Act} {w:World}
  (p:YieldsIf P ops S g v a) (h:wpOpIn F n P ops Q j K (a.put g.dst v) w):
  wpOpIn F n P ops Q j (fun a' w'=>YieldsIf P ops S g v a'/\K (a'.put g.dst v) w') a w:=by
 obtain⟨h1,s,h3⟩:=Oper.apart_spec R;have keep: ∀(a:Act),YieldsIf P ops S g v a-> ∀u,YieldsIf P ops S g v (a.put m.dst u):=fun a p u=>
  p.of_same (execOp_put g U a m.dst u h3) (wanted_put g a m.dst u h3)
 have t: ∀d,YieldsIf P ops S g v {a with defers:=d::a.defers}:=fun d=>p.of_same rfl rfl;unfold wpOpIn at*;simp only [hj]at*;rw [wanted_put m a g.dst v h1]at h;split
 ·rename_i hw;simp only [hw,yj]at h;unfold Oper.wpIn at*;refine⟨fun f _=>hF f,?_⟩;have h:=h.2;rw [Oper.semAt_plain F _ _ z,execOp_put m X a g.dst v h1]at h;rw [Oper.semAt_plain F _ _ z];generalize (execOp a.eval m).run P w=r at*;cases r with
  |ok x w'=>
   cases x<;>simp only [Oper.uponIn] at h⊢
   case value u=>exact⟨keep a p u,by rw [←Act.put_comm a v u s];exact h⟩
   case skip=>exact⟨keep a p _,by rw [←Act.put_comm a v undef s];exact h⟩
   case defer d=>
    refine⟨keep _ (t d) _,?_⟩;rw [←Act.put_comm _ v undef s,←Act.put_defers];exact h
   case enter f args=>
    refine⟨h.1,CallsIn.mono h.2 fun e y q=>?_⟩;cases e with
    |returned u=>exact⟨keep a p u,by rw [←Act.put_comm a v u s];exact q⟩
    |panicked c=>exact Y _ _ _ q
    |outgrown=>exact q
   case row row args=>exact⟨h.1,RowsIn.mono h.2 fun u y q=>⟨keep a p u,by rw [←Act.put_comm a v u s];exact q⟩⟩
   case round l f tmps assign body=>
    refine⟨h.1,RoundIn.mono h.2 fun e y q=>?_⟩;cases e with
    |returned u=>exact⟨keep a p u,by rw [←Act.put_comm a v u s];exact q⟩
    |panicked c=>exact Y _ _ _ q
    |outgrown=>exact q
  |halt x w'=>
   cases x<;>simp only [Oper.uponIn] at h⊢
   case panic u=>exact Y _ _ _ h
 ·rename_i hw;simp only [hw]at h;exact⟨fun f _=>hF f,keep a p _,by rw [←Act.put_comm a v undef s];exact h.2⟩
def qdh (F:Fence)(n:Nat)(P:Program)(md:Region.Mode)(ops:Array Oper)(Q:Exit->Act->World->Prop)(S:World->Prop)(late:List Nat):Nat->Array Bool->Act->World->Prop
 |0,listed,a,w=>Region.ready md ops listed= []/\Q .normal a w
 |fuel+1,listed,a,w=>
  (Region.ready md ops listed= []->Q .normal a w)/\
  ∀i∈Region.ready md ops listed,wpOpIn F n P ops Q i (fun a' w'=>(late.contains i=false->S w')/\qdh F n P md ops Q S late fuel (listed.setIfInBounds i true) a' w') a w
theorem qno: ∀(fuel:Nat) (listed:Array Bool) (a:Act) (w:World),qdh F n P md ops Q S late fuel listed a w->wpAnyIn F n P md ops Q fuel listed a w
 |0,_,_,_,h=>h
 |fuel+1,_,_,_,h=>⟨h.1,fun i hi=>wpOpIn_mono (fun a' w' h'=>qno fuel _ a' w' h'.2) (h.2 i hi)⟩
theorem quw {i:Nat}{p:Oper}{v:Value}(hF: ∀f,F.fn f)(u: ∀(j:Nat) (o:Oper) c,ops[j]?=some o->o.op≠.defer c)(hi:ops[i]?=some p)(q: ∀(j:Nat) (o:Oper) cs b,ops[j]?=some o->o.op≠.select cs b)
  (hQ: ∀c a w,Q (.panic c) (a.put p.dst v) w->Q (.panic c) a w) (y:qg5 md ops late i=true):
  ∀(fuel:Nat) (listed:Array Bool) (a:Act) (w:World),
   (∀j oj,ops[j]?=some oj->j≠i->listed.getD j true=false->(∀e∈oj.after,Region.binds md e=true->e.on≠i)->p.apart ops oj=true)->
   i∈Region.ready md ops listed->YieldsIf P ops S p v a->S w->
   qdh F n P md ops Q S late fuel (listed.setIfInBounds i true) (a.put p.dst v) w->qdh F n P md ops Q S late (fuel+1) listed a w:=by
 intro fuel
 induction fuel with
 |zero=>
  intro listed a w _ x hy U H;refine⟨fun h=>(by rw [h] at x;cases x),fun j hj=>?_⟩;by_cases d:j=i
  ·subst d;exact qmn hF (fun c=>u j p c hi) hi hy U ⟨fun _=>U,H⟩
  ·have:=ready_mono hj d;rw [H.1]at this;cases this
 |succ fuel ih=>
  intro listed a w l x hy U H;refine⟨fun h=>(by rw [h] at x;cases x),fun j hj=>?_⟩;by_cases d:j=i
  ·subst d;exact qmn hF (fun c=>u j p c hi) hi hy U ⟨fun _=>U,H⟩
  ·have t:=H.2 j (ready_mono hj d);obtain⟨s,oj,g,z⟩:=mem_ready.1 hj;have r: ∀e∈oj.after,Region.binds md e=true->e.on≠i:=fun e he hb ai=>by
    have t:=z e he hb;have h0:=(mem_ready.1 x).1;rw [ai]at t;rcases y7 i listed.size with h' |h'
    ·simp [h']at h0 t;rw [h0]at t;cases t
    ·simp [Array.getElem?_eq_none h']at t
   have aj:late.contains j=false:=by
    cases hc:late.contains j with
    |false=>rfl
    |true=>
     have hm:j∈late:=by simpa using hc
     have:=yM.1 y j hm;rw [g]at this;simp only at this;obtain⟨e,he,hb⟩:=Array.any_eq_true'.1 this;simp only [zV,xE]at hb;exact absurd hb.2 (r e he hb.1)
   have h2:=quv hF (fun c=>u j oj c g) g (l j oj g d s r) (fun cs b=>q i p cs b hi) (fun cs b=>q j oj cs b g) hQ hy t;have m: ∀k Y,ops[k]?=some Y->k≠i->(listed.setIfInBounds j true).getD k true=false->
     (∀e∈Y.after,Region.binds md e=true->e.on≠i)->p.apart ops Y=true:=fun k Y hk ag R af=>by
    refine l k Y hk ag ?_ af;by_cases X:j=k
    ·subst X;exact s
    ·rw [getD_set_ne true X]at R;exact R
   refine wpOpIn_mono (fun a' w' h3=>⟨h3.2.1,ih (listed.setIfInBounds j true) a' w' m (ready_mono x (Ne.symm d)) h3.1 (h3.2.1 aj) ?_⟩) h2;rw [Array.setIfInBounds_comm _ _ d];exact h3.2.2
def qog (ops:Array Oper):Bool:=ops.all fun o=>match o.op with |.defer _=>false |_=>true
theorem qux {ops:Array Oper}(h:qog ops=true)(j:Nat)(o:Oper)(c:Call)(b:ops[j]?=some o):o.op≠.defer c:=fun e=>by
 have:=Array.all_eq_true_iff_forall_mem.1 h o (Array.mem_of_getElem? b);rw [e]at this;cases this
theorem qoy {i:Nat}{e:Oper}{v:Value}{d:Nat}{b:Array Bool}{a:Act}{w:World}(t: ∀f,F.fn f)(g:qog ops=true)(hi:ops[i]?=some e)
  (r:Region.noSelect ops=true) (s:Region.free md ops b i=true) (m:(Region.ready md ops b).contains i=true) (p:qg5 md ops late i=true)
  (x: ∀c a w,Q (.panic c) (a.put e.dst v) w->Q (.panic c) a w) (q:S w) (l:YieldsIf P ops S e v a)
  (h:qdh F n P md ops Q S late d (b.setIfInBounds i true) (a.put e.dst v) w):qdh F n P md ops Q S late (d+1) b a w:=
 quw t (fun j o c u=>qux g j o c u) hi (Region.noSelect_spec r) x p d b a w (Region.free_spec hi s) (by simpa using m) l q h
theorem qgd {i:Nat}{q:Oper}{g:Nat}{b:Array Bool}{a:Act}{w:World}(hi:ops[i]?=some q)(t:Region.ready md ops b= [i])
  (h: ∀K:Act->World->Prop,(∀a' w',(late.contains i=false->S w')->qdh F n P md ops Q S late g (b.setIfInBounds i true) a' w'->K a' w')->wpListIn F n P ops (Exit.then K Q) [q] a w):
  qdh F n P md ops Q S late (g+1) b a w:=by
 refine⟨fun z=>(by rw [t] at z;cases z),fun j v=>?_⟩;rw [t]at v;have s:j=i:=by simpa using v
 subst s;have c:=h (fun a' w'=>(late.contains j=false->S w')/\qdh F n P md ops Q S late g (b.setIfInBounds j true) a' w') (fun a' w' x y=>⟨x,y⟩);unfold wpOpIn;rw [hi];unfold wpListIn at c;simp only at c⊢;split
 ·rename_i hw;rw [zI hw]at c;unfold Oper.wpIn at c⊢;refine⟨c.1,?_⟩;have c:=c.2;generalize (q.semAt F.round a.eval).run P w=r at c⊢;cases r with
  |ok x w'=>
   cases x<;>simp only [Oper.uponIn] at c⊢
   case value u=>exact c
   case skip=>exact c
   case defer d=>exact c
   case enter f args=>exact⟨c.1,CallsIn.mono c.2 fun e m p=>by cases e<;>exact p⟩
   case row row args=>exact⟨c.1,RowsIn.mono c.2 fun u m p=>p⟩
   case round l f tmps assign body=>exact⟨c.1,RoundIn.mono c.2 fun e m p=>by cases e<;>exact p⟩
  |halt x w'=>cases x<;>simp only [Oper.uponIn] at c⊢;exact c
 ·rename_i hw;rw [zF hw]at c;exact c
theorem ql {c:Nat}{b:Array Bool}{a:Act}{w:World}(d:Region.ready md ops b= [])(h:Q .normal a w):qdh F n P md ops Q S late c b a w:=by
 cases c with
 |zero=>exact⟨d,h⟩
 |succ k=>exact⟨fun _=>h,fun i hi=>(by rw [d] at hi;cases hi)⟩
theorem qw {b:Nat}{a:Act}{w:World}(c:P.follows .mixedOrders=true)(S:World->Prop)(late:List Nat)
  (h:qdh F n P .any ops Q S late ops.size (Array.replicate ops.size false) a w.drew):(Code.region b ops true).wpIn F n P Q a w:=
 wpIn_region_any c (qno _ _ _ _ h)
def qtp (K:Act->World->Prop):Exit->Act->World->Prop
 |.normal,a,w=>K a w
 |_,_,_=>False
theorem qo {K:Act->World->Prop}{a:Act}{w:World}(h:K a w):qtp K .normal a w:=h
theorem qae {c:Code}{a:Act}{w:World}(h:c.wpIn F n P (qtp fun a w=>Q .normal a w) a w):c.wpIn F n P Q a w:=
 xt h fun e a w h=>by cases e<;>first |exact h |exact h.elim
end
def wpT (_:List Nat)(p:Prop):Prop:=p
theorem qy (l:List Nat){p:Prop}(h:wpT l p):p:=h
theorem qm {p:Prop}(h:p):wpT [] p:=h
theorem qz:(∀(a:Act) (d:Tmp) (v:Value),a.put (some d) v={a with tmps:=a.tmps.setIfInBounds d v})/\(∀(a:Act) (v:Value),a.put none v=a)/\
  (∀(α:Type) (l:List α) (i:Nat) (x:α),l.toArray.setIfInBounds i x=(l.set i x).toArray)/\(∀(α:Type) (l:List α) (a b:α),(a::l).set 0 b=b::l)/\(∀(α:Type) (l:List α) (i:Nat) (a b:α),(a::l).set (i+1) b=a::l.set i b)/\
  (∀(α:Type) (l:List α) (i:Nat) (h:i<l.toArray.size),l.toArray[i]=l[i])/\(∀(α:Type) (l:List α) (a:α) (h:0<(a::l).length),(a::l)[0]=a)/\(∀(α:Type) (l:List α) (a:α) (i:Nat) (h:i+1<(a::l).length),(a::l)[i+1]=l[i]'(Nat.lt_of_succ_lt_succ h)):=
 ⟨fun _ _ _=>rfl,fun _ _=>rfl,fun _ _ _ _=>yK ..,fun _ _ _ _=>rfl,fun _ _ _ _ _=>rfl,fun _ _ _ _=>rfl,fun _ _ _ _=>rfl,fun _ _ _ _ _=>rfl⟩
section
variable {P : Program} {ops : Array Oper} {Q : Exit -> Act -> World -> Prop} {md : Region.Mode} {S : World -> Prop} {late : List Nat}
theorem ho (i:Nat){d:Oper}{c:Nat}{b:Array Bool}{a:Act}{w:World}(hi:ops[i]?=some d)
  (h: ∀K:Act->World->Prop,Hid (∀a' w',(late.contains i=false->S w')->qc6 P md ops Q S late c (b.setIfInBounds i true) a' w'->K a' w')->wpList P ops (Exit.then K Q) [d] a w)
  (e:Region.ready md ops b= [i]:=by kernel_rfl):qc6 P md ops Q S late (c+1) b a w:=qf5 hi e h
theorem tkN {i:Nat}{l:List Nat}{e:Oper}{v:Value}{d:Nat}{b:Array Bool}{a:Act}{w:World}(hi:ops[i]?=some e)(p:S w)(g: ∀u,S u->(execOp a.eval e).run P u=.ok (.value v) u)
  (h:wpT l (qc6 P md ops Q S late d (b.setIfInBounds i true) (a.put e.dst v) w)) (m:Region.wanted e (yielded ops a.tmps)=true:=by kernel_rfl)
  (hs:Region.noSelect ops=true:=by kernel_rfl) (hf:Region.free md ops b i=true:=by kernel_rfl) (hr:(Region.ready md ops b).contains i=true:=by kernel_rfl) (hl:qg5 md ops late i=true:=by kernel_rfl)
  (hQ: ∀c a w,Q (.panic c) (a.put e.dst v) w->Q (.panic c) a w:=by exact fun _ _ _ h=>h):wpT (i::l) (qc6 P md ops Q S late (d+1) b a w):=
 qzs hi hs hf hr hl hQ p (Or.inl ⟨m,g⟩) h
end
section
variable {F : Fence} {n : Nat} {P : Program} {ops : Array Oper} {Q : Exit -> Act -> World -> Prop} {md : Region.Mode} {S : World -> Prop} {late : List Nat}
theorem hoR (i:Nat){d:Oper}{c:Nat}{b:Array Bool}{a:Act}{w:World}(hi:ops[i]?=some d)
  (h: ∀K:Act->World->Prop,Hid (∀a' w',(late.contains i=false->S w')->qdh F n P md ops Q S late c (b.setIfInBounds i true) a' w'->K a' w')->wpListIn F n P ops (Exit.then K Q) [d] a w)
  (e:Region.ready md ops b= [i]:=by kernel_rfl):qdh F n P md ops Q S late (c+1) b a w:=qgd hi e h
theorem tkR {i:Nat}{l:List Nat}{e:Oper}{v:Value}{d:Nat}{b:Array Bool}{a:Act}{w:World}(hi:ops[i]?=some e)(p:S w)(g: ∀u,S u->(execOp a.eval e).run P u=.ok (.value v) u)
  (h:wpT l (qdh F n P md ops Q S late d (b.setIfInBounds i true) (a.put e.dst v) w)) (m: ∀f,F.fn f:=by exact fun _=>wH) (hnd:qog ops=true:=by kernel_rfl) (hw:Region.wanted e (yielded ops a.tmps)=true:=by kernel_rfl)
  (hs:Region.noSelect ops=true:=by kernel_rfl) (hf:Region.free md ops b i=true:=by kernel_rfl) (hr:(Region.ready md ops b).contains i=true:=by kernel_rfl) (hl:qg5 md ops late i=true:=by kernel_rfl)
  (hQ: ∀c a w,Q (.panic c) (a.put e.dst v) w->Q (.panic c) a w:=by exact fun _ _ _ h=>h):wpT (i::l) (qdh F n P md ops Q S late (d+1) b a w):=
 qoy m hnd hi hs hf hr hl hQ p (Or.inl ⟨hw,g⟩) h
theorem tkS {i:Nat}{l:List Nat}{e:Oper}{d:Nat}{b:Array Bool}{a:Act}{w:World}(hi:ops[i]?=some e)(m:S w)
  (h:wpT l (qdh F n P md ops Q S late d (b.setIfInBounds i true) (a.put e.dst undef) w)) (g: ∀f,F.fn f:=by exact fun _=>wH) (hnd:qog ops=true:=by kernel_rfl) (hw:Region.wanted e (yielded ops a.tmps)=false:=by kernel_rfl)
  (hs:Region.noSelect ops=true:=by kernel_rfl) (hf:Region.free md ops b i=true:=by kernel_rfl) (hr:(Region.ready md ops b).contains i=true:=by kernel_rfl) (hl:qg5 md ops late i=true:=by kernel_rfl)
  (hQ: ∀c a w,Q (.panic c) (a.put e.dst undef) w->Q (.panic c) a w:=by exact fun _ _ _ h=>h):wpT (i::l) (qdh F n P md ops Q S late (d+1) b a w):=
 qoy g hnd hi hs hf hr hl hQ m (Or.inr ⟨hw,rfl⟩) h
end
end Go.Ink
namespace Go.Proofs
open Go.RowKit Go.Ink
theorem qcp {w:World}{base:Nat}{e:TypeId}{sz g n cap:Nat}{xs:List Value}(h:w.ownsRow base e sz (.slice (some ⟨g,0,none⟩) n cap) n xs)(j:Nat)(u:Value)(b:xs[j]?=some u):w.cell? ⟨g,j,none⟩=some u:=by
 have:=h.cells (g:=g) rfl j u b
 rwa [show((⟨g,0,none⟩:Addr).add j)=⟨g,j,none⟩ from by unfold Addr.add;split<;>simp_all] at this
theorem qlg {w:World}{base:Nat}{e:TypeId}{sz g n cap:Nat}{xs:List Value}(h:w.ownsRow base e sz (.slice (some ⟨g,0,none⟩) n cap) n xs):n<=cap/\cap<=maxLen/\g<w.heap.size/\base<=g:=by
 rcases h.2 with ⟨h,_⟩ |⟨g',c,cur,h,hb,hg,hnc,hc,_⟩
 ·cases h
 ·cases h;exact⟨hnc,hc,qe hg,hb⟩
theorem qj {w:World}{base:Nat}{e:TypeId}{sz:Nat}{v:Value}{n:Nat}{xs:List Value}(h:w.ownsRow base e sz v n xs): ∃a c,v=.slice a n c:=by
 rcases h.2 with ⟨h1,h2⟩ |⟨g,c,_,h1,_⟩
 ·exact⟨none,0,by rw [h1,h2]⟩
 ·exact⟨_,c,h1⟩
theorem qgo {α:Type}{n:Nat}{w:World}{sz:Nat}{E:World->Nat->Nat->α->Prop}(cells:α->List Value)(s: ∀x,(cells x).length=sz)(p:0<sz)(Y: ∀b o x,E w b o x->CellsE w b o (cells x)){v:Value}{xs:List α}{a:Option Addr}{c:Nat}(h:SliceIn n w sz E v xs)(U:v=.slice a xs.length c):
  (∀b,a=some b-> ∀j u,(xs.flatMap cells)[j]?=some u->w.cell? (b.add j)=some u)/\(a=none->xs.length=0):=by
 obtain⟨a',cap,g,hl,hc,z⟩:=h;rw [U]at g;cases g;refine⟨fun b m j u q=>?_,fun l=>?_⟩
 ·have d:=(zA.1 q).1;rw [qa4 cells sz s]at d;have y:j/sz<xs.length:=Nat.div_lt_of_lt_mul (by rw [xN];exact d);have R:j%sz<sz:=Nat.mod_lt _ p;obtain⟨r,off,l,X,e⟩:=z (j/sz) (xs[j/sz]) (zB y);rw [m]at l;cases l;have t:=qbj cells sz s xs (j/sz) (j%sz) _ (zB y) R;rw [show j/sz*sz+j%sz=j from by rw [xN];exact Nat.div_add_mod j sz]at t;rw [t]at q;have:=Y _ _ _ e (j%sz) u q;rw [show((⟨r,off,none⟩:Addr).add j)=⟨r,off+j,none⟩ from by unfold Addr.add;split<;>simp_all]
  rwa [xI,show j/sz*sz+j%sz=j from by rw [xN];exact Nat.div_add_mod j sz] at this
 ·by_cases h0:xs.length=0
  ·exact h0
  ·obtain⟨b,off,m,_⟩:=z 0 xs[0] (zB wC);rw [l]at m;cases m
theorem qj9 {α:Type}(cells:α->List Value)(h: ∀x,∀u∈cells x,u.oneCell'=true)(xs:List α): ∀u∈xs.flatMap cells,u.oneCell'=true:=by
 intro u b;obtain⟨x,_,c⟩:=xF.1 b;exact h x u c
theorem Keep.drewN' (C:Nat->Prop)(w:World)(n:Nat):Keep C w (w.drewN n):=⟨rfl,rfl,rfl,zG _,fun _ _ _=>rfl⟩
theorem q9d {α:Type}[DecidableEq α]{xs b:List α}(c:xs.length=b.length)(h: ∀j,j<xs.length->xs[j]?=b[j]?):xs=b:=by
 refine xZ fun j=>?_;rcases y7 j xs.length with hj |hj
 ·exact h j hj
 ·rw [xD hj,xD wC]
theorem qzt {P:Program}{f:FuncId}{args:Array Value}{R:Ending->World->Prop}{w:World}(G:World->Prop)(h:G w)(k: ∀W,G W->Calls P f args W R):Calls P f args w R:=k w h
end Go.Proofs
