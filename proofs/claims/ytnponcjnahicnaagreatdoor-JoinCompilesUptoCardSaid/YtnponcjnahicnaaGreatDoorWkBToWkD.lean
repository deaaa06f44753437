/- Parts of the proof. -/
import Derived.Test.YtnponcjnahicnaaGreatDoorStOToWkA
set_option linter.unusedSimpArgs false
set_option linter.unusedVariables false
set_option maxRecDepth 100000
set_option maxHeartbeats 4000000
open Go.Proofs.Tryz(prog)
open List(find?_eq_some_iff_getElem foldl_cons getElem?_set_ne getElem?_set_self getElem_idxOf getElem_range length_cons map_map nil_append take_append_of_le_length)
namespace Go.Proofs
open Go.RowKit Go.Ink R4
def qat (vars:List ByteArray)(t:TermD):SlotD:=if t.var=true then ⟨(vars.idxOf t.text:Nat),⟨#[]⟩⟩ else ⟨-1,t.text⟩
def ql (L:LitD):List TermD:=if L.kind=3 then [L.left,L.right] else L.atom.args
def qeo (vars:List ByteArray)(t:TermD):Prop:=t.var=true->t.text∈vars
structure qdj (vars vals:List ByteArray)(kn:List Bool)(a:Asg):Prop where
 lv:vals.length=vars.length
 lk:kn.length=vars.length
 kw: ∀(p:Nat) (x:ByteArray),vars[p]?=some x->(kn[p]?=some true↔ ∃v,a x=some v)
 val: ∀(p:Nat) (x v:ByteArray),vars[p]?=some x->a x=some v->vals[p]?=some v
 small: ∀x v,a x=some v->v.size<=1073741824
theorem qt2 {vars:List ByteArray}{x:ByteArray}(h:x∈vars):vars[vars.idxOf x]?=some x:=by
 have b:=y9 h;rw [zB b,getElem_idxOf]
theorem qn6 {vars vals:List ByteArray}{t:TermD}(h:qeo vars t)(b:vals.length=vars.length):(qat vars t).place<vals.length:=by
 unfold qat;split
 ·rename_i hv;have:=y9 (h hv);simp only;omega
 ·simp only;omega
theorem qms {vars vals:List ByteArray}{e:List Bool}{a:Asg}(h:qdj vars vals e a){t:TermD}(d:qeo vars t){y:ByteArray}(b:qaf a t=some y):qdx vals (qat vars t)=y:=by
 unfold qaf at b;unfold qdx qat;by_cases c:t.var=true
 ·rw [zI c]at b;rw [zI c];have:=h.val _ _ _ (qt2 (d c)) b;rw [zF (by simp only;omega),zJ];simp only [Int.toNat_natCast];rw [this]
  rfl
 ·rw [zF c]at b;rw [zF c,zI (by simp only;omega)];exact yH b
theorem qv3 {vars vals:List ByteArray}{d:List Bool}{a:Asg}(h:qdj vars vals d a){t:TermD}(c:qeo vars t)(b:t.var=true):d[vars.idxOf t.text]?=some (qaf a t).isSome:=by
 have l:=qt2 (c b);have i:=y9 (c b);have f:=h.kw _ _ l;have e:d[vars.idxOf t.text]?=some (d[vars.idxOf t.text]'(by rw [h.lk];exact i)):=zB _;rw [e]at f⊢;have j:qaf a t=a t.text:=by unfold qaf;rw [zI b]
 rw [j];cases g:a t.text with
 |some v=>rw [f.2 ⟨v,g⟩];rfl
 |none=>
  cases k:d[vars.idxOf t.text]'(by rw [h.lk];exact i) with
  |false=>rfl
  |true=>
   rw [k]at f;obtain⟨v,b⟩:=f.1 rfl;rw [g]at b;cases b
theorem q23 {vars vals:List ByteArray}{k:List Bool}{a:Asg}(l:vars.Nodup)(h:qdj vars vals k a){p:Nat}{x:ByteArray}(f:vars[p]?=some x)(v:ByteArray)(m:v.size<=1073741824):qdj vars (vals.set p v) (k.set p true) (qfh a x v):=by
 have j:=(zA.1 f).1;have d: ∀(q:Nat) (y:ByteArray),vars[q]?=some y->q≠p->y≠x:=fun q y b i e=>by
  subst e;exact i ((xv (zA.1 b).1 l).1 (b.trans f.symm))
 refine⟨by rw [xp];exact h.lv,by rw [xp];exact h.lk,fun q y b=>?_,fun q y u b c=>?_,fun y u c=>?_⟩
 ·by_cases e:q=p
  ·subst e;rw [f]at b;cases b;rw [getElem?_set_self (by rw [h.lk];exact j)];exact⟨fun _=>⟨v,qpx _ _ _⟩,fun _=>rfl⟩
  ·rw [getElem?_set_ne (fun g=>e g.symm),h.kw q y b];unfold qfh;rw [zF (d q y b e)]
 ·by_cases e:q=p
  ·subst e;rw [f]at b;cases b;rw [qpx]at c;cases c;exact getElem?_set_self (by rw [h.lv];exact j)
  ·rw [getElem?_set_ne (fun g=>e g.symm)];unfold qfh at c;rw [zF (d q y b e)]at c;exact h.val q y u b c
 ·unfold qfh at c;split at c
  ·cases c;exact m
  ·exact h.small y u c
theorem qn7 {vars vals b:List ByteArray}{e c:List Bool}{a a':Asg}(h:qdj vars vals e a)(d:qdj vars b c a')(f:ExtA a a'):qdj vars b e a:=⟨d.lv,h.lk,h.kw,fun p x v g i=>d.val p x v g (f x v i),h.small⟩
theorem q24 {vars vals:List ByteArray}{e:List Bool}{a:Asg}(h:qdj vars vals e a)(d: ∀x,x∈vars-> ∃v,a x=some v):vals=vars.map fun x=>(a x).getD ⟨#[]⟩:=by
 refine xW fun p=>?_;rw [zP];cases b:vars[p]? with
 |none=>rw [List.getElem?_eq_none_iff.2 (by rw [h.lv];exact List.getElem?_eq_none_iff.1 b)];rfl
 |some x=>
  obtain⟨v,c⟩:=d x (zH b);rw [h.val p x v b c,Option.map_some,c]
  rfl
def qbf (kn:List Bool)(mine:List Nat)(b:Bool):List Bool:=mine.foldl (fun k p=>k.set p b) kn
theorem qgf (c:List Nat)(b:Bool): ∀kn,(qbf kn c b).length=kn.length:=by
 induction c with
 |nil=>intro kn;rfl
 |cons p c ih=>intro kn;unfold qbf at ih⊢;rw [foldl_cons,ih,xp]
theorem qn8 (c:List Nat)(b:Bool): ∀(kn:List Bool) (q:Nat),(qbf kn c b)[q]?=if q∈c/\q<kn.length then some b else kn[q]?:=by
 induction c with
 |nil=>intro kn q;simp [qbf]
 |cons p c ih=>
  intro kn q;have:=ih (kn.set p b) q;unfold qbf at this⊢;rw [foldl_cons,this,xp];by_cases d:q<kn.length
  ·by_cases f:q∈c
   ·rw [zI ⟨f,d⟩,zI ⟨yC _ f,d⟩]
   ·rw [zF (fun h=>f h.1)];by_cases g:q=p
    ·subst g;rw [zI ⟨yI ..,d⟩,getElem?_set_self d]
    ·rw [zF (fun h=>(zt.1 h.1).elim g f),getElem?_set_ne (fun e=>g e.symm)]
  ·rw [zF (fun h=>d h.2),zF (fun h=>d h.2),List.getElem?_eq_none_iff.2 (by rw [xp];omega),List.getElem?_eq_none_iff.2 xz]
theorem qld {d:List Bool}{b:List Nat}(h: ∀p,p∈b->d[p]?=some false):qbf (qbf d b true) b false=d:=by
 refine xW fun q=>?_;rw [qn8,qn8,qgf];by_cases c:q∈b/\q<d.length
 ·rw [zI c,h q c.1]
 ·rw [zF c,zF c]
theorem qpi (d:List Bool)(c:List Nat)(p:Nat)(b:Bool):qbf d (c++ [p]) b=(qbf d c b).set p b:=by unfold qbf;rw [yk];rfl
theorem qv4 {c:List TermD}{d:List ByteArray}: ∀{ts:List TermD} {xs:List ByteArray} {a:Asg},ts.length=xs.length->qb6 a (ts++c) (xs++d)=(qb6 a ts xs).bind fun b=>qb6 b c d:=by
 intro ts
 induction ts with
 |nil=>
  intro xs a h;cases xs with
  |nil=>rfl
  |cons x xs=>cases h
 |cons t ts ih=>
  intro xs a h;cases xs with
  |nil=>cases h
  |cons x xs=>
   rw [length_cons,length_cons]at h;have e:qb6 a (t::ts++c) (x::xs++d)=match qaf a t with
    |some y=>if y=x then qb6 a (ts++c) (xs++d) else none
    |none=>qb6 (qfh a t.text x) (ts++c) (xs++d):=rfl
   have f:qb6 a (t::ts) (x::xs)=match qaf a t with
    |some y=>if y=x then qb6 a ts xs else none
    |none=>qb6 (qfh a t.text x) ts xs:=rfl
   rw [e,f];split
   ·split
    ·exact ih xz
    ·rfl
   ·exact ih xz
theorem qjx {a b:Asg}{ts:List TermD}{xs:List ByteArray}{c:Nat}{t:TermD}{x:ByteArray}(g:ts[c]?=some t)(i:xs[c]?=some x)(h:qb6 a (ts.take c) (xs.take c)=some b):
  (∀y,qaf b t=some y->y=x->qb6 a (ts.take (c+1)) (xs.take (c+1))=some b)/\(qaf b t=none->qb6 a (ts.take (c+1)) (xs.take (c+1))=some (qfh b t.text x))/\(∀y,qaf b t=some y->y≠x->qb6 a ts xs=none):=by
 have p:=(zA.1 g).1;have j:=(zA.1 i).1;have d:(ts.take c).length=(xs.take c).length:=by rw [yB,yB];omega
 have k:qb6 a (ts.take (c+1)) (xs.take (c+1))=qb6 b [t] [x]:=by
  rw [zh,g,zh,i];exact(qv4 d).trans (by rw [h];rfl)
 refine⟨fun y e f=>?_,fun e=>?_,fun y e f=>?_⟩
 ·rw [k];unfold qb6;rw [e];simp only;rw [zI f]
  rfl
 ·rw [k];unfold qb6;rw [e]
  rfl
 ·have l:ts=ts.take c++t::ts.drop (c+1):=by
   conv=>lhs;rw [←yu c ts]
   rw [zr p,(zA.1 g).2]
  have m:xs=xs.take c++x::xs.drop (c+1):=by
   conv=>lhs;rw [←yu c xs]
   rw [zr j,(zA.1 i).2]
  rw [l,m,qv4 d,h,Option.bind_some];unfold qb6;rw [e];simp only;rw [zF f]
structure LookD where
 store:Option Nat
 pred:ByteArray
 arity:Nat
 upto:Nat
def qav (s:Option Nat):Value:=.pointer (s.map fun S=>⟨S,0,none⟩)
def LookD.cells (k:LookD):List Value:= [qav k.store,.string k.pred,.int .i64 (k.arity:Int),.int .i64 (k.upto:Int)]
structure WkC where
 r:RuleD
 vars:List ByteArray
 looks:List LookD
 steps:List Nat
 J:Nat
 l:Nat
 Bj:Nat
 By:Nat
 Bl:Nat
 Lk:Nat
 Bs:Nat
 Bv:Nat
 V:Nat
 Bk:Nat
 K:Nat
 Bt:Nat
 Bu:Nat
 Bp:Nat
 vs:Value
 pos:List Int
 vha:Value
 vb:Value
 vv:Value
 va:Value
 vt:Value
 vh:Value
def WkC.nv (c:WkC)(b:Nat):Prop:=b≠c.V/\b≠c.K
def WkC.bound (c:WkC):Array Value:= #[qj c.Bs,qj c.By,qj c.Bu,qj c.Bj,qj c.Bv,qj c.Bl,qj c.Bt,qj c.Bp,qj c.Bk]
structure WkHeld (c:WkC)(g:Gh)(vals:List ByteArray)(kn:List Bool):Prop where
 j:g.held c.Bj=some (.cells #[qj c.J] 35 (0,0))/\c.nv c.Bj
 y:g.held c.By=some (.cells #[.func (.yield c.l) #[] #[]] 137 (0,0))/\c.nv c.By
 l:g.held c.Bl=some (.cells #[.slice (some ⟨c.Lk,0,none⟩) c.looks.length c.looks.length] 184 (0,0))/\c.nv c.Bl
 lk:g.held c.Lk=some (.cells (c.looks.flatMap LookD.cells).toArray 192 (0,0))/\c.nv c.Lk
 s:g.held c.Bs=some (.cells #[c.vs] 125 (0,0))/\c.nv c.Bs
 sv: ∃a cap,c.vs=.slice a c.steps.length cap/\(c.steps.length<=cap/\cap<=maxLen)/\ ∀(k i:Nat),c.steps[k]?=some i-> ∃b,a=some ⟨b,0,none⟩/\c.nv b/\ ∃cs:Array Value,g.held b=some (.cells cs 3 (0,0))/\cs[k]?=some (.int .i64 (i:Int))
 v:g.held c.Bv=some (.cells #[.slice (some ⟨c.V,0,none⟩) vals.length vals.length] 60 (0,0))/\c.nv c.Bv
 k:g.held c.Bk=some (.cells #[.slice (some ⟨c.K,0,none⟩) kn.length kn.length] 29 (0,0))/\c.nv c.Bk
 t:g.held c.Bt=some (.cells #[.func (.func 120) #[] #[qj c.Bv]] 188 (0,0))/\c.nv c.Bt
 u:g.held c.Bu=some (.cells #[.func (.func 121) #[] #[qj c.Bt]] 189 (0,0))/\c.nv c.Bu
 p:g.held c.Bp=some (.cells #[.func (.func 122) #[] c.bound] 190 (0,0))/\c.nv c.Bp
 row:g.held c.V=some (.cells (vals.map Value.string).toArray 9 (0,0))
 knr:g.held c.K=some (.cells (kn.map Value.bool).toArray 4 (0,0))
 vk:c.V≠c.K
theorem WkHeld.keep {c:WkC}{g m:Gh}{vals d:List ByteArray}{z f:List Bool}(h:WkHeld c g vals z)(x: ∀b o,g.held b=some o->c.nv b->m.held b=some o)(r:d.length=vals.length)(q:f.length=z.length)
  (hr:m.held c.V=some (.cells (d.map Value.string).toArray 9 (0,0))) (hk:m.held c.K=some (.cells (f.map Value.bool).toArray 4 (0,0))):WkHeld c m d f:=by
 have e: ∀{b o},g.held b=some o/\c.nv b->m.held b=some o/\c.nv b:=fun h=>⟨x _ _ h.1 h.2,h.2⟩;refine⟨e h.j,e h.y,e h.l,e h.lk,e h.s,?_,by rw [r];exact e h.v,by rw [q];exact e h.k,e h.t,e h.u,e h.p,hr,hk,h.vk⟩;obtain⟨a,cap,X,Y,h3⟩:=h.sv;refine⟨a,cap,X,Y,fun k i hi=>?_⟩;obtain⟨b,q1,R,U,q3,q4⟩:=h3 k i hi;exact⟨b,q1,R,U,x _ _ q3 R,q4⟩
theorem WkHeld.same {c:WkC}{g e:Gh}{vals:List ByteArray}{f:List Bool}(h:WkHeld c g vals f)(d: ∀b o,g.held b=some o->e.held b=some o):WkHeld c e vals f:=h.keep (fun b o i _=>d b o i) rfl rfl (d _ _ h.row) (d _ _ h.knr)
def LookOk (c:WkC)(J:qa6)(g:Gh):Prop:= ∀(i:Nat) (L:LitD) (k:LookD),c.r.body[i]?=some L->c.looks[i]?=some k->
 k.pred=L.atom.pred/\k.arity=L.atom.args.length/\
 (L.kind=1-> ∃S f,k.store=some S/\g.st S=some f/\0<k.upto/\k.upto<=(qo f k.pred k.arity).length/\(qo f k.pred k.arity).take k.upto=J.pos i)/\
 (L.kind=2->(k.store=none/\J.neg i= [])∨ ∃S f,k.store=some S/\g.st S=some f/\k.upto<=(qo f k.pred k.arity).length/\(qo f k.pred k.arity).take k.upto=J.neg i)
theorem LookOk.more {c:WkC}{J:qa6}{g e:Gh}(h:LookOk c J g)(Y: ∀S f,g.st S=some f-> ∃d,e.st S=some (f++d)):LookOk c J e:=by
 intro i L k z X;obtain⟨u,v,x,y⟩:=h i L k z X;have key: ∀S f,g.st S=some f->k.upto<=(qo f k.pred k.arity).length-> ∃b,e.st S=some b/\k.upto<=(qo b k.pred k.arity).length/\(qo b k.pred k.arity).take k.upto=(qo f k.pred k.arity).take k.upto:=fun S f R hu=>by
  obtain⟨d,U⟩:=Y S f R;refine⟨_,U,?_,?_⟩
  ·rw [qi5,zR];omega
  ·rw [qi5,take_append_of_le_length hu]
 refine⟨u,v,fun j=>?_,fun l=>?_⟩
 ·obtain⟨S,f,p,r,q3,s,t⟩:=x j;obtain⟨b,p1,p2,m⟩:=key S f r s;exact⟨S,b,p,p1,q3,p2,m.trans t⟩
 ·rcases y l with q |⟨S,f,p,r,s,t⟩
  ·exact .inl q
  ·obtain⟨b,p1,p2,m⟩:=key S f r s;exact .inr ⟨S,b,p,p1,p2,m.trans t⟩
theorem qx2 {l:List (List ByteArray)}{t:List ByteArray}{upto:Nat}:t∈l.take upto↔ ∃i,qen l t=some i/\i<upto:=by
 constructor
 ·intro h;obtain⟨j,b⟩:=zw.1 h;have c:j<upto:=by have:=(zA.1 b).1;rw [yB] at this;omega
  rw [xO c]at b;have d:=(zA.1 b).1;unfold qen;cases e:(List.range l.length).find? fun i=>decide (l[i]?=some t) with
  |none=>exact absurd (zS b) (ym.1 e j (yh.2 d))
  |some i=>
   refine⟨i,rfl,Nat.lt_of_le_of_lt (Nat.not_lt.1 fun m=>?_) c⟩;have p:=find?_eq_some_iff_getElem.1 e;obtain⟨_,k,q,f,g⟩:=p;rw [getElem_range]at f;have:=g j xz;rw [getElem_range]at this;simp [b]at this
 ·rintro⟨i,hi,hu⟩;have:=qnj hi;exact zH (by rw [xO hu];exact this)
end Go.Proofs
namespace Go.Proofs
open Go.RowKit Go.Ink R4 P16
attribute [local go_sem] Oper.semAt_some
theorem qpz (a:Option Addr)(m c:Nat)(d:List Value)(w:World)(s:d.length=m*1)(X: ∀b,a=some b-> ∀j u,d[j]?=some u->w.cell? (b.add j)=some u)(R:a=none->m=0)(g: ∀u∈d,u.oneCell'=true)(hm:m<=1073741824):
  Calls prog 77 #[.slice a m c] w fun e w'=> ∃v',e=.returned v'/\w'.ownsRow w.heap.size 9 1 v' m d/\wD w w':=by
 have hq:=fun w a l c=>qpt qgm w a l c;cases a with
 |none=>
  have z:=R rfl;subst z;have q:d= []:=yn (by simpa using s);subst q;clear s X R g hm
  go_enter Tryz.func77,Tryz.ntmps77
  go_wp2_with fail;go_ret;exact⟨_,rfl,zj _ _ _ _,Keep.refl _ _⟩
 |some b=>
  obtain⟨W0,f⟩:=ex (w.alloc (.cells #[] 9));have r:wD w W0:=by rw [←f];exact kAl
  have Y:=qhh w 9 1;rw [f]at Y;obtain⟨v',W1,U,ho,hg,hk⟩:=qi0 (P:=prog) qgm 60 Y (some b) m c d s (fun b' y j u hj=>r.cell (X b' y j u hj) wE) (fun h=>by cases h) g xz r.size;rw [nil_append,zD]at ho;have k:Keep (fun b=>b<w.heap.size) w W1:=r.mt.trans (hk.mono fun b _ h e=>by
   rcases hg b e with g |g
   ·simp [Value.ownBlock]at g;omega
   ·have:=r.size;omega)
  have p:wD w W1:=k.mono fun b y _=>y;rw [←f]at U;obtain⟨a',c',rfl⟩:=qi ho;clear s X R g hg hk k r Y f;refine hd3 ?_ U ho p;clear U ho p;intro x t i
  go_enter Tryz.func77,Tryz.ntmps77
  go_wp2_with (at_builtin;refine qcd (v:=.slice (some ⟨w.heap.size,0,none⟩) 0 0) (u:=.slice (some b) m c) (v':=.slice a' m c') (w':=W1) rfl (.tmp 5) (.tmp 6) 60 rfl rfl rfl x.o ?_);go_ret;exact⟨_,rfl,t.o,i.o⟩
theorem qkn {w:World}{m:Nat}{v:Value}{ts:List ByteArray}(h:qal m w v ts)(y:m<=w.heap.size)(f: ∀n c,v=.slice none n c->n=0):Calls prog 77 #[v] w fun e w'=> ∃v',e=.returned v'/\w'.ownsRow w.heap.size 9 1 v' ts.length (ts.map .string)/\wD w w':=by
 obtain⟨a,c,rfl,r,t,q⟩:=h;refine qpz a ts.length c (ts.map .string) w wB (fun b l j u d=>?_) (fun e=>f _ _ (by rw [e])) (fun u s=>?_) r
 ·rw [zP]at d;cases i:ts[j]? with
  |none=>rw [i] at d;cases d
  |some x=>
   rw [i]at d;cases d;obtain⟨k,o,e,p,g⟩:=q j x i;rw [l]at e;cases e;unfold qf2 at g;rw [yA]at g;rw [show((⟨k,o,none⟩:Addr).add j)=⟨k,o+j,none⟩ from by unfold Addr.add;split<;>simp_all];exact g
 ·obtain⟨x,_,rfl⟩:=yK.1 s;simp [Value.oneCell']
end Go.Proofs
namespace Go.Ink
open Go.RowKit
section
variable {F : Fence} {n : Nat} {P : Program} {ops : Array Oper} {Q : Exit -> Act -> World -> Prop} {md : Region.Mode} {S : World -> Prop} {late : List Nat}
theorem qp0 {i:Nat}{h:Oper}{a:Act}{w:World}{K:Act->World->Prop}(hi:ops[i]?=some h)(b:wpListIn F n P ops (Exit.then K Q) [h] a w):wpOpIn F n P ops Q i K a w:=by
 unfold wpOpIn;rw [hi];unfold wpListIn at b;simp only at b⊢;split
 ·rename_i hw;rw [zI hw]at b;unfold Oper.wpIn at b⊢;refine⟨b.1,?_⟩;have b:=b.2;generalize (h.semAt F.round a.eval).run P w=r at b⊢;cases r with
  |ok x w'=>
   cases x<;>simp only [Oper.uponIn] at b⊢
   case value u=>exact b
   case skip=>exact b
   case defer d=>exact b
   case enter f args=>exact⟨b.1,CallsIn.mono b.2 fun e g c=>by cases e<;>exact c⟩
   case row row args=>exact⟨b.1,RowsIn.mono b.2 fun u g c=>c⟩
   case round l f tmps assign body=>exact⟨b.1,RoundIn.mono b.2 fun e g c=>by cases e<;>exact c⟩
  |halt x w'=>cases x<;>simp only [Oper.uponIn] at b⊢;exact b
 ·rename_i hw;rw [zF hw]at b;exact b
end
end Go.Ink
namespace Go.Proofs
open Go.RowKit Go.Ink R4
attribute [local go_sem] Oper.semAt_some
def UE {α:Type}(U:Nat->Prop)(E:World->Nat->Nat->α->Prop):World->Nat->Nat->α->Prop:=fun w b o x=>U b/\E w b o x
def q52 (U:Nat->Prop)(n:Nat)(w:World)(b o:Nat)(L:LitD):Prop:=U b/\ ∃sa,CellsE w b o (qu L sa)/\SliceIn n w 2 (UE U TermE) sa L.atom.args
def q5r (U:Nat->Prop)(n:Nat)(w:World)(b o:Nat)(ss:List SlotD):Prop:=U b/\ ∃v,w.cell? ⟨b,o,none⟩=some v/\SliceIn n w 2 (UE U SlotE) v ss
def qck (vars:List ByteArray)(L:LitD):List SlotD:=(ql L).map (qat vars)
structure JoinAt (U:Nat->Prop)(n:Nat)(w:World)(J:Nat)(r:RuleD)(vars:List ByteArray)(pos:List Int)(vha vb vv va vt vh:Value):Prop where
 uJ:U J
 box:w.heap[J]?=some (.cells #[.string r.head.pred,vha,vb,vv,va,vt,vh] 129 (0,0))
 head:SliceIn n w 2 (UE U TermE) vha r.head.args
 body:SliceIn n w 7 (q52 U n) vb r.body
 vrow:SliceIn n w 1 (UE U qf2) vv vars
 at':SliceIn n w 1 (UE U qe8) va pos
 terms:SliceIn n w 1 (q5r U n) vt (r.body.map (qck vars))
 slots:SliceIn n w 2 (UE U SlotE) vh (r.head.args.map (qat vars))
theorem UE.keep {α:Type}{U:Nat->Prop}{E:World->Nat->Nat->α->Prop}{w w':World}{b o:Nat}{x:α}(h:UE U E w b o x)(c: ∀{b o x},w'.heap[b]?=w.heap[b]?->E w b o x->E w' b o x)(d: ∀b,U b->w'.heap[b]?=w.heap[b]?):UE U E w' b o x:=⟨h.1,c (d b h.1) h.2⟩
theorem qv5 {w w':World}{b o:Nat}{x:TermD}(h:w'.heap[b]?=w.heap[b]?)(c:TermE w b o x):TermE w' b o x:=⟨(yj (a:=⟨b,o,none⟩) h).trans c.1,(yj (a:=⟨b,o+1,none⟩) h).trans c.2⟩
theorem qp1 {w w':World}{b o:Nat}{x:SlotD}(h:w'.heap[b]?=w.heap[b]?)(c:SlotE w b o x):SlotE w' b o x:=⟨(yj (a:=⟨b,o,none⟩) h).trans c.1,(yj (a:=⟨b,o+1,none⟩) h).trans c.2⟩
theorem q5s {w w':World}{b o:Nat}{x:ByteArray}(h:w'.heap[b]?=w.heap[b]?)(c:qf2 w b o x):qf2 w' b o x:=(yj (a:=⟨b,o,none⟩) h).trans c
theorem q5t {w w':World}{b o:Nat}{x:Int}(h:w'.heap[b]?=w.heap[b]?)(c:qe8 w b o x):qe8 w' b o x:=(yj (a:=⟨b,o,none⟩) h).trans c
theorem JoinAt.same {U:Nat->Prop}{n:Nat}{w w':World}{J:Nat}{r:RuleD}{vars:List ByteArray}{f:List Int}{g vb vv va l vh:Value}(h:JoinAt U n w J r vars f g vb vv va l vh)(d: ∀b,U b->w'.heap[b]?=w.heap[b]?):JoinAt U n w' J r vars f g vb vv va l vh:=
 ⟨h.uJ,(d _ h.uJ).trans h.box,h.head.mono fun _ _ _ _ c=>c.keep qv5 d,h.body.mono fun b o x _ c=>by
   obtain⟨e,p,i,k⟩:=c;exact⟨e,p,fun j v m=>(yj (a:=⟨b,o+j,none⟩) (d b e)).trans (i j v m),k.mono fun _ _ _ _ c=>c.keep qv5 d⟩,
  h.vrow.mono fun _ _ _ _ c=>c.keep q5s d,h.at'.mono fun _ _ _ _ c=>c.keep q5t d,h.terms.mono fun b o x _ c=>by
   obtain⟨e,v,i,k⟩:=c;exact⟨e,v,(yj (a:=⟨b,o,none⟩) (d b e)).trans i,k.mono fun _ _ _ _ c=>c.keep qp1 d⟩,
  h.slots.mono fun _ _ _ _ c=>c.keep qp1 d⟩
theorem JoinAt.keep {U:Nat->Prop}{n:Nat}{w w':World}{J:Nat}{r:RuleD}{vars:List ByteArray}{c:List Int}{d vb vv va f vh:Value}{C:Nat->Prop}(h:JoinAt U n w J r vars c d vb vv va f vh)(hK:Keep C w w')(g: ∀b,U b->C b)(i: ∀b,U b->b<w.heap.size):JoinAt U n w' J r vars c d vb vv va f vh:=
 h.same fun b e=>hK.block b (i b e) (g b e)
def qic (r:RuleD)(vars:List ByteArray)(b:Asg)(g:Gh)(n:Nat)(X:World)(args:Array Value):Prop:=
 ∃vh vv,args= #[.agg #[vh,vv]]/\X.ownsRow n 9 1 vh r.head.args.length ((r.head.args.map (qcu b)).map .string)/\X.ownsRow n 9 1 vv vars.length ((vars.map fun x=>(b x).getD ⟨#[]⟩).map .string)/\
  (∀k,vh.ownBlock=some k->g.free k)/\(∀k,vv.ownBlock=some k->g.free k)/\(∀k,vh.ownBlock=some k->vv.ownBlock≠some k)
structure qdk (n0 n1:Nat)(W0:World)(c:WkC)(LJ:qa6)(U:Nat->Prop)(nU:Nat)(Vw:World->Prop)(all:List Asg)(Jp Jx:Nat->Gh->World->Prop):Prop where
 hJ: ∀k γ X γ' Y,Jp k γ X->(qkm n0).istep γ X γ' Y->Jp k γ' Y
 hJx: ∀k γ X γ' Y,Jx k γ X->(qkm n0).istep γ X γ' Y->Jx k γ' Y
 hy: ∀k γ X0 X args b,all[k]?=some b->Jp k γ X0->(qkm n0).istep γ X0 γ X->GInv γ X->Vw X->n1<=X0.heap.size->qic c.r c.vars b γ X0.heap.size X args->YieldAt Fence.wide 0 prog c.l args X (qhg (qkm n0) Vw Jp Jx k γ X)
 hj:JoinAt U nU W0 c.J c.r c.vars c.pos c.vha c.vb c.vv c.va c.vt c.vh
 hV: ∀X,Vw X->(∀b,U b->X.heap[b]?=W0.heap[b]?)/\nU<=X.heap.size
 hVk: ∀X Y C,Vw X->Keep C X Y->(∀b,U b->C b)->Vw Y
 hU: ∀b,U b->b<nU
 n01:n0<=n1
 nV:n0<=c.V
 nK:n0<=c.K
 few:c.vars.length<=1073741824
 nodup:c.vars.Nodup
 kinds:qi4 c.r.body
 vin: ∀L t,L∈c.r.body->t∈ql L->qeo c.vars t
 hin: ∀t,t∈c.r.head.args->qeo c.vars t
 small: ∀L t,L∈c.r.body->t∈ql L->t.text.size<=1073741824
 preds: ∀L,L∈c.r.body->L.atom.pred.size<=1073741824
 looks:c.looks.length=c.r.body.length
 lfew:c.looks.length<=1073741824
 steps: ∀i,i∈c.steps->i<c.r.body.length
 sfew:c.steps.length<=1073741824
 texts: ∀i t s,t∈LJ.pos i->s∈t->s.size<=1073741824
def SameW (c:WkC)(U:Nat->Prop)(g:Gh)(W0 X:World):Prop:=(∀b o,g.held b=some o->c.nv b->X.heap[b]?=some o)/\ ∀b,U b->X.heap[b]?=W0.heap[b]?
theorem SameW.of {c:WkC}{U:Nat->Prop}{g d:Gh}{W0 X:World}(f:GInv d X)(h: ∀b o,g.held b=some o->c.nv b->d.held b=some o)(j: ∀b,U b->X.heap[b]?=W0.heap[b]?):SameW c U g W0 X:=⟨fun b o e i=>f.hold b o (h b o e i),j⟩
theorem SameW.keep {c:WkC}{U:Nat->Prop}{g:Gh}{W0 X Y:World}{C:Nat->Prop}(h:SameW c U g W0 X)(hK:Keep C X Y)(f: ∀b o,g.held b=some o->c.nv b->C b)(i: ∀b,U b->C b)(e: ∀b,U b->b<X.heap.size):SameW c U g W0 Y:=
 ⟨fun b o d e=>hK.heap (h.1 b o d e) (f b o d e),fun b d=>(hK.block b (e b d) (i b d)).trans (h.2 b d)⟩
def StepEnd (c:WkC)(U:Nat->Prop)(Vw:World->Prop)(all:List Asg)(Jp Jx:Nat->Gh->World->Prop)(k0 m:Nat)(g:Gh)(W:World)(a:Asg)(kn:List Bool)(ans:Bool)(W':World):Prop:=
 ∃g' vals',GInv g' W'/\Vw W'/\(∀b,U b->g'.free b)/\W.heap.size<=W'.heap.size/\WkHeld c g' vals' kn/\(∀b o,g.held b=some o->c.nv b->g'.held b=some o)/\(∀S f,g.st S=some f-> ∃d,g'.st S=some (f++d))/\qdj c.vars vals' kn a/\
  ((ans=true/\Jp (k0+m) g' W')∨(ans=false/\ ∃k,k<all.length/\Jx k g' W'))
structure StepAt (n1:Nat)(c:WkC)(LJ:qa6)(U:Nat->Prop)(Vw:World->Prop)(all:List Asg)(Jp:Nat->Gh->World->Prop)(i k0:Nat)(g:Gh)(W:World)(a:Asg)(vals:List ByteArray)(kn:List Bool):Prop where
 inv:GInv g W
 v:Vw W
 u: ∀b,U b->g.free b
 held:WkHeld c g vals kn
 look:LookOk c LJ g
 asg:qdj c.vars vals kn a
 way:qgd c.r.body (c.steps.drop i) (fun x=> ∃v,a x=some v)
 full: ∀x,x∈c.vars->(∃v,a x=some v)∨x∈qaa c.r.body (c.steps.drop i)
 told: ∀q b,(qbe LJ c.r.body (c.steps.drop i) a)[q]?=some b->all[k0+q]?=some b
 jp:Jp k0 g W
 n:n1<=W.heap.size
def qgg (n1:Nat)(c:WkC)(LJ:qa6)(U:Nat->Prop)(Vw:World->Prop)(all:List Asg)(Jp Jx:Nat->Gh->World->Prop)(i:Nat):Prop:=
 ∀k0 g W a vals kn,StepAt n1 c LJ U Vw all Jp i k0 g W a vals kn->
  Calls prog 122 (#[.int .i64 (i:Int)]++c.bound) W fun e W'=> ∃ans,e=.returned (.bool ans)/\StepEnd c U Vw all Jp Jx k0 (qbe LJ c.r.body (c.steps.drop i) a).length g W a kn ans W'
theorem WkHeld.vals {c:WkC}{g:Gh}{W:World}{vals:List ByteArray}{d:List Bool}(h:WkHeld c g vals d)(b:GInv g W):ValsAt W c.Bv c.V vals:=⟨b.hold _ _ h.v.1,b.hold _ _ h.row⟩
theorem q0x {c:WkC}{vals:List ByteArray}{j:List Bool}{a:Asg}(h:qdj c.vars vals j a)(b: ∀t,t∈c.r.head.args->qeo c.vars t)(g: ∀x,x∈c.vars-> ∃v,a x=some v):(c.r.head.args.map (qat c.vars)).map (qdx vals)=c.r.head.args.map (qcu a):=by
 rw [map_map];refine yz fun t e=>?_;have i: ∃y,qaf a t=some y:=by
  unfold qaf;by_cases d:t.var=true
  ·rw [zI d];exact g _ (b t e d)
  ·rw [zF d];exact⟨_,rfl⟩
 obtain⟨y,f⟩:=i;unfold qcu;rw [f,Function.comp,qms h (b t e) f]
 rfl
theorem q0y {n0 n1:Nat}{W0:World}{c:WkC}{LJ:qa6}{U:Nat->Prop}{nU:Nat}{Vw:World->Prop}{all:List Asg}{Jp Jx:Nat->Gh->World->Prop}(hE:qdk n0 n1 W0 c LJ U nU Vw all Jp Jx):qgg n1 c LJ U Vw all Jp Jx c.steps.length:=by
 intro k0 g W a vals kn p;have hB:=p.held;have hi:=p.inv;obtain⟨sa,sc,aK,b6,br⟩:=hB.sv;have b3:=(hE.hV W p.v).2;have hj:=hE.hj.same (hE.hV W p.v).1;have m: ∀x,x∈c.vars-> ∃v,a x=some v:=fun x hx=>by
  rcases p.full x hx with h |h
  ·exact h
  ·rw [xo]at h;cases h
 have ah:qbe LJ c.r.body (c.steps.drop c.steps.length) a= [a]:=by rw [xo];rfl
 have af:all[k0]?=some a:=p.told 0 a (by rw [ah];rfl);have bq:k0<all.length:=(zA.1 af).1;rw [ah];have d1:=hi.hold _ _ hB.s.1;have d2:=hi.hold _ _ hB.y.1;have d3:=hi.hold _ _ hB.u.1;have d4:=hi.hold _ _ hB.j.1;have d5:=hi.hold _ _ hB.v.1;have d6:=hi.hold _ _ hB.t.1;have z:=hB.vals hi;have b1:=qb d1 0 _ rfl;have ca:=qe d1;simp only [zD]at b1;rw [aK]at b1;have b5:c.steps.length<=1073741824:=hE.sfew;have f: ∀X,wD W X->X.cell? ⟨c.By,0,none⟩=some (.func (.yield c.l) #[] #[])/\X.cell? ⟨c.Bu,0,none⟩=some (.func (.func 121) #[] #[qj c.Bt])/\X.cell? ⟨c.Bj,0,none⟩=some (qj c.J)/\X.cell? ⟨c.J,6,none⟩=some c.vh/\X.cell? ⟨c.Bv,0,none⟩=some (.slice (some ⟨c.V,0,none⟩) vals.length vals.length):=fun X q=>by
  have q2:=qb (q.heap d2 wE) 0 _ rfl;have q3:=qb (q.heap d3 wE) 0 _ rfl;have q4:=qb (q.heap d4 wE) 0 _ rfl;have q5:=qb (q.heap d5 wE) 0 _ rfl;have q6:=qb (q.heap hj.box wE) 6 _ rfl;simp only [zD]at q2 q3 q4 q5 q6;exact⟨q2,q3,q4,q6,q5⟩
 have aq:=f W.drew kDr;obtain⟨av,cv,ai,bp,b2,bo⟩:=id hj.slots;rw [ai]at aq f;simp only [zL]at aq f ai bp;have a4:vals.length<=1073741824:=by rw [p.asg.lv];exact hE.few
 have ab:=q24 p.asg m;have aJ:=q0x p.asg hE.hin m;have aD: ∀X,wD W X->Calls prog 121 #[.slice av c.r.head.args.length cv,qj c.Bt] X fun e w'=> ∃vo,e=.returned vo/\w'.ownsRow X.heap.size 9 1 vo c.r.head.args.length ((c.r.head.args.map (qcu a)).map .string)/\wD X w':=fun X q=>by
  have:=qnk (q.heap d6 wE) (z.keep q trivial wE) a4 nU c.vh (c.r.head.args.map (qat c.vars)) ((hj.keep q (fun _ _=>wE) (fun b R=>by have:=hE.hU b R;omega)).slots.mono fun _ _ _ _ h=>h.2) (by have:=q.size;omega) (fun s hs=>by
   obtain⟨t,ht,rfl⟩:=yK.1 hs;exact qn6 (hE.hin t ht) p.asg.lv)
  rw [aJ,zL,ai]at this;exact this
 have aZ: ∀X,wD W X->Calls prog 77 #[.slice (some ⟨c.V,0,none⟩) vals.length vals.length] X fun e w'=> ∃vo,e=.returned vo/\w'.ownsRow X.heap.size 9 1 vo c.vars.length ((c.vars.map fun x=>(a x).getD ⟨#[]⟩).map .string)/\wD X w':=fun X q=>by
  have bt:qal (c.V+1) X (.slice (some ⟨c.V,0,none⟩) vals.length vals.length) vals:=⟨_,_,rfl,a4,⟨zG _,by simp only [maxLen];omega⟩,fun k x hx=>⟨c.V,0,rfl,xz,by
   unfold qf2;have:=(z.keep q trivial wE).cell hx
   simpa using this⟩⟩
  have:=qkn bt (by have:=qe (z.keep q trivial wE).row;omega) (fun n c h=>by cases h);rw [p.asg.lv]at this⊢;rw [←ab];exact this
 have aC: ∀X args,wD W X->qic c.r c.vars a g W.heap.size X args->YieldAt Fence.wide 0 prog c.l args X (qhg (qkm n0) Vw Jp Jx k0 g X):=fun X args q hT=>
  hE.hy k0 g W X args a af p.jp ⟨GStep.own hi q,rfl⟩ (hi.keep q.mt) (hE.hVk W X _ p.v q (fun _ _=>wE)) p.n hT
 have aB: ∀g' Y,GInv g' Y->Vw Y->GBd g W.heap.size g'->W.heap.size<=Y.heap.size-> ∀ap,((ap=true/\Jp (k0+1) g' Y)∨(ap=false/\ ∃k,k<all.length/\Jx k g' Y))->StepEnd c U Vw all Jp Jx k0 [a].length g W a kn ap Y/\(Y.cell? ⟨c.By,0,none⟩=some (.func (.yield c.l) #[] #[])/\Y.cell? ⟨c.Bu,0,none⟩=some (.func (.func 121) #[] #[qj c.Bt])/\Y.cell? ⟨c.Bj,0,none⟩=some (qj c.J)/\Y.cell? ⟨c.J,6,none⟩=some (.slice av c.r.head.args.length cv)/\Y.cell? ⟨c.Bv,0,none⟩=some (.slice (some ⟨c.V,0,none⟩) vals.length vals.length)):=fun g' Y i a5 aI hz ap aY=>by
  have hh: ∀b o,g.held b=some o->g'.held b=some o:=fun b o R=>(aI.held b (qe (hi.hold b o R))).trans R;have al:=hB.same hh;have q2:=qb (i.hold _ _ al.y.1) 0 _ rfl;have q3:=qb (i.hold _ _ al.u.1) 0 _ rfl;have q4:=qb (i.hold _ _ al.j.1) 0 _ rfl;have q5:=qb (i.hold _ _ al.v.1) 0 _ rfl;have q6:=qb (hE.hj.same (hE.hV Y a5).1).box 6 _ rfl;simp only [zD]at q2 q3 q4 q5 q6;rw [ai]at q6;exact⟨⟨g',vals,i,a5,fun b R=>aI.new b (by have:=hE.hU b R;omega) (p.u b R),hz,al,fun b o R _=>hh b o R,aI.more,p.asg,aY⟩,q2,q3,q4,q6,q5⟩
 have a0: ∀b,W.heap.size<=b->g.free b:=fun b R=>by
  refine⟨?_,?_⟩
  ·cases e:g.tag b with
   |none=>rfl
   |some T=>have:=hi.lt b T e;omega
  ·cases e:g.held b with
   |none=>rfl
   |some o=>have:=qe (hi.hold b o e);omega
 clear d1 d2 d3 d4 d5 d6 bo br;unfold WkC.bound;refine qde ?_ aB p hB hi hE hj m ah af z f aq ab aJ aD aZ;clear aB p hB hi hE hj m ah af z f aq ab aJ aD aZ;intro aj bP bQ bS bR bU bc bi bh bj ad aT bf bw aF aV;refine hd4 ?_ aC a0 aK ai;clear aC a0 aK ai;intro aE az bz bx;refine qbl Tryz.func122 rfl ?_;simp only [Tryz.ntmps122,qdm,Nat.reduceAdd,Nat.reduceSub];gi_wp2;refine xc.2 ?_;refine wp_scope_straight ?_;refine(xc (n:=0)).1 ?_;gi_wp2;refine qag ?_;refine qw rfl (fun X=>X.cell? ⟨c.By,0,none⟩=some (.func (.yield c.l) #[] #[])/\X.cell? ⟨c.Bu,0,none⟩=some (.func (.func 121) #[] #[qj c.Bt])/\X.cell? ⟨c.Bj,0,none⟩=some (qj c.J)/\X.cell? ⟨c.J,6,none⟩=some (.slice av c.r.head.args.length cv)/\X.cell? ⟨c.Bv,0,none⟩=some (.slice (some ⟨c.V,0,none⟩) vals.length vals.length)) [] ?_;refine qab [0,1,2,3,4,5,7] ?_
 iterate 7
  refine tkB rfl aT.o ?_
  try simp only [qac]
 refine qk ?_;refine hoR 6 rfl fun K aR=>?_;gi_wp2;refine⟨wE,rfl,(zU.2 (aF.o _ kDr)).mono ?_⟩;rintro e W1 ⟨v1,rfl,o1,k1⟩;have au:wD W W1:=kDr.trans k1;have aW:=ad.o W1 au;have z1:W.heap.size<=W1.heap.size:=au.size;have z0:W.drew.heap.size=W.heap.size:=wB
 rw [z0]at o1;obtain⟨a1,c1,rfl⟩:=qi o1;clear k1;refine hd3 ?_ o1 au aW;clear o1 au aW;intro aG aA aU;gi_wp2;refine aR.o _ _ (fun _=>aU.o) ?_;refine hoR 8 rfl fun K aS=>?_;gi_wp2;refine⟨wE,rfl,(zU.2 (aV.o _ aA.o)).mono ?_⟩;rintro e W2 ⟨v2,rfl,o2,k2⟩;obtain⟨a2,c2,rfl⟩:=qi o2;have aw:wD W W2:=aA.o.trans k2;have aX:=ad.o W2 aw;have hT:qic c.r c.vars a g W.heap.size W2 #[.agg #[.slice a1 c.r.head.args.length c1,.slice a2 c.vars.length c2]]:=by
  refine⟨_,_,rfl,qf aG.o k2 (fun _ _=>wE),o2.mono z1,fun b R=>az.o b (zE aG.o b R).1,fun b R=>az.o b (zW z1 (zE o2 b R).1),fun b R bn=>?_⟩;have q1:=(zE aG.o b R).2;have q2:=(zE o2 b bn).1;omega
 obtain⟨fn,tmps,assign,body,a6,hR⟩:=aE.o W2 _ aw hT;clear k2 o2 hT;refine hd2 ?_ aw aX;clear aw aX;intro ae ay;gi_wp2;refine aS.o _ _ (fun _=>ay.o) ?_;refine qab [9] ?_
 iterate 1
  refine tkB rfl ay.o ?_
  try simp only [qac]
 refine qk ?_;refine hoR 10 rfl fun K ax=>?_;have aH:=zg hR;clear hR;gi_wp2;refine⟨rfl,aH.out.mono ?_⟩;rintro e Y ⟨g',i,ar,ag,a7,(⟨rfl,am⟩ |⟨rfl,am⟩)⟩
 ·have an:=aj.o g' Y i ar (ag.mono ae.o.size) (zW ae.o.size a7) true (.inl ⟨rfl,am⟩);clear i ar ag am aH a6;refine hd1 ?_ an;clear an;intro d;gi_wp2;refine ax.o _ _ (fun _=>d.o.2) ?_;refine qab [11] ?_
  iterate 1
   refine tkB rfl d.o.2 ?_
   try simp only [qac]
  refine qk ?_;refine qx wA (qai ?_);gi_wp2;rw [Exit.noGoto_ret];go_ret;exact⟨_,rfl,d.o.1⟩
 ·have an:=aj.o g' Y i ar (ag.mono ae.o.size) (zW ae.o.size a7) false (.inr ⟨rfl,k0,bq,am⟩);clear i ar ag am aH a6;refine hd1 ?_ an;clear an;intro d;gi_wp2;refine ax.o _ _ (fun _=>d.o.2) ?_;refine qab [11] ?_
  iterate 1
   refine tkB rfl d.o.2 ?_
   try simp only [qac]
  refine qk ?_;refine qx wA (qai ?_);gi_wp2;rw [Exit.noGoto_ret];go_ret;exact⟨_,rfl,d.o.1⟩
end Go.Proofs
