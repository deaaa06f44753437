/- Parts of the proof. -/
import Derived.Test.YtnponcjnahicnaaGreatStOToWkA
set_option linter.unusedSimpArgs false
set_option linter.unusedVariables false
set_option maxRecDepth 100000
set_option maxHeartbeats 4000000
open Go.Proofs.Tryz(prog)
open List(find?_eq_some_iff_getElem foldl_cons getElem?_set_ne getElem?_set_self getElem_idxOf getElem_range length_cons map_map nil_append take_append_of_le_length)
namespace Go.Proofs
open Go.RowKit Go.Ink R4
def qa2 (vars:List ByteArray)(t:TermD):SlotD:=if t.var=true then ⟨(vars.idxOf t.text:Nat),⟨#[]⟩⟩ else ⟨-1,t.text⟩
def qq (L:LitD):List TermD:=if L.kind=3 then [L.left,L.right] else L.atom.args
def qex (vars:List ByteArray)(t:TermD):Prop:=t.var=true->t.text∈vars
structure qcs (vars vals:List ByteArray)(kn:List Bool)(a:Asg):Prop where
 lv:vals.length=vars.length
 lk:kn.length=vars.length
 kw: ∀(p:Nat) (x:ByteArray),vars[p]?=some x->(kn[p]?=some true↔ ∃v,a x=some v)
 val: ∀(p:Nat) (x v:ByteArray),vars[p]?=some x->a x=some v->vals[p]?=some v
 small: ∀x v,a x=some v->v.size<=1073741824
theorem qwh {vars:List ByteArray}{x:ByteArray}(h:x∈vars):vars[vars.idxOf x]?=some x:=by
 have b:=yb h;rw [zB b,getElem_idxOf]
theorem qpz {vars vals:List ByteArray}{t:TermD}(h:qex vars t)(b:vals.length=vars.length):(qa2 vars t).place<vals.length:=by
 unfold qa2;split
 ·rename_i hv;have:=yb (h hv);simp only;omega
 ·simp only;omega
theorem qn8 {vars vals:List ByteArray}{e:List Bool}{a:Asg}(h:qcs vars vals e a){t:TermD}(d:qex vars t){y:ByteArray}(b:qaa a t=some y):qer vals (qa2 vars t)=y:=by
 unfold qaa at b;unfold qer qa2;by_cases c:t.var=true
 ·rw [zI c]at b;rw [zI c];have:=h.val _ _ _ (qwh (d c)) b;rw [zF (by simp only;omega),zJ];simp only [Int.toNat_natCast];rw [this]
  rfl
 ·rw [zF c]at b;rw [zF c,zI (by simp only;omega)];exact yI b
theorem qyv {vars vals:List ByteArray}{d:List Bool}{a:Asg}(h:qcs vars vals d a){t:TermD}(c:qex vars t)(b:t.var=true):d[vars.idxOf t.text]?=some (qaa a t).isSome:=by
 have p:=qwh (c b);have l:=yb (c b);have g:=h.kw _ _ p;have e:d[vars.idxOf t.text]?=some (d[vars.idxOf t.text]'(by rw [h.lk];exact l)):=zB _;rw [e]at g⊢;have r:qaa a t=a t.text:=by unfold qaa;rw [zI b]
 rw [r];cases m:a t.text with
 |some v=>rw [g.2 ⟨v,m⟩];rfl
 |none=>
  cases q:d[vars.idxOf t.text]'(by rw [h.lk];exact l) with
  |false=>rfl
  |true=>
   rw [q]at g;obtain⟨v,b⟩:=g.1 rfl;rw [m]at b;cases b
theorem qwi {vars vals:List ByteArray}{s:List Bool}{a:Asg}(t:vars.Nodup)(h:qcs vars vals s a){p:Nat}{x:ByteArray}(g:vars[p]?=some x)(v:ByteArray)(z:v.size<=1073741824):qcs vars (vals.set p v) (s.set p true) (qfv a x v):=by
 have r:=(zA.1 g).1;have d: ∀(q:Nat) (y:ByteArray),vars[q]?=some y->q≠p->y≠x:=fun q y b m e=>by
  subst e;exact m ((xy (zA.1 b).1 t).1 (b.trans g.symm))
 refine⟨by rw [xr];exact h.lv,by rw [xr];exact h.lk,fun q y b=>?_,fun q y u b c=>?_,fun y u c=>?_⟩
 ·by_cases e:q=p
  ·subst e;rw [g]at b;cases b;rw [getElem?_set_self (by rw [h.lk];exact r)];exact⟨fun _=>⟨v,qrx _ _ _⟩,fun _=>rfl⟩
  ·rw [getElem?_set_ne (fun l=>e l.symm),h.kw q y b];unfold qfv;rw [zF (d q y b e)]
 ·by_cases e:q=p
  ·subst e;rw [g]at b;cases b;rw [qrx]at c;cases c;exact getElem?_set_self (by rw [h.lv];exact r)
  ·rw [getElem?_set_ne (fun l=>e l.symm)];unfold qfv at c;rw [zF (d q y b e)]at c;exact h.val q y u b c
 ·unfold qfv at c;split at c
  ·cases c;exact z
  ·exact h.small y u c
theorem qp0 {vars vals b:List ByteArray}{d c:List Bool}{a a':Asg}(h:qcs vars vals d a)(e:qcs vars b c a')(m:ExtA a a'):qcs vars b d a:=⟨e.lv,h.lk,h.kw,fun p x v l g=>e.val p x v l (m x v g),h.small⟩
theorem qwj {vars vals:List ByteArray}{d:List Bool}{a:Asg}(h:qcs vars vals d a)(e: ∀x,x∈vars-> ∃v,a x=some v):vals=vars.map fun x=>(a x).getD ⟨#[]⟩:=by
 refine xZ fun p=>?_;rw [zP];cases b:vars[p]? with
 |none=>rw [List.getElem?_eq_none_iff.2 (by rw [h.lv];exact List.getElem?_eq_none_iff.1 b)];rfl
 |some x=>
  obtain⟨v,c⟩:=e x (zH b);rw [h.val p x v b c,Option.map_some,c]
  rfl
def qbv (kn:List Bool)(mine:List Nat)(b:Bool):List Bool:=mine.foldl (fun k p=>k.set p b) kn
theorem qhb (c:List Nat)(b:Bool): ∀kn,(qbv kn c b).length=kn.length:=by
 induction c with
 |nil=>intro kn;rfl
 |cons p c ih=>intro kn;unfold qbv at ih⊢;rw [foldl_cons,ih,xr]
theorem qp1 (c:List Nat)(b:Bool): ∀(kn:List Bool) (q:Nat),(qbv kn c b)[q]?=if q∈c/\q<kn.length then some b else kn[q]?:=by
 induction c with
 |nil=>intro kn q;simp [qbv]
 |cons p c ih=>
  intro kn q;have:=ih (kn.set p b) q;unfold qbv at this⊢;rw [foldl_cons,this,xr];by_cases d:q<kn.length
  ·by_cases g:q∈c
   ·rw [zI ⟨g,d⟩,zI ⟨yD _ g,d⟩]
   ·rw [zF (fun h=>g h.1)];by_cases l:q=p
    ·subst l;rw [zI ⟨yJ ..,d⟩,getElem?_set_self d]
    ·rw [zF (fun h=>(zw.1 h.1).elim l g),getElem?_set_ne (fun e=>l e.symm)]
  ·rw [zF (fun h=>d h.2),zF (fun h=>d h.2),List.getElem?_eq_none_iff.2 (by rw [xr];omega),List.getElem?_eq_none_iff.2 wC]
theorem qml {c:List Bool}{b:List Nat}(h: ∀p,p∈b->c[p]?=some false):qbv (qbv c b true) b false=c:=by
 refine xZ fun q=>?_;rw [qp1,qp1,qhb];by_cases d:q∈b/\q<c.length
 ·rw [zI d,h q d.1]
 ·rw [zF d,zF d]
theorem qrk (d:List Bool)(c:List Nat)(p:Nat)(b:Bool):qbv d (c++ [p]) b=(qbv d c b).set p b:=by unfold qbv;rw [yn];rfl
theorem qyw {d:List TermD}{c:List ByteArray}: ∀{ts:List TermD} {xs:List ByteArray} {a:Asg},ts.length=xs.length->qbg a (ts++d) (xs++c)=(qbg a ts xs).bind fun b=>qbg b d c:=by
 intro ts
 induction ts with
 |nil=>
  intro xs a h;cases xs with
  |nil=>rfl
  |cons x xs=>cases h
 |cons t ts ih=>
  intro xs a h;cases xs with
  |nil=>cases h
  |cons x xs=>
   rw [length_cons,length_cons]at h;have g:qbg a (t::ts++d) (x::xs++c)=match qaa a t with
    |some y=>if y=x then qbg a (ts++d) (xs++c) else none
    |none=>qbg (qfv a t.text x) (ts++d) (xs++c):=rfl
   have e:qbg a (t::ts) (x::xs)=match qaa a t with
    |some y=>if y=x then qbg a ts xs else none
    |none=>qbg (qfv a t.text x) ts xs:=rfl
   rw [g,e];split
   ·split
    ·exact ih wC
    ·rfl
   ·exact ih wC
theorem qky {a b:Asg}{ts:List TermD}{xs:List ByteArray}{c:Nat}{t:TermD}{x:ByteArray}(l:ts[c]?=some t)(g:xs[c]?=some x)(h:qbg a (ts.take c) (xs.take c)=some b):
  (∀y,qaa b t=some y->y=x->qbg a (ts.take (c+1)) (xs.take (c+1))=some b)/\(qaa b t=none->qbg a (ts.take (c+1)) (xs.take (c+1))=some (qfv b t.text x))/\(∀y,qaa b t=some y->y≠x->qbg a ts xs=none):=by
 have r:=(zA.1 l).1;have p:=(zA.1 g).1;have d:(ts.take c).length=(xs.take c).length:=by rw [yC,yC];omega
 have q:qbg a (ts.take (c+1)) (xs.take (c+1))=qbg b [t] [x]:=by
  rw [zh,l,zh,g];exact(qyw d).trans (by rw [h];rfl)
 refine⟨fun y e m=>?_,fun e=>?_,fun y e m=>?_⟩
 ·rw [q];unfold qbg;rw [e];simp only;rw [zI m]
  rfl
 ·rw [q];unfold qbg;rw [e]
  rfl
 ·have s:ts=ts.take c++t::ts.drop (c+1):=by
   conv=>lhs;rw [←yy c ts]
   rw [zt r,(zA.1 l).2]
  have u:xs=xs.take c++x::xs.drop (c+1):=by
   conv=>lhs;rw [←yy c xs]
   rw [zt p,(zA.1 g).2]
  rw [s,u,qyw d,h,Option.bind_some];unfold qbg;rw [e];simp only;rw [zF m]
structure LookD where
 store:Option Nat
 pred:ByteArray
 arity:Nat
 upto:Nat
def qab (s:Option Nat):Value:=.pointer (s.map fun S=>⟨S,0,none⟩)
def LookD.cells (k:LookD):List Value:= [qab k.store,.string k.pred,.int .i64 (k.arity:Int),.int .i64 (k.upto:Int)]
structure WkC where
 r:RuleD
 vars:List ByteArray
 looks:List LookD
 steps:List Nat
 J:Nat
 l:Nat
 Bj:Nat
 By:Nat
 Bl:Nat
 Lk:Nat
 Bs:Nat
 Bv:Nat
 V:Nat
 Bk:Nat
 K:Nat
 Bt:Nat
 Bu:Nat
 Bp:Nat
 vs:Value
 pos:List Int
 vha:Value
 vb:Value
 vv:Value
 va:Value
 vt:Value
 vh:Value
def WkC.nv (c:WkC)(b:Nat):Prop:=b≠c.V/\b≠c.K
def WkC.bound (c:WkC):Array Value:= #[qi c.Bs,qi c.By,qi c.Bu,qi c.Bj,qi c.Bv,qi c.Bl,qi c.Bt,qi c.Bp,qi c.Bk]
structure WkHeld (c:WkC)(g:Gh)(vals:List ByteArray)(kn:List Bool):Prop where
 j:g.held c.Bj=some (.cells #[qi c.J] 31 (0,0))/\c.nv c.Bj
 y:g.held c.By=some (.cells #[.func (.yield c.l) #[] #[]] 103 (0,0))/\c.nv c.By
 l:g.held c.Bl=some (.cells #[.slice (some ⟨c.Lk,0,none⟩) c.looks.length c.looks.length] 153 (0,0))/\c.nv c.Bl
 lk:g.held c.Lk=some (.cells (c.looks.flatMap LookD.cells).toArray 161 (0,0))/\c.nv c.Lk
 s:g.held c.Bs=some (.cells #[c.vs] 86 (0,0))/\c.nv c.Bs
 sv: ∃a cap,c.vs=.slice a c.steps.length cap/\(c.steps.length<=cap/\cap<=maxLen)/\ ∀(k i:Nat),c.steps[k]?=some i-> ∃b,a=some ⟨b,0,none⟩/\c.nv b/\ ∃cs:Array Value,g.held b=some (.cells cs 3 (0,0))/\cs[k]?=some (.int .i64 (i:Int))
 v:g.held c.Bv=some (.cells #[.slice (some ⟨c.V,0,none⟩) vals.length vals.length] 46 (0,0))/\c.nv c.Bv
 k:g.held c.Bk=some (.cells #[.slice (some ⟨c.K,0,none⟩) kn.length kn.length] 68 (0,0))/\c.nv c.Bk
 t:g.held c.Bt=some (.cells #[.func (.func 86) #[] #[qi c.Bv]] 157 (0,0))/\c.nv c.Bt
 u:g.held c.Bu=some (.cells #[.func (.func 87) #[] #[qi c.Bt]] 158 (0,0))/\c.nv c.Bu
 p:g.held c.Bp=some (.cells #[.func (.func 88) #[] c.bound] 159 (0,0))/\c.nv c.Bp
 row:g.held c.V=some (.cells (vals.map Value.string).toArray 9 (0,0))
 knr:g.held c.K=some (.cells (kn.map Value.bool).toArray 4 (0,0))
 vk:c.V≠c.K
theorem WkHeld.keep {c:WkC}{g q:Gh}{vals d:List ByteArray}{R m:List Bool}(h:WkHeld c g vals R)(U: ∀b o,g.held b=some o->c.nv b->q.held b=some o)(x:d.length=vals.length)(r:m.length=R.length)
  (hr:q.held c.V=some (.cells (d.map Value.string).toArray 9 (0,0))) (hk:q.held c.K=some (.cells (m.map Value.bool).toArray 4 (0,0))):WkHeld c q d m:=by
 have e: ∀{b o},g.held b=some o/\c.nv b->q.held b=some o/\c.nv b:=fun h=>⟨U _ _ h.1 h.2,h.2⟩;refine⟨e h.j,e h.y,e h.l,e h.lk,e h.s,?_,by rw [x];exact e h.v,by rw [r];exact e h.k,e h.t,e h.u,e h.p,hr,hk,h.vk⟩;obtain⟨a,cap,h1,h2,h3⟩:=h.sv;refine⟨a,cap,h1,h2,fun k i hi=>?_⟩;obtain⟨b,X,z,Y,q3,q4⟩:=h3 k i hi;exact⟨b,X,z,Y,U _ _ q3 z,q4⟩
theorem WkHeld.same {c:WkC}{g l:Gh}{vals:List ByteArray}{e:List Bool}(h:WkHeld c g vals e)(d: ∀b o,g.held b=some o->l.held b=some o):WkHeld c l vals e:=h.keep (fun b o m _=>d b o m) rfl rfl (d _ _ h.row) (d _ _ h.knr)
def LookOk (c:WkC)(J:qbd)(g:Gh):Prop:= ∀(i:Nat) (L:LitD) (k:LookD),c.r.body[i]?=some L->c.looks[i]?=some k->
 k.pred=L.atom.pred/\k.arity=L.atom.args.length/\
 (L.kind=1-> ∃S f,k.store=some S/\g.st S=some f/\0<k.upto/\k.upto<=(qv f k.pred k.arity).length/\(qv f k.pred k.arity).take k.upto=J.pos i)/\
 (L.kind=2->(k.store=none/\J.neg i= [])∨ ∃S f,k.store=some S/\g.st S=some f/\k.upto<=(qv f k.pred k.arity).length/\(qv f k.pred k.arity).take k.upto=J.neg i)
theorem LookOk.more {c:WkC}{J:qbd}{g l:Gh}(h:LookOk c J g)(v: ∀S f,g.st S=some f-> ∃d,l.st S=some (f++d)):LookOk c J l:=by
 intro i L k Y x;obtain⟨y,R,h3,X⟩:=h i L k Y x;have key: ∀S f,g.st S=some f->k.upto<=(qv f k.pred k.arity).length-> ∃b,l.st S=some b/\k.upto<=(qv b k.pred k.arity).length/\(qv b k.pred k.arity).take k.upto=(qv f k.pred k.arity).take k.upto:=fun S f U hu=>by
  obtain⟨d,hd⟩:=v S f U;refine⟨_,hd,?_,?_⟩
  ·rw [qiy,zR];omega
  ·rw [qiy,take_append_of_le_length hu]
 refine⟨y,R,fun t=>?_,fun p=>?_⟩
 ·obtain⟨S,f,e,s,z,u,r⟩:=h3 t;obtain⟨b,p1,p2,m⟩:=key S f s u;exact⟨S,b,e,p1,z,p2,m.trans r⟩
 ·rcases X p with q |⟨S,f,e,s,u,r⟩
  ·exact .inl q
  ·obtain⟨b,p1,p2,m⟩:=key S f s u;exact .inr ⟨S,b,e,p1,p2,m.trans r⟩
theorem q01 {l:List (List ByteArray)}{t:List ByteArray}{upto:Nat}:t∈l.take upto↔ ∃i,qfl l t=some i/\i<upto:=by
 constructor
 ·intro h;obtain⟨j,b⟩:=zy.1 h;have c:j<upto:=by have:=(zA.1 b).1;rw [yC] at this;omega
  rw [xR c]at b;have d:=(zA.1 b).1;unfold qfl;cases e:(List.range l.length).find? fun i=>decide (l[i]?=some t) with
  |none=>exact absurd (zS b) (yp.1 e j (yk.2 d))
  |some i=>
   refine⟨i,rfl,Nat.lt_of_le_of_lt (Nat.not_lt.1 fun p=>?_) c⟩;have q:=find?_eq_some_iff_getElem.1 e;obtain⟨_,k,r,g,m⟩:=q;rw [getElem_range]at g;have:=m j wC;rw [getElem_range]at this;simp [b]at this
 ·rintro⟨i,hi,hu⟩;have:=qo7 hi;exact zH (by rw [xR hu];exact this)
end Go.Proofs
namespace Go.Proofs
open Go.RowKit Go.Ink R4 P16
attribute [local go_sem] Oper.semAt_some
theorem qr0 (a:Option Addr)(m c:Nat)(d:List Value)(w:World)(y:d.length=m*1)(Y: ∀b,a=some b-> ∀j u,d[j]?=some u->w.cell? (b.add j)=some u)(hn:a=none->m=0)(p: ∀u∈d,u.oneCell'=true)(hm:m<=1073741824):
  Calls prog 64 #[.slice a m c] w fun e w'=> ∃v',e=.returned v'/\w'.ownsRow w.heap.size 9 1 v' m d/\wG w w':=by
 have hq:=fun w a l c=>qrt qel w a l c;cases a with
 |none=>
  have ad:=hn rfl;subst ad;have x:d= []:=yq (by simpa using y);subst x;clear y Y hn p hm
  go_enter Tryz.func64,Tryz.ntmps64
  go_wp2_with fail;go_ret;exact⟨_,rfl,zj _ _ _ _,Keep.refl _ _⟩
 |some b=>
  obtain⟨W0,g⟩:=ex (w.alloc (.cells #[] 9));have t:wG w W0:=by rw [←g];exact kAl
  have U:=qfg w 9 1;rw [g]at U;obtain⟨v',W1,X,ho,hg,hk⟩:=qhz (P:=prog) qel 46 U (some b) m c d y (fun b' z j u hj=>t.cell (Y b' z j u hj) wH) (fun h=>by cases h) p wC t.size;rw [nil_append,zD]at ho;have r:Keep (fun b=>b<w.heap.size) w W1:=t.mt.trans (hk.mono fun b _ h e=>by
   rcases hg b e with p |p
   ·simp [Value.ownBlock]at p;omega
   ·have:=t.size;omega)
  have q:wG w W1:=r.mono fun b z _=>z;rw [←g]at X;obtain⟨a',c',rfl⟩:=qj ho;clear y Y hn p hg hk r t U g;refine hd3 ?_ X ho q;clear X ho q;intro R ab s
  go_enter Tryz.func64,Tryz.ntmps64
  go_wp2_with (at_builtin;refine qbu (v:=.slice (some ⟨w.heap.size,0,none⟩) 0 0) (u:=.slice (some b) m c) (v':=.slice a' m c') (w':=W1) rfl (.tmp 5) (.tmp 6) 46 rfl rfl rfl R.o ?_);go_ret;exact⟨_,rfl,ab.o,s.o⟩
theorem qlq {w:World}{m:Nat}{v:Value}{ts:List ByteArray}(h:qac m w v ts)(R:m<=w.heap.size)(g: ∀n c,v=.slice none n c->n=0):Calls prog 64 #[v] w fun e w'=> ∃v',e=.returned v'/\w'.ownsRow w.heap.size 9 1 v' ts.length (ts.map .string)/\wG w w':=by
 obtain⟨a,c,rfl,s,U,t⟩:=h;refine qr0 a ts.length c (ts.map .string) w wE (fun b r j u d=>?_) (fun e=>g _ _ (by rw [e])) (fun u y=>?_) s
 ·rw [zP]at d;cases l:ts[j]? with
  |none=>rw [l] at d;cases d
  |some x=>
   rw [l]at d;cases d;obtain⟨q,o,e,z,p⟩:=t j x l;rw [r]at e;cases e;unfold qgr at p;rw [yB]at p;rw [show((⟨q,o,none⟩:Addr).add j)=⟨q,o+j,none⟩ from by unfold Addr.add;split<;>simp_all];exact p
 ·obtain⟨x,_,rfl⟩:=yL.1 y;simp [Value.oneCell']
end Go.Proofs
namespace Go.Ink
open Go.RowKit
section
variable {F : Fence} {n : Nat} {P : Program} {ops : Array Oper} {Q : Exit -> Act -> World -> Prop} {md : Region.Mode} {S : World -> Prop} {late : List Nat}
theorem qr1 {i:Nat}{h:Oper}{a:Act}{w:World}{K:Act->World->Prop}(hi:ops[i]?=some h)(b:wpListIn F n P ops (Exit.then K Q) [h] a w):wpOpIn F n P ops Q i K a w:=by
 unfold wpOpIn;rw [hi];unfold wpListIn at b;simp only at b⊢;split
 ·rename_i hw;rw [zI hw]at b;unfold Oper.wpIn at b⊢;refine⟨b.1,?_⟩;have b:=b.2;generalize (h.semAt F.round a.eval).run P w=r at b⊢;cases r with
  |ok x w'=>
   cases x<;>simp only [Oper.uponIn] at b⊢
   case value u=>exact b
   case skip=>exact b
   case defer d=>exact b
   case enter f args=>exact⟨b.1,CallsIn.mono b.2 fun e c g=>by cases e<;>exact g⟩
   case row row args=>exact⟨b.1,RowsIn.mono b.2 fun u c g=>g⟩
   case round l f tmps assign body=>exact⟨b.1,RoundIn.mono b.2 fun e c g=>by cases e<;>exact g⟩
  |halt x w'=>cases x<;>simp only [Oper.uponIn] at b⊢;exact b
 ·rename_i hw;rw [zF hw]at b;exact b
end
end Go.Ink
namespace Go.Proofs
open Go.RowKit Go.Ink R4
attribute [local go_sem] Oper.semAt_some
def UE {α:Type}(U:Nat->Prop)(E:World->Nat->Nat->α->Prop):World->Nat->Nat->α->Prop:=fun w b o x=>U b/\E w b o x
def q9f (U:Nat->Prop)(n:Nat)(w:World)(b o:Nat)(L:LitD):Prop:=U b/\ ∃sa,CellsE w b o (qal L sa)/\SliceIn n w 2 (UE U TermE) sa L.atom.args
def q86 (U:Nat->Prop)(n:Nat)(w:World)(b o:Nat)(ss:List SlotD):Prop:=U b/\ ∃v,w.cell? ⟨b,o,none⟩=some v/\SliceIn n w 2 (UE U SlotE) v ss
def qda (vars:List ByteArray)(L:LitD):List SlotD:=(qq L).map (qa2 vars)
structure JoinAt (U:Nat->Prop)(n:Nat)(w:World)(J:Nat)(r:RuleD)(vars:List ByteArray)(pos:List Int)(vha vb vv va vt vh:Value):Prop where
 uJ:U J
 box:w.heap[J]?=some (.cells #[.string r.head.pred,vha,vb,vv,va,vt,vh] 90 (0,0))
 head:SliceIn n w 2 (UE U TermE) vha r.head.args
 body:SliceIn n w 7 (q9f U n) vb r.body
 vrow:SliceIn n w 1 (UE U qgr) vv vars
 at':SliceIn n w 1 (UE U qgc) va pos
 terms:SliceIn n w 1 (q86 U n) vt (r.body.map (qda vars))
 slots:SliceIn n w 2 (UE U SlotE) vh (r.head.args.map (qa2 vars))
theorem UE.keep {α:Type}{U:Nat->Prop}{E:World->Nat->Nat->α->Prop}{w w':World}{b o:Nat}{x:α}(h:UE U E w b o x)(d: ∀{b o x},w'.heap[b]?=w.heap[b]?->E w b o x->E w' b o x)(c: ∀b,U b->w'.heap[b]?=w.heap[b]?):UE U E w' b o x:=⟨h.1,d (c b h.1) h.2⟩
theorem qyx {w w':World}{b o:Nat}{x:TermD}(h:w'.heap[b]?=w.heap[b]?)(c:TermE w b o x):TermE w' b o x:=⟨(ym (a:=⟨b,o,none⟩) h).trans c.1,(ym (a:=⟨b,o+1,none⟩) h).trans c.2⟩
theorem qr2 {w w':World}{b o:Nat}{x:SlotD}(h:w'.heap[b]?=w.heap[b]?)(c:SlotE w b o x):SlotE w' b o x:=⟨(ym (a:=⟨b,o,none⟩) h).trans c.1,(ym (a:=⟨b,o+1,none⟩) h).trans c.2⟩
theorem q87 {w w':World}{b o:Nat}{x:ByteArray}(h:w'.heap[b]?=w.heap[b]?)(c:qgr w b o x):qgr w' b o x:=(ym (a:=⟨b,o,none⟩) h).trans c
theorem q88 {w w':World}{b o:Nat}{x:Int}(h:w'.heap[b]?=w.heap[b]?)(c:qgc w b o x):qgc w' b o x:=(ym (a:=⟨b,o,none⟩) h).trans c
theorem JoinAt.same {U:Nat->Prop}{n:Nat}{w w':World}{J:Nat}{r:RuleD}{vars:List ByteArray}{pos:List Int}{e q vv p s vh:Value}(h:JoinAt U n w J r vars pos e q vv p s vh)(d: ∀b,U b->w'.heap[b]?=w.heap[b]?):JoinAt U n w' J r vars pos e q vv p s vh:=
 ⟨h.uJ,(d _ h.uJ).trans h.box,h.head.mono fun _ _ _ _ c=>c.keep qyx d,h.body.mono fun b o x _ c=>by
   obtain⟨g,sa,l,m⟩:=c;exact⟨g,sa,fun j v t=>(ym (a:=⟨b,o+j,none⟩) (d b g)).trans (l j v t),m.mono fun _ _ _ _ c=>c.keep qyx d⟩,
  h.vrow.mono fun _ _ _ _ c=>c.keep q87 d,h.at'.mono fun _ _ _ _ c=>c.keep q88 d,h.terms.mono fun b o x _ c=>by
   obtain⟨g,v,l,m⟩:=c;exact⟨g,v,(ym (a:=⟨b,o,none⟩) (d b g)).trans l,m.mono fun _ _ _ _ c=>c.keep qr2 d⟩,
  h.slots.mono fun _ _ _ _ c=>c.keep qr2 d⟩
theorem JoinAt.keep {U:Nat->Prop}{n:Nat}{w w':World}{J:Nat}{r:RuleD}{vars:List ByteArray}{pos:List Int}{c e vv d l vh:Value}{C:Nat->Prop}(h:JoinAt U n w J r vars pos c e vv d l vh)(hK:Keep C w w')(p: ∀b,U b->C b)(m: ∀b,U b->b<w.heap.size):JoinAt U n w' J r vars pos c e vv d l vh:=
 h.same fun b g=>hK.block b (m b g) (p b g)
def qju (r:RuleD)(vars:List ByteArray)(b:Asg)(g:Gh)(n:Nat)(X:World)(args:Array Value):Prop:=
 ∃vh vv,args= #[.agg #[vh,vv]]/\X.ownsRow n 9 1 vh r.head.args.length ((r.head.args.map (qaz b)).map .string)/\X.ownsRow n 9 1 vv vars.length ((vars.map fun x=>(b x).getD ⟨#[]⟩).map .string)/\
  (∀k,vh.ownBlock=some k->g.free k)/\(∀k,vv.ownBlock=some k->g.free k)/\(∀k,vh.ownBlock=some k->vv.ownBlock≠some k)
structure qeb (n0 n1:Nat)(W0:World)(c:WkC)(LJ:qbd)(U:Nat->Prop)(nU:Nat)(Vw:World->Prop)(all:List Asg)(Jp Jx:Nat->Gh->World->Prop):Prop where
 hJ: ∀k γ X γ' Y,Jp k γ X->(qlp n0).istep γ X γ' Y->Jp k γ' Y
 hJx: ∀k γ X γ' Y,Jx k γ X->(qlp n0).istep γ X γ' Y->Jx k γ' Y
 hy: ∀k γ X0 X args b,all[k]?=some b->Jp k γ X0->(qlp n0).istep γ X0 γ X->GInv γ X->Vw X->n1<=X0.heap.size->qju c.r c.vars b γ X0.heap.size X args->YieldAt Fence.wide 0 prog c.l args X (qh8 (qlp n0) Vw Jp Jx k γ X)
 hj:JoinAt U nU W0 c.J c.r c.vars c.pos c.vha c.vb c.vv c.va c.vt c.vh
 hV: ∀X,Vw X->(∀b,U b->X.heap[b]?=W0.heap[b]?)/\nU<=X.heap.size
 hVk: ∀X Y C,Vw X->Keep C X Y->(∀b,U b->C b)->Vw Y
 hU: ∀b,U b->b<nU
 n01:n0<=n1
 nV:n0<=c.V
 nK:n0<=c.K
 few:c.vars.length<=1073741824
 nodup:c.vars.Nodup
 kinds:qj1 c.r.body
 vin: ∀L t,L∈c.r.body->t∈qq L->qex c.vars t
 hin: ∀t,t∈c.r.head.args->qex c.vars t
 small: ∀L t,L∈c.r.body->t∈qq L->t.text.size<=1073741824
 preds: ∀L,L∈c.r.body->L.atom.pred.size<=1073741824
 looks:c.looks.length=c.r.body.length
 lfew:c.looks.length<=1073741824
 steps: ∀i,i∈c.steps->i<c.r.body.length
 sfew:c.steps.length<=1073741824
 texts: ∀i t s,t∈LJ.pos i->s∈t->s.size<=1073741824
def SameW (c:WkC)(U:Nat->Prop)(g:Gh)(W0 X:World):Prop:=(∀b o,g.held b=some o->c.nv b->X.heap[b]?=some o)/\ ∀b,U b->X.heap[b]?=W0.heap[b]?
theorem SameW.of {c:WkC}{U:Nat->Prop}{g d:Gh}{W0 X:World}(e:GInv d X)(h: ∀b o,g.held b=some o->c.nv b->d.held b=some o)(p: ∀b,U b->X.heap[b]?=W0.heap[b]?):SameW c U g W0 X:=⟨fun b o m l=>e.hold b o (h b o m l),p⟩
theorem SameW.keep {c:WkC}{U:Nat->Prop}{g:Gh}{W0 X Y:World}{C:Nat->Prop}(h:SameW c U g W0 X)(hK:Keep C X Y)(l: ∀b o,g.held b=some o->c.nv b->C b)(m: ∀b,U b->C b)(e: ∀b,U b->b<X.heap.size):SameW c U g W0 Y:=
 ⟨fun b o d e=>hK.heap (h.1 b o d e) (l b o d e),fun b d=>(hK.block b (e b d) (m b d)).trans (h.2 b d)⟩
def StepEnd (c:WkC)(U:Nat->Prop)(Vw:World->Prop)(all:List Asg)(Jp Jx:Nat->Gh->World->Prop)(k0 m:Nat)(g:Gh)(W:World)(a:Asg)(kn:List Bool)(ans:Bool)(W':World):Prop:=
 ∃g' vals',GInv g' W'/\Vw W'/\(∀b,U b->g'.free b)/\W.heap.size<=W'.heap.size/\WkHeld c g' vals' kn/\(∀b o,g.held b=some o->c.nv b->g'.held b=some o)/\(∀S f,g.st S=some f-> ∃d,g'.st S=some (f++d))/\qcs c.vars vals' kn a/\
  ((ans=true/\Jp (k0+m) g' W')∨(ans=false/\ ∃k,k<all.length/\Jx k g' W'))
structure StepAt (n1:Nat)(c:WkC)(LJ:qbd)(U:Nat->Prop)(Vw:World->Prop)(all:List Asg)(Jp:Nat->Gh->World->Prop)(i k0:Nat)(g:Gh)(W:World)(a:Asg)(vals:List ByteArray)(kn:List Bool):Prop where
 inv:GInv g W
 v:Vw W
 u: ∀b,U b->g.free b
 held:WkHeld c g vals kn
 look:LookOk c LJ g
 asg:qcs c.vars vals kn a
 way:qg9 c.r.body (c.steps.drop i) (fun x=> ∃v,a x=some v)
 full: ∀x,x∈c.vars->(∃v,a x=some v)∨x∈q8 c.r.body (c.steps.drop i)
 told: ∀q b,(qbl LJ c.r.body (c.steps.drop i) a)[q]?=some b->all[k0+q]?=some b
 jp:Jp k0 g W
 n:n1<=W.heap.size
def qhc (n1:Nat)(c:WkC)(LJ:qbd)(U:Nat->Prop)(Vw:World->Prop)(all:List Asg)(Jp Jx:Nat->Gh->World->Prop)(i:Nat):Prop:=
 ∀k0 g W a vals kn,StepAt n1 c LJ U Vw all Jp i k0 g W a vals kn->
  Calls prog 88 (#[.int .i64 (i:Int)]++c.bound) W fun e W'=> ∃ans,e=.returned (.bool ans)/\StepEnd c U Vw all Jp Jx k0 (qbl LJ c.r.body (c.steps.drop i) a).length g W a kn ans W'
theorem WkHeld.vals {c:WkC}{g:Gh}{W:World}{vals:List ByteArray}{d:List Bool}(h:WkHeld c g vals d)(b:GInv g W):ValsAt W c.Bv c.V vals:=⟨b.hold _ _ h.v.1,b.hold _ _ h.row⟩
theorem q4b {c:WkC}{vals:List ByteArray}{l:List Bool}{a:Asg}(h:qcs c.vars vals l a)(b: ∀t,t∈c.r.head.args->qex c.vars t)(p: ∀x,x∈c.vars-> ∃v,a x=some v):(c.r.head.args.map (qa2 c.vars)).map (qer vals)=c.r.head.args.map (qaz a):=by
 rw [map_map];refine xC fun t g=>?_;have m: ∃y,qaa a t=some y:=by
  unfold qaa;by_cases d:t.var=true
  ·rw [zI d];exact p _ (b t g d)
  ·rw [zF d];exact⟨_,rfl⟩
 obtain⟨y,e⟩:=m;unfold qaz;rw [e,Function.comp,qn8 h (b t g) e]
 rfl
theorem q4c {n0 n1:Nat}{W0:World}{c:WkC}{LJ:qbd}{U:Nat->Prop}{nU:Nat}{Vw:World->Prop}{all:List Asg}{Jp Jx:Nat->Gh->World->Prop}(hE:qeb n0 n1 W0 c LJ U nU Vw all Jp Jx):qhc n1 c LJ U Vw all Jp Jx c.steps.length:=by
 intro k0 g W a vals kn hA;have hB:=hA.held;have hi:=hA.inv;obtain⟨sa,sc,aG,b2,bw⟩:=hB.sv;have b7:=(hE.hV W hA.v).2;have hj:=hE.hj.same (hE.hV W hA.v).1;have q: ∀x,x∈c.vars-> ∃v,a x=some v:=fun x hx=>by
  rcases hA.full x hx with h |h
  ·exact h
  ·rw [xq]at h;cases h
 have ag:qbl LJ c.r.body (c.steps.drop c.steps.length) a= [a]:=by rw [xq];rfl
 have af:all[k0]?=some a:=hA.told 0 a (by rw [ag];rfl);have bh:k0<all.length:=(zA.1 af).1;rw [ag];have d1:=hi.hold _ _ hB.s.1;have d2:=hi.hold _ _ hB.y.1;have d3:=hi.hold _ _ hB.u.1;have d4:=hi.hold _ _ hB.j.1;have d5:=hi.hold _ _ hB.v.1;have d6:=hi.hold _ _ hB.t.1;have R:=hB.vals hi;have b1:=qb d1 0 _ rfl;have b8:=qe d1;simp only [zD]at b1;rw [aG]at b1;have cf:c.steps.length<=1073741824:=hE.sfew;have m: ∀X,wG W X->X.cell? ⟨c.By,0,none⟩=some (.func (.yield c.l) #[] #[])/\X.cell? ⟨c.Bu,0,none⟩=some (.func (.func 87) #[] #[qi c.Bt])/\X.cell? ⟨c.Bj,0,none⟩=some (qi c.J)/\X.cell? ⟨c.J,6,none⟩=some c.vh/\X.cell? ⟨c.Bv,0,none⟩=some (.slice (some ⟨c.V,0,none⟩) vals.length vals.length):=fun X z=>by
  have q2:=qb (z.heap d2 wH) 0 _ rfl;have q3:=qb (z.heap d3 wH) 0 _ rfl;have q4:=qb (z.heap d4 wH) 0 _ rfl;have q5:=qb (z.heap d5 wH) 0 _ rfl;have q6:=qb (z.heap hj.box wH) 6 _ rfl;simp only [zD]at q2 q3 q4 q5 q6;exact⟨q2,q3,q4,q6,q5⟩
 have ax:=m W.drew kDr;obtain⟨av,cv,aj,br,cb,bD⟩:=id hj.slots;rw [aj]at ax m;simp only [zL]at ax m aj br;have a6:vals.length<=1073741824:=by rw [hA.asg.lv];exact hE.few
 have ad:=qwj hA.asg q;have aJ:=q4b hA.asg hE.hin q;have aB: ∀X,wG W X->Calls prog 87 #[.slice av c.r.head.args.length cv,qi c.Bt] X fun e w'=> ∃vo,e=.returned vo/\w'.ownsRow X.heap.size 9 1 vo c.r.head.args.length ((c.r.head.args.map (qaz a)).map .string)/\wG X w':=fun X z=>by
  have:=qo8 (z.heap d6 wH) (R.keep z trivial wH) a6 nU c.vh (c.r.head.args.map (qa2 c.vars)) ((hj.keep z (fun _ _=>wH) (fun b hb=>by have:=hE.hU b hb;omega)).slots.mono fun _ _ _ _ h=>h.2) (by have:=z.size;omega) (fun s hs=>by
   obtain⟨t,ht,rfl⟩:=yL.1 hs;exact qpz (hE.hin t ht) hA.asg.lv)
  rw [aJ,zL,aj]at this;exact this
 have aW: ∀X,wG W X->Calls prog 64 #[.slice (some ⟨c.V,0,none⟩) vals.length vals.length] X fun e w'=> ∃vo,e=.returned vo/\w'.ownsRow X.heap.size 9 1 vo c.vars.length ((c.vars.map fun x=>(a x).getD ⟨#[]⟩).map .string)/\wG X w':=fun X z=>by
  have bv:qac (c.V+1) X (.slice (some ⟨c.V,0,none⟩) vals.length vals.length) vals:=⟨_,_,rfl,a6,⟨zG _,by simp only [maxLen];omega⟩,fun k x hx=>⟨c.V,0,rfl,wC,by
   unfold qgr;have:=(R.keep z trivial wH).cell hx
   simpa using this⟩⟩
  have:=qlq bv (by have:=qe (R.keep z trivial wH).row;omega) (fun n c h=>by cases h);rw [hA.asg.lv]at this⊢;rw [←ad];exact this
 have aD: ∀X args,wG W X->qju c.r c.vars a g W.heap.size X args->YieldAt Fence.wide 0 prog c.l args X (qh8 (qlp n0) Vw Jp Jx k0 g X):=fun X args z hT=>
  hE.hy k0 g W X args a af hA.jp ⟨GStep.own hi z,rfl⟩ (hi.keep z.mt) (hE.hVk W X _ hA.v z (fun _ _=>wH)) hA.n hT
 have az: ∀g' Y,GInv g' Y->Vw Y->GBd g W.heap.size g'->W.heap.size<=Y.heap.size-> ∀ar,((ar=true/\Jp (k0+1) g' Y)∨(ar=false/\ ∃k,k<all.length/\Jx k g' Y))->StepEnd c U Vw all Jp Jx k0 [a].length g W a kn ar Y/\(Y.cell? ⟨c.By,0,none⟩=some (.func (.yield c.l) #[] #[])/\Y.cell? ⟨c.Bu,0,none⟩=some (.func (.func 87) #[] #[qi c.Bt])/\Y.cell? ⟨c.Bj,0,none⟩=some (qi c.J)/\Y.cell? ⟨c.J,6,none⟩=some (.slice av c.r.head.args.length cv)/\Y.cell? ⟨c.Bv,0,none⟩=some (.slice (some ⟨c.V,0,none⟩) vals.length vals.length)):=fun g' Y p bb aK hz ar a8=>by
  have hh: ∀b o,g.held b=some o->g'.held b=some o:=fun b o hb=>(aK.held b (qe (hi.hold b o hb))).trans hb;have am:=hB.same hh;have q2:=qb (p.hold _ _ am.y.1) 0 _ rfl;have q3:=qb (p.hold _ _ am.u.1) 0 _ rfl;have q4:=qb (p.hold _ _ am.j.1) 0 _ rfl;have q5:=qb (p.hold _ _ am.v.1) 0 _ rfl;have q6:=qb (hE.hj.same (hE.hV Y bb).1).box 6 _ rfl;simp only [zD]at q2 q3 q4 q5 q6;rw [aj]at q6;exact⟨⟨g',vals,p,bb,fun b hb=>aK.new b (by have:=hE.hU b hb;omega) (hA.u b hb),hz,am,fun b o hb _=>hh b o hb,aK.more,hA.asg,a8⟩,q2,q3,q4,q6,q5⟩
 have aT: ∀b,W.heap.size<=b->g.free b:=fun b hb=>by
  refine⟨?_,?_⟩
  ·cases e:g.tag b with
   |none=>rfl
   |some T=>have:=hi.lt b T e;omega
  ·cases e:g.held b with
   |none=>rfl
   |some o=>have:=qe (hi.hold b o e);omega
 clear d1 d2 d3 d4 d5 d6 bD bw;unfold WkC.bound;refine qb5 ?_ az hA hB hi hE hj q ag af R m ax ad aJ aB aW;clear az hA hB hi hE hj q ag af R m ax ad aJ aB aW;intro al bW b3 ch b0 ce bc bx bk bm ai aP bf bJ aI aS;refine hd4 ?_ aD aT aG aj;clear aD aT aG aj;intro aH aE bK bQ;refine qbr Tryz.func88 rfl ?_;simp only [Tryz.ntmps88,qd0,Nat.reduceAdd,Nat.reduceSub];gi_wp2;refine xe.2 ?_;refine wp_scope_straight ?_;refine(xe (n:=0)).1 ?_;gi_wp2;refine qae ?_;refine qw rfl (fun X=>X.cell? ⟨c.By,0,none⟩=some (.func (.yield c.l) #[] #[])/\X.cell? ⟨c.Bu,0,none⟩=some (.func (.func 87) #[] #[qi c.Bt])/\X.cell? ⟨c.Bj,0,none⟩=some (qi c.J)/\X.cell? ⟨c.J,6,none⟩=some (.slice av c.r.head.args.length cv)/\X.cell? ⟨c.Bv,0,none⟩=some (.slice (some ⟨c.V,0,none⟩) vals.length vals.length)) [] ?_;refine qy [0,1,2,3,4,5,7] ?_
 iterate 7
  refine tkR (v:=?_) rfl aP.o ?_ ?_;rotate_left
  ·rintro Wq ⟨x0,x1,x2,x3,x4⟩;go_simp
   try with_reducible rfl
  try simp only [qz]
 refine qm ?_;refine hoR 6 rfl fun K aY=>?_;gi_wp2;refine⟨wH,rfl,(zU.2 (aI.o _ kDr)).mono ?_⟩;rintro e W1 ⟨v1,rfl,o1,k1⟩;have aq:wG W W1:=kDr.trans k1;have ba:=ai.o W1 aq;have z1:W.heap.size<=W1.heap.size:=aq.size;have z0:W.drew.heap.size=W.heap.size:=wE
 rw [z0]at o1;obtain⟨a1,c1,rfl⟩:=qj o1;clear k1;refine hd3 ?_ o1 aq ba;clear o1 aq ba;intro aL aC a5;gi_wp2;refine aY.o _ _ (fun _=>a5.o) ?_;refine hoR 8 rfl fun K aV=>?_;gi_wp2;refine⟨wH,rfl,(zU.2 (aS.o _ aC.o)).mono ?_⟩;rintro e W2 ⟨v2,rfl,o2,k2⟩;obtain⟨a2,c2,rfl⟩:=qj o2;have au:wG W W2:=aC.o.trans k2;have a7:=ai.o W2 au;have hT:qju c.r c.vars a g W.heap.size W2 #[.agg #[.slice a1 c.r.head.args.length c1,.slice a2 c.vars.length c2]]:=by
  refine⟨_,_,rfl,qf aL.o k2 (fun _ _=>wH),o2.mono z1,fun b hb=>aE.o b (zE aL.o b hb).1,fun b hb=>aE.o b (zW z1 (zE o2 b hb).1),fun b hb bu=>?_⟩;have q1:=(zE aL.o b hb).2;have q2:=(zE o2 b bu).1;omega
 obtain⟨fn,tmps,assign,body,a3,hR⟩:=aH.o W2 _ au hT;clear k2 o2 hT;refine hd2 ?_ au a7;clear au a7;intro ae ay;gi_wp2;refine aV.o _ _ (fun _=>ay.o) ?_;refine qy [9] ?_
 iterate 1
  refine tkR (v:=?_) rfl ay.o ?_ ?_;rotate_left
  ·rintro Wq ⟨x0,x1,x2,x3,x4⟩;go_simp
   try with_reducible rfl
  try simp only [qz]
 refine qm ?_;refine hoR 10 rfl fun K aA=>?_;have aF:=zg hR;clear hR;gi_wp2;refine⟨rfl,aF.out.mono ?_⟩;rintro e Y ⟨g',p,aw,ah,aZ,(⟨rfl,ao⟩ |⟨rfl,ao⟩)⟩
 ·have an:=al.o g' Y p aw (ah.mono ae.o.size) (zW ae.o.size aZ) true (.inl ⟨rfl,ao⟩);clear p aw ah ao aF a3;refine hd1 ?_ an;clear an;intro d;gi_wp2;refine aA.o _ _ (fun _=>d.o.2) ?_;refine qy [11] ?_
  iterate 1
   refine tkR (v:=?_) rfl d.o.2 ?_ ?_;rotate_left
   ·rintro Wq ⟨x0,x1,x2,x3,x4⟩;go_simp
    try with_reducible rfl
   try simp only [qz]
  refine qm ?_;refine ql wD (qo ?_);gi_wp2;rw [Exit.noGoto_ret];go_ret;exact⟨_,rfl,d.o.1⟩
 ·have an:=al.o g' Y p aw (ah.mono ae.o.size) (zW ae.o.size aZ) false (.inr ⟨rfl,k0,bh,ao⟩);clear p aw ah ao aF a3;refine hd1 ?_ an;clear an;intro d;gi_wp2;refine aA.o _ _ (fun _=>d.o.2) ?_;refine qy [11] ?_
  iterate 1
   refine tkR (v:=?_) rfl d.o.2 ?_ ?_;rotate_left
   ·rintro Wq ⟨x0,x1,x2,x3,x4⟩;go_simp
    try with_reducible rfl
   try simp only [qz]
  refine qm ?_;refine ql wD (qo ?_);gi_wp2;rw [Exit.noGoto_ret];go_ret;exact⟨_,rfl,d.o.1⟩
end Go.Proofs
