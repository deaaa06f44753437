/- Parts of the proof. -/
import Derived.Test.YtnponcjnahicnaaGreatDoorStNToWkA
set_option linter.unusedSimpArgs false
set_option linter.unusedVariables false
set_option maxRecDepth 100000
set_option maxHeartbeats 4000000
open Go.Proofs.Tryz(prog)
open List(find?_eq_some_iff_getElem foldl_cons getElem?_cons_succ getElem?_cons_zero getElem?_set_ne getElem?_set_self getElem_idxOf getElem_range length_cons map_map map_set nil_append take_append_of_le_length toList_toArray)
namespace Go.Proofs
open Go.RowKit Go.Ink R4
def qa3 (vars:List ByteArray)(t:TermD):SlotD:=if t.var=true then ⟨(vars.idxOf t.text:Nat),⟨#[]⟩⟩ else ⟨-1,t.text⟩
def qm (L:LitD):List TermD:=if L.kind=3 then [L.left,L.right] else L.atom.args
def qeq (vars:List ByteArray)(t:TermD):Prop:=t.var=true->t.text∈vars
structure qck (vars vals:List ByteArray)(kn:List Bool)(a:Asg):Prop where
 lv:vals.length=vars.length
 lk:kn.length=vars.length
 kw: ∀(p:Nat) (x:ByteArray),vars[p]?=some x->(kn[p]?=some true↔ ∃v,a x=some v)
 val: ∀(p:Nat) (x v:ByteArray),vars[p]?=some x->a x=some v->vals[p]?=some v
 small: ∀x v,a x=some v->v.size<=1073741824
theorem qwf {vars:List ByteArray}{x:ByteArray}(h:x∈vars):vars[vars.idxOf x]?=some x:=by
 have b:=y9 h;rw [zB b,getElem_idxOf]
theorem qpu {vars vals:List ByteArray}{t:TermD}(h:qeq vars t)(b:vals.length=vars.length):(qa3 vars t).place<vals.length:=by
 unfold qa3;split
 ·rename_i hv;have:=y9 (h hv);simp only;omega
 ·simp only;omega
theorem qn9 {vars vals:List ByteArray}{e:List Bool}{a:Asg}(h:qck vars vals e a){t:TermD}(d:qeq vars t){y:ByteArray}(b:qab a t=some y):qej vals (qa3 vars t)=y:=by
 unfold qab at b;unfold qej qa3;by_cases c:t.var=true
 ·rw [zI c]at b;rw [zI c];have:=h.val _ _ _ (qwf (d c)) b;rw [zF (by simp only;omega),zJ];simp only [Int.toNat_natCast];rw [this]
  rfl
 ·rw [zF c]at b;rw [zF c,zI (by simp only;omega)];exact yI b
theorem qyy {vars vals:List ByteArray}{d:List Bool}{a:Asg}(h:qck vars vals d a){t:TermD}(c:qeq vars t)(b:t.var=true):d[vars.idxOf t.text]?=some (qab a t).isSome:=by
 have s:=qwf (c b);have m:=y9 (c b);have g:=h.kw _ _ s;have e:d[vars.idxOf t.text]?=some (d[vars.idxOf t.text]'(by rw [h.lk];exact m)):=zB _;rw [e]at g⊢;have p:qab a t=a t.text:=by unfold qab;rw [zI b]
 rw [p];cases l:a t.text with
 |some v=>rw [g.2 ⟨v,l⟩];rfl
 |none=>
  cases q:d[vars.idxOf t.text]'(by rw [h.lk];exact m) with
  |false=>rfl
  |true=>
   rw [q]at g;obtain⟨v,b⟩:=g.1 rfl;rw [l]at b;cases b
theorem qwg {vars vals:List ByteArray}{t:List Bool}{a:Asg}(z:vars.Nodup)(h:qck vars vals t a){p:Nat}{x:ByteArray}(g:vars[p]?=some x)(v:ByteArray)(R:v.size<=1073741824):qck vars (vals.set p v) (t.set p true) (qfs a x v):=by
 have s:=(zA.1 g).1;have d: ∀(q:Nat) (y:ByteArray),vars[q]?=some y->q≠p->y≠x:=fun q y b m e=>by
  subst e;exact m ((xw (zA.1 b).1 z).1 (b.trans g.symm))
 refine⟨by rw [xp];exact h.lv,by rw [xp];exact h.lk,fun q y b=>?_,fun q y u b c=>?_,fun y u c=>?_⟩
 ·by_cases e:q=p
  ·subst e;rw [g]at b;cases b;rw [getElem?_set_self (by rw [h.lk];exact s)];exact⟨fun _=>⟨v,qru _ _ _⟩,fun _=>rfl⟩
  ·rw [getElem?_set_ne (fun l=>e l.symm),h.kw q y b];unfold qfs;rw [zF (d q y b e)]
 ·by_cases e:q=p
  ·subst e;rw [g]at b;cases b;rw [qru]at c;cases c;exact getElem?_set_self (by rw [h.lv];exact s)
  ·rw [getElem?_set_ne (fun l=>e l.symm)];unfold qfs at c;rw [zF (d q y b e)]at c;exact h.val q y u b c
 ·unfold qfs at c;split at c
  ·cases c;exact R
  ·exact h.small y u c
theorem qpv {vars vals b:List ByteArray}{e c:List Bool}{a a':Asg}(h:qck vars vals e a)(d:qck vars b c a')(g:ExtA a a'):qck vars b e a:=⟨d.lv,h.lk,h.kw,fun p x v l m=>d.val p x v l (g x v m),h.small⟩
theorem qwh {vars vals:List ByteArray}{e:List Bool}{a:Asg}(h:qck vars vals e a)(d: ∀x,x∈vars-> ∃v,a x=some v):vals=vars.map fun x=>(a x).getD ⟨#[]⟩:=by
 refine xX fun p=>?_;rw [zP];cases b:vars[p]? with
 |none=>rw [List.getElem?_eq_none_iff.2 (by rw [h.lv];exact List.getElem?_eq_none_iff.1 b)];rfl
 |some x=>
  obtain⟨v,c⟩:=d x (zH b);rw [h.val p x v b c,Option.map_some,c]
  rfl
def qbq (kn:List Bool)(mine:List Nat)(b:Bool):List Bool:=mine.foldl (fun k p=>k.set p b) kn
theorem qg7 (c:List Nat)(b:Bool): ∀kn,(qbq kn c b).length=kn.length:=by
 induction c with
 |nil=>intro kn;rfl
 |cons p c ih=>intro kn;unfold qbq at ih⊢;rw [foldl_cons,ih,xp]
theorem qpw (c:List Nat)(b:Bool): ∀(kn:List Bool) (q:Nat),(qbq kn c b)[q]?=if q∈c/\q<kn.length then some b else kn[q]?:=by
 induction c with
 |nil=>intro kn q;simp [qbq]
 |cons p c ih=>
  intro kn q;have:=ih (kn.set p b) q;unfold qbq at this⊢;rw [foldl_cons,this,xp];by_cases d:q<kn.length
  ·by_cases g:q∈c
   ·rw [zI ⟨g,d⟩,zI ⟨yD _ g,d⟩]
   ·rw [zF (fun h=>g h.1)];by_cases l:q=p
    ·subst l;rw [zI ⟨yJ ..,d⟩,getElem?_set_self d]
    ·rw [zF (fun h=>(zw.1 h.1).elim l g),getElem?_set_ne (fun e=>l e.symm)]
  ·rw [zF (fun h=>d h.2),zF (fun h=>d h.2),List.getElem?_eq_none_iff.2 (by rw [xp];omega),List.getElem?_eq_none_iff.2 wA]
theorem qmk {d:List Bool}{b:List Nat}(h: ∀p,p∈b->d[p]?=some false):qbq (qbq d b true) b false=d:=by
 refine xX fun q=>?_;rw [qpw,qpw,qg7];by_cases c:q∈b/\q<d.length
 ·rw [zI c,h q c.1]
 ·rw [zF c,zF c]
theorem qrg (d:List Bool)(c:List Nat)(p:Nat)(b:Bool):qbq d (c++ [p]) b=(qbq d c b).set p b:=by unfold qbq;rw [yl];rfl
theorem qyz {c:List TermD}{d:List ByteArray}: ∀{ts:List TermD} {xs:List ByteArray} {a:Asg},ts.length=xs.length->qbb a (ts++c) (xs++d)=(qbb a ts xs).bind fun b=>qbb b c d:=by
 intro ts
 induction ts with
 |nil=>
  intro xs a h;cases xs with
  |nil=>rfl
  |cons x xs=>cases h
 |cons t ts ih=>
  intro xs a h;cases xs with
  |nil=>cases h
  |cons x xs=>
   rw [length_cons,length_cons]at h;have e:qbb a (t::ts++c) (x::xs++d)=match qab a t with
    |some y=>if y=x then qbb a (ts++c) (xs++d) else none
    |none=>qbb (qfs a t.text x) (ts++c) (xs++d):=rfl
   have g:qbb a (t::ts) (x::xs)=match qab a t with
    |some y=>if y=x then qbb a ts xs else none
    |none=>qbb (qfs a t.text x) ts xs:=rfl
   rw [e,g];split
   ·split
    ·exact ih wA
    ·rfl
   ·exact ih wA
theorem qkx {a b:Asg}{ts:List TermD}{xs:List ByteArray}{c:Nat}{t:TermD}{x:ByteArray}(l:ts[c]?=some t)(m:xs[c]?=some x)(h:qbb a (ts.take c) (xs.take c)=some b):
  (∀y,qab b t=some y->y=x->qbb a (ts.take (c+1)) (xs.take (c+1))=some b)/\(qab b t=none->qbb a (ts.take (c+1)) (xs.take (c+1))=some (qfs b t.text x))/\(∀y,qab b t=some y->y≠x->qbb a ts xs=none):=by
 have v:=(zA.1 l).1;have p:=(zA.1 m).1;have d:(ts.take c).length=(xs.take c).length:=by rw [yC,yC];omega
 have q:qbb a (ts.take (c+1)) (xs.take (c+1))=qbb b [t] [x]:=by
  rw [zh,l,zh,m];exact(qyz d).trans (by rw [h];rfl)
 refine⟨fun y e g=>?_,fun e=>?_,fun y e g=>?_⟩
 ·rw [q];unfold qbb;rw [e];simp only;rw [zI g]
  rfl
 ·rw [q];unfold qbb;rw [e]
  rfl
 ·have s:ts=ts.take c++t::ts.drop (c+1):=by
   conv=>lhs;rw [←yw c ts]
   rw [zt v,(zA.1 l).2]
  have u:xs=xs.take c++x::xs.drop (c+1):=by
   conv=>lhs;rw [←yw c xs]
   rw [zt p,(zA.1 m).2]
  rw [s,u,qyz d,h,Option.bind_some];unfold qbb;rw [e];simp only;rw [zF g]
structure LookD where
 store:Option Nat
 pred:ByteArray
 arity:Nat
 upto:Nat
def qa1 (s:Option Nat):Value:=.pointer (s.map fun S=>⟨S,0,none⟩)
def LookD.cells (k:LookD):List Value:= [qa1 k.store,.string k.pred,.int .i64 (k.arity:Int),.int .i64 (k.upto:Int)]
structure WkC where
 r:RuleD
 vars:List ByteArray
 looks:List LookD
 steps:List Nat
 J:Nat
 l:Nat
 Bj:Nat
 By:Nat
 Bl:Nat
 Lk:Nat
 Bs:Nat
 Bv:Nat
 V:Nat
 Bk:Nat
 K:Nat
 Bt:Nat
 Bu:Nat
 Bp:Nat
 vs:Value
 pos:List Int
 vha:Value
 vb:Value
 vv:Value
 va:Value
 vt:Value
 vh:Value
def WkC.nv (c:WkC)(b:Nat):Prop:=b≠c.V/\b≠c.K
def WkC.bound (c:WkC):Array Value:= #[qk c.Bs,qk c.By,qk c.Bu,qk c.Bj,qk c.Bv,qk c.Bl,qk c.Bt,qk c.Bp,qk c.Bk]
structure WkHeld (c:WkC)(g:Gh)(vals:List ByteArray)(kn:List Bool):Prop where
 j:g.held c.Bj=some (.cells #[qk c.J] 35 (0,0))/\c.nv c.Bj
 y:g.held c.By=some (.cells #[.func (.yield c.l) #[] #[]] 137 (0,0))/\c.nv c.By
 l:g.held c.Bl=some (.cells #[.slice (some ⟨c.Lk,0,none⟩) c.looks.length c.looks.length] 184 (0,0))/\c.nv c.Bl
 lk:g.held c.Lk=some (.cells (c.looks.flatMap LookD.cells).toArray 192 (0,0))/\c.nv c.Lk
 s:g.held c.Bs=some (.cells #[c.vs] 125 (0,0))/\c.nv c.Bs
 sv: ∃a cap,c.vs=.slice a c.steps.length cap/\(c.steps.length<=cap/\cap<=maxLen)/\ ∀(k i:Nat),c.steps[k]?=some i-> ∃b,a=some ⟨b,0,none⟩/\c.nv b/\ ∃cs:Array Value,g.held b=some (.cells cs 3 (0,0))/\cs[k]?=some (.int .i64 (i:Int))
 v:g.held c.Bv=some (.cells #[.slice (some ⟨c.V,0,none⟩) vals.length vals.length] 60 (0,0))/\c.nv c.Bv
 k:g.held c.Bk=some (.cells #[.slice (some ⟨c.K,0,none⟩) kn.length kn.length] 29 (0,0))/\c.nv c.Bk
 t:g.held c.Bt=some (.cells #[.func (.func 120) #[] #[qk c.Bv]] 188 (0,0))/\c.nv c.Bt
 u:g.held c.Bu=some (.cells #[.func (.func 121) #[] #[qk c.Bt]] 189 (0,0))/\c.nv c.Bu
 p:g.held c.Bp=some (.cells #[.func (.func 122) #[] c.bound] 190 (0,0))/\c.nv c.Bp
 row:g.held c.V=some (.cells (vals.map Value.string).toArray 9 (0,0))
 knr:g.held c.K=some (.cells (kn.map Value.bool).toArray 4 (0,0))
 vk:c.V≠c.K
theorem WkHeld.keep {c:WkC}{g q:Gh}{vals d:List ByteArray}{U m:List Bool}(h:WkHeld c g vals U)(R: ∀b o,g.held b=some o->c.nv b->q.held b=some o)(z:d.length=vals.length)(x:m.length=U.length)
  (hr:q.held c.V=some (.cells (d.map Value.string).toArray 9 (0,0))) (hk:q.held c.K=some (.cells (m.map Value.bool).toArray 4 (0,0))):WkHeld c q d m:=by
 have e: ∀{b o},g.held b=some o/\c.nv b->q.held b=some o/\c.nv b:=fun h=>⟨R _ _ h.1 h.2,h.2⟩;refine⟨e h.j,e h.y,e h.l,e h.lk,e h.s,?_,by rw [z];exact e h.v,by rw [x];exact e h.k,e h.t,e h.u,e h.p,hr,hk,h.vk⟩;obtain⟨a,cap,h1,h2,h3⟩:=h.sv;refine⟨a,cap,h1,h2,fun k i hi=>?_⟩;obtain⟨b,q1,Y,cs,q3,q4⟩:=h3 k i hi;exact⟨b,q1,Y,cs,R _ _ q3 Y,q4⟩
theorem WkHeld.same {c:WkC}{g e:Gh}{vals:List ByteArray}{l:List Bool}(h:WkHeld c g vals l)(d: ∀b o,g.held b=some o->e.held b=some o):WkHeld c e vals l:=h.keep (fun b o m _=>d b o m) rfl rfl (d _ _ h.row) (d _ _ h.knr)
def LookOk (c:WkC)(J:qa7)(g:Gh):Prop:= ∀(i:Nat) (L:LitD) (k:LookD),c.r.body[i]?=some L->c.looks[i]?=some k->
 k.pred=L.atom.pred/\k.arity=L.atom.args.length/\
 (L.kind=1-> ∃S f,k.store=some S/\g.st S=some f/\0<k.upto/\k.upto<=(qv f k.pred k.arity).length/\(qv f k.pred k.arity).take k.upto=J.pos i)/\
 (L.kind=2->(k.store=none/\J.neg i= [])∨ ∃S f,k.store=some S/\g.st S=some f/\k.upto<=(qv f k.pred k.arity).length/\(qv f k.pred k.arity).take k.upto=J.neg i)
theorem LookOk.more {c:WkC}{J:qa7}{g e:Gh}(h:LookOk c J g)(hm: ∀S f,g.st S=some f-> ∃d,e.st S=some (f++d)):LookOk c J e:=by
 intro i L k U hk;obtain⟨x,y,z,R⟩:=h i L k U hk;have key: ∀S f,g.st S=some f->k.upto<=(qv f k.pred k.arity).length-> ∃b,e.st S=some b/\k.upto<=(qv b k.pred k.arity).length/\(qv b k.pred k.arity).take k.upto=(qv f k.pred k.arity).take k.upto:=fun S f Y hu=>by
  obtain⟨d,hd⟩:=hm S f Y;refine⟨_,hd,?_,?_⟩
  ·rw [qiv,zR];omega
  ·rw [qiv,take_append_of_le_length hu]
 refine⟨x,y,fun l=>?_,fun m=>?_⟩
 ·obtain⟨S,f,s,t,q3,u,v⟩:=z l;obtain⟨b,p1,p2,p⟩:=key S f t u;exact⟨S,b,s,p1,q3,p2,p.trans v⟩
 ·rcases R m with q |⟨S,f,s,t,u,v⟩
  ·exact .inl q
  ·obtain⟨b,p1,p2,p⟩:=key S f t u;exact .inr ⟨S,b,s,p1,p2,p.trans v⟩
theorem q09 {l:List (List ByteArray)}{t:List ByteArray}{upto:Nat}:t∈l.take upto↔ ∃i,qfg l t=some i/\i<upto:=by
 constructor
 ·intro h;obtain⟨j,b⟩:=zy.1 h;have c:j<upto:=by have:=(zA.1 b).1;rw [yC] at this;omega
  rw [xP c]at b;have d:=(zA.1 b).1;unfold qfg;cases e:(List.range l.length).find? fun i=>decide (l[i]?=some t) with
  |none=>exact absurd (zS b) (yn.1 e j (yi.2 d))
  |some i=>
   refine⟨i,rfl,Nat.lt_of_le_of_lt (Nat.not_lt.1 fun p=>?_) c⟩;have q:=find?_eq_some_iff_getElem.1 e;obtain⟨_,k,s,g,m⟩:=q;rw [getElem_range]at g;have:=m j wA;rw [getElem_range]at this;simp [b]at this
 ·rintro⟨i,hi,hu⟩;have:=qo3 hi;exact zH (by rw [xP hu];exact this)
end Go.Proofs
namespace Go.Proofs
open Go.RowKit Go.Ink R4 P16
attribute [local go_sem] Oper.semAt_some
theorem qrv (a:Option Addr)(m c:Nat)(d:List Value)(w:World)(z:d.length=m*1)(hs: ∀b,a=some b-> ∀j u,d[j]?=some u->w.cell? (b.add j)=some u)(hn:a=none->m=0)(p: ∀u∈d,u.oneCell'=true)(hm:m<=1073741824):
  Calls prog 77 #[.slice a m c] w fun e w'=> ∃v',e=.returned v'/\w'.ownsRow w.heap.size 9 1 v' m d/\wE w w':=by
 have hq:=fun w a l c=>qrq qef w a l c;cases a with
 |none=>
  have aa:=hn rfl;subst aa;have x:d= []:=yo (by simpa using z);subst x;clear z hs hn p hm
  go_enter Tryz.func77,Tryz.ntmps77
  go_wp2_with fail;go_ret;exact⟨_,rfl,zj _ _ _ _,Keep.refl _ _⟩
 |some b=>
  obtain⟨W0,g⟩:=ex (w.alloc (.cells #[] 9));have y:wE w W0:=by rw [←g];exact kAl
  have o0:=qfc w 9 1;rw [g]at o0;obtain⟨v',W1,hr,ho,hg,hk⟩:=qhx (P:=prog) qef 60 o0 (some b) m c d z (fun b' Y j u hj=>y.cell (hs b' Y j u hj) wF) (fun h=>by cases h) p wA y.size;rw [nil_append,zD]at ho;have s:Keep (fun b=>b<w.heap.size) w W1:=y.mt.trans (hk.mono fun b _ h e=>by
   rcases hg b e with p |p
   ·simp [Value.ownBlock]at p;omega
   ·have:=y.size;omega)
  have t:wE w W1:=s.mono fun b Y _=>Y;rw [←g]at hr;obtain⟨a',c',rfl⟩:=qi ho;clear z hs hn p hg hk s y o0 g;refine hd3 ?_ hr ho t;clear hr ho t;intro U R q
  go_enter Tryz.func77,Tryz.ntmps77
  go_wp2_with (at_builtin;refine qbo (v:=.slice (some ⟨w.heap.size,0,none⟩) 0 0) (u:=.slice (some b) m c) (v':=.slice a' m c') (w':=W1) rfl (.tmp 5) (.tmp 6) 60 rfl rfl rfl U.o ?_);go_ret;exact⟨_,rfl,R.o,q.o⟩
theorem qls {w:World}{m:Nat}{v:Value}{ts:List ByteArray}(h:qaf m w v ts)(Y:m<=w.heap.size)(g: ∀n c,v=.slice none n c->n=0):Calls prog 77 #[v] w fun e w'=> ∃v',e=.returned v'/\w'.ownsRow w.heap.size 9 1 v' ts.length (ts.map .string)/\wE w w':=by
 obtain⟨a,c,rfl,z,U,y⟩:=h;refine qrv a ts.length c (ts.map .string) w wC (fun b s j u d=>?_) (fun e=>g _ _ (by rw [e])) (fun u R=>?_) z
 ·rw [zP]at d;cases p:ts[j]? with
  |none=>rw [p] at d;cases d
  |some x=>
   rw [p]at d;cases d;obtain⟨q,o,e,t,l⟩:=y j x p;rw [s]at e;cases e;unfold qgq at l;rw [yB]at l;rw [show((⟨q,o,none⟩:Addr).add j)=⟨q,o+j,none⟩ from by unfold Addr.add;split<;>simp_all];exact l
 ·obtain⟨x,_,rfl⟩:=yL.1 R;simp [Value.oneCell']
end Go.Proofs
namespace Go.Ink
open Go.RowKit
section
variable {F : Fence} {n : Nat} {P : Program} {ops : Array Oper} {Q : Exit -> Act -> World -> Prop} {md : Region.Mode} {S : World -> Prop} {late : List Nat}
theorem qrw {i:Nat}{h:Oper}{a:Act}{w:World}{K:Act->World->Prop}(hi:ops[i]?=some h)(b:wpListIn F n P ops (Exit.then K Q) [h] a w):wpOpIn F n P ops Q i K a w:=by
 unfold wpOpIn;rw [hi];unfold wpListIn at b;simp only at b⊢;split
 ·rename_i hw;rw [zI hw]at b;unfold Oper.wpIn at b⊢;refine⟨b.1,?_⟩;have b:=b.2;generalize (h.semAt F.round a.eval).run P w=r at b⊢;cases r with
  |ok x w'=>
   cases x<;>simp only [Oper.uponIn] at b⊢
   case value u=>exact b
   case skip=>exact b
   case defer d=>exact b
   case enter f args=>exact⟨b.1,CallsIn.mono b.2 fun e g c=>by cases e<;>exact c⟩
   case row row args=>exact⟨b.1,RowsIn.mono b.2 fun u g c=>c⟩
   case round l f tmps assign body=>exact⟨b.1,RoundIn.mono b.2 fun e g c=>by cases e<;>exact c⟩
  |halt x w'=>cases x<;>simp only [Oper.uponIn] at b⊢;exact b
 ·rename_i hw;rw [zF hw]at b;exact b
end
end Go.Ink
namespace Go.Proofs
open Go.RowKit Go.Ink R4
attribute [local go_sem] Oper.semAt_some
def UE {α:Type}(U:Nat->Prop)(E:World->Nat->Nat->α->Prop):World->Nat->Nat->α->Prop:=fun w b o x=>U b/\E w b o x
def q96 (U:Nat->Prop)(n:Nat)(w:World)(b o:Nat)(L:LitD):Prop:=U b/\ ∃sa,CellsE w b o (qap L sa)/\SliceIn n w 2 (UE U TermE) sa L.atom.args
def q9w (U:Nat->Prop)(n:Nat)(w:World)(b o:Nat)(ss:List SlotD):Prop:=U b/\ ∃v,w.cell? ⟨b,o,none⟩=some v/\SliceIn n w 2 (UE U qkv) v ss
def qc5 (vars:List ByteArray)(L:LitD):List SlotD:=(qm L).map (qa3 vars)
structure JoinAt (U:Nat->Prop)(n:Nat)(w:World)(J:Nat)(r:RuleD)(vars:List ByteArray)(pos:List Int)(vha vb vv va vt vh:Value):Prop where
 uJ:U J
 box:w.heap[J]?=some (.cells #[.string r.head.pred,vha,vb,vv,va,vt,vh] 129 (0,0))
 head:SliceIn n w 2 (UE U TermE) vha r.head.args
 body:SliceIn n w 7 (q96 U n) vb r.body
 vrow:SliceIn n w 1 (UE U qgq) vv vars
 at':SliceIn n w 1 (UE U qf6) va pos
 terms:SliceIn n w 1 (q9w U n) vt (r.body.map (qc5 vars))
 slots:SliceIn n w 2 (UE U qkv) vh (r.head.args.map (qa3 vars))
theorem UE.keep {α:Type}{U:Nat->Prop}{E:World->Nat->Nat->α->Prop}{w w':World}{b o:Nat}{x:α}(h:UE U E w b o x)(c: ∀{b o x},w'.heap[b]?=w.heap[b]?->E w b o x->E w' b o x)(d: ∀b,U b->w'.heap[b]?=w.heap[b]?):UE U E w' b o x:=⟨h.1,c (d b h.1) h.2⟩
theorem qy0 {w w':World}{b o:Nat}{x:TermD}(h:w'.heap[b]?=w.heap[b]?)(c:TermE w b o x):TermE w' b o x:=⟨(yk (a:=⟨b,o,none⟩) h).trans c.1,(yk (a:=⟨b,o+1,none⟩) h).trans c.2⟩
theorem qrx {w w':World}{b o:Nat}{x:SlotD}(h:w'.heap[b]?=w.heap[b]?)(c:qkv w b o x):qkv w' b o x:=⟨(yk (a:=⟨b,o,none⟩) h).trans c.1,(yk (a:=⟨b,o+1,none⟩) h).trans c.2⟩
theorem q9x {w w':World}{b o:Nat}{x:ByteArray}(h:w'.heap[b]?=w.heap[b]?)(c:qgq w b o x):qgq w' b o x:=(yk (a:=⟨b,o,none⟩) h).trans c
theorem q9y {w w':World}{b o:Nat}{x:Int}(h:w'.heap[b]?=w.heap[b]?)(c:qf6 w b o x):qf6 w' b o x:=(yk (a:=⟨b,o,none⟩) h).trans c
theorem JoinAt.same {U:Nat->Prop}{n:Nat}{w w':World}{J:Nat}{r:RuleD}{vars:List ByteArray}{pos:List Int}{g q vv p s vh:Value}(h:JoinAt U n w J r vars pos g q vv p s vh)(d: ∀b,U b->w'.heap[b]?=w.heap[b]?):JoinAt U n w' J r vars pos g q vv p s vh:=
 ⟨h.uJ,(d _ h.uJ).trans h.box,h.head.mono fun _ _ _ _ c=>c.keep qy0 d,h.body.mono fun b o x _ c=>by
   obtain⟨e,u,l,m⟩:=c;exact⟨e,u,fun j v t=>(yk (a:=⟨b,o+j,none⟩) (d b e)).trans (l j v t),m.mono fun _ _ _ _ c=>c.keep qy0 d⟩,
  h.vrow.mono fun _ _ _ _ c=>c.keep q9x d,h.at'.mono fun _ _ _ _ c=>c.keep q9y d,h.terms.mono fun b o x _ c=>by
   obtain⟨e,v,l,m⟩:=c;exact⟨e,v,(yk (a:=⟨b,o,none⟩) (d b e)).trans l,m.mono fun _ _ _ _ c=>c.keep qrx d⟩,
  h.slots.mono fun _ _ _ _ c=>c.keep qrx d⟩
theorem JoinAt.keep {U:Nat->Prop}{n:Nat}{w w':World}{J:Nat}{r:RuleD}{vars:List ByteArray}{pos:List Int}{c g vv e l vh:Value}{C:Nat->Prop}(h:JoinAt U n w J r vars pos c g vv e l vh)(hK:Keep C w w')(m: ∀b,U b->C b)(p: ∀b,U b->b<w.heap.size):JoinAt U n w' J r vars pos c g vv e l vh:=
 h.same fun b d=>hK.block b (p b d) (m b d)
def qml (r:RuleD)(vars:List ByteArray)(b:Asg)(g:Gh)(n:Nat)(X:World)(args:Array Value):Prop:=
 ∃vh vv,args= #[.agg #[vh,vv]]/\X.ownsRow n 9 1 vh r.head.args.length ((r.head.args.map (qa2 b)).map .string)/\X.ownsRow n 9 1 vv vars.length ((vars.map fun x=>(b x).getD ⟨#[]⟩).map .string)/\
  (∀k,vh.ownBlock=some k->g.free k)/\(∀k,vv.ownBlock=some k->g.free k)/\(∀k,vh.ownBlock=some k->vv.ownBlock≠some k)
structure qd4 (n0 n1:Nat)(W0:World)(c:WkC)(LJ:qa7)(U:Nat->Prop)(nU:Nat)(Vw:World->Prop)(all:List Asg)(Jp Jx:Nat->Gh->World->Prop):Prop where
 hJ: ∀k γ X γ' Y,Jp k γ X->(qlq n0).istep γ X γ' Y->Jp k γ' Y
 hJx: ∀k γ X γ' Y,Jx k γ X->(qlq n0).istep γ X γ' Y->Jx k γ' Y
 hy: ∀k γ X0 X args b,all[k]?=some b->Jp k γ X0->(qlq n0).istep γ X0 γ X->GInv γ X->Vw X->n1<=X0.heap.size->qml c.r c.vars b γ X0.heap.size X args->YieldAt Fence.wide 0 prog c.l args X (qh5 (qlq n0) Vw Jp Jx k γ X)
 hj:JoinAt U nU W0 c.J c.r c.vars c.pos c.vha c.vb c.vv c.va c.vt c.vh
 hV: ∀X,Vw X->(∀b,U b->X.heap[b]?=W0.heap[b]?)/\nU<=X.heap.size
 hVk: ∀X Y C,Vw X->Keep C X Y->(∀b,U b->C b)->Vw Y
 hU: ∀b,U b->b<nU
 n01:n0<=n1
 nV:n0<=c.V
 nK:n0<=c.K
 few:c.vars.length<=1073741824
 nodup:c.vars.Nodup
 kinds:qj2 c.r.body
 vin: ∀L t,L∈c.r.body->t∈qm L->qeq c.vars t
 hin: ∀t,t∈c.r.head.args->qeq c.vars t
 small: ∀L t,L∈c.r.body->t∈qm L->t.text.size<=1073741824
 preds: ∀L,L∈c.r.body->L.atom.pred.size<=1073741824
 looks:c.looks.length=c.r.body.length
 lfew:c.looks.length<=1073741824
 steps: ∀i,i∈c.steps->i<c.r.body.length
 sfew:c.steps.length<=1073741824
 texts: ∀i t s,t∈LJ.pos i->s∈t->s.size<=1073741824
def SameW (c:WkC)(U:Nat->Prop)(g:Gh)(W0 X:World):Prop:=(∀b o,g.held b=some o->c.nv b->X.heap[b]?=some o)/\ ∀b,U b->X.heap[b]?=W0.heap[b]?
theorem SameW.of {c:WkC}{U:Nat->Prop}{g d:Gh}{W0 X:World}(h:GInv d X)(l: ∀b o,g.held b=some o->c.nv b->d.held b=some o)(p: ∀b,U b->X.heap[b]?=W0.heap[b]?):SameW c U g W0 X:=⟨fun b o e m=>h.hold b o (l b o e m),p⟩
theorem SameW.keep {c:WkC}{U:Nat->Prop}{g:Gh}{W0 X Y:World}{C:Nat->Prop}(h:SameW c U g W0 X)(hK:Keep C X Y)(l: ∀b o,g.held b=some o->c.nv b->C b)(m: ∀b,U b->C b)(e: ∀b,U b->b<X.heap.size):SameW c U g W0 Y:=
 ⟨fun b o d e=>hK.heap (h.1 b o d e) (l b o d e),fun b d=>(hK.block b (e b d) (m b d)).trans (h.2 b d)⟩
def StepEnd (c:WkC)(U:Nat->Prop)(Vw:World->Prop)(all:List Asg)(Jp Jx:Nat->Gh->World->Prop)(k0 m:Nat)(g:Gh)(W:World)(a:Asg)(kn:List Bool)(ans:Bool)(W':World):Prop:=
 ∃g' vals',GInv g' W'/\Vw W'/\(∀b,U b->g'.free b)/\W.heap.size<=W'.heap.size/\WkHeld c g' vals' kn/\(∀b o,g.held b=some o->c.nv b->g'.held b=some o)/\(∀S f,g.st S=some f-> ∃d,g'.st S=some (f++d))/\qck c.vars vals' kn a/\
  ((ans=true/\Jp (k0+m) g' W')∨(ans=false/\ ∃k,k<all.length/\Jx k g' W'))
structure StepAt (n1:Nat)(c:WkC)(LJ:qa7)(U:Nat->Prop)(Vw:World->Prop)(all:List Asg)(Jp:Nat->Gh->World->Prop)(i k0:Nat)(g:Gh)(W:World)(a:Asg)(vals:List ByteArray)(kn:List Bool):Prop where
 inv:GInv g W
 v:Vw W
 u: ∀b,U b->g.free b
 held:WkHeld c g vals kn
 look:LookOk c LJ g
 asg:qck c.vars vals kn a
 way:qg5 c.r.body (c.steps.drop i) (fun x=> ∃v,a x=some v)
 full: ∀x,x∈c.vars->(∃v,a x=some v)∨x∈q8 c.r.body (c.steps.drop i)
 told: ∀q b,(qbe LJ c.r.body (c.steps.drop i) a)[q]?=some b->all[k0+q]?=some b
 jp:Jp k0 g W
 n:n1<=W.heap.size
def qg8 (n1:Nat)(c:WkC)(LJ:qa7)(U:Nat->Prop)(Vw:World->Prop)(all:List Asg)(Jp Jx:Nat->Gh->World->Prop)(i:Nat):Prop:=
 ∀k0 g W a vals kn,StepAt n1 c LJ U Vw all Jp i k0 g W a vals kn->
  Calls prog 122 (#[.int .i64 (i:Int)]++c.bound) W fun e W'=> ∃ans,e=.returned (.bool ans)/\StepEnd c U Vw all Jp Jx k0 (qbe LJ c.r.body (c.steps.drop i) a).length g W a kn ans W'
theorem WkHeld.vals {c:WkC}{g:Gh}{W:World}{vals:List ByteArray}{d:List Bool}(h:WkHeld c g vals d)(b:GInv g W):ValsAt W c.Bv c.V vals:=⟨b.hold _ _ h.v.1,b.hold _ _ h.row⟩
theorem q4p {c:WkC}{vals:List ByteArray}{p:List Bool}{a:Asg}(h:qck c.vars vals p a)(b: ∀t,t∈c.r.head.args->qeq c.vars t)(l: ∀x,x∈c.vars-> ∃v,a x=some v):(c.r.head.args.map (qa3 c.vars)).map (qej vals)=c.r.head.args.map (qa2 a):=by
 rw [map_map];refine xA fun t e=>?_;have m: ∃y,qab a t=some y:=by
  unfold qab;by_cases d:t.var=true
  ·rw [zI d];exact l _ (b t e d)
  ·rw [zF d];exact⟨_,rfl⟩
 obtain⟨y,g⟩:=m;unfold qa2;rw [g,Function.comp,qn9 h (b t e) g]
 rfl
theorem q4q {n0 n1:Nat}{W0:World}{c:WkC}{LJ:qa7}{U:Nat->Prop}{nU:Nat}{Vw:World->Prop}{all:List Asg}{Jp Jx:Nat->Gh->World->Prop}(hE:qd4 n0 n1 W0 c LJ U nU Vw all Jp Jx):qg8 n1 c LJ U Vw all Jp Jx c.steps.length:=by
 intro k0 g W a vals kn hA;have hB:=hA.held;have hi:=hA.inv;obtain⟨sa,sc,aL,b5,br⟩:=hB.sv;have b2:=(hE.hV W hA.v).2;have hj:=hE.hj.same (hE.hV W hA.v).1;have q: ∀x,x∈c.vars-> ∃v,a x=some v:=fun x hx=>by
  rcases hA.full x hx with h |h
  ·exact h
  ·rw [xo]at h;cases h
 have ai:qbe LJ c.r.body (c.steps.drop c.steps.length) a= [a]:=by rw [xo];rfl
 have ag:all[k0]?=some a:=hA.told 0 a (by rw [ai];rfl);have bq:k0<all.length:=(zA.1 ag).1;rw [ai];have d1:=hi.hold _ _ hB.s.1;have d2:=hi.hold _ _ hB.y.1;have d3:=hi.hold _ _ hB.u.1;have d4:=hi.hold _ _ hB.j.1;have d5:=hi.hold _ _ hB.v.1;have d6:=hi.hold _ _ hB.t.1;have R:=hB.vals hi;have b1:=qb d1 0 _ rfl;have b9:=qe d1;simp only [zD]at b1;rw [aL]at b1;have b4:c.steps.length<=1073741824:=hE.sfew;have m: ∀X,wE W X->X.cell? ⟨c.By,0,none⟩=some (.func (.yield c.l) #[] #[])/\X.cell? ⟨c.Bu,0,none⟩=some (.func (.func 121) #[] #[qk c.Bt])/\X.cell? ⟨c.Bj,0,none⟩=some (qk c.J)/\X.cell? ⟨c.J,6,none⟩=some c.vh/\X.cell? ⟨c.Bv,0,none⟩=some (.slice (some ⟨c.V,0,none⟩) vals.length vals.length):=fun X z=>by
  have q2:=qb (z.heap d2 wF) 0 _ rfl;have q3:=qb (z.heap d3 wF) 0 _ rfl;have q4:=qb (z.heap d4 wF) 0 _ rfl;have q5:=qb (z.heap d5 wF) 0 _ rfl;have q6:=qb (z.heap hj.box wF) 6 _ rfl;simp only [zD]at q2 q3 q4 q5 q6;exact⟨q2,q3,q4,q6,q5⟩
 have ar:=m W.drew kDr;obtain⟨av,cv,aj,bp,b0,bo⟩:=id hj.slots;rw [aj]at ar m;simp only [zL]at ar m aj bp;have a5:vals.length<=1073741824:=by rw [hA.asg.lv];exact hE.few
 have ad:=qwh hA.asg q;have aK:=q4p hA.asg hE.hin q;have aE: ∀X,wE W X->Calls prog 121 #[.slice av c.r.head.args.length cv,qk c.Bt] X fun e w'=> ∃vo,e=.returned vo/\w'.ownsRow X.heap.size 9 1 vo c.r.head.args.length ((c.r.head.args.map (qa2 a)).map .string)/\wE X w':=fun X z=>by
  have:=qo4 (z.heap d6 wF) (R.keep z trivial wF) a5 nU c.vh (c.r.head.args.map (qa3 c.vars)) ((hj.keep z (fun _ _=>wF) (fun b hb=>by have:=hE.hU b hb;omega)).slots.mono fun _ _ _ _ h=>h.2) (by have:=z.size;omega) (fun s hs=>by
   obtain⟨t,ht,rfl⟩:=yL.1 hs;exact qpu (hE.hin t ht) hA.asg.lv)
  rw [aK,zL,aj]at this;exact this
 have a0: ∀X,wE W X->Calls prog 77 #[.slice (some ⟨c.V,0,none⟩) vals.length vals.length] X fun e w'=> ∃vo,e=.returned vo/\w'.ownsRow X.heap.size 9 1 vo c.vars.length ((c.vars.map fun x=>(a x).getD ⟨#[]⟩).map .string)/\wE X w':=fun X z=>by
  have bs:qaf (c.V+1) X (.slice (some ⟨c.V,0,none⟩) vals.length vals.length) vals:=⟨_,_,rfl,a5,⟨zG _,by simp only [maxLen];omega⟩,fun k x hx=>⟨c.V,0,rfl,wA,by
   unfold qgq;have:=(R.keep z trivial wF).cell hx
   simpa using this⟩⟩
  have:=qls bs (by have:=qe (R.keep z trivial wF).row;omega) (fun n c h=>by cases h);rw [hA.asg.lv]at this⊢;rw [←ad];exact this
 have aD: ∀X args,wE W X->qml c.r c.vars a g W.heap.size X args->YieldAt Fence.wide 0 prog c.l args X (qh5 (qlq n0) Vw Jp Jx k0 g X):=fun X args z hT=>
  hE.hy k0 g W X args a ag hA.jp ⟨GStep.own hi z,rfl⟩ (hi.keep z.mt) (hE.hVk W X _ hA.v z (fun _ _=>wF)) hA.n hT
 have aC: ∀g' Y,GInv g' Y->Vw Y->GBd g W.heap.size g'->W.heap.size<=Y.heap.size-> ∀aq,((aq=true/\Jp (k0+1) g' Y)∨(aq=false/\ ∃k,k<all.length/\Jx k g' Y))->StepEnd c U Vw all Jp Jx k0 [a].length g W a kn aq Y/\(Y.cell? ⟨c.By,0,none⟩=some (.func (.yield c.l) #[] #[])/\Y.cell? ⟨c.Bu,0,none⟩=some (.func (.func 121) #[] #[qk c.Bt])/\Y.cell? ⟨c.Bj,0,none⟩=some (qk c.J)/\Y.cell? ⟨c.J,6,none⟩=some (.slice av c.r.head.args.length cv)/\Y.cell? ⟨c.Bv,0,none⟩=some (.slice (some ⟨c.V,0,none⟩) vals.length vals.length)):=fun g' Y p a6 aJ hz aq aZ=>by
  have hh: ∀b o,g.held b=some o->g'.held b=some o:=fun b o hb=>(aJ.held b (qe (hi.hold b o hb))).trans hb;have am:=hB.same hh;have q2:=qb (p.hold _ _ am.y.1) 0 _ rfl;have q3:=qb (p.hold _ _ am.u.1) 0 _ rfl;have q4:=qb (p.hold _ _ am.j.1) 0 _ rfl;have q5:=qb (p.hold _ _ am.v.1) 0 _ rfl;have q6:=qb (hE.hj.same (hE.hV Y a6).1).box 6 _ rfl;simp only [zD]at q2 q3 q4 q5 q6;rw [aj]at q6;exact⟨⟨g',vals,p,a6,fun b hb=>aJ.new b (by have:=hE.hU b hb;omega) (hA.u b hb),hz,am,fun b o hb _=>hh b o hb,aJ.more,hA.asg,aZ⟩,q2,q3,q4,q6,q5⟩
 have a3: ∀b,W.heap.size<=b->g.free b:=fun b hb=>by
  refine⟨?_,?_⟩
  ·cases e:g.tag b with
   |none=>rfl
   |some T=>have:=hi.lt b T e;omega
  ·cases e:g.held b with
   |none=>rfl
   |some o=>have:=qe (hi.hold b o e);omega
 clear d1 d2 d3 d4 d5 d6 bo br;unfold WkC.bound;refine qby ?_ aC hA hB hi hE hj q ai ag R m ar ad aK aE a0;clear aC hA hB hi hE hj q ai ag R m ar ad aK aE a0;intro ak bO bP bR bQ bS bd bi bh bj ae aU bf bv aG aW;refine hd4 ?_ aD a3 aL aj;clear aD a3 aL aj;intro aF aA bx bw;refine qbr Tryz.func122 rfl ?_;simp only [Tryz.ntmps122,qdy,Nat.reduceAdd,Nat.reduceSub];gi_wp2;refine xc.2 ?_;refine wp_scope_straight ?_;refine(xc (n:=0)).1 ?_;gi_wp2;refine qag ?_;refine qw rfl (fun X=>X.cell? ⟨c.By,0,none⟩=some (.func (.yield c.l) #[] #[])/\X.cell? ⟨c.Bu,0,none⟩=some (.func (.func 121) #[] #[qk c.Bt])/\X.cell? ⟨c.Bj,0,none⟩=some (qk c.J)/\X.cell? ⟨c.J,6,none⟩=some (.slice av c.r.head.args.length cv)/\X.cell? ⟨c.Bv,0,none⟩=some (.slice (some ⟨c.V,0,none⟩) vals.length vals.length)) [] ?_;refine qq [0,1,2,3,4,5,7] ?_
 iterate 7
  refine tkB rfl aU.o ?_
  try simp only [qr]
 refine ql ?_;refine hoR 6 rfl fun K aS=>?_;gi_wp2;refine⟨wF,rfl,(zU.2 (aG.o _ kDr)).mono ?_⟩;rintro e W1 ⟨v1,rfl,o1,k1⟩;have aw:wE W W1:=kDr.trans k1;have aX:=ae.o W1 aw;have z1:W.heap.size<=W1.heap.size:=aw.size;have z0:W.drew.heap.size=W.heap.size:=wC
 rw [z0]at o1;obtain⟨a1,c1,rfl⟩:=qi o1;clear k1;refine hd3 ?_ o1 aw aX;clear o1 aw aX;intro aH aB aV;gi_wp2;refine aS.o _ _ (fun _=>aV.o) ?_;refine hoR 8 rfl fun K aT=>?_;gi_wp2;refine⟨wF,rfl,(zU.2 (aW.o _ aB.o)).mono ?_⟩;rintro e W2 ⟨v2,rfl,o2,k2⟩;obtain⟨a2,c2,rfl⟩:=qi o2;have ax:wE W W2:=aB.o.trans k2;have aY:=ae.o W2 ax;have hT:qml c.r c.vars a g W.heap.size W2 #[.agg #[.slice a1 c.r.head.args.length c1,.slice a2 c.vars.length c2]]:=by
  refine⟨_,_,rfl,qf aH.o k2 (fun _ _=>wF),o2.mono z1,fun b hb=>aA.o b (zE aH.o b hb).1,fun b hb=>aA.o b (zW z1 (zE o2 b hb).1),fun b hb bn=>?_⟩;have q1:=(zE aH.o b hb).2;have q2:=(zE o2 b bn).1;omega
 obtain⟨fn,tmps,assign,body,a7,hR⟩:=aF.o W2 _ ax hT;clear k2 o2 hT;refine hd2 ?_ ax aY;clear ax aY;intro af az;gi_wp2;refine aT.o _ _ (fun _=>az.o) ?_;refine qq [9] ?_
 iterate 1
  refine tkB rfl az.o ?_
  try simp only [qr]
 refine ql ?_;refine hoR 10 rfl fun K ay=>?_;have aI:=zg hR;clear hR;gi_wp2;refine⟨rfl,aI.out.mono ?_⟩;rintro e Y ⟨g',p,au,ah,a8,(⟨rfl,an⟩ |⟨rfl,an⟩)⟩
 ·have ao:=ak.o g' Y p au (ah.mono af.o.size) (zW af.o.size a8) true (.inl ⟨rfl,an⟩);clear p au ah an aI a7;refine hd1 ?_ ao;clear ao;intro d;gi_wp2;refine ay.o _ _ (fun _=>d.o.2) ?_;refine qq [11] ?_
  iterate 1
   refine tkB rfl d.o.2 ?_
   try simp only [qr]
  refine ql ?_;refine qz wB (qah ?_);gi_wp2;rw [Exit.noGoto_ret];go_ret;exact⟨_,rfl,d.o.1⟩
 ·have ao:=ak.o g' Y p au (ah.mono af.o.size) (zW af.o.size a8) false (.inr ⟨rfl,k0,bq,an⟩);clear p au ah an aI a7;refine hd1 ?_ ao;clear ao;intro d;gi_wp2;refine ay.o _ _ (fun _=>d.o.2) ?_;refine qq [11] ?_
  iterate 1
   refine tkB rfl d.o.2 ?_
   try simp only [qr]
  refine ql ?_;refine qz wB (qah ?_);gi_wp2;rw [Exit.noGoto_ret];go_ret;exact⟨_,rfl,d.o.1⟩
end Go.Proofs
namespace Go.Proofs
open Go.RowKit Go.Ink R4
theorem qwi {α β:Type}{f:α->List β}{n:Nat}(b: ∀x,(f x).length=n): ∀(xs:List α) (q:Nat) (x:α),xs[q]?=some x-> ∀j,j<n->(xs.flatMap f)[q*n+j]?=(f x)[j]?:=by
 intro xs
 induction xs with
 |nil=>intro q x h;simp at h
 |cons y ys ih=>
  intro q x h j c;rw [yF];cases q with
  |zero=>
   rw [getElem?_cons_zero]at h;cases h;rw [Nat.zero_mul,zD,yR (by rw [b];exact c)]
  |succ q=>
   rw [getElem?_cons_succ]at h;rw [yH (by rw [b,xI];omega),b,show(q+1)*n+j-n=q*n+j by rw [xI];omega];exact ih q x h j c
def qgt (c:WkC)(vals:List ByteArray)(kn:List Bool)(i q:Nat)(L:LitD)(k:LookD)(sb sc ab oa cb tb ot ct:Nat)(vsa:Option Addr)(vsc nU:Nat)(sp:Option Addr)(kd:Int)(X:World):Prop:=
 X.cell? ⟨c.Bs,0,none⟩=some (.slice (some ⟨sb,0,none⟩) c.steps.length sc)/\X.cell? ⟨sb,i,none⟩=some (.int .i64 (q:Int))/\
 X.cell? ⟨c.Bl,0,none⟩=some (.slice (some ⟨c.Lk,0,none⟩) c.looks.length c.looks.length)/\X.cell? ⟨c.Lk,q*4,none⟩=some (.pointer sp)/\X.cell? ⟨c.Lk,q*4+1,none⟩=some (.string k.pred)/\X.cell? ⟨c.Lk,q*4+2,none⟩=some (.int .i64 (k.arity:Int))/\X.cell? ⟨c.Lk,q*4+3,none⟩=some (.int .i64 (k.upto:Int))/\
 X.cell? ⟨c.Bj,0,none⟩=some (qk c.J)/\X.cell? ⟨c.J,5,none⟩=some (.slice (some ⟨tb,ot,none⟩) c.r.body.length ct)/\X.cell? ⟨tb,ot+q,none⟩=some (.slice vsa (qm L).length vsc)/\
 X.cell? ⟨c.J,2,none⟩=some (.slice (some ⟨ab,oa,none⟩) c.r.body.length cb)/\X.cell? ⟨ab,oa+q*7,none⟩=some (.int .i64 kd)/\
 X.cell? ⟨c.By,0,none⟩=some (.func (.yield c.l) #[] #[])/\X.cell? ⟨c.Bt,0,none⟩=some (.func (.func 120) #[] #[qk c.Bv])/\X.cell? ⟨c.Bu,0,none⟩=some (.func (.func 121) #[] #[qk c.Bt])/\
 X.cell? ⟨c.Bp,0,none⟩=some (.func (.func 122) #[] c.bound)/\X.cell? ⟨c.Bv,0,none⟩=some (.slice (some ⟨c.V,0,none⟩) vals.length vals.length)/\X.cell? ⟨c.Bk,0,none⟩=some (.slice (some ⟨c.K,0,none⟩) kn.length kn.length)/\
 SliceIn nU X 2 qkv (.slice vsa (qm L).length vsc) (qc5 c.vars L)
theorem qoa {n0 n1:Nat}{W0:World}{c:WkC}{LJ:qa7}{U:Nat->Prop}{nU:Nat}{Vw:World->Prop}{all:List Asg}{Jp Jx:Nat->Gh->World->Prop}(e:qd4 n0 n1 W0 c LJ U nU Vw all Jp Jx){g:Gh}{vals:List ByteArray}{kn:List Bool}(d:WkHeld c g vals kn){i q:Nat}(hq:c.steps[i]?=some q):
  ∃(L:LitD) (k:LookD) (sb sc ab oa cb tb ot ct:Nat) (vsa:Option Addr) (vsc:Nat),c.r.body[q]?=some L/\c.looks[q]?=some k/\L∈c.r.body/\c.r.body.length<=1073741824/\(qm L).length<=1073741824/\ ∀X,SameW c U g W0 X->qgt c vals kn i q L k sb sc ab oa cb tb ot ct vsa vsc nU (k.store.map fun S=>⟨S,0,none⟩) L.kind X:=by
 have z:q<c.r.body.length:=e.steps q (zH hq);obtain⟨L,hL⟩: ∃L,c.r.body[q]?=some L:=⟨_,zB z⟩;obtain⟨k,hk⟩: ∃k,c.looks[q]?=some k:=⟨_,zB (by rw [e.looks];exact z)⟩;obtain⟨sa,sc,aB,aR,au⟩:=d.sv;obtain⟨sb,ar,aq,cs,an,al⟩:=au i q hq;subst ar;obtain⟨aa,cb,az,ak,aP,aj⟩:=e.hj.body;obtain⟨ab,oa,rfl,aO,Y,aX,am,-⟩:=aj q L hL;obtain⟨aN,ct,ae,aU,aT,ax⟩:=e.hj.terms;have av:(c.r.body.map (qc5 c.vars))[q]?=some (qc5 c.vars L):=by rw [zP,hL];rfl
 obtain⟨tb,ot,rfl,aS,ad,v,ao,R⟩:=ax q _ av;rw [zL]at ae;obtain⟨vsa,vsc,rfl,aA,aV,aW⟩:=id R;have h:(qc5 c.vars L).length=(qm L).length:=by unfold qc5;rw [zL]
 refine⟨L,k,sb,sc,ab,oa,cb,tb,ot,ct,vsa,vsc,hL,hk,zH hL,ak,by rw [←h];exact aA,fun X m=>?_⟩;have u1: ∀b o v,g.held b=some o/\c.nv b->(∀vs t fr,o=.cells vs t fr->vs[0]?=some v->X.cell? ⟨b,0,none⟩=some v):=fun b o v hb vs t fr ho hv=>by
  have:=m.1 b o hb.1 hb.2;subst ho;have:=qb this 0 v (by simpa using hv)
  simpa using this
 have uc: ∀b o,U b->X.cell? ⟨b,o,none⟩=W0.cell? ⟨b,o,none⟩:=fun b o hb=>yk (a:=⟨b,o,none⟩) (m.2 b hb);have ap:=m.1 _ _ d.lk.1 d.lk.2;have ul: ∀j v,j<4->k.cells[j]?=some v->X.cell? ⟨c.Lk,q*4+j,none⟩=some v:=fun j v hj hv=>by
  have:=qb ap (q*4+j) v (by rw [toList_toArray,qwi (f:=LookD.cells) (n:=4) (fun _=>rfl) _ _ _ hk j hj];exact hv)
  simpa using this
 have aw:=m.1 _ _ an aq;refine⟨?_,?_,u1 _ _ _ d.l _ _ _ rfl rfl,ul 0 _ wA rfl,ul 1 _ wA rfl,ul 2 _ wA rfl,ul 3 _ wA rfl,u1 _ _ _ d.j _ _ _ rfl rfl,?_,?_,?_,?_,u1 _ _ _ d.y _ _ _ rfl rfl,u1 _ _ _ d.t _ _ _ rfl rfl,u1 _ _ _ d.u _ _ _ rfl rfl,u1 _ _ _ d.p _ _ _ rfl rfl,u1 _ _ _ d.v _ _ _ rfl rfl,u1 _ _ _ d.k _ _ _ rfl rfl,?_⟩
 ·rw [←aB];exact u1 _ _ _ d.s _ _ _ rfl rfl
 ·have:=qb aw i _ (by rw [xg];exact al)
  simpa using this
 ·rw [uc _ _ e.hj.uJ,←ae];have:=qb e.hj.box 5 _ rfl
  simpa using this
 ·rw [uc _ _ ad,←h]
  simpa using ao
 ·rw [uc _ _ e.hj.uJ,←az];have:=qb e.hj.box 2 _ rfl
  simpa using this
 ·rw [uc _ _ Y];have:=am 0 _ rfl
  simpa using this
 ·rw [←h];exact R.mono fun b o x _ hx=>qrx (m.2 b hx.1) hx.2
theorem StepAt.own {n0 n1:Nat}{W0:World}{c:WkC}{d:qa7}{U:Nat->Prop}{s:Nat}{e:World->Prop}{all:List Asg}{b q:Nat->Gh->World->Prop}(l:qd4 n0 n1 W0 c d U s e all b q){i m:Nat}{g:Gh}{W X:World}{a:Asg}{vals:List ByteArray}{p:List Bool}(h:StepAt n1 c d U e all b i m g W a vals p)(hK:wE W X):StepAt n1 c d U e all b i m g X a vals p:=
 ⟨h.inv.keep hK.mt,l.hVk W X _ h.v hK (fun _ _=>wF),h.u,h.held,h.look,h.asg,h.way,h.full,h.told,l.hJ _ _ _ _ _ h.jp ⟨GStep.own h.inv hK,rfl⟩,zW h.n hK.size⟩
theorem StepAt.skip {n1:Nat}{c:WkC}{d:qa7}{U:Nat->Prop}{s:World->Prop}{all:List Asg}{p:Nat->Gh->World->Prop}{i x q:Nat}{g:Gh}{W:World}{a:Asg}{vals:List ByteArray}{y:List Bool}(h:StepAt n1 c d U s all p i x g W a vals y)(hd:c.steps.drop i=q::c.steps.drop (i+1))
  (t:q8 c.r.body [q]= []) (z:qbe d c.r.body (q::c.steps.drop (i+1)) a=qbe d c.r.body (c.steps.drop (i+1)) a):StepAt n1 c d U s all p (i+1) x g W a vals y:=by
 have b:=h.way;have l:=h.full;have m:=h.told;rw [hd]at b l m;rw [z]at m;have b:=b.2.2;rw [t]at b;have e:q8 c.r.body (q::c.steps.drop (i+1))=q8 c.r.body [q]++q8 c.r.body (c.steps.drop (i+1)):=by unfold q8;simp
 rw [e,t,nil_append]at l;exact⟨h.inv,h.v,h.u,h.held,h.look,h.asg,by simpa using b,l,m,h.jp,h.n⟩
theorem StepEnd.none {n0 n1:Nat}{W0:World}{c:WkC}{m:qa7}{U:Nat->Prop}{y:Nat}{e:World->Prop}{all:List Asg}{d l:Nat->Gh->World->Prop}(s:qd4 n0 n1 W0 c m U y e all d l){i p:Nat}{g:Gh}{W X:World}{a:Asg}{vals:List ByteArray}{q:List Bool}(h:StepAt n1 c m U e all d i p g W a vals q)(hK:wE W X):StepEnd c U e all d l p 0 g W a q true X:=by
 have b:=h.own s hK;exact⟨g,vals,b.inv,b.v,b.u,hK.size,b.held,fun _ _ x _=>x,fun S f t=>⟨[],by rw [yP];exact t⟩,b.asg,.inl ⟨rfl,b.jp⟩⟩
theorem StepEnd.same {n0 n1:Nat}{W0:World}{c:WkC}{s:qa7}{U:Nat->Prop}{R:Nat}{q:World->Prop}{all:List Asg}{l p:Nat->Gh->World->Prop}(x:qd4 n0 n1 W0 c s U R q all l p){y m:Nat}{g:Gh}{W b:World}{a:Asg}{z:List Bool}{d:Bool}(h:StepEnd c U q all l p y m g W a z d b):SameW c U g W0 b:=by
 obtain⟨Y,e,t,u,h3,h4,h5,v,-⟩:=h;exact SameW.of t v (x.hV b u).1
theorem StepEnd.from {c:WkC}{U:Nat->Prop}{p:World->Prop}{all:List Asg}{e l:Nat->Gh->World->Prop}{s m:Nat}{g:Gh}{W X q:World}{a:Asg}{t:List Bool}{d:Bool}(h:StepEnd c U p all e l s m g X a t d q)(Y:W.heap.size<=X.heap.size):StepEnd c U p all e l s m g W a t d q:=by
 obtain⟨u,b,v,x,y,z,R⟩:=h;exact⟨u,b,v,x,y,zW Y z,R⟩
theorem qhl {n0 n1:Nat}{W0:World}{c:WkC}{h:qa7}{U:Nat->Prop}{u:Nat}{l:World->Prop}{all:List Asg}{d g:Nat->Gh->World->Prop}(m:qd4 n0 n1 W0 c h U u l all d g){vals:List ByteArray}{s:List Bool}{a:Asg}(hA:qck c.vars vals s a){t:TermD}(b:qeq c.vars t){y:ByteArray}(q:qab a t=some y){X:World}(p:ValsAt X c.Bv c.V vals):
  Calls prog 120 #[.agg #[.int .i64 (qa3 c.vars t).place,.string (qa3 c.vars t).text],qk c.Bv] X fun e w'=>e=.returned (.string y)/\wE X w':=by
 have:=qrb p (by rw [hA.lv];exact m.few) (qa3 c.vars t) (qpu b hA.lv);rw [qn9 hA b q]at this;exact this
theorem qdn {a b:ByteArray}(h:a=b):(a.toList==b.toList)=true:=by simp [h]
theorem qcv {a b:ByteArray}(h:a≠b):(a.toList==b.toList)=false:=by
 rw [←beq_toListBytes]
 simpa using h
theorem qpx {w w':World}{base:Nat}{e:TypeId}{sz n:Nat}{v:Value}{xs:List Value}(h:w.ownsRow base e sz v n xs)(c: ∀b,v.ownBlock=some b->w'.heap[b]?=w.heap[b]?):w'.ownsRow base e sz v n xs:=by
 refine⟨h.1,?_⟩;rcases h.2 with h1 |⟨g,cap,cur,e1,e2,e3,e4⟩
 ·exact .inl h1
 ·exact .inr ⟨g,cap,cur,e1,e2,(c g (by rw [e1];rfl)).trans e3,e4⟩
structure MidAt (n0:Nat)(c:WkC)(Vw:World->Prop)(g0:Gh)(X0:World)(g:Gh)(X:World)(vals:List ByteArray)(kn:List Bool):Prop where
 step:GStep n0 g0 X0 g X
 st:g.st=g0.st
 tag:g.tag=g0.tag
 held: ∀b,c.nv b->g.held b=g0.held b
 wk:WkHeld c g vals kn
 v:Vw X
theorem MidAt.refl {n0:Nat}{c:WkC}{b:World->Prop}{g:Gh}{X:World}{vals:List ByteArray}{d:List Bool}(e:GInv g X)(l:WkHeld c g vals d)(h:b X):MidAt n0 c b g X g X vals d:=⟨GStep.refl e,rfl,rfl,fun _ _=>rfl,l,h⟩
theorem MidAt.free {n0:Nat}{c:WkC}{m:World->Prop}{e g:Gh}{d X:World}{vals:List ByteArray}{s:List Bool}(h:MidAt n0 c m e d g X vals s){U:Nat->Prop}(q: ∀b,U b->e.free b)(p: ∀b,U b->b<d.heap.size): ∀b,U b->g.free b:=fun b l=>h.step.new b (p b l) (q b l)
theorem MidAt.own {n0 n1:Nat}{W0:World}{c:WkC}{q:qa7}{U:Nat->Prop}{t:Nat}{b:World->Prop}{all:List Asg}{m p:Nat->Gh->World->Prop}(s:qd4 n0 n1 W0 c q U t b all m p){e g:Gh}{d X Y:World}{vals:List ByteArray}{l:List Bool}(h:MidAt n0 c b e d g X vals l)(hK:wE X Y):MidAt n0 c b e d g Y vals l:=
 ⟨h.step.trans (GStep.own h.step.inv hK),h.st,h.tag,h.held,h.wk,s.hVk X Y _ h.v hK (fun _ _=>wF)⟩
theorem qrh {α:Type}{l:List α}{f:α->Value}{p:Nat}{x:α}:((l.map f).toArray.setIfInBounds p (f x))=((l.set p x).map f).toArray:=by
 rw [yK,map_set]
theorem MidAt.setK {n0 n1:Nat}{W0:World}{c:WkC}{Y:qa7}{U:Nat->Prop}{nU:Nat}{m:World->Prop}{all:List Asg}{z R:Nat->Gh->World->Prop}(u:qd4 n0 n1 W0 c Y U nU m all z R){t g:Gh}{s X:World}{vals:List ByteArray}{y:List Bool}(h:MidAt n0 c m t s g X vals y)(q: ¬U c.K)(p:Nat)(b:Bool):
  ∃g',MidAt n0 c m t s g' (X.setCell ⟨c.K,p,none⟩ (.bool b)) vals (y.set p b):=by
 have hk:=h.step.inv.hold _ _ h.wk.knr;have l:=qaj p (.bool b) hk;rw [qrh]at l;have hK:Keep (fun x=>x≠c.K) X (X.setCell ⟨c.K,p,none⟩ (.bool b)):=kSc;have hs:=GStep.put h.step.inv h.wk.knr u.nK hK l;refine⟨_,h.step.trans hs,h.st,h.tag,fun x d=>?_,h.wk.keep (fun x o d hn=>?_) rfl (by rw [xp]) ?_ ?_,u.hVk X _ _ h.v hK (fun x d e=>q (by rw [←e];exact d))⟩
 ·simp only [Gh.put];rw [zF d.2];exact h.held x d
 ·simp only [Gh.put];rw [zF hn.2];exact d
 ·simp only [Gh.put];rw [zF h.wk.vk];exact h.wk.row
 ·simp only [Gh.put,yg]
theorem MidAt.setV {n0 n1:Nat}{W0:World}{c:WkC}{Y:qa7}{U:Nat->Prop}{nU:Nat}{l:World->Prop}{all:List Asg}{z R:Nat->Gh->World->Prop}(u:qd4 n0 n1 W0 c Y U nU l all z R){t g:Gh}{q X:World}{vals:List ByteArray}{y:List Bool}(h:MidAt n0 c l t q g X vals y)(m: ¬U c.V)(p:Nat)(s:ByteArray):
  ∃g',MidAt n0 c l t q g' (X.setCell ⟨c.V,p,none⟩ (.string s)) (vals.set p s) y:=by
 have hk:=h.step.inv.hold _ _ h.wk.row;have d:=qaj p (.string s) hk;rw [qrh]at d;have hK:Keep (fun x=>x≠c.V) X (X.setCell ⟨c.V,p,none⟩ (.string s)):=kSc;have hs:=GStep.put h.step.inv h.wk.row u.nV hK d;refine⟨_,h.step.trans hs,h.st,h.tag,fun x b=>?_,h.wk.keep (fun x o b hn=>?_) (by rw [xp]) rfl ?_ ?_,u.hVk X _ _ h.v hK (fun x b e=>m (by rw [←e];exact b))⟩
 ·simp only [Gh.put];rw [zF b.1];exact h.held x b
 ·simp only [Gh.put];rw [zF hn.1];exact b
 ·simp only [Gh.put,yg]
 ·simp only [Gh.put];rw [zF (fun e=>h.wk.vk e.symm)];exact h.wk.knr
theorem MidAt.hold {n0:Nat}{c:WkC}{v:World->Prop}{m g:Gh}{l X:World}{vals:List ByteArray}{u:List Bool}(h:MidAt n0 c v m l g X vals u)(q:GInv m l)(y:n0<=l.heap.size):
  ∃g',GStep n0 m l g' X/\g'.st=m.st/\(∀b,c.nv b->b<l.heap.size->g'.held b=m.held b)/\WkHeld c g' vals u/\(∀b o,l.heap.size<=b->c.nv b->X.heap[b]?=some o->g'.held b=some o)/\(∀b o,g.held b=some o->g'.held b=some o)/\(∀b,b<l.heap.size->g.free b->g'.free b):=by
 have d: ∀b o,g.held b=some o->(g.hold l.heap.size X).held b=some o:=fun b o p=>by
  simp only [Gh.hold];rw [zF (fun h=>by rw [p]at h;exact absurd h.2.2.2 wC)];exact p
 refine⟨g.hold l.heap.size X,h.step.hold y,h.st,fun b p s=>?_,h.wk.same d,fun b o s p ho=>?_,d,fun b s t=>⟨t.1,?_⟩⟩
 ·simp only [Gh.hold];rw [zF wA];exact h.held b p
 ·have z:g.tag b=none:=by
   rw [h.tag];cases e:m.tag b with
   |none=>rfl
   |some T=>have:=q.lt b T e;omega
  have x:g.held b=none:=by
   rw [h.held b p];cases e:m.held b with
   |none=>rfl
   |some T=>have:=qe (q.hold b T e);omega
  simp only [Gh.hold];rw [zI ⟨s,qe ho,z,x⟩];exact ho
 ·simp only [Gh.hold];rw [zF wA];exact t.2
theorem qxz {α β:Type}(l:List α)(p:α->Bool)(f:α->List β)(h: ∀x,x∈l->p x=false->f x= []):(l.filter p).flatMap f=l.flatMap f:=by
 induction l with
 |nil=>rfl
 |cons x l b=>
  have b:=b fun y d=>h y (yD _ d);cases c:p x with
  |true=>rw [xV c,yF,yF,b]
  |false=>rw [xf (by simp [c]),yF,h x (yJ ..) c,b];rfl
def qhr (LJ:qa7)(body:List LitD)(ts:List TermD)(rest:List Nat)(a:Asg)(t:List ByteArray):List Asg:=match qbb a ts t with
 |some a'=>qbe LJ body rest a'
 |none=> []
theorem qy1 {b:qa7}{body:List LitD}{L:LitD}{q:Nat}{rest:List Nat}{a:Asg}(d:body.getD q default=L)(c:L.kind=1):qbe b body (q::rest) a=((b.pos q).filter (qj3 a L.atom.args)).flatMap (qhr b body L.atom.args rest a):=by
 rw [qxz]
 ·rw [show qbe b body (q::rest) a=if (body.getD q default).kind=3 then (if qab a (body.getD q default).left=qab a (body.getD q default).right then []else qbe b body rest a) else if (body.getD q default).kind=2 then (if (body.getD q default).atom.args.map (qa2 a)∈b.neg q then []else qbe b body rest a) else (b.pos q).flatMap (qhr b body (body.getD q default).atom.args rest a) from rfl,d,zF (by rw [c];omega),zF (by rw [c];omega)]
 ·intro t _ e;unfold qhr;rw [q7x (ExtA.refl a) e]
theorem q66 {n0 n1:Nat}{W0:World}{c:WkC}{y:qa7}{U:Nat->Prop}{nU:Nat}{z:World->Prop}{all:List Asg}{x Jx:Nat->Gh->World->Prop}(q:qd4 n0 n1 W0 c y U nU z all x Jx){i k0:Nat}{g e:Gh}{W wr d:World}{a:Asg}{vals:List ByteArray}{kn:List Bool}(hA:StepAt n1 c y U z all x i k0 g W a vals kn)
  (hK:wE W wr) (p:GStep n0 g wr e d) (t:e.st=g.st) (m:e.held=g.held):
  ∃gm,StepAt n1 c y U z all x i k0 gm d a vals kn/\(∀b o,g.held b=some o->gm.held b=some o)/\(∀S f,g.st S=some f->gm.st S=some f)/\ ∀b,W.heap.size<=b->e.free b->b<d.heap.size->gm.held b=d.heap[b]?:=by
 have ab:n0<=W.heap.size:=zW q.n01 hA.n;have hs:GStep n0 g W e d:=(GStep.own hA.inv hK).trans p;have Y:=hs.hold ab;have s: ∀b o,g.held b=some o->(e.hold W.heap.size d).held b=some o:=fun b o s=>by
  simp only [Gh.hold];rw [zF (fun h=>by have:=qe (hA.inv.hold b o s);omega),m];exact s
 have l:(e.hold W.heap.size d).st=g.st:=t;refine⟨e.hold W.heap.size d,⟨Y.inv,q.hVk W d _ hA.v hs.keep hA.u,fun b hU=>Y.new b (by have:=q.hU b hU;have:=(q.hV W hA.v).2;omega) (hA.u b hU),hA.held.same s,hA.look.more (fun S f R=>⟨[],by rw [yP,l];exact R⟩),hA.asg,hA.way,hA.full,hA.told,q.hJ _ _ _ _ _ hA.jp ⟨Y,t⟩,zW hA.n hs.keep.size⟩,s,fun S f R=>by rw [l];exact R,fun b hl hf aa=>?_⟩;simp only [Gh.hold];rw [zI ⟨hl,aa,hf.1,hf.2⟩]
theorem StepEnd.base {c:WkC}{U:Nat->Prop}{s:World->Prop}{all:List Asg}{p q:Nat->Gh->World->Prop}{v m:Nat}{g l:Gh}{W u t:World}{a:Asg}{x:List Bool}{e:Bool}(h:StepEnd c U s all p q v m l u a x e t)(hb: ∀b o,g.held b=some o->l.held b=some o)(hs: ∀S f,g.st S=some f->l.st S=some f)(hz:W.heap.size<=u.heap.size):StepEnd c U s all p q v m g W a x e t:=by
 obtain⟨y,d,z,R,Y,h4,h5,h6,h7,h8⟩:=h;exact⟨y,d,z,R,Y,zW hz h4,h5,fun b o ho hn=>h6 b o (hb b o ho) hn,fun S f hS=>h7 S f (hs S f hS),h8⟩
theorem qs7 {α β:Type}(f:α->List β)(l:List α)(j:Nat)(x:α)(h:l[j]?=some x):(l.take (j+1)).flatMap f=(l.take j).flatMap f++f x:=by
 rw [zh,h,yG];simp
end Go.Proofs
namespace Go.Proofs
open Go.RowKit Go.Ink R4
attribute [local go_sem] Oper.semAt_some
theorem q1a {n0 n1:Nat}{W0:World}{c:WkC}{LJ:qa7}{U:Nat->Prop}{nU:Nat}{Vw:World->Prop}{all:List Asg}{Jp Jx:Nat->Gh->World->Prop}(hE:qd4 n0 n1 W0 c LJ U nU Vw all Jp Jx){i:Nat}(hi:i<c.steps.length)(a8: ∀q,c.steps[i]?=some q->(c.r.body.getD q default).kind=3)(ih:qg8 n1 c LJ U Vw all Jp Jx (i+1)):qg8 n1 c LJ U Vw all Jp Jx i:=by
 intro k0 g W a vals kn hA;obtain⟨q,hq⟩: ∃q,c.steps[i]?=some q:=⟨_,zB hi⟩;have hB:=hA.held;have hg:=hA.inv;have de:=(hE.hV W hA.v).2;obtain⟨L,k,sb,sc,ab,oa,cb,tb,ot,ct,bk,ah,hL,hk,aL,c6,dd,aa⟩:=qoa hE hB hq;obtain⟨sp,bc⟩:=ex ((k.store.map fun S=>(⟨S,0,none⟩:Addr)));rw [bc]at aa;have dc:q<c.r.body.length:=(zA.1 hL).1;have ad:c.r.body.getD q default=L:=by rw [zJ,hL];rfl
 have a7:=a8 q hq;rw [ad]at a7;obtain⟨kd,m⟩:=ex (L.kind);rw [m]at a7 aa;subst a7;have cj:SameW c U g W0 W:=SameW.of hg (fun _ _ h _=>h) (hE.hV W hA.v).1;have bb: ∀X,wE W X->SameW c U g W0 X:=fun X hX=>cj.keep hX (fun _ _ _ _=>wF) (fun _ _=>wF) (fun b hb=>by have:=hE.hU b hb;omega);have u: ∀X,wE W X->qgt c vals kn i q L k sb sc ab oa cb tb ot ct bk ah nU sp 3 X:=fun X hX=>aa X (bb X hX);have s:c.steps.drop i=q::c.steps.drop (i+1):=by rw [zt hi,(zA.1 hq).2]
 have bW:=u W (Keep.refl _ _);have b1:=bW.1;have cl:=zQ _ _ b1;simp only at cl;have df: ¬((i:Int)=(c.steps.length:Int)):=wA
 have c9:(0:Int)<=i:=wA
 have da:(i:Int)<c.steps.length:=wA
 have db:i<1073741824:=by have:=hE.sfew;omega
 have dg:(0:Int)<=q:=wA
 have dh:(q:Int)<c.looks.length:=by rw [hE.looks];omega
 have di:(q:Int)<c.r.body.length:=wA
 have aD:((i+1:Nat):Int)=(i:Int)+1:=wA
 clear cj bW;have aA:qm L= [L.left,L.right]:=by unfold qm;rw [zI m]
 have cf:(qm L).length=2:=by rw [aA];rfl
 have cU:((qm L).length:Int)=2:=wA
 obtain⟨p1,z1,p2,z2,a9,ba⟩: ∃p1 z1 p2 z2,qa3 c.vars L.left=⟨p1,z1⟩/\qa3 c.vars L.right=⟨p2,z2⟩:=⟨_,_,_,_,rfl,rfl⟩;have aP: ∃x z,bk=some ⟨x,z,none⟩/\ ∀X,qgt c vals kn i q L k sb sc ab oa cb tb ot ct bk ah nU sp 3 X->X.cell? ⟨x,z,none⟩=some (.int .i64 p1)/\X.cell? ⟨x,z+1,none⟩=some (.string z1)/\X.cell? ⟨x,z+2,none⟩=some (.int .i64 p2)/\X.cell? ⟨x,z+3,none⟩=some (.string z2):=by
  have cg:qc5 c.vars L= [⟨p1,z1⟩,⟨p2,z2⟩]:=by unfold qc5;rw [aA,yX,yX,xi,a9,ba]
  obtain⟨x1,x2,x3,x4,x5,x6,x7,x8,x9,ai,aj,ak,al,am,an,ao,ap,aq,dk,dm,cG,-,-,a5⟩:=u W (Keep.refl _ _);injection cG with hv1 _ _
  rw [cg]at a5;obtain⟨b',o',aN,-,c7⟩:=a5 0 _ rfl;obtain⟨b2,o2,a4,-,c8⟩:=a5 1 _ rfl;rw [←hv1]at aN a4;rw [aN]at a4;cases a4;refine⟨b',o',aN,fun X hX=>?_⟩;obtain⟨x1,x2,x3,x4,x5,x6,x7,x8,x9,ai,aj,ak,al,am,an,ao,ap,aq,dl,dn,bf,-,-,a6⟩:=hX;injection bf with bf _ _
  rw [cg]at a6;obtain⟨b3,o3,cd,-,q1,q2⟩:=a6 0 _ rfl;obtain⟨b4,o4,ce,-,q3,q4⟩:=a6 1 _ rfl;rw [←bf,aN]at cd ce;cases cd;cases ce;simp only [Nat.zero_mul,Nat.add_zero,Nat.one_mul,xG]at q1 q2 q3 q4;exact⟨q1,q2,q3,q4⟩
 obtain⟨x,z,ck,aP⟩:=aP;subst ck;obtain⟨y1,aQ⟩: ∃y,qab a L.left=some y:=by
  have:=hA.way;rw [s]at this;have:=this.1;rw [ad]at this;have:=this m L.left (.inl rfl);unfold qab;by_cases hv:L.left.var=true
  ·rw [zI hv];exact this hv
  ·rw [zF hv];exact⟨_,rfl⟩
 obtain⟨y2,aR⟩: ∃y,qab a L.right=some y:=by
  have:=hA.way;rw [s]at this;have:=this.1;rw [ad]at this;have:=this m L.right (.inr rfl);unfold qab;by_cases hv:L.right.var=true
  ·rw [zI hv];exact this hv
  ·rw [zF hv];exact⟨_,rfl⟩
 have aC: ∀X,wE W X->(Calls prog 120 #[.agg #[.int .i64 p1,.string z1],qk c.Bv] X fun e w'=>e=.returned (.string y1)/\wE X w')/\(Calls prog 120 #[.agg #[.int .i64 p2,.string z2],qk c.Bv] X fun e w'=>e=.returned (.string y2)/\wE X w'):=fun X hX=>by
  have hv:=(hB.vals hg).keep hX trivial trivial;have q1:=qhl hE hA.asg (t:=L.left) (hE.vin L _ aL (by rw [aA];simp)) aQ hv;have q2:=qhl hE hA.asg (t:=L.right) (hE.vin L _ aL (by rw [aA];simp)) aR hv;rw [a9]at q1;rw [ba]at q2;exact⟨q1,q2⟩
 have ch:q8 c.r.body [q]= []:=by rw [qdg,ad,zI (.inl m)]
 have a0:qbe LJ c.r.body (q::c.steps.drop (i+1)) a=if y1=y2 then [] else qbe LJ c.r.body (c.steps.drop (i+1)) a:=by
  rw [show qbe LJ c.r.body (q::c.steps.drop (i+1)) a=if (c.r.body.getD q default).kind=3 then (if qab a (c.r.body.getD q default).left=qab a (c.r.body.getD q default).right then []else qbe LJ c.r.body (c.steps.drop (i+1)) a) else _ from rfl,ad,zI m,aQ,aR];by_cases h:y1=y2
  ·rw [zI h,zI (by rw [h])]
  ·rw [zF h,zF (fun e=>h (yI e))]
 clear a9 ba aA;unfold WkC.bound;refine qby ?_ bc hA hB hg hE aa bb u aD hL hk aL ad hq s aC;clear bc hA hB hg hE aa bb u aD hL hk aL ad hq s aC;intro cP bL cZ c1 a1 aw ay d aJ c0 c2 cN cM c3 p ag;refine hd6 ?_ aP a0 ch aQ aR cf;clear aP a0 ch aQ aR cf;intro bU ax bR cQ cR cO;refine qbr Tryz.func122 rfl ?_;simp only [Tryz.ntmps122,qdy,Nat.reduceAdd,Nat.reduceSub];gi_wp2;refine xc.2 ?_;refine wp_scope_straight ?_;refine(xc (n:=0)).1 ?_;gi_wp2;have b0:=d.o W.drew kDr;clear b1 cl;refine hd1 ?_ b0;clear b0;intro aV;refine qag ?_;refine qw rfl (fun X=>qgt c vals kn i q L k sb sc ab oa cb tb ot ct (some ⟨x,z,none⟩) ah nU sp 3 X) [] ?_;refine qq [0,1,2,3,4,5,6,7,8,9,10,11,12,13,14,15,16] ?_
 iterate 17
  refine tkB rfl aV.o ?_
  try simp only [qr]
 refine ql ?_;refine hoR 17 rfl fun K ae=>?_;gi_wp2;refine ae.o _ _ (fun _=>d.o _ (kDr.trans kAl)) ?_;refine hoR 18 rfl fun K af=>?_;gi_wp2;obtain⟨Nb,aM⟩:=ex (W.heap.size);obtain⟨W1,aB⟩:=ex ((W.alloc (.cells #[.pointer sp,.string k.pred,.int .i64 (k.arity:Int),.int .i64 (k.upto:Int)] 192)).drew);have k1:wE W W1:=by rw [←aB];exact kAl.trans kDr
 have cm:W1.heap[Nb]?=some (.cells #[.pointer sp,.string k.pred,.int .i64 (k.arity:Int),.int .i64 (k.upto:Int)] 192 (0,0)):=by rw [←aB,←aM];exact qh _ _
 have b5:=d.o W1 k1;have b6:=d.o W1.drew (k1.trans kDr);rw [aB,aM];refine hd6 ?_ k1 cm b5 b6 aB aM;clear k1 cm b5 b6 aB aM;intro bV aZ au aW bQ bN;refine af.o _ _ (fun _=>au.o) ?_;refine qq [19] ?_
 iterate 1
  refine tkB rfl au.o ?_
  try simp only [qr]
 refine ql ?_;refine qz wB (qah ?_);clear ae af;gi_wp2;refine qag ?_;refine qw rfl (fun X=>qgt c vals kn i q L k sb sc ab oa cb tb ot ct (some ⟨x,z,none⟩) ah nU sp 3 X) [] ?_;refine qq [0,1,2,3,4,5,6,7,8,9,10,11] ?_
 iterate 12
  refine tkB rfl aW.o ?_
  try simp only [qr]
 refine ql ?_;refine qz wB (qah ?_);have bg:wE W W1.drew:=bV.o.trans kDr;have aF:W1.drew.heap[Nb]?=some (.cells #[.pointer sp,.string k.pred,.int .i64 (k.arity:Int),.int .i64 (k.upto:Int)] 192 (0,0)):=aZ.o;obtain⟨W2,cc⟩:=ex (W1.drew);rw [cc]at bg aF⊢;clear bV aZ au aW aV bQ cc bN;refine hd2 ?_ bg aF;clear bg aF;intro Y cD;gi_wp2;have a3: ∀X,SameW c U g W0 X->(qgt c vals kn i q L k sb sc ab oa cb tb ot ct (some ⟨x,z,none⟩) ah nU sp 3 X/\X.cell? ⟨x,z,none⟩=some (.int .i64 p1)/\X.cell? ⟨x,z+1,none⟩=some (.string z1)/\X.cell? ⟨x,z+2,none⟩=some (.int .i64 p2)/\X.cell? ⟨x,z+3,none⟩=some (.string z2)):=fun X hX=>⟨aw.o X hX,bU.o X (aw.o X hX)⟩;have b7:=a3 W2.drew (ay.o _ (Y.o.trans kDr));refine hd2 ?_ a3 b7;clear a3 b7;intro av bO;refine qag ?_;refine qw rfl (fun X=>(qgt c vals kn i q L k sb sc ab oa cb tb ot ct (some ⟨x,z,none⟩) ah nU sp 3 X/\X.cell? ⟨x,z,none⟩=some (.int .i64 p1)/\X.cell? ⟨x,z+1,none⟩=some (.string z1)/\X.cell? ⟨x,z+2,none⟩=some (.int .i64 p2)/\X.cell? ⟨x,z+3,none⟩=some (.string z2))) [] ?_;refine qq [0,1,2,3,5,6,7,8] ?_
 iterate 8
  refine tkR (v:=?_) rfl bO.o ?_ ?_;rotate_left
  ·rintro Wq ⟨⟨x1,x2,x3,x4,x5,x6,x7,x8,x9,ai,aj,ak,al,am,an,ao,ap,aq,aU⟩,s1,s2,s3,s4⟩;go_simp
   try with_reducible rfl
  try simp only [qr]
 refine ql ?_;refine hoR 4 rfl fun K ae=>?_;gi_wp2;refine⟨wF,rfl,(zU.2 (ag.o _ (Y.o.trans kDr)).1).mono ?_⟩;rintro e W3 ⟨rfl,k3⟩;have bh:wE W2 W3:=kDr.trans k3;have b8:=av.o W3 (ay.o _ (Y.o.trans bh));clear k3;refine hd2 ?_ bh b8;clear bh b8;intro aY bP;gi_wp2;refine ae.o _ _ (fun _=>bP.o) ?_;refine hoR 9 rfl fun K af=>?_;gi_wp2;refine⟨wF,rfl,(zU.2 (ag.o _ (Y.o.trans aY.o)).2).mono ?_⟩;rintro e W4 ⟨rfl,k4⟩;have bi:wE W W4:=(Y.o.trans aY.o).trans k4;have b9:=av.o W4 (ay.o _ bi);clear k4;refine hd2 ?_ b9 bi;clear b9 bi;intro R az;gi_wp2;refine af.o _ _ (fun _=>R.o) ?_;by_cases hy:y1=y2
 ·have bd:=qdn hy;have l:StepEnd c U Vw all Jp Jx k0 (qbe LJ c.r.body (c.steps.drop i) a).length g W a kn true W4:=by
   rw [p.o,ax.o,zI hy];exact StepEnd.none a1.o bL.o az.o
  clear hy;refine hd1 ?_ l;clear l;intro a2;refine qq [10,11] ?_
  iterate 2
   refine tkR (v:=?_) rfl R.o ?_ ?_;rotate_left
   ·rintro Wq ⟨⟨x1,x2,x3,x4,x5,x6,x7,x8,x9,ai,aj,ak,al,am,an,ao,ap,aq,aU⟩,s1,s2,s3,s4⟩;go_simp
    try simp only [bd]
    try with_reducible rfl
   try simp only [qr]
  refine ql ?_;refine qq [12,13,14,15] ?_
  iterate 4
   refine tkS rfl R.o ?_
   try simp only [qr]
  refine ql ?_;refine qq [16,17] ?_
  iterate 2
   refine tkR (v:=?_) rfl R.o ?_ ?_;rotate_left
   ·rintro Wq ⟨⟨x1,x2,x3,x4,x5,x6,x7,x8,x9,ai,aj,ak,al,am,an,ao,ap,aq,aU⟩,s1,s2,s3,s4⟩;go_simp
    try with_reducible rfl
   try simp only [qr]
  refine ql ?_;refine qz wB (qah ?_);gi_wp2;rw [Exit.noGoto_ret];go_ret;exact⟨_,rfl,a2.o⟩
 ·have bd:=qcv hy;have aO:=ax.o;rw [zF hy]at aO;have hc:=ih k0 g W4 a vals kn ((bL.o.own a1.o az.o).skip p.o bR.o aO);rw [aJ.o]at hc;clear hy;refine hd2 ?_ aO hc;clear aO hc;intro bS cC;refine qq [10,11,12,13,14] ?_
  iterate 5
   refine tkR (v:=?_) rfl R.o ?_ ?_;rotate_left
   ·rintro Wq ⟨⟨x1,x2,x3,x4,x5,x6,x7,x8,x9,ai,aj,ak,al,am,an,ao,ap,aq,aU⟩,s1,s2,s3,s4⟩;go_simp
    try simp only [bd]
    try with_reducible rfl
   try simp only [qr]
  refine ql ?_;refine hoR 15 rfl fun K bM=>?_;gi_wp2;refine⟨wF,rfl,(zU.2 cC.o).mono ?_⟩;rintro e W5 ⟨cE,rfl,l⟩;have ca:=av.o W5 (l.same a1.o);have aE:StepEnd c U Vw all Jp Jx k0 (qbe LJ c.r.body (c.steps.drop i) a).length g W a kn cE W5:=by
   rw [p.o,bS.o];exact l.from az.o.size
  clear l;refine hd2 ?_ ca aE;clear ca aE;intro aX aK;gi_wp2;refine bM.o _ _ (fun _=>aX.o) ?_;refine qq [16,17] ?_
  iterate 2
   refine tkR (v:=?_) rfl aX.o ?_ ?_;rotate_left
   ·rintro Wq ⟨⟨x1,x2,x3,x4,x5,x6,x7,x8,x9,ai,aj,ak,al,am,an,ao,ap,aq,aU⟩,s1,s2,s3,s4⟩;go_simp
    try with_reducible rfl
   try simp only [qr]
  refine ql ?_;refine qz wB (qah ?_);gi_wp2;rw [Exit.noGoto_ret];go_ret;exact⟨_,rfl,aK.o⟩
end Go.Proofs
