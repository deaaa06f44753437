/- Parts of the proof. -/
import Derived.Test.YtnponcjnahicnaaGreatDoorWkBToWkD
set_option linter.unusedSimpArgs false
set_option linter.unusedVariables false
set_option maxRecDepth 100000
set_option maxHeartbeats 4000000
open Go.Proofs.Tryz(prog)
open List(getElem?_cons_succ getElem?_cons_zero map_set nil_append toList_toArray)
namespace Go.Proofs
open Go.RowKit Go.Ink R4
theorem qt3 {α β:Type}{f:α->List β}{n:Nat}(b: ∀x,(f x).length=n): ∀(xs:List α) (q:Nat) (x:α),xs[q]?=some x-> ∀j,j<n->(xs.flatMap f)[q*n+j]?=(f x)[j]?:=by
 intro xs
 induction xs with
 |nil=>intro q x h;simp at h
 |cons y ys ih=>
  intro q x h j c;rw [yE];cases q with
  |zero=>
   rw [getElem?_cons_zero]at h;cases h;rw [Nat.zero_mul,zD,yQ (by rw [b];exact c)]
  |succ q=>
   rw [getElem?_cons_succ]at h;rw [yG (by rw [b,xH];omega),b,show(q+1)*n+j-n=q*n+j by rw [xH];omega];exact ih q x h j c
def qfw (c:WkC)(vals:List ByteArray)(kn:List Bool)(i q:Nat)(L:LitD)(k:LookD)(sb sc ab oa cb tb ot ct:Nat)(vsa:Option Addr)(vsc nU:Nat)(sp:Option Addr)(kd:Int)(X:World):Prop:=
 X.cell? ⟨c.Bs,0,none⟩=some (.slice (some ⟨sb,0,none⟩) c.steps.length sc)/\X.cell? ⟨sb,i,none⟩=some (.int .i64 (q:Int))/\
 X.cell? ⟨c.Bl,0,none⟩=some (.slice (some ⟨c.Lk,0,none⟩) c.looks.length c.looks.length)/\X.cell? ⟨c.Lk,q*4,none⟩=some (.pointer sp)/\X.cell? ⟨c.Lk,q*4+1,none⟩=some (.string k.pred)/\X.cell? ⟨c.Lk,q*4+2,none⟩=some (.int .i64 (k.arity:Int))/\X.cell? ⟨c.Lk,q*4+3,none⟩=some (.int .i64 (k.upto:Int))/\
 X.cell? ⟨c.Bj,0,none⟩=some (qj c.J)/\X.cell? ⟨c.J,5,none⟩=some (.slice (some ⟨tb,ot,none⟩) c.r.body.length ct)/\X.cell? ⟨tb,ot+q,none⟩=some (.slice vsa (ql L).length vsc)/\
 X.cell? ⟨c.J,2,none⟩=some (.slice (some ⟨ab,oa,none⟩) c.r.body.length cb)/\X.cell? ⟨ab,oa+q*7,none⟩=some (.int .i64 kd)/\
 X.cell? ⟨c.By,0,none⟩=some (.func (.yield c.l) #[] #[])/\X.cell? ⟨c.Bt,0,none⟩=some (.func (.func 120) #[] #[qj c.Bv])/\X.cell? ⟨c.Bu,0,none⟩=some (.func (.func 121) #[] #[qj c.Bt])/\
 X.cell? ⟨c.Bp,0,none⟩=some (.func (.func 122) #[] c.bound)/\X.cell? ⟨c.Bv,0,none⟩=some (.slice (some ⟨c.V,0,none⟩) vals.length vals.length)/\X.cell? ⟨c.Bk,0,none⟩=some (.slice (some ⟨c.K,0,none⟩) kn.length kn.length)/\
 SliceIn nU X 2 SlotE (.slice vsa (ql L).length vsc) (qck c.vars L)
theorem qmt {n0 n1:Nat}{W0:World}{c:WkC}{LJ:qa6}{U:Nat->Prop}{nU:Nat}{Vw:World->Prop}{all:List Asg}{Jp Jx:Nat->Gh->World->Prop}(e:qdk n0 n1 W0 c LJ U nU Vw all Jp Jx){g:Gh}{vals:List ByteArray}{kn:List Bool}(d:WkHeld c g vals kn){i q:Nat}(hq:c.steps[i]?=some q):
  ∃(L:LitD) (k:LookD) (sb sc ab oa cb tb ot ct:Nat) (vsa:Option Addr) (vsc:Nat),c.r.body[q]?=some L/\c.looks[q]?=some k/\L∈c.r.body/\c.r.body.length<=1073741824/\(ql L).length<=1073741824/\ ∀X,SameW c U g W0 X->qfw c vals kn i q L k sb sc ab oa cb tb ot ct vsa vsc nU (k.store.map fun S=>⟨S,0,none⟩) L.kind X:=by
 have z:q<c.r.body.length:=e.steps q (zH hq);obtain⟨L,hL⟩: ∃L,c.r.body[q]?=some L:=⟨_,zB z⟩;obtain⟨k,hk⟩: ∃k,c.looks[q]?=some k:=⟨_,zB (by rw [e.looks];exact z)⟩;obtain⟨sa,sc,aB,aQ,au⟩:=d.sv;obtain⟨sb,ar,aq,cs,an,al⟩:=au i q hq;subst ar;obtain⟨aa,cb,az,ak,aO,aj⟩:=e.hj.body;obtain⟨ab,oa,rfl,aN,Y,aW,am,-⟩:=aj q L hL;obtain⟨aM,ct,ae,aT,aS,ax⟩:=e.hj.terms;have av:(c.r.body.map (qck c.vars))[q]?=some (qck c.vars L):=by rw [zP,hL];rfl
 obtain⟨tb,ot,rfl,aR,ad,v,ao,R⟩:=ax q _ av;rw [zL]at ae;obtain⟨vsa,vsc,rfl,aA,aU,aV⟩:=id R;have h:(qck c.vars L).length=(ql L).length:=by unfold qck;rw [zL]
 refine⟨L,k,sb,sc,ab,oa,cb,tb,ot,ct,vsa,vsc,hL,hk,zH hL,ak,by rw [←h];exact aA,fun X m=>?_⟩;have u1: ∀b o v,g.held b=some o/\c.nv b->(∀vs t fr,o=.cells vs t fr->vs[0]?=some v->X.cell? ⟨b,0,none⟩=some v):=fun b o v hb vs t fr ho hv=>by
  have:=m.1 b o hb.1 hb.2;subst ho;have:=qb this 0 v (by simpa using hv)
  simpa using this
 have uc: ∀b o,U b->X.cell? ⟨b,o,none⟩=W0.cell? ⟨b,o,none⟩:=fun b o hb=>yj (a:=⟨b,o,none⟩) (m.2 b hb);have ap:=m.1 _ _ d.lk.1 d.lk.2;have ul: ∀j v,j<4->k.cells[j]?=some v->X.cell? ⟨c.Lk,q*4+j,none⟩=some v:=fun j v hj hv=>by
  have:=qb ap (q*4+j) v (by rw [toList_toArray,qt3 (f:=LookD.cells) (n:=4) (fun _=>rfl) _ _ _ hk j hj];exact hv)
  simpa using this
 have aw:=m.1 _ _ an aq;refine⟨?_,?_,u1 _ _ _ d.l _ _ _ rfl rfl,ul 0 _ xz rfl,ul 1 _ xz rfl,ul 2 _ xz rfl,ul 3 _ xz rfl,u1 _ _ _ d.j _ _ _ rfl rfl,?_,?_,?_,?_,u1 _ _ _ d.y _ _ _ rfl rfl,u1 _ _ _ d.t _ _ _ rfl rfl,u1 _ _ _ d.u _ _ _ rfl rfl,u1 _ _ _ d.p _ _ _ rfl rfl,u1 _ _ _ d.v _ _ _ rfl rfl,u1 _ _ _ d.k _ _ _ rfl rfl,?_⟩
 ·rw [←aB];exact u1 _ _ _ d.s _ _ _ rfl rfl
 ·have:=qb aw i _ (by rw [xg];exact al)
  simpa using this
 ·rw [uc _ _ e.hj.uJ,←ae];have:=qb e.hj.box 5 _ rfl
  simpa using this
 ·rw [uc _ _ ad,←h]
  simpa using ao
 ·rw [uc _ _ e.hj.uJ,←az];have:=qb e.hj.box 2 _ rfl
  simpa using this
 ·rw [uc _ _ Y];have:=am 0 _ rfl
  simpa using this
 ·rw [←h];exact R.mono fun b o x _ hx=>qp1 (m.2 b hx.1) hx.2
theorem StepAt.own {n0 n1:Nat}{W0:World}{c:WkC}{d:qa6}{U:Nat->Prop}{m:Nat}{e:World->Prop}{all:List Asg}{b l:Nat->Gh->World->Prop}(f:qdk n0 n1 W0 c d U m e all b l){i j:Nat}{g:Gh}{W X:World}{a:Asg}{vals:List ByteArray}{k:List Bool}(h:StepAt n1 c d U e all b i j g W a vals k)(hK:wD W X):StepAt n1 c d U e all b i j g X a vals k:=
 ⟨h.inv.keep hK.mt,f.hVk W X _ h.v hK (fun _ _=>wE),h.u,h.held,h.look,h.asg,h.way,h.full,h.told,f.hJ _ _ _ _ _ h.jp ⟨GStep.own h.inv hK,rfl⟩,zW h.n hK.size⟩
theorem StepAt.skip {n1:Nat}{c:WkC}{d:qa6}{U:Nat->Prop}{l:World->Prop}{all:List Asg}{k:Nat->Gh->World->Prop}{i p q:Nat}{g:Gh}{W:World}{a:Asg}{vals:List ByteArray}{s:List Bool}(h:StepAt n1 c d U l all k i p g W a vals s)(t:c.steps.drop i=q::c.steps.drop (i+1))
  (m:qaa c.r.body [q]= []) (x:qbe d c.r.body (q::c.steps.drop (i+1)) a=qbe d c.r.body (c.steps.drop (i+1)) a):StepAt n1 c d U l all k (i+1) p g W a vals s:=by
 have b:=h.way;have f:=h.full;have j:=h.told;rw [t]at b f j;rw [x]at j;have b:=b.2.2;rw [m]at b;have e:qaa c.r.body (q::c.steps.drop (i+1))=qaa c.r.body [q]++qaa c.r.body (c.steps.drop (i+1)):=by unfold qaa;simp
 rw [e,m,nil_append]at f;exact⟨h.inv,h.v,h.u,h.held,h.look,h.asg,by simpa using b,f,j,h.jp,h.n⟩
theorem StepEnd.none {n0 n1:Nat}{W0:World}{c:WkC}{k:qa6}{U:Nat->Prop}{s:Nat}{e:World->Prop}{all:List Asg}{d j:Nat->Gh->World->Prop}(p:qdk n0 n1 W0 c k U s e all d j){i l:Nat}{g:Gh}{W X:World}{a:Asg}{vals:List ByteArray}{m:List Bool}(h:StepAt n1 c k U e all d i l g W a vals m)(hK:wD W X):StepEnd c U e all d j l 0 g W a m true X:=by
 have b:=h.own p hK;exact⟨g,vals,b.inv,b.v,b.u,hK.size,b.held,fun _ _ r _=>r,fun S f q=>⟨[],by rw [yO];exact q⟩,b.asg,.inl ⟨rfl,b.jp⟩⟩
theorem StepEnd.same {n0 n1:Nat}{W0:World}{c:WkC}{k:qa6}{U:Nat->Prop}{u:Nat}{j:World->Prop}{all:List Asg}{f i:Nat->Gh->World->Prop}(r:qdk n0 n1 W0 c k U u j all f i){s m:Nat}{g:Gh}{W b:World}{a:Asg}{t:List Bool}{d:Bool}(h:StepEnd c U j all f i s m g W a t d b):SameW c U g W0 b:=by
 obtain⟨v,e,l,p,x,y,z,q,-⟩:=h;exact SameW.of l q (r.hV b p).1
theorem StepEnd.from {c:WkC}{U:Nat->Prop}{i:World->Prop}{all:List Asg}{e f:Nat->Gh->World->Prop}{k m:Nat}{g:Gh}{W X j:World}{a:Asg}{l:List Bool}{d:Bool}(h:StepEnd c U i all e f k m g X a l d j)(v:W.heap.size<=X.heap.size):StepEnd c U i all e f k m g W a l d j:=by
 obtain⟨p,b,q,r,s,t,u⟩:=h;exact⟨p,b,q,r,s,zW v t,u⟩
theorem qgt {n0 n1:Nat}{W0:World}{c:WkC}{h:qa6}{U:Nat->Prop}{p:Nat}{i:World->Prop}{all:List Asg}{f g:Nat->Gh->World->Prop}(j:qdk n0 n1 W0 c h U p i all f g){vals:List ByteArray}{m:List Bool}{a:Asg}(d:qdj c.vars vals m a){t:TermD}(b:qeo c.vars t){y:ByteArray}(l:qaf a t=some y){X:World}(k:ValsAt X c.Bv c.V vals):
  Calls prog 120 #[.agg #[.int .i64 (qat c.vars t).place,.string (qat c.vars t).text],qj c.Bv] X fun e w'=>e=.returned (.string y)/\wD X w':=by
 have:=qpf k (by rw [d.lv];exact j.few) (qat c.vars t) (qn6 b d.lv);rw [qms d b l]at this;exact this
theorem qgh {a b:ByteArray}(h:a=b):(a.toList==b.toList)=true:=by simp [h]
theorem qep {a b:ByteArray}(h:a≠b):(a.toList==b.toList)=false:=by
 rw [←beq_toListBytes]
 simpa using h
theorem qn9 {w w':World}{base:Nat}{e:TypeId}{sz n:Nat}{v:Value}{xs:List Value}(h:w.ownsRow base e sz v n xs)(c: ∀b,v.ownBlock=some b->w'.heap[b]?=w.heap[b]?):w'.ownsRow base e sz v n xs:=by
 refine⟨h.1,?_⟩;rcases h.2 with h1 |⟨g,cap,cur,e1,e2,e3,e4⟩
 ·exact .inl h1
 ·exact .inr ⟨g,cap,cur,e1,e2,(c g (by rw [e1];rfl)).trans e3,e4⟩
structure MidAt (n0:Nat)(c:WkC)(Vw:World->Prop)(g0:Gh)(X0:World)(g:Gh)(X:World)(vals:List ByteArray)(kn:List Bool):Prop where
 step:GStep n0 g0 X0 g X
 st:g.st=g0.st
 tag:g.tag=g0.tag
 held: ∀b,c.nv b->g.held b=g0.held b
 wk:WkHeld c g vals kn
 v:Vw X
theorem MidAt.refl {n0:Nat}{c:WkC}{b:World->Prop}{g:Gh}{X:World}{vals:List ByteArray}{d:List Bool}(e:GInv g X)(h:WkHeld c g vals d)(f:b X):MidAt n0 c b g X g X vals d:=⟨GStep.refl e,rfl,rfl,fun _ _=>rfl,h,f⟩
theorem MidAt.free {n0:Nat}{c:WkC}{i:World->Prop}{e g:Gh}{d X:World}{vals:List ByteArray}{l:List Bool}(h:MidAt n0 c i e d g X vals l){U:Nat->Prop}(k: ∀b,U b->e.free b)(j: ∀b,U b->b<d.heap.size): ∀b,U b->g.free b:=fun b f=>h.step.new b (j b f) (k b f)
theorem MidAt.own {n0 n1:Nat}{W0:World}{c:WkC}{k:qa6}{U:Nat->Prop}{m:Nat}{b:World->Prop}{all:List Asg}{i j:Nat->Gh->World->Prop}(l:qdk n0 n1 W0 c k U m b all i j){e g:Gh}{d X Y:World}{vals:List ByteArray}{f:List Bool}(h:MidAt n0 c b e d g X vals f)(hK:wD X Y):MidAt n0 c b e d g Y vals f:=
 ⟨h.step.trans (GStep.own h.step.inv hK),h.st,h.tag,h.held,h.wk,l.hVk X Y _ h.v hK (fun _ _=>wE)⟩
theorem qpj {α:Type}{l:List α}{f:α->Value}{p:Nat}{x:α}:((l.map f).toArray.setIfInBounds p (f x))=((l.set p x).map f).toArray:=by
 rw [yJ,map_set]
theorem MidAt.setK {n0 n1:Nat}{W0:World}{c:WkC}{t:qa6}{U:Nat->Prop}{R:Nat}{i:World->Prop}{all:List Asg}{r s:Nat->Gh->World->Prop}(m:qdk n0 n1 W0 c t U R i all r s){l g:Gh}{k X:World}{vals:List ByteArray}{q:List Bool}(h:MidAt n0 c i l k g X vals q)(j: ¬U c.K)(p:Nat)(b:Bool):
  ∃g',MidAt n0 c i l k g' (X.setCell ⟨c.K,p,none⟩ (.bool b)) vals (q.set p b):=by
 have u:=h.step.inv.hold _ _ h.wk.knr;have f:=qz p (.bool b) u;rw [qpj]at f;have hK:Keep (fun x=>x≠c.K) X (X.setCell ⟨c.K,p,none⟩ (.bool b)):=kSc;have z:=GStep.put h.step.inv h.wk.knr m.nK hK f;refine⟨_,h.step.trans z,h.st,h.tag,fun x d=>?_,h.wk.keep (fun x o d y=>?_) rfl (by rw [xp]) ?_ ?_,m.hVk X _ _ h.v hK (fun x d e=>j (by rw [←e];exact d))⟩
 ·simp only [Gh.put];rw [zF d.2];exact h.held x d
 ·simp only [Gh.put];rw [zF y.2];exact d
 ·simp only [Gh.put];rw [zF h.wk.vk];exact h.wk.row
 ·simp only [Gh.put,yg]
theorem MidAt.setV {n0 n1:Nat}{W0:World}{c:WkC}{t:qa6}{U:Nat->Prop}{R:Nat}{f:World->Prop}{all:List Asg}{q r:Nat->Gh->World->Prop}(l:qdk n0 n1 W0 c t U R f all q r){k g:Gh}{j X:World}{vals:List ByteArray}{m:List Bool}(h:MidAt n0 c f k j g X vals m)(i: ¬U c.V)(p:Nat)(s:ByteArray):
  ∃g',MidAt n0 c f k j g' (X.setCell ⟨c.V,p,none⟩ (.string s)) (vals.set p s) m:=by
 have u:=h.step.inv.hold _ _ h.wk.row;have d:=qz p (.string s) u;rw [qpj]at d;have hK:Keep (fun x=>x≠c.V) X (X.setCell ⟨c.V,p,none⟩ (.string s)):=kSc;have z:=GStep.put h.step.inv h.wk.row l.nV hK d;refine⟨_,h.step.trans z,h.st,h.tag,fun x b=>?_,h.wk.keep (fun x o b y=>?_) (by rw [xp]) rfl ?_ ?_,l.hVk X _ _ h.v hK (fun x b e=>i (by rw [←e];exact b))⟩
 ·simp only [Gh.put];rw [zF b.1];exact h.held x b
 ·simp only [Gh.put];rw [zF y.1];exact b
 ·simp only [Gh.put,yg]
 ·simp only [Gh.put];rw [zF (fun e=>h.wk.vk e.symm)];exact h.wk.knr
theorem MidAt.hold {n0:Nat}{c:WkC}{q:World->Prop}{i g:Gh}{f X:World}{vals:List ByteArray}{p:List Bool}(h:MidAt n0 c q i f g X vals p)(k:GInv i f)(s:n0<=f.heap.size):
  ∃g',GStep n0 i f g' X/\g'.st=i.st/\(∀b,c.nv b->b<f.heap.size->g'.held b=i.held b)/\WkHeld c g' vals p/\(∀b o,f.heap.size<=b->c.nv b->X.heap[b]?=some o->g'.held b=some o)/\(∀b o,g.held b=some o->g'.held b=some o)/\(∀b,b<f.heap.size->g.free b->g'.free b):=by
 have d: ∀b o,g.held b=some o->(g.hold f.heap.size X).held b=some o:=fun b o j=>by
  simp only [Gh.hold];rw [zF (fun h=>by rw [j]at h;exact absurd h.2.2.2 wB)];exact j
 refine⟨g.hold f.heap.size X,h.step.hold s,h.st,fun b j l=>?_,h.wk.same d,fun b o l j ho=>?_,d,fun b l m=>⟨m.1,?_⟩⟩
 ·simp only [Gh.hold];rw [zF xz];exact h.held b j
 ·have t:g.tag b=none:=by
   rw [h.tag];cases e:i.tag b with
   |none=>rfl
   |some T=>have:=k.lt b T e;omega
  have r:g.held b=none:=by
   rw [h.held b j];cases e:i.held b with
   |none=>rfl
   |some T=>have:=qe (k.hold b T e);omega
  simp only [Gh.hold];rw [zI ⟨l,qe ho,t,r⟩];exact ho
 ·simp only [Gh.hold];rw [zF xz];exact m.2
theorem qvf {α β:Type}(l:List α)(p:α->Bool)(f:α->List β)(h: ∀x,x∈l->p x=false->f x= []):(l.filter p).flatMap f=l.flatMap f:=by
 induction l with
 |nil=>rfl
 |cons x l b=>
  have b:=b fun y d=>h y (yC _ d);cases c:p x with
  |true=>rw [xU c,yE,yE,b]
  |false=>rw [xf (by simp [c]),yE,h x (yI ..) c,b];rfl
def qg0 (LJ:qa6)(body:List LitD)(ts:List TermD)(rest:List Nat)(a:Asg)(t:List ByteArray):List Asg:=match qb6 a ts t with
 |some a'=>qbe LJ body rest a'
 |none=> []
theorem qv6 {b:qa6}{body:List LitD}{L:LitD}{q:Nat}{rest:List Nat}{a:Asg}(d:body.getD q default=L)(c:L.kind=1):qbe b body (q::rest) a=((b.pos q).filter (qi6 a L.atom.args)).flatMap (qg0 b body L.atom.args rest a):=by
 rw [qvf]
 ·rw [show qbe b body (q::rest) a=if (body.getD q default).kind=3 then (if qaf a (body.getD q default).left=qaf a (body.getD q default).right then []else qbe b body rest a) else if (body.getD q default).kind=2 then (if (body.getD q default).atom.args.map (qcu a)∈b.neg q then []else qbe b body rest a) else (b.pos q).flatMap (qg0 b body (body.getD q default).atom.args rest a) from rfl,d,zF (by rw [c];omega),zF (by rw [c];omega)]
 ·intro t _ e;unfold qg0;rw [q3s (ExtA.refl a) e]
theorem q25 {n0 n1:Nat}{W0:World}{c:WkC}{t:qa6}{U:Nat->Prop}{nU:Nat}{x:World->Prop}{all:List Asg}{s Jx:Nat->Gh->World->Prop}(p:qdk n0 n1 W0 c t U nU x all s Jx){i k0:Nat}{g j:Gh}{W wr e:World}{a:Asg}{vals:List ByteArray}{kn:List Bool}(d:StepAt n1 c t U x all s i k0 g W a vals kn)
  (hK:wD W wr) (m:GStep n0 g wr j e) (r:j.st=g.st) (l:j.held=g.held):
  ∃gm,StepAt n1 c t U x all s i k0 gm e a vals kn/\(∀b o,g.held b=some o->gm.held b=some o)/\(∀S f,g.st S=some f->gm.st S=some f)/\ ∀b,W.heap.size<=b->j.free b->b<e.heap.size->gm.held b=e.heap[b]?:=by
 have X:n0<=W.heap.size:=zW p.n01 d.n;have Y:GStep n0 g W j e:=(GStep.own d.inv hK).trans m;have z:=Y.hold X;have q: ∀b o,g.held b=some o->(j.hold W.heap.size e).held b=some o:=fun b o q=>by
  simp only [Gh.hold];rw [zF (fun h=>by have:=qe (d.inv.hold b o q);omega),l];exact q
 have k:(j.hold W.heap.size e).st=g.st:=r;refine⟨j.hold W.heap.size e,⟨z.inv,p.hVk W e _ d.v Y.keep d.u,fun b hU=>z.new b (by have:=p.hU b hU;have:=(p.hV W d.v).2;omega) (d.u b hU),d.held.same q,d.look.more (fun S f y=>⟨[],by rw [yO,k];exact y⟩),d.asg,d.way,d.full,d.told,p.hJ _ _ _ _ _ d.jp ⟨z,r⟩,zW d.n Y.keep.size⟩,q,fun S f y=>by rw [k];exact y,fun b hl hf R=>?_⟩;simp only [Gh.hold];rw [zI ⟨hl,R,hf.1,hf.2⟩]
theorem StepEnd.base {c:WkC}{U:Nat->Prop}{l:World->Prop}{all:List Asg}{j k:Nat->Gh->World->Prop}{r m:Nat}{g i:Gh}{W q p:World}{a:Asg}{s:List Bool}{e:Bool}(h:StepEnd c U l all j k r m i q a s e p)(hb: ∀b o,g.held b=some o->i.held b=some o)(hs: ∀S f,g.st S=some f->i.st S=some f)(hz:W.heap.size<=q.heap.size):StepEnd c U l all j k r m g W a s e p:=by
 obtain⟨t,d,u,v,x,y,z,R,X,Y⟩:=h;exact⟨t,d,u,v,x,zW hz y,z,fun b o ho hn=>R b o (hb b o ho) hn,fun S f hS=>X S f (hs S f hS),Y⟩
theorem qq6 {α β:Type}(f:α->List β)(l:List α)(j:Nat)(x:α)(h:l[j]?=some x):(l.take (j+1)).flatMap f=(l.take j).flatMap f++f x:=by
 rw [zh,h,yF];simp
end Go.Proofs
namespace Go.Proofs
open Go.RowKit Go.Ink R4
attribute [local go_sem] Oper.semAt_some
theorem qx3 {n0 n1:Nat}{W0:World}{c:WkC}{LJ:qa6}{U:Nat->Prop}{nU:Nat}{Vw:World->Prop}{all:List Asg}{Jp Jx:Nat->Gh->World->Prop}(hE:qdk n0 n1 W0 c LJ U nU Vw all Jp Jx){i:Nat}(hi:i<c.steps.length)(a7: ∀q,c.steps[i]?=some q->(c.r.body.getD q default).kind=3)(ih:qgg n1 c LJ U Vw all Jp Jx (i+1)):qgg n1 c LJ U Vw all Jp Jx i:=by
 intro k0 g W a vals kn hA;obtain⟨q,hq⟩: ∃q,c.steps[i]?=some q:=⟨_,zB hi⟩;have hB:=hA.held;have hg:=hA.inv;have dg:=(hE.hV W hA.v).2;obtain⟨L,k,sb,sc,ab,oa,cb,tb,ot,ct,bk,af,hL,hk,aK,c8,df,R⟩:=qmt hE hB hq;obtain⟨sp,bb⟩:=ex ((k.store.map fun S=>(⟨S,0,none⟩:Addr)));rw [bb]at R;have de:q<c.r.body.length:=(zA.1 hL).1;have Y:c.r.body.getD q default=L:=by rw [zJ,hL];rfl
 have a6:=a7 q hq;rw [Y]at a6;obtain⟨kd,j⟩:=ex (L.kind);rw [j]at a6 R;subst a6;have cl:SameW c U g W0 W:=SameW.of hg (fun _ _ h _=>h) (hE.hV W hA.v).1;have ba: ∀X,wD W X->SameW c U g W0 X:=fun X hX=>cl.keep hX (fun _ _ _ _=>wE) (fun _ _=>wE) (fun b hb=>by have:=hE.hU b hb;omega);have p: ∀X,wD W X->qfw c vals kn i q L k sb sc ab oa cb tb ot ct bk af nU sp 3 X:=fun X hX=>R X (ba X hX);have m:c.steps.drop i=q::c.steps.drop (i+1):=by rw [zr hi,(zA.1 hq).2]
 have b5:=p W (Keep.refl _ _);have b1:=b5.1;have cn:=zQ _ _ b1;simp only at cn;have dh: ¬((i:Int)=(c.steps.length:Int)):=xz
 have db:(0:Int)<=i:=xz
 have dc:(i:Int)<c.steps.length:=xz
 have dd:i<1073741824:=by have:=hE.sfew;omega
 have di:(0:Int)<=q:=xz
 have dj:(q:Int)<c.looks.length:=by rw [hE.looks];omega
 have dk:(q:Int)<c.r.body.length:=xz
 have aB:((i+1:Nat):Int)=(i:Int)+1:=xz
 clear cl b5;have ay:ql L= [L.left,L.right]:=by unfold ql;rw [zI j]
 have ch:(ql L).length=2:=by rw [ay];rfl
 have cW:((ql L).length:Int)=2:=xz
 obtain⟨p1,z1,p2,z2,a8,a9⟩: ∃p1 z1 p2 z2,qat c.vars L.left=⟨p1,z1⟩/\qat c.vars L.right=⟨p2,z2⟩:=⟨_,_,_,_,rfl,rfl⟩;have aO: ∃s u,bk=some ⟨s,u,none⟩/\ ∀X,qfw c vals kn i q L k sb sc ab oa cb tb ot ct bk af nU sp 3 X->X.cell? ⟨s,u,none⟩=some (.int .i64 p1)/\X.cell? ⟨s,u+1,none⟩=some (.string z1)/\X.cell? ⟨s,u+2,none⟩=some (.int .i64 p2)/\X.cell? ⟨s,u+3,none⟩=some (.string z2):=by
  have ci:qck c.vars L= [⟨p1,z1⟩,⟨p2,z2⟩]:=by unfold qck;rw [ay,yW,yW,xi,a8,a9]
  obtain⟨x1,x2,x3,x4,x5,x6,x7,x8,x9,ag,ah,ai,aj,ak,al,am,an,ao,dm,dp,cI,-,-,a4⟩:=p W (Keep.refl _ _);injection cI with hv1 _ _
  rw [ci]at a4;obtain⟨b',o',aM,-,c9⟩:=a4 0 _ rfl;obtain⟨b2,o2,a3,-,da⟩:=a4 1 _ rfl;rw [←hv1]at aM a3;rw [aM]at a3;cases a3;refine⟨b',o',aM,fun X hX=>?_⟩;obtain⟨x1,x2,x3,x4,x5,x6,x7,x8,x9,ag,ah,ai,aj,ak,al,am,an,ao,dn,dq,bf,-,-,a5⟩:=hX;injection bf with bf _ _
  rw [ci]at a5;obtain⟨b3,o3,cf,-,q1,q2⟩:=a5 0 _ rfl;obtain⟨b4,o4,cg,-,q3,q4⟩:=a5 1 _ rfl;rw [←bf,aM]at cf cg;cases cf;cases cg;simp only [Nat.zero_mul,Nat.add_zero,Nat.one_mul,xF]at q1 q2 q3 q4;exact⟨q1,q2,q3,q4⟩
 obtain⟨s,u,cm,aO⟩:=aO;subst cm;obtain⟨y1,aP⟩: ∃y,qaf a L.left=some y:=by
  have:=hA.way;rw [m]at this;have:=this.1;rw [Y]at this;have:=this j L.left (.inl rfl);unfold qaf;by_cases hv:L.left.var=true
  ·rw [zI hv];exact this hv
  ·rw [zF hv];exact⟨_,rfl⟩
 obtain⟨y2,aQ⟩: ∃y,qaf a L.right=some y:=by
  have:=hA.way;rw [m]at this;have:=this.1;rw [Y]at this;have:=this j L.right (.inr rfl);unfold qaf;by_cases hv:L.right.var=true
  ·rw [zI hv];exact this hv
  ·rw [zF hv];exact⟨_,rfl⟩
 have aA: ∀X,wD W X->(Calls prog 120 #[.agg #[.int .i64 p1,.string z1],qj c.Bv] X fun e w'=>e=.returned (.string y1)/\wD X w')/\(Calls prog 120 #[.agg #[.int .i64 p2,.string z2],qj c.Bv] X fun e w'=>e=.returned (.string y2)/\wD X w'):=fun X hX=>by
  have hv:=(hB.vals hg).keep hX trivial trivial;have q1:=qgt hE hA.asg (t:=L.left) (hE.vin L _ aK (by rw [ay];simp)) aP hv;have q2:=qgt hE hA.asg (t:=L.right) (hE.vin L _ aK (by rw [ay];simp)) aQ hv;rw [a8]at q1;rw [a9]at q2;exact⟨q1,q2⟩
 have cj:qaa c.r.body [q]= []:=by rw [qcx,Y,zI (.inl j)]
 have aZ:qbe LJ c.r.body (q::c.steps.drop (i+1)) a=if y1=y2 then [] else qbe LJ c.r.body (c.steps.drop (i+1)) a:=by
  rw [show qbe LJ c.r.body (q::c.steps.drop (i+1)) a=if (c.r.body.getD q default).kind=3 then (if qaf a (c.r.body.getD q default).left=qaf a (c.r.body.getD q default).right then []else qbe LJ c.r.body (c.steps.drop (i+1)) a) else _ from rfl,Y,zI j,aP,aQ];by_cases h:y1=y2
  ·rw [zI h,zI (by rw [h])]
  ·rw [zF h,zF (fun e=>h (yH e))]
 clear a8 a9 ay;unfold WkC.bound;refine qde ?_ bb hA hB hg hE R ba p aB hL hk aK Y hq m aA;clear bb hA hB hg hE R ba p aB hL hk aK Y hq m aA;intro cR bN c1 c3 a0 au aw d aI c2 c4 cP cO c5 l ae;refine hd6 ?_ aO aZ cj aP aQ ch;clear aO aZ cj aP aQ ch;intro bW av bU cS cT cQ;refine qbl Tryz.func122 rfl ?_;simp only [Tryz.ntmps122,qdm,Nat.reduceAdd,Nat.reduceSub];gi_wp2;refine xc.2 ?_;refine wp_scope_straight ?_;refine(xc (n:=0)).1 ?_;gi_wp2;have b6:=d.o W.drew kDr;clear b1 cn;refine hd1 ?_ b6;clear b6;intro aU;refine qag ?_;refine qw rfl (fun X=>qfw c vals kn i q L k sb sc ab oa cb tb ot ct (some ⟨s,u,none⟩) af nU sp 3 X) [] ?_;refine qab [0,1,2,3,4,5,6,7,8,9,10,11,12,13,14,15,16] ?_
 iterate 17
  refine tkB rfl aU.o ?_
  try simp only [qac]
 refine qk ?_;refine hoR 17 rfl fun K aa=>?_;gi_wp2;refine aa.o _ _ (fun _=>d.o _ (kDr.trans kAl)) ?_;refine hoR 18 rfl fun K ad=>?_;gi_wp2;obtain⟨Nb,aL⟩:=ex (W.heap.size);obtain⟨W1,az⟩:=ex ((W.alloc (.cells #[.pointer sp,.string k.pred,.int .i64 (k.arity:Int),.int .i64 (k.upto:Int)] 192)).drew);have k1:wD W W1:=by rw [←az];exact kAl.trans kDr
 have co:W1.heap[Nb]?=some (.cells #[.pointer sp,.string k.pred,.int .i64 (k.arity:Int),.int .i64 (k.upto:Int)] 192 (0,0)):=by rw [←az,←aL];exact qh _ _
 have b7:=d.o W1 k1;have b8:=d.o W1.drew (k1.trans kDr);rw [az,aL];refine hd6 ?_ k1 co b7 b8 az aL;clear k1 co b7 b8 az aL;intro b0 aY aq aV bS bP;refine ad.o _ _ (fun _=>aq.o) ?_;refine qab [19] ?_
 iterate 1
  refine tkB rfl aq.o ?_
  try simp only [qac]
 refine qk ?_;refine qx wA (qai ?_);clear aa ad;gi_wp2;refine qag ?_;refine qw rfl (fun X=>qfw c vals kn i q L k sb sc ab oa cb tb ot ct (some ⟨s,u,none⟩) af nU sp 3 X) [] ?_;refine qab [0,1,2,3,4,5,6,7,8,9,10,11] ?_
 iterate 12
  refine tkB rfl aV.o ?_
  try simp only [qac]
 refine qk ?_;refine qx wA (qai ?_);have bg:wD W W1.drew:=b0.o.trans kDr;have aD:W1.drew.heap[Nb]?=some (.cells #[.pointer sp,.string k.pred,.int .i64 (k.arity:Int),.int .i64 (k.upto:Int)] 192 (0,0)):=aY.o;obtain⟨W2,ce⟩:=ex (W1.drew);rw [ce]at bg aD⊢;clear b0 aY aq aV aU bS ce bP;refine hd2 ?_ bg aD;clear bg aD;intro z cF;gi_wp2;have a2: ∀X,SameW c U g W0 X->(qfw c vals kn i q L k sb sc ab oa cb tb ot ct (some ⟨s,u,none⟩) af nU sp 3 X/\X.cell? ⟨s,u,none⟩=some (.int .i64 p1)/\X.cell? ⟨s,u+1,none⟩=some (.string z1)/\X.cell? ⟨s,u+2,none⟩=some (.int .i64 p2)/\X.cell? ⟨s,u+3,none⟩=some (.string z2)):=fun X hX=>⟨au.o X hX,bW.o X (au.o X hX)⟩;have b9:=a2 W2.drew (aw.o _ (z.o.trans kDr));refine hd2 ?_ a2 b9;clear a2 b9;intro ar bQ;refine qag ?_;refine qw rfl (fun X=>(qfw c vals kn i q L k sb sc ab oa cb tb ot ct (some ⟨s,u,none⟩) af nU sp 3 X/\X.cell? ⟨s,u,none⟩=some (.int .i64 p1)/\X.cell? ⟨s,u+1,none⟩=some (.string z1)/\X.cell? ⟨s,u+2,none⟩=some (.int .i64 p2)/\X.cell? ⟨s,u+3,none⟩=some (.string z2))) [] ?_;refine qab [0,1,2,3,5,6,7,8] ?_
 iterate 8
  refine tkR (v:=?_) rfl bQ.o ?_ ?_;rotate_left
  ·rintro Wq ⟨⟨x1,x2,x3,x4,x5,x6,x7,x8,x9,ag,ah,ai,aj,ak,al,am,an,ao,aT⟩,s1,s2,s3,s4⟩;go_simp
   try with_reducible rfl
  try simp only [qac]
 refine qk ?_;refine hoR 4 rfl fun K aa=>?_;gi_wp2;refine⟨wE,rfl,(zU.2 (ae.o _ (z.o.trans kDr)).1).mono ?_⟩;rintro e W3 ⟨rfl,k3⟩;have bh:wD W2 W3:=kDr.trans k3;have ca:=ar.o W3 (aw.o _ (z.o.trans bh));clear k3;refine hd2 ?_ bh ca;clear bh ca;intro aX bR;gi_wp2;refine aa.o _ _ (fun _=>bR.o) ?_;refine hoR 9 rfl fun K ad=>?_;gi_wp2;refine⟨wE,rfl,(zU.2 (ae.o _ (z.o.trans aX.o)).2).mono ?_⟩;rintro e W4 ⟨rfl,k4⟩;have bi:wD W W4:=(z.o.trans aX.o).trans k4;have cc:=ar.o W4 (aw.o _ bi);clear k4;refine hd2 ?_ cc bi;clear cc bi;intro x ax;gi_wp2;refine ad.o _ _ (fun _=>x.o) ?_;by_cases hy:y1=y2
 ·have bc:=qgh hy;have f:StepEnd c U Vw all Jp Jx k0 (qbe LJ c.r.body (c.steps.drop i) a).length g W a kn true W4:=by
   rw [l.o,av.o,zI hy];exact StepEnd.none a0.o bN.o ax.o
  clear hy;refine hd1 ?_ f;clear f;intro a1;refine qab [10,11] ?_
  iterate 2
   refine tkR (v:=?_) rfl x.o ?_ ?_;rotate_left
   ·rintro Wq ⟨⟨x1,x2,x3,x4,x5,x6,x7,x8,x9,ag,ah,ai,aj,ak,al,am,an,ao,aT⟩,s1,s2,s3,s4⟩;go_simp
    try simp only [bc]
    try with_reducible rfl
   try simp only [qac]
  refine qk ?_;refine qab [12,13,14,15] ?_
  iterate 4
   refine tkS rfl x.o ?_
   try simp only [qac]
  refine qk ?_;refine qab [16,17] ?_
  iterate 2
   refine tkR (v:=?_) rfl x.o ?_ ?_;rotate_left
   ·rintro Wq ⟨⟨x1,x2,x3,x4,x5,x6,x7,x8,x9,ag,ah,ai,aj,ak,al,am,an,ao,aT⟩,s1,s2,s3,s4⟩;go_simp
    try with_reducible rfl
   try simp only [qac]
  refine qk ?_;refine qx wA (qai ?_);gi_wp2;rw [Exit.noGoto_ret];go_ret;exact⟨_,rfl,a1.o⟩
 ·have bc:=qep hy;have aN:=av.o;rw [zF hy]at aN;have hc:=ih k0 g W4 a vals kn ((bN.o.own a0.o ax.o).skip l.o bU.o aN);rw [aI.o]at hc;clear hy;refine hd2 ?_ aN hc;clear aN hc;intro bV cE;refine qab [10,11,12,13,14] ?_
  iterate 5
   refine tkR (v:=?_) rfl x.o ?_ ?_;rotate_left
   ·rintro Wq ⟨⟨x1,x2,x3,x4,x5,x6,x7,x8,x9,ag,ah,ai,aj,ak,al,am,an,ao,aT⟩,s1,s2,s3,s4⟩;go_simp
    try simp only [bc]
    try with_reducible rfl
   try simp only [qac]
  refine qk ?_;refine hoR 15 rfl fun K bO=>?_;gi_wp2;refine⟨wE,rfl,(zU.2 cE.o).mono ?_⟩;rintro e W5 ⟨cG,rfl,f⟩;have cd:=ar.o W5 (f.same a0.o);have aC:StepEnd c U Vw all Jp Jx k0 (qbe LJ c.r.body (c.steps.drop i) a).length g W a kn cG W5:=by
   rw [l.o,bV.o];exact f.from ax.o.size
  clear f;refine hd2 ?_ cd aC;clear cd aC;intro aW aJ;gi_wp2;refine bO.o _ _ (fun _=>aW.o) ?_;refine qab [16,17] ?_
  iterate 2
   refine tkR (v:=?_) rfl aW.o ?_ ?_;rotate_left
   ·rintro Wq ⟨⟨x1,x2,x3,x4,x5,x6,x7,x8,x9,ag,ah,ai,aj,ak,al,am,an,ao,aT⟩,s1,s2,s3,s4⟩;go_simp
    try with_reducible rfl
   try simp only [qac]
  refine qk ?_;refine qx wA (qai ?_);gi_wp2;rw [Exit.noGoto_ret];go_ret;exact⟨_,rfl,aJ.o⟩
end Go.Proofs
