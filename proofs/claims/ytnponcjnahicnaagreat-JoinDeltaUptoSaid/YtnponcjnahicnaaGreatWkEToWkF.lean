/- Parts of the proof. -/
import Derived.Test.YtnponcjnahicnaaGreatWkBToWkD
set_option linter.unusedSimpArgs false
set_option linter.unusedVariables false
set_option maxRecDepth 100000
set_option maxHeartbeats 4000000
open Go.Proofs.Tryz(prog)
open List(getElem?_cons_succ getElem?_cons_zero map_set nil_append toList_toArray)
namespace Go.Proofs
open Go.RowKit Go.Ink R4
theorem qwk {α β:Type}{f:α->List β}{n:Nat}(b: ∀x,(f x).length=n): ∀(xs:List α) (q:Nat) (x:α),xs[q]?=some x-> ∀j,j<n->(xs.flatMap f)[q*n+j]?=(f x)[j]?:=by
 intro xs
 induction xs with
 |nil=>intro q x h;simp at h
 |cons y ys ih=>
  intro q x h j c;rw [yF];cases q with
  |zero=>
   rw [getElem?_cons_zero]at h;cases h;rw [Nat.zero_mul,zD,yS (by rw [b];exact c)]
  |succ q=>
   rw [getElem?_cons_succ]at h;rw [yH (by rw [b,xK];omega),b,show(q+1)*n+j-n=q*n+j by rw [xK];omega];exact ih q x h j c
def qgt (c:WkC)(vals:List ByteArray)(kn:List Bool)(i q:Nat)(L:LitD)(k:LookD)(sb sc ab oa cb tb ot ct:Nat)(vsa:Option Addr)(vsc nU:Nat)(sp:Option Addr)(kd:Int)(X:World):Prop:=
 X.cell? ⟨c.Bs,0,none⟩=some (.slice (some ⟨sb,0,none⟩) c.steps.length sc)/\X.cell? ⟨sb,i,none⟩=some (.int .i64 (q:Int))/\
 X.cell? ⟨c.Bl,0,none⟩=some (.slice (some ⟨c.Lk,0,none⟩) c.looks.length c.looks.length)/\X.cell? ⟨c.Lk,q*4,none⟩=some (.pointer sp)/\X.cell? ⟨c.Lk,q*4+1,none⟩=some (.string k.pred)/\X.cell? ⟨c.Lk,q*4+2,none⟩=some (.int .i64 (k.arity:Int))/\X.cell? ⟨c.Lk,q*4+3,none⟩=some (.int .i64 (k.upto:Int))/\
 X.cell? ⟨c.Bj,0,none⟩=some (qi c.J)/\X.cell? ⟨c.J,5,none⟩=some (.slice (some ⟨tb,ot,none⟩) c.r.body.length ct)/\X.cell? ⟨tb,ot+q,none⟩=some (.slice vsa (qq L).length vsc)/\
 X.cell? ⟨c.J,2,none⟩=some (.slice (some ⟨ab,oa,none⟩) c.r.body.length cb)/\X.cell? ⟨ab,oa+q*7,none⟩=some (.int .i64 kd)/\
 X.cell? ⟨c.By,0,none⟩=some (.func (.yield c.l) #[] #[])/\X.cell? ⟨c.Bt,0,none⟩=some (.func (.func 86) #[] #[qi c.Bv])/\X.cell? ⟨c.Bu,0,none⟩=some (.func (.func 87) #[] #[qi c.Bt])/\
 X.cell? ⟨c.Bp,0,none⟩=some (.func (.func 88) #[] c.bound)/\X.cell? ⟨c.Bv,0,none⟩=some (.slice (some ⟨c.V,0,none⟩) vals.length vals.length)/\X.cell? ⟨c.Bk,0,none⟩=some (.slice (some ⟨c.K,0,none⟩) kn.length kn.length)/\
 SliceIn nU X 2 SlotE (.slice vsa (qq L).length vsc) (qda c.vars L)
theorem qn9 {n0 n1:Nat}{W0:World}{c:WkC}{LJ:qbd}{U:Nat->Prop}{nU:Nat}{Vw:World->Prop}{all:List Asg}{Jp Jx:Nat->Gh->World->Prop}(e:qeb n0 n1 W0 c LJ U nU Vw all Jp Jx){g:Gh}{vals:List ByteArray}{kn:List Bool}(d:WkHeld c g vals kn){i q:Nat}(hq:c.steps[i]?=some q):
  ∃(L:LitD) (k:LookD) (sb sc ab oa cb tb ot ct:Nat) (vsa:Option Addr) (vsc:Nat),c.r.body[q]?=some L/\c.looks[q]?=some k/\L∈c.r.body/\c.r.body.length<=1073741824/\(qq L).length<=1073741824/\ ∀X,SameW c U g W0 X->qgt c vals kn i q L k sb sc ab oa cb tb ot ct vsa vsc nU (k.store.map fun S=>⟨S,0,none⟩) L.kind X:=by
 have ae:q<c.r.body.length:=e.steps q (zH hq);obtain⟨L,hL⟩: ∃L,c.r.body[q]?=some L:=⟨_,zB ae⟩;obtain⟨k,hk⟩: ∃k,c.looks[q]?=some k:=⟨_,zB (by rw [e.looks];exact ae)⟩;obtain⟨sa,sc,az,aO,an⟩:=d.sv;obtain⟨sb,aA,aw,cs,aq,al⟩:=an i q hq;subst aA;obtain⟨aa,cb,ay,am,aM,ar⟩:=e.hj.body;obtain⟨ab,oa,rfl,aJ,z,aW,av,-⟩:=ar q L hL;obtain⟨aT,ct,m,aQ,aV,ax⟩:=e.hj.terms;have ao:(c.r.body.map (qda c.vars))[q]?=some (qda c.vars L):=by rw [zP,hL];rfl
 obtain⟨tb,ot,rfl,aN,ad,v,aB,Y⟩:=ax q _ ao;rw [zL]at m;obtain⟨vsa,vsc,rfl,ap,aR,aS⟩:=id Y;have h:(qda c.vars L).length=(qq L).length:=by unfold qda;rw [zL]
 refine⟨L,k,sb,sc,ab,oa,cb,tb,ot,ct,vsa,vsc,hL,hk,zH hL,am,by rw [←h];exact ap,fun X R=>?_⟩;have u1: ∀b o v,g.held b=some o/\c.nv b->(∀vs t fr,o=.cells vs t fr->vs[0]?=some v->X.cell? ⟨b,0,none⟩=some v):=fun b o v hb vs t fr ho hv=>by
  have:=R.1 b o hb.1 hb.2;subst ho;have:=qb this 0 v (by simpa using hv)
  simpa using this
 have uc: ∀b o,U b->X.cell? ⟨b,o,none⟩=W0.cell? ⟨b,o,none⟩:=fun b o hb=>ym (a:=⟨b,o,none⟩) (R.2 b hb);have ak:=R.1 _ _ d.lk.1 d.lk.2;have ul: ∀j v,j<4->k.cells[j]?=some v->X.cell? ⟨c.Lk,q*4+j,none⟩=some v:=fun j v hj hv=>by
  have:=qb ak (q*4+j) v (by rw [toList_toArray,qwk (f:=LookD.cells) (n:=4) (fun _=>rfl) _ _ _ hk j hj];exact hv)
  simpa using this
 have aj:=R.1 _ _ aq aw;refine⟨?_,?_,u1 _ _ _ d.l _ _ _ rfl rfl,ul 0 _ wC rfl,ul 1 _ wC rfl,ul 2 _ wC rfl,ul 3 _ wC rfl,u1 _ _ _ d.j _ _ _ rfl rfl,?_,?_,?_,?_,u1 _ _ _ d.y _ _ _ rfl rfl,u1 _ _ _ d.t _ _ _ rfl rfl,u1 _ _ _ d.u _ _ _ rfl rfl,u1 _ _ _ d.p _ _ _ rfl rfl,u1 _ _ _ d.v _ _ _ rfl rfl,u1 _ _ _ d.k _ _ _ rfl rfl,?_⟩
 ·rw [←az];exact u1 _ _ _ d.s _ _ _ rfl rfl
 ·have:=qb aj i _ (by rw [xj];exact al)
  simpa using this
 ·rw [uc _ _ e.hj.uJ,←m];have:=qb e.hj.box 5 _ rfl
  simpa using this
 ·rw [uc _ _ ad,←h]
  simpa using aB
 ·rw [uc _ _ e.hj.uJ,←ay];have:=qb e.hj.box 2 _ rfl
  simpa using this
 ·rw [uc _ _ z];have:=av 0 _ rfl
  simpa using this
 ·rw [←h];exact Y.mono fun b o x _ hx=>qr2 (R.2 b hx.1) hx.2
theorem StepAt.own {n0 n1:Nat}{W0:World}{c:WkC}{e:qbd}{U:Nat->Prop}{q:Nat}{d:World->Prop}{all:List Asg}{b r:Nat->Gh->World->Prop}(p:qeb n0 n1 W0 c e U q d all b r){i m:Nat}{g:Gh}{W X:World}{a:Asg}{vals:List ByteArray}{l:List Bool}(h:StepAt n1 c e U d all b i m g W a vals l)(hK:wG W X):StepAt n1 c e U d all b i m g X a vals l:=
 ⟨h.inv.keep hK.mt,p.hVk W X _ h.v hK (fun _ _=>wH),h.u,h.held,h.look,h.asg,h.way,h.full,h.told,p.hJ _ _ _ _ _ h.jp ⟨GStep.own h.inv hK,rfl⟩,zW h.n hK.size⟩
theorem StepAt.skip {n1:Nat}{c:WkC}{d:qbd}{U:Nat->Prop}{t:World->Prop}{all:List Asg}{p:Nat->Gh->World->Prop}{i y q:Nat}{g:Gh}{W:World}{a:Asg}{vals:List ByteArray}{x:List Bool}(h:StepAt n1 c d U t all p i y g W a vals x)(hd:c.steps.drop i=q::c.steps.drop (i+1))
  (s:q8 c.r.body [q]= []) (z:qbl d c.r.body (q::c.steps.drop (i+1)) a=qbl d c.r.body (c.steps.drop (i+1)) a):StepAt n1 c d U t all p (i+1) y g W a vals x:=by
 have b:=h.way;have m:=h.full;have l:=h.told;rw [hd]at b m l;rw [z]at l;have b:=b.2.2;rw [s]at b;have e:q8 c.r.body (q::c.steps.drop (i+1))=q8 c.r.body [q]++q8 c.r.body (c.steps.drop (i+1)):=by unfold q8;simp
 rw [e,s,nil_append]at m;exact⟨h.inv,h.v,h.u,h.held,h.look,h.asg,by simpa using b,m,l,h.jp,h.n⟩
theorem StepEnd.none {n0 n1:Nat}{W0:World}{c:WkC}{m:qbd}{U:Nat->Prop}{x:Nat}{e:World->Prop}{all:List Asg}{d q:Nat->Gh->World->Prop}(t:qeb n0 n1 W0 c m U x e all d q){i p:Nat}{g:Gh}{W X:World}{a:Asg}{vals:List ByteArray}{l:List Bool}(h:StepAt n1 c m U e all d i p g W a vals l)(hK:wG W X):StepEnd c U e all d q p 0 g W a l true X:=by
 have b:=h.own t hK;exact⟨g,vals,b.inv,b.v,b.u,hK.size,b.held,fun _ _ r _=>r,fun S f s=>⟨[],by rw [yQ];exact s⟩,b.asg,.inl ⟨rfl,b.jp⟩⟩
theorem StepEnd.same {n0 n1:Nat}{W0:World}{c:WkC}{v:qbd}{U:Nat->Prop}{u:Nat}{p:World->Prop}{all:List Asg}{l q:Nat->Gh->World->Prop}(y:qeb n0 n1 W0 c v U u p all l q){x m:Nat}{g:Gh}{W e:World}{a:Asg}{t:List Bool}{d:Bool}(h:StepEnd c U p all l q x m g W a t d e):SameW c U g W0 e:=by
 obtain⟨X,b,r,s,h3,Y,R,z,-⟩:=h;exact SameW.of r z (y.hV e s).1
theorem StepEnd.from {c:WkC}{U:Nat->Prop}{l:World->Prop}{all:List Asg}{e s:Nat->Gh->World->Prop}{q m:Nat}{g:Gh}{W X r:World}{a:Asg}{p:List Bool}{d:Bool}(h:StepEnd c U l all e s q m g X a p d r)(z:W.heap.size<=X.heap.size):StepEnd c U l all e s q m g W a p d r:=by
 obtain⟨u,b,v,x,R,y,t⟩:=h;exact⟨u,b,v,x,R,zW z y,t⟩
theorem qhj {n0 n1:Nat}{W0:World}{c:WkC}{q:qbd}{U:Nat->Prop}{p:Nat}{g:World->Prop}{all:List Asg}{d r:Nat->Gh->World->Prop}(s:qeb n0 n1 W0 c q U p g all d r){vals:List ByteArray}{l:List Bool}{a:Asg}(hA:qcs c.vars vals l a){t:TermD}(b:qex c.vars t){y:ByteArray}(h:qaa a t=some y){X:World}(m:ValsAt X c.Bv c.V vals):
  Calls prog 86 #[.agg #[.int .i64 (qa2 c.vars t).place,.string (qa2 c.vars t).text],qi c.Bv] X fun e w'=>e=.returned (.string y)/\wG X w':=by
 have:=qrh m (by rw [hA.lv];exact s.few) (qa2 c.vars t) (qpz b hA.lv);rw [qn8 hA b h]at this;exact this
theorem qdv {a b:ByteArray}(h:a=b):(a.toList==b.toList)=true:=by simp [h]
theorem qc1 {a b:ByteArray}(h:a≠b):(a.toList==b.toList)=false:=by
 rw [←beq_toListBytes]
 simpa using h
theorem qp2 {w w':World}{base:Nat}{e:TypeId}{sz n:Nat}{v:Value}{xs:List Value}(h:w.ownsRow base e sz v n xs)(c: ∀b,v.ownBlock=some b->w'.heap[b]?=w.heap[b]?):w'.ownsRow base e sz v n xs:=by
 refine⟨h.1,?_⟩;rcases h.2 with h1 |⟨g,cap,cur,e1,e2,e3,e4⟩
 ·exact .inl h1
 ·exact .inr ⟨g,cap,cur,e1,e2,(c g (by rw [e1];rfl)).trans e3,e4⟩
structure MidAt (n0:Nat)(c:WkC)(Vw:World->Prop)(g0:Gh)(X0:World)(g:Gh)(X:World)(vals:List ByteArray)(kn:List Bool):Prop where
 step:GStep n0 g0 X0 g X
 st:g.st=g0.st
 tag:g.tag=g0.tag
 held: ∀b,c.nv b->g.held b=g0.held b
 wk:WkHeld c g vals kn
 v:Vw X
theorem MidAt.refl {n0:Nat}{c:WkC}{d:World->Prop}{g:Gh}{X:World}{vals:List ByteArray}{b:List Bool}(e:GInv g X)(h:WkHeld c g vals b)(l:d X):MidAt n0 c d g X g X vals b:=⟨GStep.refl e,rfl,rfl,fun _ _=>rfl,h,l⟩
theorem MidAt.free {n0:Nat}{c:WkC}{q:World->Prop}{g0 g:Gh}{e X:World}{vals:List ByteArray}{l:List Bool}(h:MidAt n0 c q g0 e g X vals l){U:Nat->Prop}(p: ∀b,U b->g0.free b)(m: ∀b,U b->b<e.heap.size): ∀b,U b->g.free b:=fun b d=>h.step.new b (m b d) (p b d)
theorem MidAt.own {n0 n1:Nat}{W0:World}{c:WkC}{m:qbd}{U:Nat->Prop}{p:Nat}{b:World->Prop}{all:List Asg}{l q:Nat->Gh->World->Prop}(r:qeb n0 n1 W0 c m U p b all l q){g0 g:Gh}{d X Y:World}{vals:List ByteArray}{e:List Bool}(h:MidAt n0 c b g0 d g X vals e)(hK:wG X Y):MidAt n0 c b g0 d g Y vals e:=
 ⟨h.step.trans (GStep.own h.step.inv hK),h.st,h.tag,h.held,h.wk,r.hVk X Y _ h.v hK (fun _ _=>wH)⟩
theorem qrl {α:Type}{l:List α}{f:α->Value}{p:Nat}{x:α}:((l.map f).toArray.setIfInBounds p (f x))=((l.set p x).map f).toArray:=by
 rw [yK,map_set]
theorem MidAt.setK {n0 n1:Nat}{W0:World}{c:WkC}{R:qbd}{U:Nat->Prop}{Y:Nat}{q:World->Prop}{all:List Asg}{z Jx:Nat->Gh->World->Prop}(s:qeb n0 n1 W0 c R U Y q all z Jx){g0 g:Gh}{r X:World}{vals:List ByteArray}{t:List Bool}(h:MidAt n0 c q g0 r g X vals t)(m: ¬U c.K)(p:Nat)(b:Bool):
  ∃g',MidAt n0 c q g0 r g' (X.setCell ⟨c.K,p,none⟩ (.bool b)) vals (t.set p b):=by
 have y:=h.step.inv.hold _ _ h.wk.knr;have l:=qag p (.bool b) y;rw [qrl]at l;have hK:Keep (fun x=>x≠c.K) X (X.setCell ⟨c.K,p,none⟩ (.bool b)):=kSc;have hs:=GStep.put h.step.inv h.wk.knr s.nK hK l;refine⟨_,h.step.trans hs,h.st,h.tag,fun x d=>?_,h.wk.keep (fun x o d u=>?_) rfl (by rw [xr]) ?_ ?_,s.hVk X _ _ h.v hK (fun x d e=>m (by rw [←e];exact d))⟩
 ·simp only [Gh.put];rw [zF d.2];exact h.held x d
 ·simp only [Gh.put];rw [zF u.2];exact d
 ·simp only [Gh.put];rw [zF h.wk.vk];exact h.wk.row
 ·simp only [Gh.put,yj]
theorem MidAt.setV {n0 n1:Nat}{W0:World}{c:WkC}{R:qbd}{U:Nat->Prop}{Y:Nat}{l:World->Prop}{all:List Asg}{z Jx:Nat->Gh->World->Prop}(r:qeb n0 n1 W0 c R U Y l all z Jx){g0 g:Gh}{q X:World}{vals:List ByteArray}{t:List Bool}(h:MidAt n0 c l g0 q g X vals t)(m: ¬U c.V)(p:Nat)(s:ByteArray):
  ∃g',MidAt n0 c l g0 q g' (X.setCell ⟨c.V,p,none⟩ (.string s)) (vals.set p s) t:=by
 have y:=h.step.inv.hold _ _ h.wk.row;have d:=qag p (.string s) y;rw [qrl]at d;have hK:Keep (fun x=>x≠c.V) X (X.setCell ⟨c.V,p,none⟩ (.string s)):=kSc;have hs:=GStep.put h.step.inv h.wk.row r.nV hK d;refine⟨_,h.step.trans hs,h.st,h.tag,fun x b=>?_,h.wk.keep (fun x o b u=>?_) (by rw [xr]) rfl ?_ ?_,r.hVk X _ _ h.v hK (fun x b e=>m (by rw [←e];exact b))⟩
 ·simp only [Gh.put];rw [zF b.1];exact h.held x b
 ·simp only [Gh.put];rw [zF u.1];exact b
 ·simp only [Gh.put,yj]
 ·simp only [Gh.put];rw [zF (fun e=>h.wk.vk e.symm)];exact h.wk.knr
theorem MidAt.hold {n0:Nat}{c:WkC}{x:World->Prop}{g0 g:Gh}{l X:World}{vals:List ByteArray}{s:List Bool}(h:MidAt n0 c x g0 l g X vals s)(p:GInv g0 l)(u:n0<=l.heap.size):
  ∃g',GStep n0 g0 l g' X/\g'.st=g0.st/\(∀b,c.nv b->b<l.heap.size->g'.held b=g0.held b)/\WkHeld c g' vals s/\(∀b o,l.heap.size<=b->c.nv b->X.heap[b]?=some o->g'.held b=some o)/\(∀b o,g.held b=some o->g'.held b=some o)/\(∀b,b<l.heap.size->g.free b->g'.free b):=by
 have d: ∀b o,g.held b=some o->(g.hold l.heap.size X).held b=some o:=fun b o m=>by
  simp only [Gh.hold];rw [zF (fun h=>by rw [m]at h;exact absurd h.2.2.2 wE)];exact m
 refine⟨g.hold l.heap.size X,h.step.hold u,h.st,fun b m q=>?_,h.wk.same d,fun b o q m ho=>?_,d,fun b q r=>⟨r.1,?_⟩⟩
 ·simp only [Gh.hold];rw [zF wC];exact h.held b m
 ·have v:g.tag b=none:=by
   rw [h.tag];cases e:g0.tag b with
   |none=>rfl
   |some T=>have:=p.lt b T e;omega
  have t:g.held b=none:=by
   rw [h.held b m];cases e:g0.held b with
   |none=>rfl
   |some T=>have:=qe (p.hold b T e);omega
  simp only [Gh.hold];rw [zI ⟨q,qe ho,v,t⟩];exact ho
 ·simp only [Gh.hold];rw [zF wC];exact r.2
theorem qxy {α β:Type}(l:List α)(p:α->Bool)(f:α->List β)(h: ∀x,x∈l->p x=false->f x= []):(l.filter p).flatMap f=l.flatMap f:=by
 induction l with
 |nil=>rfl
 |cons x l b=>
  have b:=b fun y d=>h y (yD _ d);cases c:p x with
  |true=>rw [xX c,yF,yF,b]
  |false=>rw [xi (by simp [c]),yF,h x (yJ ..) c,b];rfl
def qho (LJ:qbd)(body:List LitD)(ts:List TermD)(rest:List Nat)(a:Asg)(t:List ByteArray):List Asg:=match qbg a ts t with
 |some a'=>qbl LJ body rest a'
 |none=> []
theorem qyy {b:qbd}{body:List LitD}{L:LitD}{q:Nat}{rest:List Nat}{a:Asg}(e:body.getD q default=L)(c:L.kind=1):qbl b body (q::rest) a=((b.pos q).filter (qj3 a L.atom.args)).flatMap (qho b body L.atom.args rest a):=by
 rw [qxy]
 ·rw [show qbl b body (q::rest) a=if (body.getD q default).kind=3 then (if qaa a (body.getD q default).left=qaa a (body.getD q default).right then []else qbl b body rest a) else if (body.getD q default).kind=2 then (if (body.getD q default).atom.args.map (qaz a)∈b.neg q then []else qbl b body rest a) else (b.pos q).flatMap (qho b body (body.getD q default).atom.args rest a) from rfl,e,zF (by rw [c];omega),zF (by rw [c];omega)]
 ·intro t _ d;unfold qho;rw [q69 (ExtA.refl a) d]
theorem q6h {n0 n1:Nat}{W0:World}{c:WkC}{LJ:qbd}{U:Nat->Prop}{nU:Nat}{Y:World->Prop}{all:List Asg}{x Jx:Nat->Gh->World->Prop}(s:qeb n0 n1 W0 c LJ U nU Y all x Jx){i k0:Nat}{g e:Gh}{W wr d:World}{a:Asg}{vals:List ByteArray}{kn:List Bool}(hA:StepAt n1 c LJ U Y all x i k0 g W a vals kn)
  (hK:wG W wr) (m:GStep n0 g wr e d) (q:e.st=g.st) (p:e.held=g.held):
  ∃gm,StepAt n1 c LJ U Y all x i k0 gm d a vals kn/\(∀b o,g.held b=some o->gm.held b=some o)/\(∀S f,g.st S=some f->gm.st S=some f)/\ ∀b,W.heap.size<=b->e.free b->b<d.heap.size->gm.held b=d.heap[b]?:=by
 have y:n0<=W.heap.size:=zW s.n01 hA.n;have z:GStep n0 g W e d:=(GStep.own hA.inv hK).trans m;have t:=z.hold y;have r: ∀b o,g.held b=some o->(e.hold W.heap.size d).held b=some o:=fun b o r=>by
  simp only [Gh.hold];rw [zF (fun h=>by have:=qe (hA.inv.hold b o r);omega),p];exact r
 have l:(e.hold W.heap.size d).st=g.st:=q;refine⟨e.hold W.heap.size d,⟨t.inv,s.hVk W d _ hA.v z.keep hA.u,fun b hU=>t.new b (by have:=s.hU b hU;have:=(s.hV W hA.v).2;omega) (hA.u b hU),hA.held.same r,hA.look.more (fun S f X=>⟨[],by rw [yQ,l];exact X⟩),hA.asg,hA.way,hA.full,hA.told,s.hJ _ _ _ _ _ hA.jp ⟨t,q⟩,zW hA.n z.keep.size⟩,r,fun S f X=>by rw [l];exact X,fun b hl hf R=>?_⟩;simp only [Gh.hold];rw [zI ⟨hl,R,hf.1,hf.2⟩]
theorem StepEnd.base {c:WkC}{U:Nat->Prop}{q:World->Prop}{all:List Asg}{p v:Nat->Gh->World->Prop}{t m:Nat}{g l:Gh}{W s u:World}{a:Asg}{r:List Bool}{e:Bool}(h:StepEnd c U q all p v t m l s a r e u)(z: ∀b o,g.held b=some o->l.held b=some o)(hs: ∀S f,g.st S=some f->l.st S=some f)(R:W.heap.size<=s.heap.size):StepEnd c U q all p v t m g W a r e u:=by
 obtain⟨Y,d,h1,h2,h3,h4,y,h6,X,h8⟩:=h;exact⟨Y,d,h1,h2,h3,zW R h4,y,fun b o ho x=>h6 b o (z b o ho) x,fun S f hS=>X S f (hs S f hS),h8⟩
theorem qtc {α β:Type}(f:α->List β)(l:List α)(j:Nat)(x:α)(h:l[j]?=some x):(l.take (j+1)).flatMap f=(l.take j).flatMap f++f x:=by
 rw [zh,h,yG];simp
end Go.Proofs
namespace Go.Proofs
open Go.RowKit Go.Ink R4
attribute [local go_sem] Oper.semAt_some
theorem q02 {n0 n1:Nat}{W0:World}{c:WkC}{LJ:qbd}{U:Nat->Prop}{nU:Nat}{Vw:World->Prop}{all:List Asg}{Jp Jx:Nat->Gh->World->Prop}(hE:qeb n0 n1 W0 c LJ U nU Vw all Jp Jx){i:Nat}(hi:i<c.steps.length)(bw: ∀q,c.steps[i]?=some q->(c.r.body.getD q default).kind=3)(ih:qhc n1 c LJ U Vw all Jp Jx (i+1)):qhc n1 c LJ U Vw all Jp Jx i:=by
 intro k0 g W a vals kn hA;obtain⟨q,hq⟩: ∃q,c.steps[i]?=some q:=⟨_,zB hi⟩;have hB:=hA.held;have hg:=hA.inv;have dd:=(hE.hV W hA.v).2;obtain⟨L,k,sb,sc,ab,oa,cb,tb,ot,ct,bt,ar,hL,hk,a2,c1,db,al⟩:=qn9 hE hB hq;obtain⟨sp,bq⟩:=ex ((k.store.map fun S=>(⟨S,0,none⟩:Addr)));rw [bq]at al;have dl:q<c.r.body.length:=(zA.1 hL).1;have am:c.r.body.getD q default=L:=by rw [zJ,hL];rfl
 have bp:=bw q hq;rw [am]at bp;obtain⟨kd,m⟩:=ex (L.kind);rw [m]at bp al;subst bp;have b5:SameW c U g W0 W:=SameW.of hg (fun _ _ h _=>h) (hE.hV W hA.v).1;have bg: ∀X,wG W X->SameW c U g W0 X:=fun X hX=>b5.keep hX (fun _ _ _ _=>wH) (fun _ _=>wH) (fun b hb=>by have:=hE.hU b hb;omega);have R: ∀X,wG W X->qgt c vals kn i q L k sb sc ab oa cb tb ot ct bt ar nU sp 3 X:=fun X hX=>al X (bg X hX);have x:c.steps.drop i=q::c.steps.drop (i+1):=by rw [zt hi,(zA.1 hq).2]
 have cr:=R W (Keep.refl _ _);have b1:=cr.1;have cf:=zQ _ _ b1;simp only at cf;have de: ¬((i:Int)=(c.steps.length:Int)):=wC
 have c7:(0:Int)<=i:=wC
 have dj:(i:Int)<c.steps.length:=wC
 have dk:i<1073741824:=by have:=hE.sfew;omega
 have dq:(0:Int)<=q:=wC
 have c3:(q:Int)<c.looks.length:=by rw [hE.looks];omega
 have df:(q:Int)<c.r.body.length:=wC
 have aE:((i+1:Nat):Int)=(i:Int)+1:=wC
 clear b5 cr;have az:qq L= [L.left,L.right]:=by unfold qq;rw [zI m]
 have bP:(qq L).length=2:=by rw [az];rfl
 have cP:((qq L).length:Int)=2:=wC
 obtain⟨p1,z1,p2,z2,bj,bk⟩: ∃p1 z1 p2 z2,qa2 c.vars L.left=⟨p1,z1⟩/\qa2 c.vars L.right=⟨p2,z2⟩:=⟨_,_,_,_,rfl,rfl⟩;have aY: ∃zb zo,bt=some ⟨zb,zo,none⟩/\ ∀X,qgt c vals kn i q L k sb sc ab oa cb tb ot ct bt ar nU sp 3 X->X.cell? ⟨zb,zo,none⟩=some (.int .i64 p1)/\X.cell? ⟨zb,zo+1,none⟩=some (.string z1)/\X.cell? ⟨zb,zo+2,none⟩=some (.int .i64 p2)/\X.cell? ⟨zb,zo+3,none⟩=some (.string z2):=by
  have b0:qda c.vars L= [⟨p1,z1⟩,⟨p2,z2⟩]:=by unfold qda;rw [az,yZ,yZ,xk,bj,bk]
  obtain⟨x1,x2,x3,x4,x5,x6,x7,x8,x9,u,z,ad,s,af,aa,ae,Y,p,di,dm,cE,-,-,bv⟩:=R W (Keep.refl _ _);injection cE with hv1 _ _
  rw [b0]at bv;obtain⟨b',o',aN,-,c9⟩:=bv 0 _ rfl;obtain⟨b2,o2,bn,-,da⟩:=bv 1 _ rfl;rw [←hv1]at aN bn;rw [aN]at bn;cases bn;refine⟨b',o',aN,fun X hX=>?_⟩;obtain⟨x1,x2,x3,x4,x5,x6,x7,x8,x9,u,z,ad,s,af,aa,ae,Y,p,dp,dg,bm,-,-,bd⟩:=hX;injection bm with bm _ _
  rw [b0]at bd;obtain⟨b3,o3,cj,-,q1,q2⟩:=bd 0 _ rfl;obtain⟨b4,o4,cp,-,q3,q4⟩:=bd 1 _ rfl;rw [←bm,aN]at cj cp;cases cj;cases cp;simp only [Nat.zero_mul,Nat.add_zero,Nat.one_mul,xI]at q1 q2 q3 q4;exact⟨q1,q2,q3,q4⟩
 obtain⟨zb,zo,b9,aY⟩:=aY;subst b9;obtain⟨y1,aP⟩: ∃y,qaa a L.left=some y:=by
  have:=hA.way;rw [x]at this;have:=this.1;rw [am]at this;have:=this m L.left (.inl rfl);unfold qaa;by_cases hv:L.left.var=true
  ·rw [zI hv];exact this hv
  ·rw [zF hv];exact⟨_,rfl⟩
 obtain⟨y2,aZ⟩: ∃y,qaa a L.right=some y:=by
  have:=hA.way;rw [x]at this;have:=this.1;rw [am]at this;have:=this m L.right (.inr rfl);unfold qaa;by_cases hv:L.right.var=true
  ·rw [zI hv];exact this hv
  ·rw [zF hv];exact⟨_,rfl⟩
 have av: ∀X,wG W X->(Calls prog 86 #[.agg #[.int .i64 p1,.string z1],qi c.Bv] X fun e w'=>e=.returned (.string y1)/\wG X w')/\(Calls prog 86 #[.agg #[.int .i64 p2,.string z2],qi c.Bv] X fun e w'=>e=.returned (.string y2)/\wG X w'):=fun X hX=>by
  have hv:=(hB.vals hg).keep hX trivial trivial;have q1:=qhj hE hA.asg (t:=L.left) (hE.vin L _ a2 (by rw [az];simp)) aP hv;have q2:=qhj hE hA.asg (t:=L.right) (hE.vin L _ a2 (by rw [az];simp)) aZ hv;rw [bj]at q1;rw [bk]at q2;exact⟨q1,q2⟩
 have ch:q8 c.r.body [q]= []:=by rw [qdm,am,zI (.inl m)]
 have a8:qbl LJ c.r.body (q::c.steps.drop (i+1)) a=if y1=y2 then [] else qbl LJ c.r.body (c.steps.drop (i+1)) a:=by
  rw [show qbl LJ c.r.body (q::c.steps.drop (i+1)) a=if (c.r.body.getD q default).kind=3 then (if qaa a (c.r.body.getD q default).left=qaa a (c.r.body.getD q default).right then []else qbl LJ c.r.body (c.steps.drop (i+1)) a) else _ from rfl,am,zI m,aP,aZ];by_cases h:y1=y2
  ·rw [zI h,zI (by rw [h])]
  ·rw [zF h,zF (fun e=>h (yI e))]
 clear bj bk az;unfold WkC.bound;refine qb5 ?_ bq hA hB hg hE al bg R aE hL hk a2 am hq x av;clear bq hA hB hg hE al bg R aE hL hk a2 am hq x av;intro cU bN c5 dc bf aD ay d a0 c8 c2 cT cV c6 ag aq;refine hd6 ?_ aY a8 ch aP aZ bP;clear aY a8 ch aP aZ bP;intro bO aC ce cS cN cZ;refine qbr Tryz.func88 rfl ?_;simp only [Tryz.ntmps88,qd0,Nat.reduceAdd,Nat.reduceSub];gi_wp2;refine xe.2 ?_;refine wp_scope_straight ?_;refine(xe (n:=0)).1 ?_;gi_wp2;have cl:=d.o W.drew kDr;clear b1 cf;refine hd1 ?_ cl;clear cl;intro a6;refine qae ?_;refine qw rfl (fun X=>qgt c vals kn i q L k sb sc ab oa cb tb ot ct (some ⟨zb,zo,none⟩) ar nU sp 3 X) [] ?_;refine qy [0,1,2,3,4,5,6,7,8,9,10,11,12,13,14,15,16] ?_
 iterate 17
  refine tkR (v:=?_) rfl a6.o ?_ ?_;rotate_left
  ·rintro Wq ⟨x1,x2,x3,x4,x5,x6,x7,x8,x9,u,z,ad,s,af,aa,ae,Y,p,an⟩;go_simp
   try with_reducible rfl
  try simp only [qz]
 refine qm ?_;refine hoR 17 rfl fun K ap=>?_;gi_wp2;refine ap.o _ _ (fun _=>d.o _ (kDr.trans kAl)) ?_;refine hoR 18 rfl fun K ao=>?_;gi_wp2;obtain⟨Nb,a1⟩:=ex (W.heap.size);obtain⟨W1,aA⟩:=ex ((W.alloc (.cells #[.pointer sp,.string k.pred,.int .i64 (k.arity:Int),.int .i64 (k.upto:Int)] 161)).drew);have k1:wG W W1:=by rw [←aA];exact kAl.trans kDr
 have bU:W1.heap[Nb]?=some (.cells #[.pointer sp,.string k.pred,.int .i64 (k.arity:Int),.int .i64 (k.upto:Int)] 161 (0,0)):=by rw [←aA,←a1];exact qh _ _
 have b7:=d.o W1 k1;have ci:=d.o W1.drew (k1.trans kDr);rw [aA,a1];refine hd6 ?_ k1 bU b7 ci aA a1;clear k1 bU b7 ci aA a1;intro bM a5 aF a4 cn co;refine ao.o _ _ (fun _=>aF.o) ?_;refine qy [19] ?_
 iterate 1
  refine tkR (v:=?_) rfl aF.o ?_ ?_;rotate_left
  ·rintro Wq ⟨x1,x2,x3,x4,x5,x6,x7,x8,x9,u,z,ad,s,af,aa,ae,Y,p,an⟩;go_simp
   try with_reducible rfl
  try simp only [qz]
 refine qm ?_;refine ql wD (qo ?_);clear ap ao;gi_wp2;refine qae ?_;refine qw rfl (fun X=>qgt c vals kn i q L k sb sc ab oa cb tb ot ct (some ⟨zb,zo,none⟩) ar nU sp 3 X) [] ?_;refine qy [0,1,2,3,4,5,6,7,8,9,10,11] ?_
 iterate 12
  refine tkR (v:=?_) rfl a4.o ?_ ?_;rotate_left
  ·rintro Wq ⟨x1,x2,x3,x4,x5,x6,x7,x8,x9,u,z,ad,s,af,aa,ae,Y,p,an⟩;go_simp
   try with_reducible rfl
  try simp only [qz]
 refine qm ?_;refine ql wD (qo ?_);have bh:wG W W1.drew:=bM.o.trans kDr;have aw:W1.drew.heap[Nb]?=some (.cells #[.pointer sp,.string k.pred,.int .i64 (k.arity:Int),.int .i64 (k.upto:Int)] 161 (0,0)):=a5.o;obtain⟨W2,bR⟩:=ex (W1.drew);rw [bR]at bh aw⊢;clear bM a5 aF a4 a6 cn bR co;refine hd2 ?_ bh aw;clear bh aw;intro aj cF;gi_wp2;have br: ∀X,SameW c U g W0 X->(qgt c vals kn i q L k sb sc ab oa cb tb ot ct (some ⟨zb,zo,none⟩) ar nU sp 3 X/\X.cell? ⟨zb,zo,none⟩=some (.int .i64 p1)/\X.cell? ⟨zb,zo+1,none⟩=some (.string z1)/\X.cell? ⟨zb,zo+2,none⟩=some (.int .i64 p2)/\X.cell? ⟨zb,zo+3,none⟩=some (.string z2)):=fun X hX=>⟨aD.o X hX,bO.o X (aD.o X hX)⟩;have cg:=br W2.drew (ay.o _ (aj.o.trans kDr));refine hd2 ?_ br cg;clear br cg;intro ax b6;refine qae ?_;refine qw rfl (fun X=>(qgt c vals kn i q L k sb sc ab oa cb tb ot ct (some ⟨zb,zo,none⟩) ar nU sp 3 X/\X.cell? ⟨zb,zo,none⟩=some (.int .i64 p1)/\X.cell? ⟨zb,zo+1,none⟩=some (.string z1)/\X.cell? ⟨zb,zo+2,none⟩=some (.int .i64 p2)/\X.cell? ⟨zb,zo+3,none⟩=some (.string z2))) [] ?_;refine qy [0,1,2,3,5,6,7,8] ?_
 iterate 8
  refine tkR (v:=?_) rfl b6.o ?_ ?_;rotate_left
  ·rintro Wq ⟨⟨x1,x2,x3,x4,x5,x6,x7,x8,x9,u,z,ad,s,af,aa,ae,Y,p,an⟩,s1,s2,s3,s4⟩;go_simp
   try with_reducible rfl
  try simp only [qz]
 refine qm ?_;refine hoR 4 rfl fun K ap=>?_;gi_wp2;refine⟨wH,rfl,(zU.2 (aq.o _ (aj.o.trans kDr)).1).mono ?_⟩;rintro e W3 ⟨rfl,k3⟩;have bs:wG W2 W3:=kDr.trans k3;have ca:=ax.o W3 (ay.o _ (aj.o.trans bs));clear k3;refine hd2 ?_ bs ca;clear bs ca;intro a7 cd;gi_wp2;refine ap.o _ _ (fun _=>cd.o) ?_;refine hoR 9 rfl fun K ao=>?_;gi_wp2;refine⟨wH,rfl,(zU.2 (aq.o _ (aj.o.trans a7.o)).2).mono ?_⟩;rintro e W4 ⟨rfl,k4⟩;have bi:wG W W4:=(aj.o.trans a7.o).trans k4;have bV:=ax.o W4 (ay.o _ bi);clear k4;refine hd2 ?_ bV bi;clear bV bi;intro ak aB;gi_wp2;refine ao.o _ _ (fun _=>ak.o) ?_;by_cases hy:y1=y2
 ·have bo:=qdv hy;have l:StepEnd c U Vw all Jp Jx k0 (qbl LJ c.r.body (c.steps.drop i) a).length g W a kn true W4:=by
   rw [ag.o,aC.o,zI hy];exact StepEnd.none bf.o bN.o aB.o
  clear hy;refine hd1 ?_ l;clear l;intro bl;refine qy [10,11] ?_
  iterate 2
   refine tkR (v:=?_) rfl ak.o ?_ ?_;rotate_left
   ·rintro Wq ⟨⟨x1,x2,x3,x4,x5,x6,x7,x8,x9,u,z,ad,s,af,aa,ae,Y,p,an⟩,s1,s2,s3,s4⟩;go_simp
    try simp only [bo]
    try with_reducible rfl
   try simp only [qz]
  refine qm ?_;refine qy [12,13,14,15] ?_
  iterate 4
   refine tkS rfl ak.o ?_
   try simp only [qz]
  refine qm ?_;refine qy [16,17] ?_
  iterate 2
   refine tkR (v:=?_) rfl ak.o ?_ ?_;rotate_left
   ·rintro Wq ⟨⟨x1,x2,x3,x4,x5,x6,x7,x8,x9,u,z,ad,s,af,aa,ae,Y,p,an⟩,s1,s2,s3,s4⟩;go_simp
    try with_reducible rfl
   try simp only [qz]
  refine qm ?_;refine ql wD (qo ?_);gi_wp2;rw [Exit.noGoto_ret];go_ret;exact⟨_,rfl,bl.o⟩
 ·have bo:=qc1 hy;have aX:=aC.o;rw [zF hy]at aX;have hc:=ih k0 g W4 a vals kn ((bN.o.own bf.o aB.o).skip ag.o ce.o aX);rw [a0.o]at hc;clear hy;refine hd2 ?_ aX hc;clear aX hc;intro cm cI;refine qy [10,11,12,13,14] ?_
  iterate 5
   refine tkR (v:=?_) rfl ak.o ?_ ?_;rotate_left
   ·rintro Wq ⟨⟨x1,x2,x3,x4,x5,x6,x7,x8,x9,u,z,ad,s,af,aa,ae,Y,p,an⟩,s1,s2,s3,s4⟩;go_simp
    try simp only [bo]
    try with_reducible rfl
   try simp only [qz]
  refine qm ?_;refine hoR 15 rfl fun K bW=>?_;gi_wp2;refine⟨wH,rfl,(zU.2 cI.o).mono ?_⟩;rintro e W5 ⟨cG,rfl,l⟩;have cq:=ax.o W5 (l.same bf.o);have aG:StepEnd c U Vw all Jp Jx k0 (qbl LJ c.r.body (c.steps.drop i) a).length g W a kn cG W5:=by
   rw [ag.o,cm.o];exact l.from aB.o.size
  clear l;refine hd2 ?_ cq aG;clear cq aG;intro a9 a3;gi_wp2;refine bW.o _ _ (fun _=>a9.o) ?_;refine qy [16,17] ?_
  iterate 2
   refine tkR (v:=?_) rfl a9.o ?_ ?_;rotate_left
   ·rintro Wq ⟨⟨x1,x2,x3,x4,x5,x6,x7,x8,x9,u,z,ad,s,af,aa,ae,Y,p,an⟩,s1,s2,s3,s4⟩;go_simp
    try with_reducible rfl
   try simp only [qz]
  refine qm ?_;refine ql wD (qo ?_);gi_wp2;rw [Exit.noGoto_ret];go_ret;exact⟨_,rfl,a3.o⟩
end Go.Proofs
