/- Parts of the proof. -/
import Derived.Test.YtnponcjnahicnaaGreatDlBToDlC
set_option linter.unusedSimpArgs false
set_option linter.unusedVariables false
set_option maxRecDepth 100000
set_option maxHeartbeats 4000000
open Go.Proofs.Tryz(prog)
open List(any_append any_eq_true find?_cons find?_some)
namespace Go.Proofs
open Go.RowKit Go.Ink Go.Flt R4 P16
attribute [local go_sem] Oper.semAt_some
def qfb (r:RuleD)(t:TermD):Bool:=t.var&&!decide (t.text∈qd1 (qas r.body))
def qgy (r:RuleD):ByteArray:=match (qb4 r).find? (qfb r) with
 |some t=>t.text
 |none=>⟨#[]⟩
theorem qtx {n:Nat}{r:RuleD}{sh sb:Value}{w:World}(hr:RuleIn n w sh sb r)(hn:n<=w.heap.size)(aB:(qb4 r).length<=1073741824):
  Calls prog 105 #[qam r sh sb] w fun e w'=>e=.returned (.string (qgy r))/\Keep (fun b=>b<w.heap.size) w w':=by
 obtain⟨N,hN⟩:=ex (w.heap.size);obtain⟨⟨ah,s,rfl,bk,bi,ax⟩,⟨ab,p,rfl,bj,bh,aw⟩⟩:=id hr;obtain⟨W0,am⟩:=ex (w.alloc (.cells #[.string r.head.pred,.slice ah r.head.args.length s,.slice ab r.body.length p] 27));have k0:wG w W0:=by rw [←am];exact kAl
 have p0:W0.heap[N]?=some (.cells #[.string r.head.pred,.slice ah r.head.args.length s,.slice ab r.body.length p] 27 (0,0)):=by rw [←am,←hN];exact qh _ _
 have z0:W0.heap.size=N+1:=by rw [←am,←hN];simp
 have l:=qn1 (w:=W0) (hr.keep k0.mt) wC aB;have d0:=qb p0 0 _ rfl;have d1:=qb p0 1 _ rfl;have d2:=qb p0 2 _ rfl;have aU:=qe p0;simp only [zD]at d0 d1 d2;unfold qam at l⊢;obtain⟨ts,aW⟩:=ex (qb4 r);have aX:qgy r=match ts.find? (qfb r) with |some t=>t.text |none=>⟨#[]⟩:=by unfold qgy;rw [aW]
 rw [aW]at l aB;refine hd9 ?_ hr hN am k0 p0 l aX ax aw;clear hr hN am k0 p0 l aX ax aw;intro a7 ad aP a8 bc ao ar a6 a5
 go_enter Tryz.func105,Tryz.ntmps105
 go_wp2_with fail;rw [aP.o];refine ao.o.mono ?_;rintro e W1 ⟨v,rfl,k1,hO⟩;have z1:=k1.size;have hA:=qf7 hO rfl aB;obtain⟨av,cv,rfl,-,bN,aE⟩:=id hA;obtain⟨M,hM⟩:=ex (W1.heap.size);have bK:N+1<=M:=wC
 rw [hM]at aE;rw [ad.o];have p1:=k1.heap bc.o aU;clear hO hA d0 d1 d2 aU;refine hd4 ?_ k1 aE hM p1;clear k1 aE hM p1;intro a9 aQ aa bd;go_wp2_with fail
 go_loopw [4] (fun ix wr=> ∃(k:Nat),k<=ts.length/\ix=.int .i64 (k:Int)/\Keep (fun b=>b<M) W1 wr/\ts.find? (qfb r)=(ts.drop k).find? (qfb r)) (fun i _=>ts.length-(intOf i).toNat)
 case atStart=>exact⟨0,wC,rfl,Keep.refl _ _,rfl⟩
 case round=>
  obtain⟨j,hj,rfl,y,c⟩:=hrel;have bx:=y.size;have bO:(0:Int)<=j:=wC
  have kE:Keep (fun b=>b<N) w wr:=a8.o.mt.trans ((a9.o.mono fun b _ h=>wC).trans (y.mono fun b _ h=>wC));by_cases aV:j<ts.length
  ·have bw:(j:Int)<ts.length:=by omega
   obtain⟨u,hu⟩: ∃u,ts[j]?=some u:=⟨_,zB aV⟩;obtain⟨bt,ot,rfl,bM,aF,aG⟩:=aQ.o j u hu;have q0:=y.cell aF (show bt<M from wC);have q1:=y.cell aG (show bt<M from wC);have au:bt<wr.heap.size:=by have:=aa.o;omega
   have aD:ts.drop j=u::ts.drop (j+1):=by
    obtain⟨h1,e1⟩:=zA.1 hu;rw [zt h1,e1]
   rw [aD,find?_cons]at c;cases U:u.var with
   |false=>
    rw [U]at q0;have an:qfb r u=false:=by unfold qfb;rw [U];rfl
    rw [an]at c;clear aF aG hu U aD an;refine hd3 ?_ y c kE;clear y c kE;intro Y d aj;go_wp2_with fail
    go_quiet (fail)
    go_wp2_with fail;go_roundw
    case rel=>exact⟨j+1,wC,by go_num,Y.o.trans (Keep.drewN' _ _ _),d.o⟩
    case measure=>simp [intOf];omega
   |true=>
    rw [U]at q0;obtain⟨bb,aC⟩:=ex (decide (u.text∈qd1 (qas r.body)));have an:qfb r u=!bb:=by unfold qfb;rw [U,aC];rfl
    rw [an]at c;have pN:=y.heap bd.o (show N<M from wC);have hS: ∀X,Keep (fun b=>b<wr.heap.size) wr X->X.cell? ⟨N,0,none⟩=some (.string r.head.pred)/\X.cell? ⟨N,1,none⟩=some (.slice ah r.head.args.length s)/\X.cell? ⟨N,2,none⟩=some (.slice ab r.body.length p)/\X.cell? ⟨bt,ot+j*2,none⟩=some (.bool true)/\X.cell? ⟨bt,ot+j*2+1,none⟩=some (.string u.text):=fun X hX=>by
     have q:=hX.heap pN (by have:=aa.o;omega);have x0:=qb q 0 _ rfl;have x1:=qb q 1 _ rfl;have x2:=qb q 2 _ rfl;simp only [zD]at x0 x1 x2;exact⟨x0,x1,x2,hX.cell q0 au,hX.cell q1 au⟩
    obtain⟨We,z⟩:=ex (wr.drew);have ke:wG wr We:=by rw [←z];exact kDr
    have ze:We.heap.size=wr.heap.size:=by rw [←z];rfl
    have bL:N<We.heap.size:=by have:=aa.o;omega
    have bv:bt<We.heap.size:=wC
    have ap:=hS We ke.mt;have R:=qy1 (w:=We) (a7.o.keep ((kE.mono fun b _ h=>by have:=ad.o;omega).trans ke.mt)) (by have:=ad.o;omega) u.text;unfold qam at R;rw [aC]at R;clear aF aG hu U aD an aC pN;cases bb with
    |true=>
     refine hd9 ?_ y c kE hS z ke ze ap R;clear y c kE hS z ke ze ap R;intro Y d aj ay af az aA ae ag;go_wp2_with fail;refine qa5 rfl (fun X=>X.cell? ⟨N,0,none⟩=some (.string r.head.pred)/\X.cell? ⟨N,1,none⟩=some (.slice ah r.head.args.length s)/\X.cell? ⟨N,2,none⟩=some (.slice ab r.body.length p)/\X.cell? ⟨bt,ot+j*2,none⟩=some (.bool true)/\X.cell? ⟨bt,ot+j*2+1,none⟩=some (.string u.text)) [] ?_;rw [af.o];refine qy [0,1,2,3,4,5,6,7,8,9,10,11] ?_
     iterate 12
      refine tkN (v:=?_) rfl ae.o ?_ ?_;rotate_left
      ·rintro Wq ⟨x1,x2,x3,x4,x5⟩;go_simp
       try with_reducible rfl
      try simp only [qz]
     refine qm ?_;refine ho 12 rfl fun K m=>?_;go_wp2_with fail;refine ag.o.mono ?_;rintro e W5 ⟨rfl,k5⟩;have x:Keep (fun b=>b<wr.heap.size) wr W5:=az.o.mt.trans (k5.mono fun b _ h=>by have:=aA.o;omega);have al:=ay.o W5 x;refine hd3 ?_ k5 x al;clear k5 x al;intro ba ai g;go_wp2_with fail;refine m.o _ _ (fun _=>g.o) ?_;refine qy [13,14] ?_
     iterate 2
      refine tkN (v:=?_) rfl g.o ?_ ?_;rotate_left
      ·rintro Wq ⟨x1,x2,x3,x4,x5⟩;go_simp
       try with_reducible rfl
      try simp only [qz]
     refine qm ?_;refine qbh wD ?_;clear m;go_wp2_with fail;go_roundw
     case rel=>exact⟨j+1,wC,by go_num,Y.o.trans (ai.o.mono fun b _ h=>by have:=aa.o;omega),d.o⟩
     case measure=>simp [intOf];omega
    |false=>
     refine hd9 ?_ y c kE hS z ke ze ap R;clear y c kE hS z ke ze ap R;intro Y d aj ay af az aA ae ag;go_wp2_with fail;refine qa5 rfl (fun X=>X.cell? ⟨N,0,none⟩=some (.string r.head.pred)/\X.cell? ⟨N,1,none⟩=some (.slice ah r.head.args.length s)/\X.cell? ⟨N,2,none⟩=some (.slice ab r.body.length p)/\X.cell? ⟨bt,ot+j*2,none⟩=some (.bool true)/\X.cell? ⟨bt,ot+j*2+1,none⟩=some (.string u.text)) [] ?_;rw [af.o];refine qy [0,1,2,3,4,5,6,7,8,9,10,11] ?_
     iterate 12
      refine tkN (v:=?_) rfl ae.o ?_ ?_;rotate_left
      ·rintro Wq ⟨x1,x2,x3,x4,x5⟩;go_simp
       try with_reducible rfl
      try simp only [qz]
     refine qm ?_;refine ho 12 rfl fun K m=>?_;go_wp2_with fail;refine ag.o.mono ?_;rintro e W5 ⟨rfl,k5⟩;have x:Keep (fun b=>b<wr.heap.size) wr W5:=az.o.mt.trans (k5.mono fun b _ h=>by have:=aA.o;omega);have al:=ay.o W5 x;have bu:bt<W5.heap.size:=by have:=x.size;omega
     refine hd3 ?_ k5 x al;clear k5 x al;intro ba ai g;go_wp2_with fail;refine m.o _ _ (fun _=>g.o) ?_;refine qy [13,14] ?_
     iterate 2
      refine tkN (v:=?_) rfl g.o ?_ ?_;rotate_left
      ·rintro Wq ⟨x1,x2,x3,x4,x5⟩;go_simp
       try with_reducible rfl
      try simp only [qz]
     refine qm ?_;refine qbh wD ?_;clear m q0 q1;obtain⟨y1,y2,y3,y4,y5⟩:=g.o;go_wp2_with fail;go_ret;exact⟨by rw [ar.o,d.o];rfl,by rw [ad.o];exact aj.o.trans (ai.o.mono fun b _ h=>by have:=aa.o;omega)⟩
  ·obtain rfl:j=ts.length:=by omega
   rw [xq]at c;clear aV;refine hd3 ?_ y c kE;clear y c kE;intro Y d aj;go_wp2_with fail;go_ret;exact⟨by rw [ar.o,d.o];rfl,by rw [ad.o];exact aj.o⟩
theorem qpa {L:LitD}(h:qcq L=true):L.uses=qaj (qq L):=by
 unfold qcq at h;unfold LitD.uses LitD.terms qq qaj;split at h
 ·rename_i hk;rw [zI hk,zF wC]
 ·split at h
  ·rename_i h1 h2;rw [zF h1,zI h2,zI h2]
  ·cases h
theorem qk1 {r:RuleD}(d:qaq r=true):r.names=qaj (qb4 r):=by
 have c:=(qcc d).2.2;rw [qj0];unfold qb4 qaj;rw [yV,zn]
 congr 1
 have: ∀ls:List LitD,(∀L,L∈ls->qcq L=true)->ls.flatMap LitD.uses=((ls.flatMap qq).filter (·.var)).map (·.text):=by
  intro ls
  induction ls with
  |nil=>intro _;rfl
  |cons L ls ih=>
   intro h;rw [yF,yF,yV,zn,ih fun M b=>h M (yD _ b),qpa (h L (yJ ..))]
   rfl
 exact this _ c
theorem qp7 {r:RuleD}(l:qaq r=true):(qgy r=⟨#[]⟩)↔S12.looseOf r=none:=by
 have hT: ∀t,t∈qb4 r->qbi t=true:=fun t b=>by
  unfold qb4 at b;rcases zr.1 b with h |h
  ·exact(qgj (qcc l).2.1).2.2 t h
  ·obtain⟨L,d,h⟩:=xF.1 h;exact(qmw ((qcc l).2.2 L d)).2 t h
 have q:qgy r=⟨#[]⟩↔ ∀t,t∈qb4 r->qfb r t=false:=by
  unfold qgy;constructor
  ·intro h t b;cases e:(qb4 r).find? (qfb r) with
   |none=>simpa using yp.1 e t b
   |some u=>
    rw [e]at h;have m:=find?_some e;have c:=hT u (xd e);unfold qfb at m;rw [zV]at m;unfold qbi at c;rw [zI m.1,show u.text=⟨#[]⟩ from h]at c;exact absurd c wF
  ·intro h;cases e:(qb4 r).find? (qfb r) with
   |none=>rfl
   |some u=>exact absurd (find?_some e) (by rw [h u (xd e)];decide)
 rw [q];unfold S12.looseOf;rw [yp,qk1 l];have g: ∀x,x∈qcm r.body↔x∈qd1 (qas r.body):=fun x=>by
  rw [qsm,←q3l,qye];constructor
  ·rintro⟨L,d,hk,c⟩;rw [qpa ((qcc l).2.2 L d)]at c;unfold qq at c;rw [zF wC]at c;exact⟨L,d,hk,c⟩
  ·rintro⟨L,d,hk,c⟩;refine⟨L,d,hk,?_⟩;rw [qpa ((qcc l).2.2 L d)];unfold qq;rw [zF wC];exact c
 unfold qaj;constructor
 ·intro h x s;obtain⟨t,b,rfl⟩:=yL.1 s;obtain⟨b,p⟩:=yX.1 b;have:=h t b;unfold qfb at this;rw [p,yW]at this;simp only [g,zT]
  simpa using this
 ·intro h t b;unfold qfb;cases p:t.var with
  |false=>rfl
  |true=>
   have:=h t.text (yL.2 ⟨t,yX.2 ⟨b,p⟩,rfl⟩);simp only [g,zT]at this
   simpa using this
theorem qwp {n:Nat}{r:RuleD}{sh u:Value}{w:World}(t:RuleIn n w sh u r)(hn:n<=w.heap.size)(x:(qb4 r).length<=1073741824):
  Calls prog 66 #[qam r sh u] w fun e w'=>e=.returned (.bool (decide (qgy r=⟨#[]⟩)))/\Keep (fun b=>b<w.heap.size) w w':=by
 obtain⟨N,q⟩:=ex (w.heap.size);obtain⟨W0,d⟩:=ex (w.alloc (.cells #[.string r.head.pred,sh,u] 27));have y:wG w W0:=by rw [←d];exact kAl
 have p0:W0.heap[N]?=some (.cells #[.string r.head.pred,sh,u] 27 (0,0)):=by rw [←d,←q];exact qh _ _
 have z0:W0.heap.size=N+1:=by rw [←d,←q];simp
 have c:=qtx (w:=W0) (t.keep y.mt) wC x;unfold qam at c⊢;obtain⟨⟨ah,R,rfl,-,-,-⟩,⟨ab,z,rfl,-,-,-⟩⟩:=id t;obtain⟨s,X⟩:=ex (qgy r);rw [X]at c⊢;have U:decide (s=⟨#[]⟩)=(s.toList==(⟨#[]⟩:ByteArray).toList):=by rw [yx,zT,←qg6]
 rw [U,show(⟨#[]⟩:ByteArray).toList= []from wD,show(s.toList== [])=s.toList.isEmpty from by cases s.toList<;>rfl];clear U X p0 z0;refine hd5 ?_ t q d y c;clear t q d y c;intro ad l m p g
 go_enter Tryz.func66,Tryz.ntmps66
 go_wp2_with fail;rw [m.o];refine g.o.mono ?_;rintro e W1 ⟨rfl,Y⟩;have kE:Keep (fun b=>b<N) w W1:=p.o.mt.trans (Y.mono fun b _ h=>by have:=p.o.size;have:=l.o;omega);clear Y;refine hd1 ?_ kE;clear kE;intro v;go_wp2_with fail;go_ret;exact⟨by rfl,by rw [l.o];exact v.o⟩
theorem qwq {n:Nat}{r:RuleD}{sh sb:Value}{w:World}(U:RuleIn n w sh sb r)(hn:n<=w.heap.size)(ao:qu2 r)(aw:(qb4 r).length<=1073741824):
  Calls prog 26 #[qam r sh sb] w fun e w'=>e=.returned (.int .i64 (qea r))/\Keep (fun b=>b<w.heap.size) w w':=by
 obtain⟨N,hN⟩:=ex (w.heap.size);obtain⟨⟨ah,aa,rfl,-,-,-⟩,⟨ab,Y,rfl,-,-,-⟩⟩:=id U;obtain⟨W0,d⟩:=ex (w.alloc (.cells #[.string r.head.pred,.slice ah r.head.args.length aa,.slice ab r.body.length Y] 27));have k0:wG w W0:=by rw [←d];exact kAl
 have p0:W0.heap[N]?=some (.cells #[.string r.head.pred,.slice ah r.head.args.length aa,.slice ab r.body.length Y] 27 (0,0)):=by rw [←d,←hN];exact qh _ _
 have z0:W0.heap.size=N+1:=by rw [←d,←hN];simp
 have g:=qtf n r ao _ _ W0 (U.keep k0.mt) wC;have l:=fun W (hK:Keep (fun b=>b<W0.heap.size) W0 W)=>qwp (w:=W) (U.keep (k0.mt.trans (hK.mono fun b _ h=>wC))) (by have:=hK.size;omega) aw;have d0:=qb p0 0 _ rfl;have d1:=qb p0 1 _ rfl;have d2:=qb p0 2 _ rfl;have u:=qe p0;simp only [zD]at d0 d1 d2;unfold qam at g l⊢;have hC:qea r=if qaq r=true then (if qgy r=⟨#[]⟩ then 0 else 14) else 2:=by
  unfold qea;by_cases hf:qaq r=true
  ·rw [zI hf,zI hf];by_cases x:qgy r=⟨#[]⟩
   ·rw [zI x,zI ((qp7 hf).1 x)]
   ·rw [zF x,zF (fun h=>x ((qp7 hf).2 h))]
  ·rw [zF hf,zF hf]
 rw [hC];clear hC ao p0 z0;cases t:qaq r with
 |false=>
  rw [t]at g;rw [zF wE];refine hd7 ?_ U hN d k0 g l t;clear U hN d k0 g l t;intro aj c p s q v X
  go_enter Tryz.func26,Tryz.ntmps26
  go_wp2_with fail;rw [p.o];refine q.o.mono ?_;rintro e W1 ⟨rfl,m⟩;have kE:Keep (fun b=>b<N) w W1:=s.o.mt.trans (m.mono fun b _ h=>by have:=s.o.size;have:=c.o;omega);clear m;refine hd1 ?_ kE;clear kE;intro z;go_wp2_with fail;go_ret;exact⟨rfl,by rw [c.o];exact z.o⟩
 |true=>
  rw [t]at g;rw [zI rfl];by_cases x:qgy r=⟨#[]⟩
  ·simp only [zS x]at l;rw [zI x];refine hd8 ?_ U hN d k0 g l t x;clear U hN d k0 g l t x;intro aj c p s q v X av
   go_enter Tryz.func26,Tryz.ntmps26
   go_wp2_with fail;rw [p.o,c.o];refine q.o.mono ?_;rintro e W1 ⟨rfl,m⟩;have e0:=m.cell d0 u;have e1:=m.cell d1 u;have e2:=m.cell d2 u;have an:N<W1.heap.size:=zk u m.size;have R:=v.o W1 m;have kE:Keep (fun b=>b<N) w W1:=s.o.mt.trans (m.mono fun b _ h=>by have:=s.o.size;have:=c.o;omega);clear m d0 d1 d2;refine hd2 ?_ kE R;clear kE R;intro z y;go_wp2_with fail;refine y.o.mono ?_;rintro e W2 ⟨rfl,k2⟩;have kF:Keep (fun b=>b<N) w W2:=z.o.trans (k2.mono fun b _ h=>wC);clear k2;refine hd1 ?_ kF;clear kF;intro ag;go_wp2_with fail;go_ret;exact⟨rfl,by rw [c.o];exact ag.o⟩
  ·simp only [zM x]at l;rw [zF x];refine hd8 ?_ U hN d k0 g l t x;clear U hN d k0 g l t x;intro aj c p s q v X av
   go_enter Tryz.func26,Tryz.ntmps26
   go_wp2_with fail;rw [p.o,c.o];refine q.o.mono ?_;rintro e W1 ⟨rfl,m⟩;have e0:=m.cell d0 u;have e1:=m.cell d1 u;have e2:=m.cell d2 u;have an:N<W1.heap.size:=zk u m.size;have R:=v.o W1 m;have kE:Keep (fun b=>b<N) w W1:=s.o.mt.trans (m.mono fun b _ h=>by have:=s.o.size;have:=c.o;omega);clear m d0 d1 d2;refine hd2 ?_ kE R;clear kE R;intro z y;go_wp2_with fail;refine y.o.mono ?_;rintro e W2 ⟨rfl,k2⟩;have kF:Keep (fun b=>b<N) w W2:=z.o.trans (k2.mono fun b _ h=>wC);clear k2;refine hd1 ?_ kF;clear kF;intro ag;go_wp2_with fail;go_ret;exact⟨rfl,by rw [c.o];exact ag.o⟩
theorem q08 (a b:List ByteArray):(qgs a b==0)=decide (a=b):=by
 rw [yx,xE,zT];unfold qgs;constructor
 ·intro h;cases c:ltR a b with
  |true=>rw [c,zI rfl] at h;cases h
  |false=>
   cases d:ltR b a with
   |true=>rw [c,zF wE,d,zI rfl] at h;cases h
   |false=>exact qsh c d
 ·rintro rfl;rw [zF (by rw [qic];decide),zF (by rw [qic];decide)]
theorem qmx (n:Nat)(u v:Value)(xs g:List ByteArray)(w:World)(h:qac n w u xs)(l:qac n w v g)(z:n<=w.heap.size):
  Calls prog 61 #[u,v] w fun e w'=>e=.returned (.bool (decide (xs=g)))/\ ∃m,w'=w.drewN m:=by
 have b:=qqm n u v xs g w h l z;obtain⟨R,X,rfl,-,-,-⟩:=id h;obtain⟨U,Y,rfl,-,-,-⟩:=id l;by_cases s:xs.length=g.length
 ·have t:(xs.length:Int)=g.length:=by omega
  rw [←q08];obtain⟨c,x⟩:=ex (qgs xs g);rw [x]at b⊢;clear s x;refine hd3 ?_ h l b;clear h l b;intro q r d
  go_enter Tryz.func61,Tryz.ntmps61
  go_wp2_with fail;refine d.o.mono ?_;rintro e W1 ⟨rfl,y⟩;go_wp2_with fail;go_ret;exact⟨rfl,y⟩
 ·have t: ¬(xs.length:Int)=g.length:=by omega
  have p:decide (xs=g)=false:=zM fun e=>s (by rw [e]);rw [p];clear s p;refine hd3 ?_ h l b;clear h l b;intro q r d
  go_enter Tryz.func61,Tryz.ntmps61
  go_wp2_with fail;go_ret;exact⟨rfl,0,rfl⟩
theorem q8d (f:qk):okF f=(qdq f.pred&&decide (f.tuple.length<=16)&&!(f.tuple.any fun s=>decide (1024<s.size))):=rfl
theorem q4m (f:qk)(hp:f.pred.size<=1073741824)(m:Nat)(v:Value)(w:World)(X:qac m w v f.tuple)(hm:m<=w.heap.size):
  Calls prog 59 #[.agg #[.string f.pred,v]] w fun e w'=>e=.returned (.bool (okF f))/\wG w w':=by
 obtain⟨N,U⟩:=ex (w.heap.size);obtain⟨a,cp,rfl,hl,hc,he⟩:=id X;obtain⟨W0,p⟩:=ex (w.alloc (.cells #[.string f.pred,.slice a f.tuple.length cp] 52));have k0:wG w W0:=by rw [←p];exact kAl
 have z:W0.heap[N]?=some (.cells #[.string f.pred,.slice a f.tuple.length cp] 52 (0,0)):=by rw [←p,←U];exact qh _ _
 have q:=qre f.pred hp W0;have c1:=qb z 1 _ rfl;have l0:=qe z;simp only [zD]at c1;rw [q8d];cases y:qdq f.pred with
 |false=>
  rw [y]at q;rw [y8,y8];refine hd8 ?_ X he U p k0 z q y;clear X he U p k0 z q y;intro af R u g l ag h ad
  go_enter Tryz.func59,Tryz.ntmps59
  go_wp2_with fail;rw [g.o];refine h.o.mono ?_;rintro e w9 ⟨rfl,d⟩;have d:=d.symm;subst d;go_wp2_with fail;go_ret;exact⟨rfl,l.o⟩
 |true=>
  rw [y]at q;rw [yW];rcases y7 16 f.tuple.length with h16 |h16
  ·rw [zM (show ¬f.tuple.length<=16 from wC),y8];have ah:(16:Int)<f.tuple.length:=by omega
   clear h16;refine hd8 ?_ X he U p k0 z q y;clear X he U p k0 z q y;intro af R u g l ag h ad
   go_enter Tryz.func59,Tryz.ntmps59
   go_wp2_with fail;rw [g.o,u.o];refine h.o.mono ?_;rintro e w9 ⟨rfl,d⟩;have d:=d.symm;subst d;go_wp2_with fail;go_ret;exact⟨rfl,l.o⟩
  ·rw [zS h16,yW];have ah: ¬(16:Int)<f.tuple.length:=by omega
   refine hd8 ?_ X he U p k0 z q y;clear X he U p k0 z q y;intro af R u g l ag h ad
   go_enter Tryz.func59,Tryz.ntmps59
   go_wp2_with fail;rw [g.o,u.o];refine h.o.mono ?_;rintro e w9 ⟨rfl,d⟩;have d:=d.symm;subst d;go_wp2_with fail
   go_loopw [3] (fun ix wr=> ∃k:Nat,k<=f.tuple.length/\ix=.int .i64 (k:Int)/\wr=W0/\((f.tuple.take k).any fun s=>decide (1024<s.size))=false) (fun i _=>f.tuple.length-(intOf i).toNat)
   case atStart=>exact⟨0,wC,rfl,rfl,rfl⟩
   case round=>
    obtain⟨k,hk,rfl,Y,c⟩:=hrel;have Y:=Y.symm;subst Y;have aw:(0:Int)<=k:=wC
    by_cases ai:k<f.tuple.length
    ·have ap:(k:Int)<f.tuple.length:=by omega
     obtain⟨s,hs⟩: ∃s,f.tuple[k]?=some s:=⟨_,zB ai⟩;obtain⟨b,o,rfl,au,hx⟩:=R.o k s hs;have hx:w.cell? ⟨b,o+k*1,none⟩=some (.string s):=hx;have q0:=l.o.cell hx trivial;have av:b<W0.heap.size:=by have:=l.o.size;omega
     simp only [yB]at q0;have x:((f.tuple.take (k+1)).any fun s=>decide (1024<s.size))=decide (1024<s.size):=by
      rw [zh,hs,any_append,c,xJ];simp
     by_cases t:1024<s.size
     ·have am:(1024:Int)<s.size:=by omega
      have hE:(f.tuple.any fun s=>decide (1024<s.size))=true:=any_eq_true.2 ⟨s,zH hs,zS t⟩;clear t x hs hx;refine hd2 ?_ c hE;clear c hE;intro r al;go_wp2_with fail;go_ret;exact⟨by rw [al.o];rfl,l.o⟩
     ·have am: ¬(1024:Int)<s.size:=by omega
      rw [zM t]at x;clear t hs hx;refine hd2 ?_ c x;clear c x;intro r ae;go_wp2_with fail;go_roundw
      case rel=>exact⟨k+1,wC,by go_num,by trivial,ae.o⟩
      case measure=>simp [intOf];omega
    ·obtain rfl:k=f.tuple.length:=by omega
     rw [zi]at c;clear ai;refine hd1 ?_ c;clear c;intro r;go_wp2_with fail;go_ret;exact⟨by rw [r.o];rfl,l.o⟩
def RSt (w:World)(s:Option Nat)(c:List qk):Prop:=match s with
 |none=>c= []
 |some S=> ∃v,w.heap[S]?=some (.cells #[v] 98 (0,0))/\FactsIn w.heap.size w v c
theorem FactsIn.wider {n d:Nat}{w:World}{v:Value}{fs:List qk}(h:FactsIn n w v fs)(c:n<=d):FactsIn d w v fs:=
 SliceIn.wider h c fun b o f _ l=>by
  obtain⟨m,e,g⟩:=l;exact⟨m,e,qb2 g c⟩
theorem RSt.keep {w w':World}{s:Option Nat}{c:List qk}(h:RSt w s c)(hK:Keep (fun b=>b<w.heap.size) w w'):RSt w' s c:=by
 cases s with
 |none=>exact h
 |some S=>
  obtain⟨v,d,e⟩:=h;exact⟨v,hK.heap d (qe d),(e.keep hK).wider hK.size⟩
theorem q6u {x f:qk}:x=f↔x.pred=f.pred/\x.tuple=f.tuple:=by
 obtain⟨p,t⟩:=x;obtain⟨q,u⟩:=f;simp
theorem qty {w:World}{s:Option Nat}{c:List qk}(h:RSt w s c)(f:qk)(m:Nat)(v:Value)(ht:qac m w v f.tuple)(hm:m<=w.heap.size):
  Calls prog 60 #[.pointer (s.map fun S=>⟨S,0,none⟩),.agg #[.string f.pred,v]] w fun e w'=>e=.returned (.bool (decide (f∈c)))/\wG w w':=by
 obtain⟨N,hN⟩:=ex (w.heap.size);obtain⟨a,cp,rfl,hl,aN,he⟩:=id ht;obtain⟨W0,t⟩:=ex (w.alloc (.cells #[.string f.pred,.slice a f.tuple.length cp] 52));have k0:wG w W0:=by rw [←t];exact kAl
 have p0:W0.heap[N]?=some (.cells #[.string f.pred,.slice a f.tuple.length cp] 52 (0,0)):=by rw [←t,←hN];exact qh _ _
 cases s with
 |none=>
  have hc:c= []:=h;subst hc;rw [zM (show f∉([]:List qk) from wE)];simp only [Option.map_none];refine hd7 ?_ h ht he hN t k0 p0;clear h ht he hN t k0 p0;intro Xh aj aw R U ab ad
  go_enter Tryz.func60,Tryz.ntmps60
  go_wp2_with fail;rw [U.o]
  go_loopw [5] (fun ix wr=>ix=.int .i64 0/\wr=W0) (fun _ _=>0)
  case atStart=>exact⟨rfl,rfl⟩
  case round=>
   obtain⟨rfl,aB⟩:=hrel;subst aB;go_wp2_with fail;go_ret;exact⟨rfl,ab.o⟩
 |some S=>
  obtain⟨vl,hS,hF⟩:=h;simp only [Option.map_some];obtain⟨al,cl,rfl,aQ,aO,an⟩:=id hF;have aK:=qe hS;refine hd9 ?_ ht he hN t k0 p0 hS hF an;clear ht he hN t k0 p0 hS hF an;intro aj aw R U ab ad av aE ai
  go_enter Tryz.func60,Tryz.ntmps60
  go_wp2_with fail;rw [U.o,R.o]
  go_loopw [5] (fun ix wr=> ∃k:Nat,k<=c.length/\ix=.int .i64 (k:Int)/\wG W0 wr/\f∉c.take k) (fun i _=>c.length-(intOf i).toNat)
  case atStart=>exact⟨0,wC,rfl,Keep.refl _ _,wE⟩
  case round=>
   obtain⟨k,hk,rfl,hK,g⟩:=hrel;have aP:(0:Int)<=k:=wC
   have aR:=hK.size;have aS:=ab.o.size;have y:=ab.o.trans hK;have e0:=qb (y.heap av.o wH) 0 _ rfl;have f0:=qb (hK.heap ad.o wH) 0 _ rfl;have f1:=qb (hK.heap ad.o wH) 1 _ rfl;have lN:=qe (hK.heap ad.o wH);have lS:S<wr.heap.size:=wC
   simp only [zD]at e0 f0 f1;by_cases ao:k<c.length
   ·have aD:(k:Int)<c.length:=by omega
    obtain⟨x,hx⟩: ∃x,c[k]?=some x:=⟨_,zB ao⟩;obtain⟨b,o,rfl,hb,sv,p,aa⟩:=ai.o k x hx;have q0:=y.cell (p 0 _ rfl) trivial;have q1:=y.cell (p 1 _ rfl) trivial;have aL:b<wr.heap.size:=wC
    simp only [Nat.add_zero]at q0;have d:=fun j:Nat=>qmx N sv (.slice a f.tuple.length cp) x.tuple f.tuple (wr.drewN j) (qb2 (qan aa ((y.trans (Keep.drewN' _ _ _)).mt)) (by have:=R.o;omega)) (qb2 (qan aj.o ((y.trans (Keep.drewN' _ _ _)).mt)) (by have:=R.o;omega)) (by have:=R.o;have:=(Keep.drewN' (fun _=>True) wr j).size;omega);obtain⟨aF,aG,rfl,-,-,-⟩:=id aa;have Y:c.take (k+1)=c.take k++ [x]:=by rw [zh,hx];rfl
    by_cases hp:x.pred=f.pred
    ·have aA:=qdv hp;by_cases u:x.tuple=f.tuple
     ·simp only [zS u]at d;have hE:decide (f∈c)=true:=zS (by rw [←q6u.2 ⟨hp,u⟩];exact zH hx);clear hp u Y p aa hx;refine hd5 ?_ hK g hE d y;clear hK g hE d y;intro z ae af l X;go_wp2_with fail
      go_quiet ((go_at_call 61;exact Calls.quiet_of (l.o _)))
      go_wp2_with fail;go_ret;exact⟨by rw [af.o];rfl,X.o.trans (Keep.drewN' _ _ _)⟩
     ·simp only [zM u]at d;have q:f∉c.take (k+1):=by
       rw [Y];intro h;rcases zr.1 h with h |h
       ·exact g h
       ·exact u (by rw [zm.1 h])
      clear hp u Y p aa hx;refine hd5 ?_ hK g q d y;clear hK g q d y;intro z ae r l X;go_wp2_with fail
      go_quiet ((go_at_call 61;exact Calls.quiet_of (l.o _)))
      go_wp2_with fail;go_roundw
      case rel=>exact⟨k+1,wC,by go_num,z.o.trans (Keep.drewN' _ _ _),r.o⟩
      case measure=>simp [intOf];omega
    ·have aA:=qc1 hp;have q:f∉c.take (k+1):=by
      rw [Y];intro h;rcases zr.1 h with h |h
      ·exact g h
      ·exact hp (by rw [zm.1 h])
     clear hp Y p aa hx d;refine hd4 ?_ hK g q y;clear hK g q y;intro z ae r X;go_wp2_with fail
     go_quiet (fail)
     go_wp2_with fail;go_roundw
     case rel=>exact⟨k+1,wC,by go_num,z.o.trans (Keep.drewN' _ _ _),r.o⟩
     case measure=>simp [intOf];omega
   ·obtain rfl:k=c.length:=by omega
    rw [zi]at g;have hE:=zM g;clear ao g;refine hd3 ?_ hK hE y;clear hK hE y;intro z af X;go_wp2_with fail;go_ret;exact⟨by rw [af.o];rfl,X.o⟩
end Go.Proofs
