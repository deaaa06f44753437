/- Parts of the proof. -/
import Derived.Test.YtnponcjnahicnaaGreatDoorDlBToDlC
import Derived.Test.YtnponcjnahicnaaGreatDoorRows
import Derived.ProofKit
import Derived.OpenShut
import Derived.Shelf.Strconv.Itoa3
import Derived.Lib.AppendIntMem
import Derived.Lib.ItoaLen
set_option linter.unusedSimpArgs false
set_option linter.unusedVariables false
set_option maxRecDepth 100000
set_option maxHeartbeats 4000000
open Go.Proofs.Tryz(prog)
open List(filter_map find?_cons find?_some map_map mem_append_right)
namespace Go.Proofs
open Go.RowKit Go.Ink Go.Flt R4 P16
attribute [local go_sem] Oper.semAt_some
def qef (r:RuleD)(t:TermD):Bool:=t.var&&!decide (t.text∈qgv (qa3 r.body))
def qf3 (r:RuleD):ByteArray:=match (qca r).find? (qef r) with
 |some t=>t.text
 |none=>⟨#[]⟩
theorem qr3 {n:Nat}{r:RuleD}{sh sb:Value}{w:World}(hr:RuleIn n w sh sb r)(hn:n<=w.heap.size)(aA:(qca r).length<=1073741824):
  Calls prog 117 #[qaz r sh sb] w fun e w'=>e=.returned (.string (qf3 r))/\Keep (fun b=>b<w.heap.size) w w':=by
 obtain⟨N,hN⟩:=ex (w.heap.size);obtain⟨⟨ah,p,rfl,bh,bf,aw⟩,⟨ab,m,rfl,bg,bc,au⟩⟩:=id hr;obtain⟨W0,al⟩:=ex (w.alloc (.cells #[.string r.head.pred,.slice ah r.head.args.length p,.slice ab r.body.length m] 27));have k0:wD w W0:=by rw [←al];exact kAl
 have p0:W0.heap[N]?=some (.cells #[.string r.head.pred,.slice ah r.head.args.length p,.slice ab r.body.length m] 27 (0,0)):=by rw [←al,←hN];exact qh _ _
 have z0:W0.heap.size=N+1:=by rw [←al,←hN];simp
 have g:=qmm (w:=W0) (hr.keep k0.mt) xz aA;have d0:=qb p0 0 _ rfl;have d1:=qb p0 1 _ rfl;have d2:=qb p0 2 _ rfl;have aR:=qe p0;simp only [zD]at d0 d1 d2;unfold qaz at g⊢;obtain⟨ts,aT⟩:=ex (qca r);have aU:qf3 r=match ts.find? (qef r) with |some t=>t.text |none=>⟨#[]⟩:=by unfold qf3;rw [aT]
 rw [aT]at g aA;refine hd9 ?_ hr hN al k0 p0 g aU aw au;clear hr hN al k0 p0 g aU aw au;intro a3 aa aM a4 a7 an aq a2 a1
 go_enter Tryz.func117,Tryz.ntmps117
 go_wp2_with fail;rw [aM.o];refine an.o.mono ?_;rintro e W1 ⟨v,rfl,k1,hO⟩;have z1:=k1.size;have hA:=qe6 hO rfl aA;obtain⟨av,cv,rfl,-,bL,aD⟩:=id hA;obtain⟨M,hM⟩:=ex (W1.heap.size);have bI:N+1<=M:=xz
 rw [hM]at aD;rw [aa.o];have p1:=k1.heap a7.o aR;clear hO hA d0 d1 d2 aR;refine hd4 ?_ k1 aD hM p1;clear k1 aD hM p1;intro a5 aN Y a8;go_wp2_with fail
 go_loopw [4] (fun ix wr=> ∃(k:Nat),k<=ts.length/\ix=.int .i64 (k:Int)/\Keep (fun b=>b<M) W1 wr/\ts.find? (qef r)=(ts.drop k).find? (qef r)) (fun i _=>ts.length-(intOf i).toNat)
 case atStart=>exact⟨0,xz,rfl,Keep.refl _ _,rfl⟩
 case round=>
  obtain⟨j,hj,rfl,x,c⟩:=hrel;have br:=x.size;have bM:(0:Int)<=j:=xz
  have kE:Keep (fun b=>b<N) w wr:=a4.o.mt.trans ((a5.o.mono fun b _ h=>xz).trans (x.mono fun b _ h=>xz));by_cases aS:j<ts.length
  ·have bq:(j:Int)<ts.length:=by omega
   obtain⟨u,hu⟩: ∃u,ts[j]?=some u:=⟨_,zB aS⟩;obtain⟨bt,ot,rfl,bK,aE,aF⟩:=aN.o j u hu;have q0:=x.cell aE (show bt<M from xz);have q1:=x.cell aF (show bt<M from xz);have ar:bt<wr.heap.size:=by have:=Y.o;omega
   have aC:ts.drop j=u::ts.drop (j+1):=by
    obtain⟨h1,e1⟩:=zA.1 hu;rw [zr h1,e1]
   rw [aC,find?_cons]at c;cases R:u.var with
   |false=>
    rw [R]at q0;have am:qef r u=false:=by unfold qef;rw [R];rfl
    rw [am]at c;clear aE aF hu R aC am;refine hd3 ?_ x c kE;clear x c kE;intro U d ai;go_wp2_with fail
    go_quiet (fail)
    go_wp2_with fail;go_roundw
    case rel=>exact⟨j+1,xz,by go_num,U.o.trans (Keep.drewN' _ _ _),d.o⟩
    case measure=>simp [intOf];omega
   |true=>
    rw [R]at q0;obtain⟨bb,aB⟩:=ex (decide (u.text∈qgv (qa3 r.body)));have am:qef r u=!bb:=by unfold qef;rw [R,aB];rfl
    rw [am]at c;have pN:=x.heap a8.o (show N<M from xz);have hS: ∀X,Keep (fun b=>b<wr.heap.size) wr X->X.cell? ⟨N,0,none⟩=some (.string r.head.pred)/\X.cell? ⟨N,1,none⟩=some (.slice ah r.head.args.length p)/\X.cell? ⟨N,2,none⟩=some (.slice ab r.body.length m)/\X.cell? ⟨bt,ot+j*2,none⟩=some (.bool true)/\X.cell? ⟨bt,ot+j*2+1,none⟩=some (.string u.text):=fun X hX=>by
     have q:=hX.heap pN (by have:=Y.o;omega);have x0:=qb q 0 _ rfl;have x1:=qb q 1 _ rfl;have x2:=qb q 2 _ rfl;simp only [zD]at x0 x1 x2;exact⟨x0,x1,x2,hX.cell q0 ar,hX.cell q1 ar⟩
    obtain⟨We,y⟩:=ex (wr.drew);have ke:wD wr We:=by rw [←y];exact kDr
    have ze:We.heap.size=wr.heap.size:=by rw [←y];rfl
    have bJ:N<We.heap.size:=by have:=Y.o;omega
    have bp:bt<We.heap.size:=xz
    have ao:=hS We ke.mt;have z:=qwf (w:=We) (a3.o.keep ((kE.mono fun b _ h=>by have:=aa.o;omega).trans ke.mt)) (by have:=aa.o;omega) u.text;unfold qaz at z;rw [aB]at z;clear aE aF hu R aC am aB pN;cases bb with
    |true=>
     refine hd9 ?_ x c kE hS y ke ze ao z;clear x c kE hS y ke ze ao z;intro U d ai ax ae ay az ad af;go_wp2_with fail;refine qba rfl (fun X=>X.cell? ⟨N,0,none⟩=some (.string r.head.pred)/\X.cell? ⟨N,1,none⟩=some (.slice ah r.head.args.length p)/\X.cell? ⟨N,2,none⟩=some (.slice ab r.body.length m)/\X.cell? ⟨bt,ot+j*2,none⟩=some (.bool true)/\X.cell? ⟨bt,ot+j*2+1,none⟩=some (.string u.text)) [] ?_;rw [ae.o];refine qab [0,1,2,3,4,5,6,7,8,9,10,11] ?_
     iterate 12
      refine tkA rfl ad.o ?_
      try simp only [qac]
     refine qk ?_;refine ho 12 rfl fun K l=>?_;go_wp2_with fail;refine af.o.mono ?_;rintro e W5 ⟨rfl,k5⟩;have s:Keep (fun b=>b<wr.heap.size) wr W5:=ay.o.mt.trans (k5.mono fun b _ h=>by have:=az.o;omega);have ak:=ax.o W5 s;refine hd3 ?_ k5 s ak;clear k5 s ak;intro a6 ag f;go_wp2_with fail;refine l.o _ _ (fun _=>f.o) ?_;refine qab [13,14] ?_
     iterate 2
      refine tkA rfl f.o ?_
      try simp only [qac]
     refine qk ?_;refine qbq wA ?_;clear l;go_wp2_with fail;go_roundw
     case rel=>exact⟨j+1,xz,by go_num,U.o.trans (ag.o.mono fun b _ h=>by have:=Y.o;omega),d.o⟩
     case measure=>simp [intOf];omega
    |false=>
     refine hd9 ?_ x c kE hS y ke ze ao z;clear x c kE hS y ke ze ao z;intro U d ai ax ae ay az ad af;go_wp2_with fail;refine qba rfl (fun X=>X.cell? ⟨N,0,none⟩=some (.string r.head.pred)/\X.cell? ⟨N,1,none⟩=some (.slice ah r.head.args.length p)/\X.cell? ⟨N,2,none⟩=some (.slice ab r.body.length m)/\X.cell? ⟨bt,ot+j*2,none⟩=some (.bool true)/\X.cell? ⟨bt,ot+j*2+1,none⟩=some (.string u.text)) [] ?_;rw [ae.o];refine qab [0,1,2,3,4,5,6,7,8,9,10,11] ?_
     iterate 12
      refine tkA rfl ad.o ?_
      try simp only [qac]
     refine qk ?_;refine ho 12 rfl fun K l=>?_;go_wp2_with fail;refine af.o.mono ?_;rintro e W5 ⟨rfl,k5⟩;have s:Keep (fun b=>b<wr.heap.size) wr W5:=ay.o.mt.trans (k5.mono fun b _ h=>by have:=az.o;omega);have ak:=ax.o W5 s;have bo:bt<W5.heap.size:=by have:=s.size;omega
     refine hd3 ?_ k5 s ak;clear k5 s ak;intro a6 ag f;go_wp2_with fail;refine l.o _ _ (fun _=>f.o) ?_;refine qab [13,14] ?_
     iterate 2
      refine tkA rfl f.o ?_
      try simp only [qac]
     refine qk ?_;refine qbq wA ?_;clear l q0 q1;obtain⟨y1,y2,y3,y4,y5⟩:=f.o;go_wp2_with fail;go_ret;exact⟨by rw [aq.o,d.o];rfl,by rw [aa.o];exact ai.o.trans (ag.o.mono fun b _ h=>by have:=Y.o;omega)⟩
  ·obtain rfl:j=ts.length:=by omega
   rw [xo]at c;clear aS;refine hd3 ?_ x c kE;clear x c kE;intro U d ai;go_wp2_with fail;go_ret;exact⟨by rw [aq.o,d.o];rfl,by rw [aa.o];exact ai.o⟩
theorem qno {L:LitD}(h:qb3 L=true):L.uses=qar (ql L):=by
 unfold qb3 at h;unfold LitD.uses LitD.terms ql qar;split at h
 ·rename_i hk;rw [zI hk,zF xz]
 ·split at h
  ·rename_i h1 h2;rw [zF h1,zI h2,zI h2]
  ·cases h
theorem qm5 {r:RuleD}(d:qak r=true):r.names=qar (qca r):=by
 have c:=(qbr d).2.2;rw [qnn];unfold qca qar;rw [yS,zm]
 congr 1
 have: ∀ls:List LitD,(∀L,L∈ls->qb3 L=true)->ls.flatMap LitD.uses=((ls.flatMap ql).filter (·.var)).map (·.text):=by
  intro ls
  induction ls with
  |nil=>intro _;rfl
  |cons L ls ih=>
   intro h;rw [yE,yE,yS,zm,ih fun M b=>h M (yC _ b),qno (h L (yI ..))]
   rfl
 exact this _ c
theorem qoj {r:RuleD}(g:qak r=true):(qf3 r=⟨#[]⟩)↔S12.looseOf r=none:=by
 have hT: ∀t,t∈qca r->qa4 t=true:=fun t b=>by
  unfold qca at b;rcases zn.1 b with h |h
  ·exact(qfl (qbr g).2.1).2.2 t h
  ·obtain⟨L,d,h⟩:=xC.1 h;exact(qlu ((qbr g).2.2 L d)).2 t h
 have k:qf3 r=⟨#[]⟩↔ ∀t,t∈qca r->qef r t=false:=by
  unfold qf3;constructor
  ·intro h t b;cases e:(qca r).find? (qef r) with
   |none=>simpa using ym.1 e t b
   |some u=>
    rw [e]at h;have i:=find?_some e;have c:=hT u (xa e);unfold qef at i;rw [zV]at i;unfold qa4 at c;rw [zI i.1,show u.text=⟨#[]⟩ from h]at c;exact absurd c wC
  ·intro h;cases e:(qca r).find? (qef r) with
   |none=>rfl
   |some u=>exact absurd (find?_some e) (by rw [h u (xa e)];decide)
 rw [k];unfold S12.looseOf;rw [ym,qm5 g];have f: ∀x,x∈qb0 r.body↔x∈qgv (qa3 r.body):=fun x=>by
  rw [qqm,←q5o,qvq];constructor
  ·rintro⟨L,d,hk,c⟩;rw [qno ((qbr g).2.2 L d)]at c;unfold ql at c;rw [zF xz]at c;exact⟨L,d,hk,c⟩
  ·rintro⟨L,d,hk,c⟩;refine⟨L,d,hk,?_⟩;rw [qno ((qbr g).2.2 L d)];unfold ql;rw [zF xz];exact c
 unfold qar;constructor
 ·intro h x l;obtain⟨t,b,rfl⟩:=yK.1 l;obtain⟨b,j⟩:=yU.1 b;have:=h t b;unfold qef at this;rw [j,yT]at this;simp only [f,zT]
  simpa using this
 ·intro h t b;unfold qef;cases j:t.var with
  |false=>rfl
  |true=>
   have:=h t.text (yK.2 ⟨t,yU.2 ⟨b,j⟩,rfl⟩);simp only [f,zT]at this
   simpa using this
theorem quf {n:Nat}{r:RuleD}{sh m:Value}{w:World}(l:RuleIn n w sh m r)(hn:n<=w.heap.size)(q:(qca r).length<=1073741824):
  Calls prog 63 #[qaz r sh m] w fun e w'=>e=.returned (.bool (decide (qf3 r=⟨#[]⟩)))/\Keep (fun b=>b<w.heap.size) w w':=by
 obtain⟨N,k⟩:=ex (w.heap.size);obtain⟨W0,d⟩:=ex (w.alloc (.cells #[.string r.head.pred,sh,m] 27));have t:wD w W0:=by rw [←d];exact kAl
 have X:W0.heap[N]?=some (.cells #[.string r.head.pred,sh,m] 27 (0,0)):=by rw [←d,←k];exact qh _ _
 have z0:W0.heap.size=N+1:=by rw [←d,←k];simp
 have c:=qr3 (w:=W0) (l.keep t.mt) xz q;unfold qaz at c⊢;obtain⟨⟨ah,v,rfl,-,-,-⟩,⟨Y,u,rfl,-,-,-⟩⟩:=id l;obtain⟨s,y⟩:=ex (qf3 r);rw [y]at c⊢;have x:decide (s=⟨#[]⟩)=(s.toList==(⟨#[]⟩:ByteArray).toList):=by rw [yt,zT,←qf8]
 rw [x,show(⟨#[]⟩:ByteArray).toList= []from wA,show(s.toList== [])=s.toList.isEmpty from by cases s.toList<;>rfl];clear x y X z0;refine hd5 ?_ l k d t c;clear l k d t c;intro U g i j f
 go_enter Tryz.func63,Tryz.ntmps63
 go_wp2_with fail;rw [i.o];refine f.o.mono ?_;rintro e W1 ⟨rfl,z⟩;have R:Keep (fun b=>b<N) w W1:=j.o.mt.trans (z.mono fun b _ h=>by have:=j.o.size;have:=g.o;omega);clear z;refine hd1 ?_ R;clear R;intro p;go_wp2_with fail;go_ret;exact⟨by rfl,by rw [g.o];exact p.o⟩
theorem qug {n:Nat}{r:RuleD}{sh sb:Value}{w:World}(x:RuleIn n w sh sb r)(hn:n<=w.heap.size)(ak:qs0 r)(aq:(qca r).length<=1073741824):
  Calls prog 11 #[qaz r sh sb] w fun e w'=>e=.returned (.int .i64 (qcy r))/\Keep (fun b=>b<w.heap.size) w w':=by
 obtain⟨N,U⟩:=ex (w.heap.size);obtain⟨⟨ah,R,rfl,-,-,-⟩,⟨ab,z,rfl,-,-,-⟩⟩:=id x;obtain⟨W0,d⟩:=ex (w.alloc (.cells #[.string r.head.pred,.slice ah r.head.args.length R,.slice ab r.body.length z] 27));have X:wD w W0:=by rw [←d];exact kAl
 have p0:W0.heap[N]?=some (.cells #[.string r.head.pred,.slice ah r.head.args.length R,.slice ab r.body.length z] 27 (0,0)):=by rw [←d,←U];exact qh _ _
 have z0:W0.heap.size=N+1:=by rw [←d,←U];simp
 have f:=qrb n r ak _ _ W0 (x.keep X.mt) xz;have g:=fun W (hK:Keep (fun b=>b<W0.heap.size) W0 W)=>quf (w:=W) (x.keep (X.mt.trans (hK.mono fun b _ h=>xz))) (by have:=hK.size;omega) aq;have d0:=qb p0 0 _ rfl;have d1:=qb p0 1 _ rfl;have d2:=qb p0 2 _ rfl;have p:=qe p0;simp only [zD]at d0 d1 d2;unfold qaz at f g⊢;have hC:qcy r=if qak r=true then (if qf3 r=⟨#[]⟩ then 0 else 14) else 2:=by
  unfold qcy;by_cases hf:qak r=true
  ·rw [zI hf,zI hf];by_cases s:qf3 r=⟨#[]⟩
   ·rw [zI s,zI ((qoj hf).1 s)]
   ·rw [zF s,zF (fun h=>s ((qoj hf).2 h))]
  ·rw [zF hf,zF hf]
 rw [hC];clear hC ak p0 z0;cases m:qak r with
 |false=>
  rw [m]at f;rw [zF wB];refine hd7 ?_ x U d X f g m;clear x U d X f g m;intro ae c j l k q y
  go_enter Tryz.func11,Tryz.ntmps11
  go_wp2_with fail;rw [j.o];refine k.o.mono ?_;rintro e W1 ⟨rfl,i⟩;have Y:Keep (fun b=>b<N) w W1:=l.o.mt.trans (i.mono fun b _ h=>by have:=l.o.size;have:=c.o;omega);clear i;refine hd1 ?_ Y;clear Y;intro u;go_wp2_with fail;go_ret;exact⟨rfl,by rw [c.o];exact u.o⟩
 |true=>
  rw [m]at f;rw [zI rfl];by_cases s:qf3 r=⟨#[]⟩
  ·simp only [zS s]at g;rw [zI s];refine hd8 ?_ x U d X f g m s;clear x U d X f g m s;intro ae c j l k q y ap
   go_enter Tryz.func11,Tryz.ntmps11
   go_wp2_with fail;rw [j.o,c.o];refine k.o.mono ?_;rintro e W1 ⟨rfl,i⟩;have e0:=i.cell d0 p;have e1:=i.cell d1 p;have e2:=i.cell d2 p;have aj:N<W1.heap.size:=zk p i.size;have v:=q.o W1 i;have Y:Keep (fun b=>b<N) w W1:=l.o.mt.trans (i.mono fun b _ h=>by have:=l.o.size;have:=c.o;omega);clear i d0 d1 d2;refine hd2 ?_ Y v;clear Y v;intro u t;go_wp2_with fail;refine t.o.mono ?_;rintro e W2 ⟨rfl,k2⟩;have kF:Keep (fun b=>b<N) w W2:=u.o.trans (k2.mono fun b _ h=>xz);clear k2;refine hd1 ?_ kF;clear kF;intro aa;go_wp2_with fail;go_ret;exact⟨rfl,by rw [c.o];exact aa.o⟩
  ·simp only [zM s]at g;rw [zF s];refine hd8 ?_ x U d X f g m s;clear x U d X f g m s;intro ae c j l k q y ap
   go_enter Tryz.func11,Tryz.ntmps11
   go_wp2_with fail;rw [j.o,c.o];refine k.o.mono ?_;rintro e W1 ⟨rfl,i⟩;have e0:=i.cell d0 p;have e1:=i.cell d1 p;have e2:=i.cell d2 p;have aj:N<W1.heap.size:=zk p i.size;have v:=q.o W1 i;have Y:Keep (fun b=>b<N) w W1:=l.o.mt.trans (i.mono fun b _ h=>by have:=l.o.size;have:=c.o;omega);clear i d0 d1 d2;refine hd2 ?_ Y v;clear Y v;intro u t;go_wp2_with fail;refine t.o.mono ?_;rintro e W2 ⟨rfl,k2⟩;have kF:Keep (fun b=>b<N) w W2:=u.o.trans (k2.mono fun b _ h=>xz);clear k2;refine hd1 ?_ kF;clear kF;intro aa;go_wp2_with fail;go_ret;exact⟨rfl,by rw [c.o];exact aa.o⟩
theorem FactsIn.wider {n d:Nat}{w:World}{v:Value}{fs:List qy}(h:FactsIn n w v fs)(c:n<=d):FactsIn d w v fs:=
 SliceIn.wider h c fun b o f _ i=>by
  obtain⟨j,e,g⟩:=i;exact⟨j,e,qgi g c⟩
end Go.Proofs
namespace Go.Proofs
open Go.RowKit Go.Ink Go.Flt R4 P16
theorem q4z (body:List LitD):qa3 body=(qcn body).map fun i=>(body.getD i default).atom:=by
 have b:body=(List.range body.length).map (fun i=>body.getD i default):=by
  refine xW fun i=>?_;rw [zP];by_cases h:i<body.length
  ·rw [xr h,zB h];simp [zJ,zB h]
  ·rw [xA xz,xA (by simp;omega)];rfl
 unfold qa3
 conv=>lhs;rw [b]
 rw [filter_map,map_map]
 rfl
theorem q3k {r:RuleD}(b:qak r=true):qm1 r=qm r:=by
 unfold qm1 qm;rw [qm5 b]
 rfl
end Go.Proofs
namespace Go.Proofs
open Go.RowKit Go.ChangeShapes Go.WideShapes
theorem qr4 {H:Type}{enc:TypeId×Value->H}{P:Program}(g:laidOutB P=true){W e:World}(f:Below W.heap.size W e){i:Nat->Bool}:
  ∀{ts:List TypeId} {vs:List Value} {ds:List (DataW H)} {p:List MemPlace},(∀t,t∈ts->P.readableRec t=true/\t<P.types.size)->
   DataW.TrodAll enc P W 0 (fun _=>true) true ts vs ds p->(∀x,x∈p->x.block<W.heap.size)->(∀x,x∈p->i x.block=true)->DataW.TrodAll enc P e 0 i true ts vs ds p
 | [],_,_,_,_,h,_,_=>by
  obtain⟨rfl,rfl,rfl⟩:=trodAll_nil h;exact trodAll_mk0
 |t::ts,_,_,_,hr,h,h1,h2=>by
  obtain⟨v,q,d,j,a,b,rfl,rfl,rfl,l,m⟩:=trodAll_cons h;exact trodAll_cons_mk (WideElems.Trod_stays g (hr t yI).1 (hr t yI).2 l (fun x c=>f.same (h1 x (xd _ c))) (fun x c=>h2 x (xd _ c)))
   (qr4 g f (fun u k=>hr u (yC _ k)) m (fun x c=>h1 x (mem_append_right _ c)) (fun x c=>h2 x (mem_append_right _ c)))
theorem qwg {H:Type}{enc:TypeId×Value->H}{P:Program}{f:Func}{s:ChangeSpec}{apart fresh c:Bool}{W l:World}{args:Array Value}{v:Value}{g k:List (DataW H)}{d:List MemPlace}
  (m:DataW.Whole enc P f.params.toList s.vars apart W args.toList g k d) (U:s.vars= []) (u:(s.fn H (g++k)).vars= [])
  (j: ∀b,DataW.TrodAll enc P l b (fun _=>false) c f.resultTypes.toList (v.resultList f.resultTypes.size) (s.fn H (g++k)).results [])
  (e:(s.fn H (g++k)).args=g) (Y:laidOutB P=true) (hr: ∀t,t∈f.params.toList->P.readableRec t=true/\t<P.types.size) (R:Below W.heap.size W l):
  s.post enc P f apart fresh c false W args v l:=by
 have i:=m.lt;have r:=m;obtain⟨p,q,X,z,rfl,_,_⟩:=m;rw [U]at z;obtain⟨rfl,rfl⟩:=trodVars_none z;refine⟨g,[],_,[],p,[],r,j _,?_,?_,R.frame _,fun h=>by cases h⟩
 ·rw [e];exact qr4 Y R hr X (fun x y=>i x (by simpa using y)) (fun x y=>by simpa using i x (by simpa using y))
 ·rw [U,u];rfl
end Go.Proofs
namespace Go.Proofs
open Go.Shelf Go.Sort Go.RowKit Go.Ink
attribute [local go_sem] Oper.semAt_some
def Tryz.laysM171_ren:Go.Shelf.Ren:=⟨fun |171=>172 |243=>222 |246=>248 |283=>261 |284=>262 |285=>263 |286=>264 |129=>191 |317=>268 |318=>269 |319=>270 |320=>271 |337=>274 |338=>275 |n=>n,fun |3=>3 |9=>9 |2=>2 |4=>4 |171=>328 |0=>0 |53=>284 |37=>330 |5=>5 |173=>331 |212=>335 |51=>106 |20=>20 |213=>336 |46=>230 |232=>337 |233=>338 |n=>n,fun |17=>0 |18=>1 |19=>2 |n=>n⟩
theorem Tryz.laysM171:Go.Proofs.LaysM.n171 prog Tryz.laysM171_ren:={mixed:=wA,f129:=Tryz.func191.trans (yM some wA),f171:=Tryz.func172.trans (yM some wA),f243:=Tryz.func222.trans (yM some wA),f246:=Tryz.func248.trans (yM some wA),f283:=Tryz.func261.trans (yM some wA),f284:=Tryz.func262.trans (yM some wA),f285:=Tryz.func263.trans (yM some wA),f286:=Tryz.func264.trans (yM some wA),f317:=Tryz.func268.trans (yM some wA),f318:=Tryz.func269.trans (yM some wA),f319:=Tryz.func270.trans (yM some wA),f320:=Tryz.func271.trans (yM some wA),f337:=Tryz.func274.trans (yM some wA),f338:=Tryz.func275.trans (yM some wA),t0:=Tryz.underlying0,a0:=Tryz.isAgg0,z0:=Tryz.sizeOf0,v0:=Tryz.zeroValue0,t2:=Tryz.underlying2,a2:=Tryz.isAgg2,z2:=Tryz.sizeOf2,v2:=Tryz.zeroValue2,t3:=Tryz.underlying3,a3:=Tryz.isAgg3,z3:=Tryz.sizeOf3,v3:=Tryz.zeroValue3,t4:=Tryz.underlying4,a4:=Tryz.isAgg4,z4:=Tryz.sizeOf4,v4:=Tryz.zeroValue4,t5:=Tryz.underlying5,a5:=Tryz.isAgg5,z5:=Tryz.sizeOf5,v5:=Tryz.zeroValue5,t9:=Tryz.underlying9,a9:=Tryz.isAgg9,z9:=Tryz.sizeOf9,v9:=Tryz.zeroValue9,t20:=Tryz.underlying20,a20:=Tryz.isAgg20,z20:=Tryz.sizeOf20,v20:=Tryz.zeroValue20,t37:=Tryz.underlying330,a37:=Tryz.isAgg330,z37:=Tryz.sizeOf330,v37:=Tryz.zeroValue330,t46:=Tryz.underlying230,a46:=Tryz.isAgg230,z46:=Tryz.sizeOf230,v46:=Tryz.zeroValue230,t51:=Tryz.underlying106,a51:=Tryz.isAgg106,z51:=Tryz.sizeOf106,v51:=Tryz.zeroValue106,t53:=Tryz.underlying284,a53:=Tryz.isAgg284,z53:=Tryz.sizeOf284,v53:=Tryz.zeroValue284,t171:=Tryz.underlying328,a171:=Tryz.isAgg328,z171:=Tryz.sizeOf328,v171:=Tryz.zeroValue328,t173:=Tryz.underlying331,a173:=Tryz.isAgg331,z173:=Tryz.sizeOf331,v173:=Tryz.zeroValue331,t212:=Tryz.underlying335,a212:=Tryz.isAgg335,z212:=Tryz.sizeOf335,v212:=Tryz.zeroValue335,t213:=Tryz.underlying336,a213:=Tryz.isAgg336,z213:=Tryz.sizeOf336,t232:=Tryz.underlying337,a232:=Tryz.isAgg337,z232:=Tryz.sizeOf337,v232:=Tryz.zeroValue337,t233:=Tryz.underlying338,a233:=Tryz.isAgg338,z233:=Tryz.sizeOf338,v233:=Tryz.zeroValue338,g17:=wA,g18:=wA,g19:=wA,i0:=wA,i2:=wA,i3:=wA,i4:=wA,i5:=wA,i9:=wA,i20:=wA,i37:=wA,i46:=wA,i51:=wA,i53:=wA,i171:=wA,i173:=wA,i212:=wA,i232:=wA,i233:=wA,m17:=wA,m18:=wA,m19:=by kernel_rfl}
def Tab (w:World):Prop:=Lib.TabIs prog w "internal/strconv.uint64pow10" .u64 Lib.pow10Tab
theorem Tab.keep {w w':World}(h:Tab w)(hK:Keep (fun b=>b<w.heap.size) w w'):Tab w':=Lib.tabBelow_of_tabIs h w' (hK.below (zG _))
theorem qwh {C:Nat->Prop}(w:World)(k:Nat):Keep C w (w.drewN k):=by
 refine⟨?_,?_,?_,?_,?_⟩<;>simp [World.drewN]
theorem qyl {C:Nat->Prop}(w:World)(b:Array Obj):Keep C w (grow w b):=
 ⟨rfl,rfl,rfl,by simp [grow],fun i hi _=>by simp only [grow];rw [Array.getElem?_append_left hi]⟩
theorem q1f (n:Int)(b: -9223372036854775808<=n)(c:n<=9223372036854775807)(w:World)(d:Tab w):
  Calls prog 172 #[.int .i64 n] w fun e w'=>e=.returned (.string ⟨(Lib.itoa n).toArray⟩)/\wD w w':=by
 refine(Any.strconv_Itoa Tryz.laysM171 n b c w d).mono ?_;rintro e w' ⟨rfl,k,f,rfl⟩;exact⟨rfl,(qwh _ _).trans (qyl _ _)⟩
def qbk (n:Nat):ByteArray:=⟨#[109,97,114,107,32]⟩++⟨(Lib.itoa n).toArray⟩
theorem q1g (n:Nat)(m:n<=1073741824)(w:World)(h:Tab w):
  Calls prog 129 #[.int .i64 n] w fun e w'=>e=.returned (.string (qbk n))/\wD w w':=by
 have hi:=q1f n xz xz w h;have k:=Lib.itoa_length_le (n:Int) xz xz;have b: ∀w',(Op.stringOp .add ⟨#[109,97,114,107,32]⟩ ⟨(Lib.itoa n).toArray⟩).run prog w'=.ok (.string (qbk n)) w':=fun w'=>run_string_add_sum w' _ _ (by simp [ByteArray.size];omega);obtain⟨t,d⟩: ∃t:ByteArray,⟨(Lib.itoa n).toArray⟩=t:=⟨_,rfl⟩;obtain⟨u,i⟩: ∃u:ByteArray,qbk n=u:=⟨_,rfl⟩;rw [d,i]at b;rw [d]at hi;rw [i];clear k d i;refine hd3 ?_ hi b h;clear hi b h;intro g c j
 go_enter Tryz.func129,Tryz.ntmps129
 go_wp2_with fail;refine g.o.mono ?_;rintro e w' ⟨rfl,hK⟩;have l:=c.o w';refine hd1 ?_ hK;clear hK;intro f;go_wp2_with fail;go_ret;exact⟨rfl,f.o⟩
end Go.Proofs
