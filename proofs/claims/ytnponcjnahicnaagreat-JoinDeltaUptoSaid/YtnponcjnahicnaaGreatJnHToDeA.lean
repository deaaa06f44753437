/- Parts of the proof. -/
import Derived.Test.YtnponcjnahicnaaGreatKtBToJnG
import Derived.Sort.QuietIn
set_option linter.unusedSectionVars false
set_option linter.unusedSimpArgs false
set_option linter.unusedVariables false
set_option maxRecDepth 100000
set_option maxHeartbeats 2000000
open Go.Proofs.Tryz(prog)
open List(getElem?_take)
namespace Go.Proofs
open Go.RowKit Go.Ink Go.Flt R4 P16
theorem qwz {g:Gh}{W:World}(b:GInv g W)(s sN:Option Nat)(body:List LitD): ∀i,((qkq g s sN body).pos i).Nodup:=fun i=>qly (qja b s) _ _
theorem qx7 {g:Gh}{W:World}(b:GInv g W)(s sN:Option Nat){r:RuleD}(h:qce r):qfu ((ql4 g s sN r (-1)).map (qbn r))=qeo (qkq g s sN r.body) r:=by
 obtain⟨c,d,e⟩:=qid (qhx b (fun _=>s) sN h (-1) qqn);exact qx4 (qwz b s sN r.body) c d e
theorem q7a {g:Gh}{W:World}(b:GInv g W)(s sN:Option Nat){r:RuleD}(c:qce r):(ql4 g s sN r (-1)).length=(qes (qkq g s sN r.body) r.body).length:=by
 have h:=yO List.length (qx7 b s sN c);unfold qeo at h;rw [qhw,qhw,zL,zL]at h;exact h
theorem qlz {l:List qk}{f:qk}(h:f∈qbw okF l):f∈l:=by
 have b: ∀(l c:List qk),f∈l.foldl (qed okF) c->f∈c∨f∈l:=by
  intro l
  induction l with
  |nil=>intro c h;exact .inl h
  |cons x l ih=>
   intro c h;rcases ih _ h with h |h
   ·unfold qed at h;split at h
    ·rcases zr.1 h with h |h
     ·exact .inl h
     ·exact .inr (by rw [zm.1 h];exact yJ ..)
    ·exact .inl h
   ·exact .inr (yD _ h)
 rcases b l [] h with h |h
 ·cases h
 ·exact h
theorem ql0 {r:RuleD}{l:List qk}(h:qgw r l=false):l.length<=400/\(qcx l []).length<=400/\qe1 r (qcx l []).length=false:=by
 unfold qgw at h;split at h
 ·cases h
 ·rw [xH]at h;exact⟨wC,by have:=h.1;simp only [yR] at this;omega,h.2⟩
theorem qoc {α:Type}{n e sz:Nat}{w:World}{U c:Nat->Prop}{E:World->Nat->Nat->α->Prop}{v:Value}{xs:List α}(h:SliceIn n w sz (UE U E) v xs)(l:n<=e)(g: ∀b,U b->c b):SliceIn e w sz (UE c E) v xs:=
 SliceIn.wider h l fun b _ _ _ d=>⟨g b d.1,d.2⟩
theorem JoinAt.wide {U q:Nat->Prop}{n s:Nat}{w:World}{J:Nat}{r:RuleD}{vars:List ByteArray}{pos:List Int}{e u vv t y vh:Value}(h:JoinAt U n w J r vars pos e u vv t y vh)(d:n<=s)(c: ∀b,U b->q b):JoinAt q s w J r vars pos e u vv t y vh:=
 ⟨c _ h.uJ,h.box,qoc h.head d c,SliceIn.wider h.body d fun b o x _ p=>by
   obtain⟨g,sa,l,m⟩:=p;exact⟨c b g,sa,l,qoc m d c⟩,
  qoc h.vrow d c,qoc h.at' d c,SliceIn.wider h.terms d fun b o x _ p=>by
   obtain⟨g,v,l,m⟩:=p;exact⟨c b g,v,l,qoc m d c⟩,qoc h.slots d c⟩
def JoinIs (g:Gh)(w:World)(J:Nat)(r:RuleD):Prop:=
 ∃vha vb vv va vt vh,JoinAt (fun b=>b<w.heap.size/\g.free b) w.heap.size w J r (qu r) (qd2 r.body r.body.length) vha vb vv va vt vh
theorem JoinIs.step {n0:Nat}{g l:Gh}{w w':World}{J:Nat}{r:RuleD}(h:JoinIs g w J r)(d:GStep n0 g w l w'):JoinIs l w' J r:=by
 obtain⟨e,q,vv,p,s,vh,h⟩:=h;have m:=h.keep d.keep (fun b c=>c.2) (fun b c=>c.1);exact⟨e,q,vv,p,s,vh,m.wide d.keep.size fun b c=>⟨zk c.1 d.keep.size,d.new b c.1 c.2⟩⟩
theorem qqk {g:Gh}{w w':World}(p:GInv g w){J:Nat}{r:RuleD}{c l vv e m vh:Value}(h:JoinAt (fun b=>w.heap.size<=b/\b<w'.heap.size) w'.heap.size w' J r (qu r) (qd2 r.body r.body.length) c l vv e m vh):JoinIs g w' J r:=
 ⟨c,l,vv,e,m,vh,h.wide (zG _) fun b d=>⟨d.2,qbk p d.1⟩⟩
theorem GStep.below {n0:Nat}{g:Gh}{X Y:World}(h:GInv g X)(hK:Keep (fun b=>b<X.heap.size) X Y):GStep n0 g X g Y:=
 GStep.own h ⟨hK.os,hK.tape,hK.output,hK.size,fun k c _=>hK.block k c c⟩
def bA:ByteArray:=⟨#[97]⟩
def bB:ByteArray:=⟨#[98]⟩
def bC:ByteArray:=⟨#[99]⟩
def qhn:List qk:= [⟨bE,[bA,bB]⟩,⟨bE,[bB,bC]⟩,⟨bE,[bC,bA]⟩]
theorem qou:qbw okF qhn=qhn:=wF
theorem q5b:qea qhk=0:=wF
theorem q5c:qu qhk= [bX,bZ,bY]:=wF
theorem q7b:(qd2 qhk.body qhk.body.length).length=2:=wF
theorem qx8:qeo (qd3 qhk.body (fun _=>qhn) qhn) qhk= [⟨[bA,bC],[bA,bC,bB]⟩,⟨[bB,bA],[bB,bA,bC]⟩,⟨[bC,bB],[bC,bB,bA]⟩]:=wF
end Go.Proofs
namespace Go.Proofs
open Go.RowKit Go.Ink Go.Flt R4 P16
attribute [local go_sem] Oper.semAt_some
def q8o (n0:Nat)(g:Gh)(w:World)(S nb:Nat)(l:List qa0)(k:Nat)(γ:Gh)(X:World):Prop:=
 ∃(vl:Value) (qs:List MQ),X.heap[nb]?=some (.cells #[vl] 41 (0,0))/\γ.free nb/\MqsAt (fun b=>γ.free b/\S<=b) X vl qs/\qs.map (·.1)=l.take k/\GWay n0 g w γ X
def GaI (n0:Nat)(g:Gh)(w:World)(N:Nat)(lim:Int)(l:List qa0)(k:Nat)(γ:Gh)(X:World):Prop:=
 (0<=lim->(k:Int)<=lim)/\X.heap[N]?=some (.cells #[.int .i64 lim] 3 (0,0))/\γ.free N/\q8o n0 g w (N+4) (N+1) l k γ X
def GaX (n0:Nat)(g:Gh)(w:World)(N:Nat)(lim:Int)(l:List qa0)(c:Code)(k:Nat)(γ:Gh)(X:World):Prop:=
 c=.exit 0/\lim=(k:Int)/\X.heap[N]?=some (.cells #[.int .i64 lim] 3 (0,0))/\γ.free N/\q8o n0 g w (N+4) (N+1) l k γ X
def qk5 (lim:Int)(n:Nat):Nat:=if lim<0 then n else min lim.toNat n
theorem qj6 {n0:Nat}{Ss:List Nat}{g:Gh}{w:World}(hg:GInv g w)(hs:qfd Ss g)(dt:n0<=w.heap.size){gf:Nat}{lb:Array Value}(eg: ∀args w,(callFunc gf args).run prog w=.ok (.enter gf args) w){all:Gh->List Asg}{r:RuleD}{V:World->Prop}{U:Nat->Prop}
  (bO:qoe prog gf lb (qbt n0 Ss) (fun γ=>(all γ).length) (fun γ0 k γ n X args=> ∃b,(all γ0)[k]?=some b/\qju r (qu r) b γ n X args) V U) (hU: ∀b,U b->g.free b) (hV: ∀X,Keep (fun b=>b<w.heap.size) w X->V X) (a4: ∀X Y,V X->Keep (fun b=>b<w.heap.size) X Y->V Y) (cW:(all g).length<=67108864) (cx:r.head.args.length<=1073741824/\(qu r).length<=1073741824) (d:Int):
  Calls prog 19 #[.func (.func gf) #[] lb,.int .i64 d] w fun e w'=> ∃g' v qs,e=.returned v/\GStep n0 g w g' w'/\g'.st=g.st/\MqsAt (fun b=>g'.free b/\w.heap.size<=b) w' v qs/\qs.map (·.1)=qfu (((all g).map (qbn r)).take (qk5 d (all g).length)):=by
 obtain⟨N,hN⟩:=ex (w.heap.size);obtain⟨W0,aA⟩:=ex ((w.alloc (.cells #[.int .i64 d] 3)).alloc (.cells #[.slice none 0 0] 41));have k0:wG w W0:=by rw [←aA];exact kAl.trans kAl
 have z0:W0.heap.size=N+2:=by rw [←aA,←hN];simp
 have p0:W0.heap[N]?=some (.cells #[.int .i64 d] 3 (0,0)):=by rw [←aA,←hN];exact(Keep.alloc (fun _=>True) _ _).heap (qh w _) trivial
 have p1:W0.heap[N+1]?=some (.cells #[.slice none 0 0] 41 (0,0)):=by
  rw [←aA,←hN];have:=qh (w.alloc (.cells #[.int .i64 d] 3)) (.cells #[.slice none 0 0] 41);rw [zO]at this;exact this
 have bM:=hg.keep k0.mt;have bH:=hV W0 k0.mt;have a6: ∀u,(binOp BinOp.eql 44 (.func (.func gf) #[] lb) .nilFunc).run prog u=.ok (.bool false) u:=fun u=>wD
 have hE: ∀(D:Nat) (γ:Gh) (W:World) (k:Nat) (vl:Value) (qs:List MQ),k<=(all g).length->D=N+2->γ.free D->W.heap[D]?=some (.deferred (some []))->W.heap[N+1]?=some (.cells #[vl] 41 (0,0))->γ.free (N+1)->MqsAt (fun b=>γ.free b/\N+4<=b) W vl qs->qs.map (·.1)=((all g).map (qbn r)).take k->GWay n0 g w γ W->GInv γ W->qk5 d (all g).length=k->
   Calls prog 20 #[vl] W fun e W'=> ∃v',e=.returned v'/\W'.heap[D]?=some (.deferred (some []))/\ ∃g' qs,GStep n0 g w g' (W'.putObj D (.deferred none))/\g'.st=g.st/\MqsAt (fun b=>g'.free b/\w.heap.size<=b) (W'.putObj D (.deferred none)) v' qs/\qs.map (·.1)=qfu (((all g).map (qbn r)).take (qk5 d (all g).length)):=by
  intro D γ W k vl qs hk hD aL aC bc aK hm ad ak hinv aj;have aQ:qs.length=k:=by
   have:=yO List.length ad;rw [zL,yC,zL]at this;omega
  have cz: ∀q,q∈qs->q.1.head.length<=1073741824/\q.1.vals.length<=1073741824:=fun q hq=>by
   have h1:q.1∈((all g).map (qbn r)).take k:=by rw [←ad];exact yL.2 ⟨q,hq,rfl⟩
   obtain⟨b,-,t⟩:=yL.1 (xm h1);rw [←t];unfold qbn;simp only [zL];exact cx
  obtain⟨ct,cu⟩:=hm.mq wC cz;refine(q0k ct cu (zG _) (zG _) wC).mono ?_;rintro e W' ⟨v',rfl,hK,os,ho,p,R⟩;have cq:=qe aC;have kD:Keep (fun b=>b<W.heap.size/\b≠D) W (W'.putObj D (.deferred none)):=(hK.mono fun b _ h=>h.1).trans (Keep.putObj _ _ _ wE);refine⟨v',rfl,hK.heap aC cq,γ,os,(ak.stay kD fun b t=>⟨wC,wC⟩).gstep (hinv.keep (kD.mono fun b t h=>⟨t,fun e=>h (e▸aL)⟩)),ak.st,?_,by rw [p,ad,aj]⟩;exact hm.perm kD (fun b t R=>⟨⟨t,wC⟩,R.1,wC⟩) (qf ho (Keep.putObj (C:=fun b=>b≠D) _ _ _ wE) (fun b t e=>by have:=(zE ho b t).1;omega)) (fun b t=>⟨qbk hinv t,wC⟩) R
 refine qro ?_ hE hg hs eg bO hU hV a4 hN aA k0 p0 p1 bM bH;clear hE hg hs eg bO hU hV a4 hN aA k0 p0 p1 bM bH;intro bn bu ci ce bv cf dd an s bq cj ck cm aZ bp;refine qgb Tryz.func19 rfl ?_;simp only [Tryz.ntmps19,qd0,Nat.reduceAdd,Nat.reduceSub];gi_wp2;rw [bq.o,s.o];refine qnk (qbt n0 Ss) g (gf:=gf) (lb:=lb) rfl ce.o bv.o cf.o (fun γ0 k γ n X args h=>?ps) ⟨aZ.o,ci.o⟩ (fun b t=>qbk aZ.o t) bp.o (fun X Y hv hk=>an.o X Y hv (hk.mono fun b _ t=>by have:=s.o;omega))
  (GaI n0 g w N d ((all g).map (qbn r))) (GaX n0 g w N d ((all g).map (qbn r))) ?hI ?hIx ?hIs ?hIxs ?h0 ?round ?done ?stop
 case ps=>obtain⟨b,-,vh,vv,rfl,-⟩:=h;rfl
 case hI=>
  rintro k γ X Y ⟨h1,h2,h3,vl,qs,h4,h5,h6,h7,h8⟩ hK;exact⟨h1,hK.heap h2 (.inl wC),h3,vl,qs,hK.heap h4 (.inl wC),h5,h6.keep hK (fun b _ R=>⟨.inr wC,R⟩),h7,h8.stay hK (fun b t=>.inl (by have:=s.o;omega))⟩
 case hIx=>
  rintro c k γ X Y ⟨h0,h1,h2,h3,vl,qs,h4,h5,h6,h7,h8⟩ hK;exact⟨h0,h1,hK.heap h2 (.inl wC),h3,vl,qs,hK.heap h4 (.inl wC),h5,h6.keep hK (fun b _ R=>⟨.inr wC,R⟩),h7,h8.stay hK (fun b t=>.inl (by have:=s.o;omega))⟩
 case hIs=>
  rintro k γ X γ' Y ⟨h1,h2,h3,vl,qs,h4,h5,h6,h7,h8⟩ p;exact⟨h1,p.1.keep.heap h2 h3,p.1.new N (qe h2) h3,vl,qs,p.1.keep.heap h4 h5,p.1.new _ (qe h4) h5,h6.keep p.1.keep (fun b t R=>⟨R.1,p.1.new b t R.1,R.2⟩),h7,h8.step p⟩
 case hIxs=>
  rintro c k γ X γ' Y ⟨h0,h1,h2,h3,vl,qs,h4,h5,h6,h7,h8⟩ p;exact⟨h0,h1,p.1.keep.heap h2 h3,p.1.new N (qe h2) h3,vl,qs,p.1.keep.heap h4 h5,p.1.new _ (qe h4) h5,h6.keep p.1.keep (fun b t R=>⟨R.1,p.1.new b t R.1,R.2⟩),h7,h8.step p⟩
 case h0=>exact⟨fun h=>by simpa using h,ck.o,qbk bu.o (by have:=s.o;omega),.slice none 0 0,[],cm.o,qbk bu.o (by have:=s.o;omega),q7g _,rfl,GWay.refl cj.o⟩
 case stop=>
  rintro D c k γ W hD aL aC cy hk ⟨rfl,h1,h2,h3,vl,qs,h4,h5,h6,h7,h8⟩ z ba;have aP:qk5 d (all g).length=k:=by unfold qk5;rw [zF wC];omega
  have ai:=bn.o D γ W k vl qs wC (by have:=hD;omega) aL aC h4 h5 h6 h7 h8 z.1 aP;have e0:=qb h4 0 _ rfl;have f0:=qe h4;simp only [zD]at e0;clear h1 h2 h4 h6 h7 h8 z ba aP;refine hd1 ?_ ai;clear ai;intro ap;gi_wp2;refine⟨wH,rfl,(zU.2 ap.o).mono ?_⟩;rintro e W9 ⟨v9,rfl,ag,h9⟩;refine hd2 ?_ ag h9;clear ag h9;intro ao a8;gi_wp2;obtain⟨g9,q9,h9⟩:=a8.o;refine qhm ao.o (qb9 (xo rfl _ _ _) ⟨g9,v9,q9,rfl,h9⟩)
 case round=>
  rintro l k γ X0 X args dp ds bL hk ⟨bP,bG,a9,vl,qs,bc,aK,bS,ad,ak⟩ bV aO bI du ⟨b,bK,vh,vv,rfl,aD,aE,bd,bf,hd⟩;obtain⟨ah,ch,rfl⟩:=qj aD;obtain⟨av,cv,rfl⟩:=qj aE;obtain⟨X1,aJ⟩:=ex (X.alloc (.cells #[.slice ah r.head.args.length ch,.slice av (qu r).length cv] 48));obtain⟨nm,aX⟩:=ex (X.heap.size);have kx:wG X X1:=by rw [←aJ];exact kAl
  have px:X1.heap[nm]?=some (.cells #[.slice ah r.head.args.length ch,.slice av (qu r).length cv] 48 (0,0)):=by rw [←aJ,←aX];exact qh _ _
  have zx:X1.heap.size=nm+1:=by rw [←aJ,←aX];simp
  refine qlu ?_ bP bG bc bS ak bV aO bI bL aJ aX kx px bK;clear bP bG bc bS ak bV aO bI bL aJ aX kx px bK;intro bw bo bt a1 aG y ab aY aF br a2 aH cn bs;gi_wp2;rw [br.o,a2.o];refine⟨aH.o.mt,fun Y hY bJ dq=>?_⟩;have bQ:l=N+3:=by have:=aF.o.2.2;omega
  have cH:=(y.o.1.keep).size;have zX:=aH.o.size;have zY:=hY.size;have bU:=a2.o;have am:Keep (fun b=>b≠l) X Y:=aH.o.mt.trans hY;have aN:=hY.heap (aH.o.heap (y.o.1.keep.heap bo.o a9) wH) (show N≠l from wC);have aB:=hY.heap (aH.o.heap (y.o.1.keep.heap bt.o aK) wH) (show N+1≠l from wC);have aM:=hY.heap cn.o (show nm≠l from wC);have c0:=qb aN 0 _ rfl;have c1:=qb aB 0 _ rfl;have c2:=qb aM 0 _ rfl;have c3:=qb aM 1 _ rfl;have l0:=qe aN;have l1:=qe aB;have l2:=qe aM;simp only [zD]at c0 c1 c2 c3;have aQ:qs.length=k:=by
   have:=yO List.length ad;rw [zL,yC,zL]at this;omega
  have bR:MqsAt (fun b=>γ.free b/\N+4<=b) X vl qs:=a1.o.keep y.o.1.keep (fun b t R=>⟨R.1,y.o.1.new b t R.1,R.2⟩);have aW:MqsAt (fun b=>γ.free b/\N+4<=b) Y vl qs:=bR.keep am (fun b t R=>⟨wC,R⟩);have ar:=aW.blk;have o1:=qf aD am (fun b t e=>by have:=(zE aD b t).1;omega);have o2:=qf aE am (fun b t e=>by have:=(zE aE b t).1;omega);obtain⟨b0,aU⟩:=ex (qbn r b);have hh:b0.head=r.head.args.map (qaz b):=by rw [←aU];rfl
  have hv:b0.vals=(qu r).map fun x=>(b x).getD ⟨#[]⟩:=by rw [←aU];rfl
  have a5: ∀u,X.heap.size<=u->γ.free u:=fun u hu=>qbk ab.o.1 hu;obtain⟨al,cl,gb,cap,Y3,cA,bh,bg,aV⟩:=aW.snoc (m:=b0) (vh:=.slice ah r.head.args.length ch) (vv:=.slice av (qu r).length cv) (n:=X0.heap.size) (by rw [hh,zL];exact o1) (by rw [hv,zL];exact o2)
   (fun u hu=>⟨bd u hu,by have:=(zE aD u hu).1;omega⟩) (fun u hu=>⟨bf u hu,by have:=(zE aE u hu).1;omega⟩) hd a1.o.lt wC (fun u hu=>⟨a5 u wC,wC⟩)
  subst cA;rw [aQ]at c1 aB bh bg;have aI:=aV.heap aB (fun e=>by have:=(ar (N+1) e).2;omega);have c4:=qb aI 0 _ rfl;have f4:=qg aI 0;have l4:=qe aI;simp only [zD]at c4;have bN:(0<=d->((k+1:Nat):Int)<=d)->qfq (qbt n0 Ss) W0.heap.size l X.heap.size V γ Y (Y3.setCell ⟨N+1,0,none⟩ (.slice (some ⟨gb,0,none⟩) (k+1) cap)) (fun γ'=>GaI n0 g w N d ((all g).map (qbn r)) (k+1) γ' (Y3.setCell ⟨N+1,0,none⟩ (.slice (some ⟨gb,0,none⟩) (k+1) cap))):=fun aj=>by
   have e3:((all g).map (qbn r)).take (k+1)=(qs++ [(b0,Value.slice ah r.head.args.length ch,Value.slice av (qu r).length cv)]).map (·.1):=by
    rw [zn,ad,zh,zP,bs.o,←aU];rfl
   have cD:=aV.heap aN (fun e=>by have:=(ar N e).2;omega);have kZ:Keep (fun b=>b≠N+1) Y3 (Y3.setCell ⟨N+1,0,none⟩ (.slice (some ⟨gb,0,none⟩) (k+1) cap)):=kSc;have b1:Keep (fun b=>b≠N+1/\(Value.slice al qs.length cl).ownBlock≠some b) Y (Y3.setCell ⟨N+1,0,none⟩ (.slice (some ⟨gb,0,none⟩) (k+1) cap)):=(aV.mono fun b _ h=>h.2).trans (kZ.mono fun b _ h=>h.1);have bj:Keep (fun b=>b≠l/\b≠N+1/\(Value.slice al qs.length cl).ownBlock≠some b) X (Y3.setCell ⟨N+1,0,none⟩ (.slice (some ⟨gb,0,none⟩) (k+1) cap)):=(am.mono fun b _ h=>h.1).trans (b1.mono fun b _ h=>h.2);refine⟨γ,(qbt n0 Ss).invk ab.o (bj.mono fun b _ h=>⟨fun e=>h (e▸aF.o.1),fun e=>h (e▸aK),fun e=>h (ar b e).1⟩),an.o _ _ aY.o (bj.mono fun b _ h=>⟨by have:=s.o;omega,by have:=s.o;omega,fun e=>by have:=(ar b e).2;have:=s.o;omega⟩),GBd.refl _ _,b1.mono fun b _ h=>⟨wC,fun e=>by have:=(ar b e).2;omega⟩,aj,kZ.heap cD (show N≠N+1 from wC),a9,_,_,qgn _ aI,aK,bg.keep kZ (fun b _ R=>⟨wC,R⟩),e3.symm,?_⟩;exact((aG.o.step y.o).stay bj fun b t=>⟨by have:=s.o;omega,by have:=s.o;omega,fun e=>by have:=(ar b e).2;have:=s.o;omega⟩)
  have aR: ∀q:Int,q=(k:Int)->d=q->qfq (qbt n0 Ss) W0.heap.size l X.heap.size V γ Y Y (fun γ'=>GaX n0 g w N d ((all g).map (qbn r)) (.exit 0) k γ' Y):=fun q hq aj=>by
   refine⟨γ,(qbt n0 Ss).invk ab.o (am.mono fun b _ h e=>h (e▸aF.o.1)),an.o _ _ aY.o (am.mono fun b _ h=>by have:=s.o;omega),GBd.refl _ _,Keep.refl _ _,rfl,aj.trans hq,aN,a9,_,qs,(by rw [aQ];exact aB),aK,aW,ad,(aG.o.step y.o).stay am fun b t=>by have:=s.o;omega⟩
  clear aN aB aM aI bR aW ar o1 o2 hh hv a5 bg aV am aU;have bi:(d=(k:Int))∨((k:Int)<d)∨d<0:=by
   have:=bw.o;omega
  have dr:(0:Int)<=k:=wC
  refine qb5 ?_ hY bN aR bh ad bd bf hd aD aE a6 zx bJ z0 aQ bQ;clear hY bN aR bh ad bd bf hd aD aE a6 zx bJ z0 aQ bQ;intro de a0 aS a3 cP cJ cK df cM cN cg dh cI dg cO cL;clear cH zX zY bU;rcases bi with h3 |h3 |h3
  ·have h4:(0:Int)<=d:=by omega
   have bW:=aS.o _ rfl h3;have h5:((k:Int)==d)=true:=xE.2 h3.symm;refine hd2 ?_ h3 bW;clear h3 bW;intro dc bx;gi_wp2;exact bx.o
  ·have h4:(0:Int)<=d:=by omega
   have h5: ¬(k:Int)=d:=wC
   gi_wp2_with (gi_at_builtin;refine qck rfl _ _ _ rfl rfl rfl a3.o ?_)
   exact a0.o (fun _=>wC)
  ·have h4: ¬(0:Int)<=d:=by omega
   gi_wp2_with (gi_at_builtin;refine qck rfl _ _ _ rfl rfl rfl a3.o ?_)
   exact a0.o (fun _=>wC)
 case done=>
  rintro D γ W hD aL aC cy ⟨h1,h2,h3,vl,qs,h4,h5,h6,h7,h8⟩ z ba;have aP:qk5 d (all g).length=(all g).length:=by
   unfold qk5;split
   ·rfl
   ·have:=h1 wC;omega
  have ai:=bn.o D γ W _ vl qs (zG _) (by have:=hD;omega) aL aC h4 h5 h6 h7 h8 z.1 aP;have e0:=qb h4 0 _ rfl;have f0:=qe h4;simp only [zD]at e0;clear h1 h2 h4 h6 h7 h8 z ba aP;refine hd1 ?_ ai;clear ai;intro ap;gi_wp2;refine⟨wH,rfl,(zU.2 ap.o).mono ?_⟩;rintro e W9 ⟨v9,rfl,ag,h9⟩;refine hd2 ?_ ag h9;clear ag h9;intro ao a8;gi_wp2;obtain⟨g9,q9,h9⟩:=a8.o;refine qhm ao.o (qb9 (xo rfl _ _ _) ⟨g9,v9,q9,rfl,h9⟩)
theorem qth {n0:Nat}{Ss:List Nat}{g:Gh}{w:World}(hg:GInv g w)(hs:qfd Ss g)(l:n0<=w.heap.size){J:Nat}{r:RuleD}(m:qce r)(u:JoinIs g w J r){s sN:Option Nat}(y: ∀S,s=some S->S∈Ss)(x: ∀S,sN=some S->S∈Ss){Bj q p:Nat}
  (z:w.heap[Bj]?=some (.cells #[qi J] 31 (0,0))) (R:w.heap[q]?=some (.cells #[qab s] 37 (0,0))) (b3:w.heap[p]?=some (.cells #[qab sN] 37 (0,0))) (f1:g.free Bj) (f2:g.free q) (f3:g.free p) (h:(ql4 g s sN r (-1)).length<=67108864) (d:Int):
  Calls prog 19 #[.func (.func 47) #[] #[qi Bj,qi q,qi p],.int .i64 d] w fun e w'=> ∃g' v qs,e=.returned v/\GStep n0 g w g' w'/\g'.st=g.st/\MqsAt (fun b=>g'.free b/\w.heap.size<=b) w' v qs/\qs.map (·.1)=qfu (((ql4 g s sN r (-1)).map (qbn r)).take (qk5 d (ql4 g s sN r (-1)).length)):=by
 obtain⟨ai,vb,vv,va,vt,vh,u⟩:=u;exact qj6 (all:=fun γ=>ql4 γ s sN r (-1)) (V:=EachV (fun b=>b<w.heap.size/\g.free b) w.heap.size n0 w) (U:=fun b=>b<w.heap.size/\g.free b) hg hs l (qdg Tryz.func47 wD rfl)
  (q1j m u (fun b c=>c.1) y x ⟨qe z,f1⟩ z ⟨qe R,f2⟩ R ⟨qe b3,f3⟩ b3) (fun b c=>c.2) (fun X t=>⟨fun b c=>t.block b c.1 c.1,t.size,zW l t.size⟩) (fun X Y hV hK=>hV.keep (fun b c=>c.1) hK (fun b c=>c.1)) h ⟨by have:=qht m.formed;omega,by have:=qgx m.formed r.body.length (zG _);rw [qfj m.formed] at this;have:=qe0 m.formed;omega⟩ d
theorem qx9 (n:Nat):qk5 (-1) n=n:=by unfold qk5;rw [zI wC]
theorem quj {n0:Nat}{Ss:List Nat}{g:Gh}{w:World}(q:GInv g w)(hs:qfd Ss g)(l:n0<=w.heap.size){J:Nat}{r:RuleD}(t:qce r)(hj:JoinIs g w J r){s sN:Option Nat}(p: ∀S,s=some S->S∈Ss)(m: ∀S,sN=some S->S∈Ss){Bj h d:Nat}
  (u:w.heap[Bj]?=some (.cells #[qi J] 31 (0,0))) (x:w.heap[h]?=some (.cells #[qab s] 37 (0,0))) (y:w.heap[d]?=some (.cells #[qab sN] 37 (0,0))) (z:g.free Bj) (R:g.free h) (U:g.free d) (c:(ql4 g s sN r (-1)).length<=67108864):
  Calls prog 19 #[.func (.func 47) #[] #[qi Bj,qi h,qi d],.int .i64 (-1)] w fun e w'=> ∃g' v qs,e=.returned v/\GStep n0 g w g' w'/\g'.st=g.st/\MqsAt (fun b=>g'.free b/\w.heap.size<=b) w' v qs/\qs.map (·.1)=qeo (qkq g s sN r.body) r:=by
 refine(qth q hs l t hj p m u x y z R U c (-1)).mono ?_;rintro e w' ⟨g',v,qs,X,Y,h3,h4,h5⟩;refine⟨g',v,qs,X,Y,h3,h4,?_⟩;rw [h5,qx9,←qx7 q s sN t,←zL (f:=qbn r),zi]
def gh0:Gh:=⟨fun _=>none,fun _=>none,fun _=>none⟩
theorem qod (w:World):GInv gh0 w:=⟨fun S c h=>(by cases h),fun b S T h=>(by cases h),fun b T h=>(by cases h),fun b o h=>(by cases h),fun b o h=>(by cases h),fun b S R U h=>(by cases h)⟩
theorem qg3 (b:Nat):gh0.free b:=⟨rfl,rfl⟩
theorem q7c {g:Gh}{S:Nat}{fs:List qk}(h:g.st S=some (qbw okF fs)):qfd [S] g:=fun S' b=>by
 rw [zm.1 b];exact⟨_,h,qj7 fs⟩
theorem qld {n0:Nat}{g:Gh}{X Y:World}(h:GStep n0 gh0 X g Y):wG X Y:=h.keep.mono fun b _ _=>qg3 b
theorem qjw {w:World}{n B t:Nat}{xs:List ByteArray}(h:w.heap[B]?=some (.cells (xs.map Value.string).toArray t (0,0)))(c:B<n)(b:xs.length<=1073741824):qac n w (.slice (some ⟨B,0,none⟩) xs.length xs.length) xs:=qb2 (ql3 h b) c
theorem qnd (w:World):Calls prog 8 #[] w fun e w'=>e=.returned (.bool true)/\Keep (fun b=>b<w.heap.size) w w':=by
 obtain⟨N,hN⟩:=ex (w.heap.size);obtain⟨W0,d⟩:=ex ((((w.alloc (.cells #[.string ⟨#[97]⟩,.string ⟨#[98]⟩] 9)).alloc (.cells #[.string ⟨#[98]⟩,.string ⟨#[99]⟩] 9)).alloc (.cells #[.string ⟨#[99]⟩,.string ⟨#[97]⟩] 9)).alloc (.cells #[.string ⟨#[101]⟩,.slice (some ⟨w.heap.size,0,none⟩) 2 2,.string ⟨#[101]⟩,.slice (some ⟨w.heap.size+1,0,none⟩) 2 2,.string ⟨#[101]⟩,.slice (some ⟨w.heap.size+2,0,none⟩) 2 2] 52));have k0:wG w W0:=by rw [←d];exact((kAl.trans kAl).trans kAl).trans kAl
 have z0:W0.heap.size=N+4:=by rw [←d,←hN];simp
 have p0:W0.heap[N]?=some (.cells ([bA,bB].map Value.string).toArray 9 (0,0)):=by rw [←d,←hN];exact(((Keep.alloc (fun _=>True) _ _).trans kAl).trans kAl).heap (qh w _) trivial
 have p1:W0.heap[N+1]?=some (.cells ([bB,bC].map Value.string).toArray 9 (0,0)):=by
  rw [←d,←hN];have:=qh (w.alloc (.cells #[.string ⟨#[97]⟩,.string ⟨#[98]⟩] 9)) (.cells #[.string ⟨#[98]⟩,.string ⟨#[99]⟩] 9);rw [zO]at this;exact((Keep.alloc (fun _=>True) _ _).trans kAl).heap this trivial
 have p2:W0.heap[N+2]?=some (.cells ([bC,bA].map Value.string).toArray 9 (0,0)):=by
  rw [←d,←hN];have:=qh ((w.alloc (.cells #[.string ⟨#[97]⟩,.string ⟨#[98]⟩] 9)).alloc (.cells #[.string ⟨#[98]⟩,.string ⟨#[99]⟩] 9)) (.cells #[.string ⟨#[99]⟩,.string ⟨#[97]⟩] 9);rw [zO,zO]at this;exact(Keep.alloc (fun _=>True) _ _).heap this trivial
 have p3:W0.heap[N+3]?=some (.cells #[.string ⟨#[101]⟩,.slice (some ⟨N,0,none⟩) 2 2,.string ⟨#[101]⟩,.slice (some ⟨N+1,0,none⟩) 2 2,.string ⟨#[101]⟩,.slice (some ⟨N+2,0,none⟩) 2 2] 52 (0,0)):=by
  rw [←d,←hN];have:=qh (((w.alloc (.cells #[.string ⟨#[97]⟩,.string ⟨#[98]⟩] 9)).alloc (.cells #[.string ⟨#[98]⟩,.string ⟨#[99]⟩] 9)).alloc (.cells #[.string ⟨#[99]⟩,.string ⟨#[97]⟩] 9)) (.cells #[.string ⟨#[101]⟩,.slice (some ⟨w.heap.size,0,none⟩) 2 2,.string ⟨#[101]⟩,.slice (some ⟨w.heap.size+1,0,none⟩) 2 2,.string ⟨#[101]⟩,.slice (some ⟨w.heap.size+2,0,none⟩) 2 2] 52);rw [zO,zO,zO]at this;exact this
 have hF:FactsIn (N+4) W0 (.slice (some ⟨N+3,0,none⟩) 3 3) qhn:=by
  refine⟨_,3,rfl,wF,⟨wF,wF⟩,fun k f hk=>⟨N+3,0,rfl,wC,?_⟩⟩
  match k,hk with
  |0,hk=>
   cases hk;refine⟨.slice (some ⟨N,0,none⟩) 2 2,fun j v c=>?_,qjw p0 wC wF⟩
   match j,c with
   |0,c=>cases c;exact qb p3 0 _ rfl
   |1,c=>cases c;exact qb p3 1 _ rfl
  |1,hk=>
   cases hk;refine⟨.slice (some ⟨N+1,0,none⟩) 2 2,fun j v c=>?_,qjw p1 wC wF⟩
   match j,c with
   |0,c=>cases c;exact qb p3 2 _ rfl
   |1,c=>cases c;exact qb p3 3 _ rfl
  |2,hk=>
   cases hk;refine⟨.slice (some ⟨N+2,0,none⟩) 2 2,fun j v c=>?_,qjw p2 wC wF⟩
   match j,c with
   |0,c=>cases c;exact qb p3 4 _ rfl
   |1,c=>cases c;exact qb p3 5 _ rfl
 have aF:=qg4 (n0:=W0.heap.size) (qod W0) hF wC (fun b _=>qg3 b) wF wF;rw [qou]at aF;refine hd9 ?_ hN d k0 p0 p1 p2 p3 hF aF;clear hN d k0 p0 p1 p2 p3 hF aF;intro bJ aS a9 cT cU cV cW cG a4
 go_enter Tryz.func8,Tryz.ntmps8
 go_wp2_with fail;rw [aS.o,bJ.o];refine a4.o.mono ?_;rintro e W1 ⟨S,g1,rfl,aD,U,-,hS⟩;have h1:=qld aD;have bh:g1.st S=some qhn:=by rw [U];unfold Gh.with;simp
 refine hd4 ?_ aD h1 U bh;clear aD h1 U bh;intro ai aR bK p;go_wp2_with fail;refine(q7f W1).mono ?_;rintro e W2 ⟨vh,vb,rfl,hR,k2⟩;have ay:=qkw hR (zG _);have i1:=ai.o.inv;have s2:=GStep.below (n0:=0) i1 k2;unfold qam at ay⊢;refine hd5 ?_ hR k2 ay i1 s2;clear hR k2 ay i1 s2;intro cH ba aX cJ bP;go_wp2_with fail;refine aX.o.mono ?_;rintro e W3 ⟨k3,⟨h0,-⟩ |⟨bp,J,dg,de,vv,va,vt,dh,rfl,c⟩⟩
 ·exact absurd q5b h0
 have i2:=bP.o.inv;have s3:=GStep.below (n0:=0) i2 k3;have bk:=qqk i2 c;have aa:=qt4 J (some S) (some S) W3;have cx:=k3.size;unfold qab at aa;simp only [Option.map_some]at aa;clear c;refine hd6 ?_ bp k3 i2 s3 bk aa;clear bp k3 i2 s3 bk aa;intro ah bL cK bf a2 aY;go_wp2_with fail;refine aY.o.mono ?_;rintro e W4 ⟨rfl,b1,b2,b3,z4,k4⟩;have s4:=GStep.own (n0:=0) bf.o.inv k4;have z:=a2.o.step s4;have i4:=s4.inv;have x: ∀b,W3.heap.size<=b->g1.free b:=fun b hb=>qbk bf.o.inv hb;have az:=quj (n0:=0) (Ss:= [S]) i4 (q7c (fs:=qhn) (by rw [qou];exact p.o)) (yc _) ah.o z (s:=some S) (sN:=some S) (fun S' h=>by cases h;exact zm.2 rfl) (fun S' h=>by cases h;exact zm.2 rfl) b1 (by unfold qab;exact b2) (by unfold qab;exact b3) (x _ (zG _)) (x _ wC) (x _ wC) (by
  rw [q7a i4 _ _ ah.o];have:=yO List.length (show qeo (qkq g1 (some S) (some S) qhk.body) qhk=_ from(by unfold qkq qcd;simp only [p.o,Option.getD_some];exact qx8));unfold qeo at this;rw [qhw,zL]at this;rw [this];decide)
 have aC:qeo (qkq g1 (some S) (some S) qhk.body) qhk= [⟨[bA,bC],[bA,bC,bB]⟩,⟨[bB,bA],[bB,bA,bC]⟩,⟨[bC,bB],[bC,bB,bA]⟩]:=by
  unfold qkq qcd;simp only [p.o,Option.getD_some];exact qx8
 rw [aC]at az;clear b1 b2 b3;refine hd8 ?_ k4 s4 z i4 x az aC z4;clear k4 s4 z i4 x az aC z4;intro bM cX am cL cm aZ cn cY;go_wp2_with fail;refine aZ.o.mono ?_;rintro e W5 ⟨g5,v5,qs,rfl,s5,ak,bl,ad⟩;have bo:qs.length=3:=by have:=yO List.length ad;simpa using this
 obtain⟨q0,ab⟩: ∃q0,qs[0]?=some q0:=⟨_,zB wC⟩;have aj:q0.1=⟨[bA,bC],[bA,bC,bB]⟩:=by
  have:=yO (fun l=>l[0]?) ad;simp only [zP,ab]at this
  simpa using this
 have bq: ∀m:qa0,m∈qs.map (·.1)->m.head.length<=1073741824/\m.vals.length<=1073741824:=by
  rw [ad]
  decide
 obtain⟨bW,bm⟩:=bl.mq wC (fun q hq=>bq _ (yL.2 ⟨q,hq,rfl⟩));have bn:=bm q0 (zH ab);obtain⟨c5,c8,rfl,-,-,bi⟩:=bW;obtain⟨b,o,rfl,bV,ax⟩:=bi 0 q0 ab;have c0:=ax 0 _ rfl;have c1:=ax 1 _ rfl;simp only [Nat.zero_mul,Nat.add_zero]at c0 c1;obtain⟨m0,df,di⟩:=q0;simp only at c0 c1 aj;subst aj;obtain⟨Y,ae⟩:=bn;simp only at Y ae;obtain⟨c4,c7,rfl,-,-,-⟩:=id Y;obtain⟨c6,c9,rfl,-,-,-⟩:=id ae;have bS:g5.st S=some qhn:=by rw [ak];exact p.o
 have R:=q1k (s5.inv.store S qhn bS);rw [show(qhn.length:Int)=3 from rfl]at R;have bj:=am.o.step s5;rw [bo];clear bi ax ab bm bl ad bo ak bq;refine hd7 ?_ Y ae R bj s5 c0 c1;clear Y ae R bj s5 c0 c1;intro aW a8 an a0 bg bG bH;go_wp2_with fail;refine(q7e _ _).mono ?_;rintro e w9 ⟨rfl,g⟩;have g:=g.symm;subst g;go_wp2_with fail;refine an.o.mono ?_;rintro e W6 ⟨rfl,k6⟩;have d0:=k6.cell bG.o trivial;have db:b<W6.heap.size:=zk bV k6.size;obtain⟨W7,r⟩:=ex (W6.alloc (.cells #[.string ⟨#[97]⟩,.string ⟨#[99]⟩] 9));have k7:wG W6 W7:=by rw [←r];exact kAl
 have n7:W7.heap[W6.heap.size]?=some (.cells ([bA,bC].map Value.string).toArray 9 (0,0)):=by rw [←r];exact qh _ _
 have z7:W7.heap.size=W6.heap.size+1:=by rw [←r];simp
 have aG:=qji W7.heap.size _ _ _ _ W7 (qb2 (qm8 aW.o ((k6.trans k7).mt)) (by have:=k6.size;omega)) (qjw n7 wC wF) (zG _);rw [zS (rfl: [bA,bC]= [bA,bC])]at aG;refine hd6 ?_ k6 k7 n7 z7 r aG;clear k6 k7 n7 z7 r aG;intro bc aq cQ cZ aT a5;go_wp2_with fail;rw [aT.o];refine a5.o.mono ?_;rintro e W8 ⟨rfl,m8,au⟩;have k8:wG W7 W8:=by rw [au];exact Keep.drewN' _ _ _
 have e1:=k8.cell (aq.o.cell (bc.o.cell bH.o wH) wH) trivial;have dc:b<W8.heap.size:=by have:=aq.o.size;have:=k8.size;omega
 obtain⟨W9,t⟩:=ex (W8.alloc (.cells #[.string ⟨#[97]⟩,.string ⟨#[99]⟩,.string ⟨#[98]⟩] 9));have k9:wG W8 W9:=by rw [←t];exact kAl
 have n9:W9.heap[W8.heap.size]?=some (.cells ([bA,bC,bB].map Value.string).toArray 9 (0,0)):=by rw [←t];exact qh _ _
 have z9:W9.heap.size=W8.heap.size+1:=by rw [←t];simp
 have af:=((bc.o.trans aq.o).trans k8).trans k9;have aH:=qji W9.heap.size _ _ _ _ W9 (qb2 (qm8 a8.o af.mt) (by have:=af.size;omega)) (qjw n9 wC wF) (zG _);rw [zS (rfl: [bA,bC,bB]= [bA,bC,bB])]at aH;refine hd8 ?_ au k8 k9 n9 z9 t aH af;clear au k8 k9 n9 z9 t aH af;intro cj cM cN cR c2 aU a6 bd;go_wp2_with fail;rw [aU.o];refine a6.o.mono ?_;rintro e WA ⟨rfl,mA,av⟩;have kA:wG W9 WA:=by rw [av];exact Keep.drewN' _ _ _
 have aJ:=bd.o.trans kA;have y:JoinIs g5 WA J qhk:=a0.o.step (GStep.own (n0:=0) bg.o.inv aJ);obtain⟨ja,jb,jv,jq,jt,jh,y⟩:=y;have X:=qt5 y (zG _);rw [q5c]at X;refine hd5 ?_ av kA aJ y X;clear av kA aJ y X;intro ck cO bb a1 ap;go_wp2_with fail;refine ap.o.mono ?_;rintro e WB ⟨vo,rfl,ho,kB⟩;obtain⟨ao,co,rfl⟩:=qj ho;have aE:=qbq (ss:= [bX,bZ,bY]) ho wF;obtain⟨WC,u⟩:=ex (WB.alloc (.cells #[.string ⟨#[88]⟩,.string ⟨#[90]⟩,.string ⟨#[89]⟩] 9));have kC:wG WB WC:=by rw [←u];exact kAl
 have nC:WC.heap[WB.heap.size]?=some (.cells ([bX,bZ,bY].map Value.string).toArray 9 (0,0)):=by rw [←u];exact qh _ _
 have zC:WC.heap.size=WB.heap.size+1:=by rw [←u];simp
 have aI:=qji WC.heap.size _ _ _ _ WC (qb2 (qm8 aE kC.mt) wC) (qjw nC wC wF) (zG _);rw [zS (rfl: [bX,bZ,bY]= [bX,bZ,bY])]at aI;refine hd8 ?_ ho kB aE u kC nC zC aI;clear ho kB aE u kC nC zC aI;intro cI bN cp aV bO cS c3 a7;go_wp2_with fail;rw [aV.o];refine a7.o.mono ?_;rintro e WD ⟨rfl,mD,aw⟩;have kD:wG WC WD:=by rw [aw];exact Keep.drewN' _ _ _
 have ag:=(bN.o.trans bO.o).trans kD;have aB:=qoq (a1.o.keep ag (fun _ _=>wH) (fun b hb=>hb.1));rw [q7b]at aB;have hE:Keep (fun b=>b<w.heap.size) w WD:=by
  have q0:=a9.o.size;have q1:=aR.o.size;have q2:=ba.o.size;exact a9.o.mt.trans (aR.o.mt.trans ((ba.o.mono fun b _ h=>wC).trans ((bL.o.mono fun b _ h=>wC).trans (bM.o.mt.trans ((bg.o.keep.mono fun b _ h=>ai.o.new b wC (qg3 b)).trans ((bb.o.trans ag).mt))))))
 refine hd5 ?_ aw kD ag aB hE;clear aw kD ag aB hE;intro cl cP cq a3 bI;go_wp2_with fail;refine a3.o.mono ?_;rintro e w9 ⟨rfl,g⟩;have g:=g.symm;subst g;go_wp2_with fail;go_ret;exact⟨rfl,bI.o⟩
end Go.Proofs
namespace Go.Ink
open Go.RowKit
section
variable {F : Fence} {n : Nat} {P : Program} {ops : Array Oper} {Q : Exit -> Act -> World -> Prop} {md : Region.Mode} {S S' : World -> Prop} {late : List Nat}
end
end Go.Ink
namespace Go.Proofs
open Go.RowKit Go.Ink Go.Flt R4 P16
theorem qsk {w:World}{base:Nat}{e:TypeId}{sz n:Nat}{v:Value}{xs:List Value}(h:w.ownsRow base e sz v n xs)(d:0<n): ∃g cap,v=.slice (some ⟨g,0,none⟩) n cap/\base<=g/\g<w.heap.size/\n<=cap/\cap<=maxLen/\
  (∀j u,xs[j]?=some u->w.cell? ⟨g,j,none⟩=some u)/\ ∀j,w.frozen? ⟨g,j,none⟩=false:=by
 rcases h.2 with ⟨h1,h2⟩ |⟨g,cap,cur,h1,hb,hg,hnc,hcm,hcs,ht⟩
 ·omega
 ·refine⟨g,cap,h1,hb,qe hg,hnc,hcm,fun j u b=>?_,fun j=>qg hg j⟩;have c:cur.toList[j]?=some u:=by
   rw [←ht,getElem?_take]at b;split at b
   ·exact b
   ·cases b
  have:=qb hg j u (by simpa using c)
  simpa using this
theorem q15 {J:qbd}{r:RuleD}(c:qce r): ∀m,m∈qeo J r->m.head.length<=1073741824/\m.vals.length<=1073741824:=fun m d=>by
 unfold qeo at d;rw [qpf]at d;obtain⟨b,-,rfl⟩:=yL.1 d;unfold qbn;simp only [zL];refine⟨by have:=qht c.formed;omega,?_⟩;have:=qgx c.formed r.body.length (zG _);rw [qfj c.formed]at this;have:=qe0 c.formed;omega
theorem q7d {r:RuleD}(h:qce r):qea r=0:=by
 have d:S12.looseOf r=none:=by
  unfold S12.looseOf;rw [yp];intro x g;obtain⟨L,c,b,e⟩:=qye.1 (h.bound x g);have:x∈qcm r.body:=qsm.2 ⟨L,c,b,by unfold LitD.uses LitD.terms;rw [zI (.inl b)];exact e⟩;simp [this]
 unfold qea;rw [zI h.formed,zI d]
end Go.Proofs
namespace Go.Ink
def dF {A:Type}(k:Nat)(so sd sa:A):Nat->A:=fun m=>if m<k then so else if m=k then sd else sa
theorem q16 {A B:Type}(f:A->B)(k:Nat)(so sd sa:A)(m:Nat):f (dF k so sd sa m)=dF k (f so) (f sd) (f sa) m:=by
 unfold dF;split
 ·rfl
 ·split<;>rfl
section
variable {body : List LitD} {O F A N : List qk} (hA : ∀ f, f ∈ A ↔ f ∈ O ∨ f ∈ F) (hd : ∀ f, f ∈ O -> f ∉ F) {rk : Nat -> Nat} (hrk : ∀ i j, i ∈ qaf body -> j ∈ qaf body -> rk i = rk j -> i = j) {np : Nat} (hnp : ∀ i, i ∈ qaf body -> rk i < np) (hon : ∀ k, k < np -> ∃ i, i ∈ qaf body /\ rk i = k)
def qie (body:List LitD)(O F A N:List qk)(rk:Nat->Nat)(k:Nat):qbd:=qd3 body (fun i=>dF k O F A (rk i)) N
include hA
include hd hrk hnp
omit hA hnp in
include hon in
omit hA hnp in
include hon in
end
end Go.Ink
namespace Go.Proofs
open Go.RowKit Go.Ink Go.Flt R4 P16
attribute [local go_sem] Oper.semAt_some
theorem qi9 {X W:World}{b o:Nat}{v:Value}(h:X.heap[b]?=W.heap[b]?)(c:W.cell? ⟨b,o,none⟩=some v):X.cell? ⟨b,o,none⟩=some v:=by
 unfold World.cell? at c⊢;simp only at c⊢;rw [h];exact c
theorem qw0 {X:World}{Bk l h g:Nat}{k:Nat}{so sd sa:Option Addr}(r:X.cell? ⟨Bk,0,none⟩=some (.int .i64 (k:Int)))(s:X.cell? ⟨l,0,none⟩=some (.pointer so))(t:X.cell? ⟨h,0,none⟩=some (.pointer sd))(u:X.cell? ⟨g,0,none⟩=some (.pointer sa))(m:Nat):
  Calls prog 68 #[.int .i64 (m:Int),qi Bk,qi l,qi h,qi g] X fun e w'=>e=.returned (.pointer (dF k so sd sa m))/\w'=X:=by
 have v:=zQ _ _ r;have x:=zQ _ _ s;have y:=zQ _ _ t;have z:=zQ _ _ u;simp only at v x y z;by_cases d:m<k
 ·have p:(m:Int)<(k:Int):=by omega
  have b:dF k so sd sa m=so:=by unfold dF;rw [zI d]
  rw [b];clear b
  go_enter Tryz.func68,Tryz.ntmps68
  go_wp2;go_ret;exact⟨rfl,rfl⟩
 ·have p: ¬(m:Int)<(k:Int):=by omega
  by_cases c:m=k
  ·have b:dF k so sd sa m=sd:=by unfold dF;rw [zF d,zI c]
   have q:((m:Int)==(k:Int))=true:=xE.2 wC;rw [b];clear b c
   go_enter Tryz.func68,Tryz.ntmps68
   go_wp2;go_ret;exact⟨rfl,rfl⟩
  ·have b:dF k so sd sa m=sa:=by unfold dF;rw [zF d,zF c]
   have q:((m:Int)==(k:Int))=false:=y9.2 wC;rw [b];clear b c
   go_enter Tryz.func68,Tryz.ntmps68
   go_wp2;go_ret;exact⟨rfl,rfl⟩
theorem qzg {n0:Nat}{Ss:List Nat}{U:Nat->Prop}{nU:Nat}{W0:World}{J:Nat}{r:RuleD}{pos:List Int}{bd vb vv va vt vh:Value}(hr:qce r)(hj:JoinAt U nU W0 J r (qu r) pos bd vb vv va vt vh)(ab: ∀b,U b->b<nU)
  {k:Nat} {first:Int} (hk:pos[k]?=some first) (az:qa3 r first=false) {so sd sa sN:Option Nat} (aD: ∀S,so=some S->S∈Ss) (aC: ∀S,sd=some S->S∈Ss) (aB: ∀S,sa=some S->S∈Ss) (aA: ∀S,sN=some S->S∈Ss) {Bj Bk Bo Bd Ba Bn:Nat}
  (R:U Bj) (p:W0.heap[Bj]?=some (.cells #[qi J] 31 (0,0))) (t:U Bk) (d:W0.heap[Bk]?=some (.cells #[.int .i64 (k:Int)] 3 (0,0))) (au:U Bo) (aa:W0.heap[Bo]?=some (.cells #[qab so] 37 (0,0))) (ar:U Bd) (z:W0.heap[Bd]?=some (.cells #[qab sd] 37 (0,0))) (aq:U Ba) (y:W0.heap[Ba]?=some (.cells #[qab sa] 37 (0,0))) (Y:U Bn) (q:W0.heap[Bn]?=some (.cells #[qab sN] 37 (0,0))):
  qoe prog 67 #[qi Bj,qi Bk,qi Bo,qi Bd,qi Ba,qi Bn] (qbt n0 Ss) (fun γ=>(qeu γ (dF k so sd sa) sN r first).length) (fun γ0 i γ n X args=> ∃b,(qeu γ0 (dF k so sd sa) sN r first)[i]?=some b/\qju r (qu r) b γ n X args) (EachV U nU n0 W0) U:=by
 intro l Jp Jx W g0 hl hinv u hU hJ aw c h0;show Calls prog 67 #[.func (.yield l) #[] #[],qi Bj,qi Bk,qi Bo,qi Bd,qi Ba,qi Bn] W _;have a1:=qb ((u.1 Bj R).trans p) 0 _ rfl;have a2:=qb ((u.1 Bn Y).trans q) 0 _ rfl;have a5:=qb ((u.1 Bk t).trans d) 0 _ rfl;have l1:=qe ((u.1 Bj R).trans p);have l2:=qe ((u.1 Bn Y).trans q);have l5:=qe ((u.1 Bk t).trans d);have ad:=hj.same u.1;have a3:=qb ad.box 4 _ rfl;have l3:=qe ad.box;obtain⟨ap,cp,rfl,b1,b0,aO⟩:=id ad.at';obtain⟨bp,op,a9,bR,ae⟩:=aO k first hk
 have a6:W.cell? ⟨bp,op+k*1,none⟩=some (.int .i64 first):=ae.2;simp only [zD]at a1 a2 a3 a5;simp only [yB]at a6;subst a9;have l6:bp<W.heap.size:=zQ _ _ a6;have bU:k<pos.length:=(zA.1 hk).1;have bV:(k:Int)<pos.length:=wC
 have bS:(0:Int)<=k:=wC
 have bO:decide ((k:Int)<0)=false:=zM wC;have bP:decide ((pos.length:Int)<=(k:Int))=false:=zM wC;have bQ:decide (pos.length<=k)=false:=zM wC;have bW: ¬pos.length<=k:=wC
 have c4: ∀X,EachV U nU n0 W0 X->X.cell? ⟨Bk,0,none⟩=some (.int .i64 (k:Int))/\X.cell? ⟨Bo,0,none⟩=some (.pointer (so.map fun S=>⟨S,0,none⟩))/\X.cell? ⟨Bd,0,none⟩=some (.pointer (sd.map fun S=>⟨S,0,none⟩))/\X.cell? ⟨Ba,0,none⟩=some (.pointer (sa.map fun S=>⟨S,0,none⟩)):=fun X hX=>by
  have h1:=qb ((hX.1 Bk t).trans d) 0 _ rfl;have h2:=qb ((hX.1 Bo au).trans aa) 0 _ rfl;have h3:=qb ((hX.1 Bd ar).trans z) 0 _ rfl;have h4:=qb ((hX.1 Ba aq).trans y) 0 _ rfl;unfold qab at h2 h3 h4;exact⟨by simpa using h1,by simpa using h2,by simpa using h3,by simpa using h4⟩
 have kD: ∀m,wG W (W.drewN m):=fun m=>Keep.drewN' _ _ _;have g:=fun m:Nat=>(qt3 (W:=W.drewN m) (g0:=g0) (sF:=dF k so sd sa) (fI:=68) (lI:= #[qi Bk,qi Bo,qi Bd,qi Ba]) (first:=first) hr hj ab (fun m S h=>by unfold dF at h;split at h;exact aD S h;split at h;exact aC S h;exact aB S h) aA (qdg Tryz.func68 wD rfl)
  (fun X hX m=>by obtain⟨h1,h2,h3,h4⟩:=c4 X hX;unfold qab;rw [q16 (fun s:Option Nat=>s.map fun S=>(⟨S,0,none⟩:Addr))];exact qw0 h1 h2 h3 h4 m) az (hinv.1.keep ((kD m).mt)) hinv.2 (u.keep ab (kD m) (fun _ _=>wH)) hU hJ aw (fun k γ X0 X args h1 h2 h3 h4 h5 h6 h7=>c k γ X0 X args h1 h2 h3 h4 h5 (zW (kD m).size h6) h7) (hJ 0 g0 W g0 _ h0 ⟨GStep.own hinv.1 (kD m),rfl⟩)).mono (fun e W' h=>(⟨h.1,zW (kD m).size h.2.1,h.2.2⟩:(∃v,e=.returned v)/\W.heap.size<=W'.heap.size/\_))
 unfold qab at a2 g;have ay:U bp:=ae.1;have av:U J:=ad.uJ;have ax: ∀X,EachV U nU n0 W0 X->X.cell? ⟨Bj,0,none⟩=some (qi J)/\X.cell? ⟨Bn,0,none⟩=some (.pointer (sN.map fun S=>⟨S,0,none⟩))/\X.cell? ⟨J,4,none⟩=some (.slice (some ⟨bp,op,none⟩) pos.length cp)/\X.cell? ⟨Bk,0,none⟩=some (.int .i64 (k:Int))/\X.cell? ⟨bp,op+k,none⟩=some (.int .i64 first):=fun X hX=>by
  have hb: ∀b,U b->X.heap[b]?=W.heap[b]?:=fun b hb=>(hX.1 b hb).trans (u.1 b hb).symm;exact⟨qi9 (hb Bj R) a1,qi9 (hb Bn Y) a2,qi9 (hb J av) a3,qi9 (hb Bk t) a5,qi9 (hb bp ay) a6⟩
 have aN:=fun j:Nat=>ax ((W.drewN j).drew) (u.keep ab ((Keep.drewN' (fun _=>True) _ _).trans kDr) (fun _ _=>wH));clear c4 ad aO ae kD;refine qb5 ?_ hr hj ab az aD aC aB aA R p t d au aa ar z;clear hr hj ab az aD aC aB aA R p t d au aa ar z;intro bN bM bn bq bu bt bs br bh aV bi aW bk aY bg aU;refine qb5 ?_ aq y Y q hinv u hU hJ aw c h0 g aN ax ay av;clear aq y Y q hinv u hU hJ aw c h0 g aN ax ay av;intro bf aT bj aX aZ bL bK bJ bm aL bI ag aI aK bo bl;refine qbr Tryz.func67 rfl ?_;simp only [Tryz.ntmps67,qd0,Nat.reduceAdd,Nat.reduceSub];gi_wp2
 gi_quiet (fail)
 gi_wp2;refine qae ?_;refine qw rfl (fun X=>X.cell? ⟨Bj,0,none⟩=some (qi J)/\X.cell? ⟨Bn,0,none⟩=some (.pointer (sN.map fun S=>⟨S,0,none⟩))/\X.cell? ⟨J,4,none⟩=some (.slice (some ⟨bp,op,none⟩) pos.length cp)/\X.cell? ⟨Bk,0,none⟩=some (.int .i64 (k:Int))/\X.cell? ⟨bp,op+k,none⟩=some (.int .i64 first)) [] ?_;have aJ:=fun {j:Nat}=>aI.o j;refine qy [0,1,2,3,4,5,6,7,8,9,10] ?_
 iterate 11
  refine tkR (v:=?_) rfl aJ ?_ ?_;rotate_left
  ·rintro Wq ⟨x1,x2,x3,x4,x5⟩;go_simp
   try with_reducible rfl
  try simp only [qz]
 refine qm ?_;refine hoR 11 rfl fun K ah=>?_;gi_wp2;refine⟨wH,rfl,(zU.2 (ag.o _)).mono ?_⟩;rintro e W9 ⟨⟨v,rfl⟩,bc,al⟩;refine hd1 ?_ al;clear al;intro x;gi_wp2;refine ah.o _ _ (fun _=>by obtain⟨γ',-,bb,-⟩:=x.o;exact aK.o W9 bb) ?_;refine ql wD (qo ?_);clear ah;gi_wp2;refine wA (yw rfl _ _ _) rfl ⟨⟨_,rfl⟩,bc,x.o⟩
theorem qjh (J:Nat)(k:Int)(so sd sa sN:Option Nat)(w:World):Calls prog 28 #[qi J,.int .i64 k,qab so,qab sd,qab sa,qab sN] w fun e w'=>e=.returned (.func (.func 67) #[] #[qi w.heap.size,qi (w.heap.size+1),qi (w.heap.size+2),qi (w.heap.size+3),qi (w.heap.size+4),qi (w.heap.size+5)])/\
  w'.heap[w.heap.size]?=some (.cells #[qi J] 31 (0,0))/\w'.heap[w.heap.size+1]?=some (.cells #[.int .i64 k] 3 (0,0))/\w'.heap[w.heap.size+2]?=some (.cells #[qab so] 37 (0,0))/\w'.heap[w.heap.size+3]?=some (.cells #[qab sd] 37 (0,0))/\w'.heap[w.heap.size+4]?=some (.cells #[qab sa] 37 (0,0))/\w'.heap[w.heap.size+5]?=some (.cells #[qab sN] 37 (0,0))/\w'.heap.size=w.heap.size+6/\wG w w':=by
 unfold qab;obtain⟨R,h1⟩:=ex ((so.map fun S=>(⟨S,0,none⟩:Addr)));obtain⟨U,h2⟩:=ex ((sd.map fun S=>(⟨S,0,none⟩:Addr)));obtain⟨Y,h3⟩:=ex ((sa.map fun S=>(⟨S,0,none⟩:Addr)));obtain⟨s4,h4⟩:=ex ((sN.map fun S=>(⟨S,0,none⟩:Addr)));rw [h1,h2,h3,h4];clear h1 h2 h3 h4;obtain⟨W1,m⟩:=ex ((((w.alloc (.cells #[qi J] 31)).alloc (.cells #[.int .i64 k] 3)).alloc (.cells #[.pointer R] 37)));obtain⟨g,p⟩:=ex (((W1.alloc (.cells #[.pointer U] 37)).alloc (.cells #[.pointer Y] 37)).alloc (.cells #[.pointer s4] 37));have ka: ∀(X:World) (a b c:Obj),wG X (((X.alloc a).alloc b).alloc c)/\(((X.alloc a).alloc b).alloc c).heap.size=X.heap.size+3:=fun X a b c=>⟨(kAl.trans kAl).trans kAl,wE⟩;have kb: ∀(X:World) (l r t:Array Value) (h q s:Nat),(((X.alloc (.cells l h)).alloc (.cells r q)).alloc (.cells t s)).heap[X.heap.size]?=some (.cells l h (0,0))/\(((X.alloc (.cells l h)).alloc (.cells r q)).alloc (.cells t s)).heap[X.heap.size+1]?=some (.cells r q (0,0))/\(((X.alloc (.cells l h)).alloc (.cells r q)).alloc (.cells t s)).heap[X.heap.size+2]?=some (.cells t s (0,0)):=fun X l r t h q s=>by
  have p1:=qh X (.cells l h);have p2:=qh (X.alloc (.cells l h)) (.cells r q);have p3:=qh ((X.alloc (.cells l h)).alloc (.cells r q)) (.cells t s);simp only [zO]at p2 p3;exact⟨((Keep.alloc (fun _=>True) _ _).trans kAl).heap p1 wH,(Keep.alloc (fun _=>True) _ _).heap p2 wH,p3⟩
 have q1:=kb w #[qi J] #[.int .i64 k] #[.pointer R] 31 3 37;have z1:=ka w (.cells #[qi J] 31) (.cells #[.int .i64 k] 3) (.cells #[.pointer R] 37);have q2:=kb W1 #[.pointer U] #[.pointer Y] #[.pointer s4] 37 37 37;have z2:=ka W1 (.cells #[.pointer U] 37) (.cells #[.pointer Y] 37) (.cells #[.pointer s4] 37);rw [m]at q1 z1;rw [p]at q2 z2;obtain⟨x,y⟩:=z1;obtain⟨d,z⟩:=z2;obtain⟨b1,b2,b3⟩:=q1;obtain⟨b4,b5,b6⟩:=q2;rw [y]at b4 b5 b6 z;have hE:g.heap[w.heap.size]?=some (.cells #[qi J] 31 (0,0))/\g.heap[w.heap.size+1]?=some (.cells #[.int .i64 k] 3 (0,0))/\g.heap[w.heap.size+2]?=some (.cells #[.pointer R] 37 (0,0))/\g.heap[w.heap.size+3]?=some (.cells #[.pointer U] 37 (0,0))/\g.heap[w.heap.size+4]?=some (.cells #[.pointer Y] 37 (0,0))/\g.heap[w.heap.size+5]?=some (.cells #[.pointer s4] 37 (0,0))/\g.heap.size=w.heap.size+6/\wG w g:=⟨d.heap b1 wH,d.heap b2 wH,d.heap b3 wH,b4,b5,b6,wC,x.trans d⟩;clear b1 b2 b3 b4 b5 b6 x d ka kb y z;refine hd3 ?_ hE m p;clear hE m p;intro ab u v
 go_enter Tryz.func28,Tryz.ntmps28
 go_wp2;go_ret;rw [u.o,v.o];exact⟨rfl,ab.o⟩
end Go.Proofs
