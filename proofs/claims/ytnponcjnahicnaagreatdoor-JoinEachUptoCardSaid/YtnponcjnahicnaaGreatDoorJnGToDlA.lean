/- Parts of the proof. -/
import Derived.Test.YtnponcjnahicnaaGreatDoorRfJToLwE
import Derived.Sort.QuietIn
set_option linter.unusedSectionVars false
set_option linter.unusedSimpArgs false
set_option linter.unusedVariables false
set_option maxRecDepth 100000
set_option maxHeartbeats 12000000
open Go.Proofs.Tryz(prog)
open List(all_nil any_append any_eq_true getElem?_take nodup_nil nodup_range pairwise_iff_getElem pairwise_map range_add range_succ_eq_map take_zero)
namespace Go.Proofs
open Go.RowKit Go.Ink Go.Flt R4 P16
theorem qyb {body:List LitD}{x:ByteArray}:x∈q8 body (qao body)↔ ∃L,L∈body/\L.kind=1/\x∈qal L.atom.args:=by
 rw [qgl];constructor
 ·rintro⟨i,hi,-,hx⟩;obtain⟨b,c⟩:=qc9 hi;refine⟨body.getD i default,?_,c,hx⟩;rw [zJ,zB b];exact xE b
 ·rintro⟨L,hL,hk,hx⟩;obtain⟨i,hi⟩:=zy.1 hL;have b:=(zA.1 hi).1;have c:qbg body i=1:=by rw [qkj hi];exact hk
  refine⟨i,?_,wA,?_⟩
  ·unfold qao;rw [yV,yi];exact⟨b,by simp [c]⟩
  ·rw [zJ,hi];exact hx
theorem qsf {body:List LitD}{x:ByteArray}:x∈qcf body↔ ∃L,L∈body/\L.kind=1/\x∈L.uses:=by
 unfold qcf;rw [qeh,xD];constructor
 ·rintro⟨L,hL,hx⟩;rw [yV]at hL;exact⟨L,hL.1,by simpa using hL.2,hx⟩
 ·rintro⟨L,hL,hk,hx⟩;exact⟨L,yV.2 ⟨hL,by simp [hk]⟩,hx⟩
theorem qz1 (r:RuleD):(qu r).Nodup:=qz0 (ts:=r.names) (l:= []) nodup_nil
theorem qop {g:Gh}{W:World}(b:GInv g W)(s sN:Option Nat)(body:List LitD): ∀i,((qi5 g s sN body).pos i).Nodup:=fun i=>ql3 (qsi b s) _ _
theorem qrn {g:Gh}{W:World}(b:GInv g W)(s sN:Option Nat){r:RuleD}(h:qc1 r):qd3 ((qix g s sN r (-1)).map (qbl r))=qd0 (qi5 g s sN r.body) r:=by
 obtain⟨c,d,e⟩:=qjn (qiy b (fun _=>s) sN h (-1) qqn);exact q7v (qop b s sN r.body) c d e
theorem qyc {g:Gh}{W:World}(b:GInv g W)(s sN:Option Nat){r:RuleD}(c:qc1 r):(qix g s sN r (-1)).length=(qem (qi5 g s sN r.body) r.body).length:=by
 have h:=yN List.length (qrn b s sN c);unfold qd0 at h;rw [qg0,qg0,zL,zL]at h;exact h
theorem qz2 {l:List qj}{f:qj}(h:f∈qc6 okF l):f∈l:=by
 have b: ∀(l c:List qj),f∈l.foldl (qen okF) c->f∈c∨f∈l:=by
  intro l
  induction l with
  |nil=>intro c h;exact .inl h
  |cons x l ih=>
   intro c h;rcases ih _ h with h |h
   ·unfold qen at h;split at h
    ·rcases zr.1 h with h |h
     ·exact .inl h
     ·exact .inr (by rw [zm.1 h];exact yJ ..)
    ·exact .inl h
   ·exact .inr (yD _ h)
 rcases b l [] h with h |h
 ·cases h
 ·exact h
theorem ql5 {r:RuleD}{l:List qj}(h:qhd r l=false):l.length<=400/\(qcs l []).length<=400/\qeu r (qcs l []).length=false:=by
 unfold qhd at h;split at h
 ·cases h
 ·rw [xF]at h;exact⟨wA,by have:=h.1;simp only [yQ] at this;omega,h.2⟩
theorem qod {α:Type}{n e sz:Nat}{w:World}{U c:Nat->Prop}{E:World->Nat->Nat->α->Prop}{v:Value}{xs:List α}(h:SliceIn n w sz (UE U E) v xs)(l:n<=e)(g: ∀b,U b->c b):SliceIn e w sz (UE c E) v xs:=
 SliceIn.wider h l fun b _ _ _ d=>⟨g b d.1,d.2⟩
theorem JoinAt.wide {U q:Nat->Prop}{n s:Nat}{w:World}{J:Nat}{r:RuleD}{vars:List ByteArray}{pos:List Int}{e u vv t y vh:Value}(h:JoinAt U n w J r vars pos e u vv t y vh)(d:n<=s)(c: ∀b,U b->q b):JoinAt q s w J r vars pos e u vv t y vh:=
 ⟨c _ h.uJ,h.box,qod h.head d c,SliceIn.wider h.body d fun b o x _ p=>by
   obtain⟨g,z,l,m⟩:=p;exact⟨c b g,z,l,qod m d c⟩,
  qod h.vrow d c,qod h.at' d c,SliceIn.wider h.terms d fun b o x _ p=>by
   obtain⟨g,v,l,m⟩:=p;exact⟨c b g,v,l,qod m d c⟩,qod h.slots d c⟩
def JoinIs (g:Gh)(w:World)(J:Nat)(r:RuleD):Prop:=
 ∃vha vb vv va vt vh,JoinAt (fun b=>b<w.heap.size/\g.free b) w.heap.size w J r (qu r) (qex r.body r.body.length) vha vb vv va vt vh
theorem JoinIs.step {n0:Nat}{g l:Gh}{w w':World}{J:Nat}{r:RuleD}(h:JoinIs g w J r)(d:GStep n0 g w l w'):JoinIs l w' J r:=by
 obtain⟨e,q,vv,p,s,vh,h⟩:=h;have m:=h.keep d.keep (fun b c=>c.2) (fun b c=>c.1);exact⟨e,q,vv,p,s,vh,m.wide d.keep.size fun b c=>⟨zk c.1 d.keep.size,d.new b c.1 c.2⟩⟩
theorem qqh {g:Gh}{w w':World}(p:GInv g w){J:Nat}{r:RuleD}{c l vv e m vh:Value}(h:JoinAt (fun b=>w.heap.size<=b/\b<w'.heap.size) w'.heap.size w' J r (qu r) (qex r.body r.body.length) c l vv e m vh):JoinIs g w' J r:=
 ⟨c,l,vv,e,m,vh,h.wide (zG _) fun b d=>⟨d.2,qdm p d.1⟩⟩
theorem GStep.below {n0:Nat}{g:Gh}{X Y:World}(h:GInv g X)(hK:Keep (fun b=>b<X.heap.size) X Y):GStep n0 g X g Y:=
 GStep.own h ⟨hK.os,hK.tape,hK.output,hK.size,fun k c _=>hK.block k c c⟩
def bA:ByteArray:=⟨#[97]⟩
def bB:ByteArray:=⟨#[98]⟩
def bC:ByteArray:=⟨#[99]⟩
def qhq:List qj:= [⟨bE,[bA,bB]⟩,⟨bE,[bB,bC]⟩,⟨bE,[bC,bA]⟩]
theorem qoq:qc6 okF qhq=qhq:=wD
theorem q5z:qds qho=0:=wD
theorem q50:qu qho= [bX,bZ,bY]:=wD
theorem q7y:(qex qho.body qho.body.length).length=2:=wD
theorem qyd:qd0 (qcx qho.body (fun _=>qhq) qhq) qho= [⟨[bA,bC],[bA,bC,bB]⟩,⟨[bB,bA],[bB,bA,bC]⟩,⟨[bC,bB],[bC,bB,bA]⟩]:=wD
end Go.Proofs
namespace Go.Proofs
open Go.RowKit Go.Ink Go.Flt R4 P16
attribute [local go_sem] Oper.semAt_some
def q89 (n0:Nat)(g:Gh)(w:World)(S nb:Nat)(l:List qac)(k:Nat)(γ:Gh)(X:World):Prop:=
 ∃(vl:Value) (qs:List MQ),X.heap[nb]?=some (.cells #[vl] 49 (0,0))/\γ.free nb/\MqsAt (fun b=>γ.free b/\S<=b) X vl qs/\qs.map (·.1)=l.take k/\GWay n0 g w γ X
def GaI (n0:Nat)(g:Gh)(w:World)(N:Nat)(lim:Int)(l:List qac)(k:Nat)(γ:Gh)(X:World):Prop:=
 (0<=lim->(k:Int)<=lim)/\X.heap[N]?=some (.cells #[.int .i64 lim] 3 (0,0))/\γ.free N/\q89 n0 g w (N+4) (N+1) l k γ X
def GaX (n0:Nat)(g:Gh)(w:World)(N:Nat)(lim:Int)(l:List qac)(c:Code)(k:Nat)(γ:Gh)(X:World):Prop:=
 c=.exit 0/\lim=(k:Int)/\X.heap[N]?=some (.cells #[.int .i64 lim] 3 (0,0))/\γ.free N/\q89 n0 g w (N+4) (N+1) l k γ X
def qjf (lim:Int)(n:Nat):Nat:=if lim<0 then n else min lim.toNat n
theorem qun {n0:Nat}{Ss:List Nat}{g:Gh}{w:World}(hg:GInv g w)(hs:qfr Ss g)(dr:n0<=w.heap.size){gf:Nat}{lb:Array Value}(eg: ∀args w,(callFunc gf args).run prog w=.ok (.enter gf args) w){all:Gh->List Asg}{r:RuleD}{V:World->Prop}{U:Nat->Prop}
  (bO:qtr prog gf lb (qb7 n0 Ss) (fun γ=>(all γ).length) (fun γ0 k γ n X args=> ∃b,(all γ0)[k]?=some b/\qml r (qu r) b γ n X args) V U) (hU: ∀b,U b->g.free b) (hV: ∀X,Keep (fun b=>b<w.heap.size) w X->V X) (a4: ∀X Y,V X->Keep (fun b=>b<w.heap.size) X Y->V Y) (cV:(all g).length<=67108864) (cx:r.head.args.length<=1073741824/\(qu r).length<=1073741824) (d:Int):
  Calls prog 17 #[.func (.func gf) #[] lb,.int .i64 d] w fun e w'=> ∃g' v qs,e=.returned v/\GStep n0 g w g' w'/\g'.st=g.st/\MqsAt (fun b=>g'.free b/\w.heap.size<=b) w' v qs/\qs.map (·.1)=qd3 (((all g).map (qbl r)).take (qjf d (all g).length)):=by
 obtain⟨N,hN⟩:=ex (w.heap.size);obtain⟨W0,aA⟩:=ex ((w.alloc (.cells #[.int .i64 d] 3)).alloc (.cells #[.slice none 0 0] 49));have k0:wE w W0:=by rw [←aA];exact kAl.trans kAl
 have z0:W0.heap.size=N+2:=by rw [←aA,←hN];simp
 have p0:W0.heap[N]?=some (.cells #[.int .i64 d] 3 (0,0)):=by rw [←aA,←hN];exact(Keep.alloc (fun _=>True) _ _).heap (qh w _) trivial
 have p1:W0.heap[N+1]?=some (.cells #[.slice none 0 0] 49 (0,0)):=by
  rw [←aA,←hN];have:=qh (w.alloc (.cells #[.int .i64 d] 3)) (.cells #[.slice none 0 0] 49);rw [zO]at this;exact this
 have bM:=hg.keep k0.mt;have bH:=hV W0 k0.mt;have a6: ∀u,(binOp BinOp.eql 47 (.func (.func gf) #[] lb) .nilFunc).run prog u=.ok (.bool false) u:=fun u=>wB
 have hE: ∀(D:Nat) (γ:Gh) (W:World) (k:Nat) (vl:Value) (qs:List MQ),k<=(all g).length->D=N+2->γ.free D->W.heap[D]?=some (.deferred (some []))->W.heap[N+1]?=some (.cells #[vl] 49 (0,0))->γ.free (N+1)->MqsAt (fun b=>γ.free b/\N+4<=b) W vl qs->qs.map (·.1)=((all g).map (qbl r)).take k->GWay n0 g w γ W->GInv γ W->qjf d (all g).length=k->
   Calls prog 69 #[vl] W fun e W'=> ∃v',e=.returned v'/\W'.heap[D]?=some (.deferred (some []))/\ ∃g' qs,GStep n0 g w g' (W'.putObj D (.deferred none))/\g'.st=g.st/\MqsAt (fun b=>g'.free b/\w.heap.size<=b) (W'.putObj D (.deferred none)) v' qs/\qs.map (·.1)=qd3 (((all g).map (qbl r)).take (qjf d (all g).length)):=by
  intro D γ W k vl qs hk hD aL aC bc aK hm ad ak hinv aj;have aQ:qs.length=k:=by
   have:=yN List.length ad;rw [zL,yC,zL]at this;omega
  have cz: ∀q,q∈qs->q.1.head.length<=1073741824/\q.1.vals.length<=1073741824:=fun q hq=>by
   have h1:q.1∈((all g).map (qbl r)).take k:=by rw [←ad];exact yL.2 ⟨q,hq,rfl⟩
   obtain⟨b,-,t⟩:=yL.1 (xj h1);rw [←t];unfold qbl;simp only [zL];exact cx
  obtain⟨ct,cu⟩:=hm.mq wA cz;refine(q0w ct cu (zG _) (zG _) wA).mono ?_;rintro e W' ⟨v',rfl,hK,os,ho,p,R⟩;have cq:=qe aC;have kD:Keep (fun b=>b<W.heap.size/\b≠D) W (W'.putObj D (.deferred none)):=(hK.mono fun b _ h=>h.1).trans (Keep.putObj _ _ _ wC);refine⟨v',rfl,hK.heap aC cq,γ,os,(ak.stay kD fun b t=>⟨wA,wA⟩).gstep (hinv.keep (kD.mono fun b t h=>⟨t,fun e=>h (e▸aL)⟩)),ak.st,?_,by rw [p,ad,aj]⟩;exact hm.perm kD (fun b t R=>⟨⟨t,wA⟩,R.1,wA⟩) (qf ho (Keep.putObj (C:=fun b=>b≠D) _ _ _ wC) (fun b t e=>by have:=(zE ho b t).1;omega)) (fun b t=>⟨qdm hinv t,wA⟩) R
 refine qub ?_ hE hg hs eg bO hU hV a4 hN aA k0 p0 p1 bM bH;clear hE hg hs eg bO hU hV a4 hN aA k0 p0 p1 bM bH;intro bn bu ci ce bv cf db an s bq cj ck cm aZ bp;refine qf5 Tryz.func17 rfl ?_;simp only [Tryz.ntmps17,qdy,Nat.reduceAdd,Nat.reduceSub];gi_wp2;rw [bq.o,s.o];refine qnd (qb7 n0 Ss) g (gf:=gf) (lb:=lb) rfl ce.o bv.o cf.o (fun γ0 k γ n X args h=>?ps) ⟨aZ.o,ci.o⟩ (fun b t=>qdm aZ.o t) bp.o (fun X Y hv hk=>an.o X Y hv (hk.mono fun b _ t=>by have:=s.o;omega))
  (GaI n0 g w N d ((all g).map (qbl r))) (GaX n0 g w N d ((all g).map (qbl r))) ?hI ?hIx ?hIs ?hIxs ?h0 ?round ?done ?stop
 case ps=>obtain⟨b,-,vh,vv,rfl,-⟩:=h;rfl
 case hI=>
  rintro k γ X Y ⟨h1,h2,h3,vl,qs,h4,h5,h6,h7,h8⟩ hK;exact⟨h1,hK.heap h2 (.inl wA),h3,vl,qs,hK.heap h4 (.inl wA),h5,h6.keep hK (fun b _ R=>⟨.inr wA,R⟩),h7,h8.stay hK (fun b t=>.inl (by have:=s.o;omega))⟩
 case hIx=>
  rintro c k γ X Y ⟨h0,h1,h2,h3,vl,qs,h4,h5,h6,h7,h8⟩ hK;exact⟨h0,h1,hK.heap h2 (.inl wA),h3,vl,qs,hK.heap h4 (.inl wA),h5,h6.keep hK (fun b _ R=>⟨.inr wA,R⟩),h7,h8.stay hK (fun b t=>.inl (by have:=s.o;omega))⟩
 case hIs=>
  rintro k γ X γ' Y ⟨h1,h2,h3,vl,qs,h4,h5,h6,h7,h8⟩ p;exact⟨h1,p.1.keep.heap h2 h3,p.1.new N (qe h2) h3,vl,qs,p.1.keep.heap h4 h5,p.1.new _ (qe h4) h5,h6.keep p.1.keep (fun b t R=>⟨R.1,p.1.new b t R.1,R.2⟩),h7,h8.step p⟩
 case hIxs=>
  rintro c k γ X γ' Y ⟨h0,h1,h2,h3,vl,qs,h4,h5,h6,h7,h8⟩ p;exact⟨h0,h1,p.1.keep.heap h2 h3,p.1.new N (qe h2) h3,vl,qs,p.1.keep.heap h4 h5,p.1.new _ (qe h4) h5,h6.keep p.1.keep (fun b t R=>⟨R.1,p.1.new b t R.1,R.2⟩),h7,h8.step p⟩
 case h0=>exact⟨fun h=>by simpa using h,ck.o,qdm bu.o (by have:=s.o;omega),.slice none 0 0,[],cm.o,qdm bu.o (by have:=s.o;omega),q8r _,rfl,GWay.refl cj.o⟩
 case stop=>
  rintro D c k γ W hD aL aC cy hk ⟨rfl,h1,h2,h3,vl,qs,h4,h5,h6,h7,h8⟩ z ba;have aP:qjf d (all g).length=k:=by unfold qjf;rw [zF wA];omega
  have ai:=bn.o D γ W k vl qs wA (by have:=hD;omega) aL aC h4 h5 h6 h7 h8 z.1 aP;have e0:=qb h4 0 _ rfl;have f0:=qe h4;simp only [zD]at e0;clear h1 h2 h4 h6 h7 h8 z ba aP;refine hd1 ?_ ai;clear ai;intro ap;gi_wp2;refine⟨wF,rfl,(zU.2 ap.o).mono ?_⟩;rintro e W9 ⟨v9,rfl,ag,h9⟩;refine hd2 ?_ ag h9;clear ag h9;intro ao a8;gi_wp2;obtain⟨g9,q9,h9⟩:=a8.o;refine qhp ao.o (qcn (xm rfl _ _ _) ⟨g9,v9,q9,rfl,h9⟩)
 case round=>
  rintro l k γ X0 X args dm dq bL hk ⟨bP,bG,a9,vl,qs,bc,aK,bS,ad,ak⟩ bV aO bI ds ⟨b,bK,vh,vv,rfl,aD,aE,bd,bf,hd⟩;obtain⟨ah,ch,rfl⟩:=qi aD;obtain⟨av,cv,rfl⟩:=qi aE;obtain⟨X1,aJ⟩:=ex (X.alloc (.cells #[.slice ah r.head.args.length ch,.slice av (qu r).length cv] 122));obtain⟨nm,aX⟩:=ex (X.heap.size);have kx:wE X X1:=by rw [←aJ];exact kAl
  have px:X1.heap[nm]?=some (.cells #[.slice ah r.head.args.length ch,.slice av (qu r).length cv] 122 (0,0)):=by rw [←aJ,←aX];exact qh _ _
  have zx:X1.heap.size=nm+1:=by rw [←aJ,←aX];simp
  refine qk2 ?_ bP bG bc bS ak bV aO bI bL aJ aX kx px bK;clear bP bG bc bS ak bV aO bI bL aJ aX kx px bK;intro bw bo bt a1 aG y ab aY aF br a2 aH cn bs;gi_wp2;rw [br.o,a2.o];refine⟨aH.o.mt,fun Y hY bJ dn=>?_⟩;have bQ:l=N+3:=by have:=aF.o.2.2;omega
  have cG:=(y.o.1.keep).size;have zX:=aH.o.size;have zY:=hY.size;have bU:=a2.o;have am:Keep (fun b=>b≠l) X Y:=aH.o.mt.trans hY;have aN:=hY.heap (aH.o.heap (y.o.1.keep.heap bo.o a9) wF) (show N≠l from wA);have aB:=hY.heap (aH.o.heap (y.o.1.keep.heap bt.o aK) wF) (show N+1≠l from wA);have aM:=hY.heap cn.o (show nm≠l from wA);have c0:=qb aN 0 _ rfl;have c1:=qb aB 0 _ rfl;have c2:=qb aM 0 _ rfl;have c3:=qb aM 1 _ rfl;have l0:=qe aN;have l1:=qe aB;have l2:=qe aM;simp only [zD]at c0 c1 c2 c3;have aQ:qs.length=k:=by
   have:=yN List.length ad;rw [zL,yC,zL]at this;omega
  have bR:MqsAt (fun b=>γ.free b/\N+4<=b) X vl qs:=a1.o.keep y.o.1.keep (fun b t R=>⟨R.1,y.o.1.new b t R.1,R.2⟩);have aW:MqsAt (fun b=>γ.free b/\N+4<=b) Y vl qs:=bR.keep am (fun b t R=>⟨wA,R⟩);have ar:=aW.blk;have o1:=qf aD am (fun b t e=>by have:=(zE aD b t).1;omega);have o2:=qf aE am (fun b t e=>by have:=(zE aE b t).1;omega);obtain⟨b0,aU⟩:=ex (qbl r b);have hh:b0.head=r.head.args.map (qa2 b):=by rw [←aU];rfl
  have hv:b0.vals=(qu r).map fun x=>(b x).getD ⟨#[]⟩:=by rw [←aU];rfl
  have a5: ∀u,X.heap.size<=u->γ.free u:=fun u hu=>qdm ab.o.1 hu;obtain⟨al,cl,gb,cap,Y3,cA,bh,bg,aV⟩:=aW.snoc (m:=b0) (vh:=.slice ah r.head.args.length ch) (vv:=.slice av (qu r).length cv) (n:=X0.heap.size) (by rw [hh,zL];exact o1) (by rw [hv,zL];exact o2)
   (fun u hu=>⟨bd u hu,by have:=(zE aD u hu).1;omega⟩) (fun u hu=>⟨bf u hu,by have:=(zE aE u hu).1;omega⟩) hd a1.o.lt wA (fun u hu=>⟨a5 u wA,wA⟩)
  subst cA;rw [aQ]at c1 aB bh bg;have aI:=aV.heap aB (fun e=>by have:=(ar (N+1) e).2;omega);have c4:=qb aI 0 _ rfl;have f4:=qg aI 0;have l4:=qe aI;simp only [zD]at c4;have bN:(0<=d->((k+1:Nat):Int)<=d)->qfl (qb7 n0 Ss) W0.heap.size l X.heap.size V γ Y (Y3.setCell ⟨N+1,0,none⟩ (.slice (some ⟨gb,0,none⟩) (k+1) cap)) (fun γ'=>GaI n0 g w N d ((all g).map (qbl r)) (k+1) γ' (Y3.setCell ⟨N+1,0,none⟩ (.slice (some ⟨gb,0,none⟩) (k+1) cap))):=fun aj=>by
   have e3:((all g).map (qbl r)).take (k+1)=(qs++ [(b0,Value.slice ah r.head.args.length ch,Value.slice av (qu r).length cv)]).map (·.1):=by
    rw [zn,ad,zh,zP,bs.o,←aU];rfl
   have cD:=aV.heap aN (fun e=>by have:=(ar N e).2;omega);have kZ:Keep (fun b=>b≠N+1) Y3 (Y3.setCell ⟨N+1,0,none⟩ (.slice (some ⟨gb,0,none⟩) (k+1) cap)):=kSc;have b1:Keep (fun b=>b≠N+1/\(Value.slice al qs.length cl).ownBlock≠some b) Y (Y3.setCell ⟨N+1,0,none⟩ (.slice (some ⟨gb,0,none⟩) (k+1) cap)):=(aV.mono fun b _ h=>h.2).trans (kZ.mono fun b _ h=>h.1);have bj:Keep (fun b=>b≠l/\b≠N+1/\(Value.slice al qs.length cl).ownBlock≠some b) X (Y3.setCell ⟨N+1,0,none⟩ (.slice (some ⟨gb,0,none⟩) (k+1) cap)):=(am.mono fun b _ h=>h.1).trans (b1.mono fun b _ h=>h.2);refine⟨γ,(qb7 n0 Ss).invk ab.o (bj.mono fun b _ h=>⟨fun e=>h (e▸aF.o.1),fun e=>h (e▸aK),fun e=>h (ar b e).1⟩),an.o _ _ aY.o (bj.mono fun b _ h=>⟨by have:=s.o;omega,by have:=s.o;omega,fun e=>by have:=(ar b e).2;have:=s.o;omega⟩),GBd.refl _ _,b1.mono fun b _ h=>⟨wA,fun e=>by have:=(ar b e).2;omega⟩,aj,kZ.heap cD (show N≠N+1 from wA),a9,_,_,qgi _ aI,aK,bg.keep kZ (fun b _ R=>⟨wA,R⟩),e3.symm,?_⟩;exact((aG.o.step y.o).stay bj fun b t=>⟨by have:=s.o;omega,by have:=s.o;omega,fun e=>by have:=(ar b e).2;have:=s.o;omega⟩)
  have aR: ∀q:Int,q=(k:Int)->d=q->qfl (qb7 n0 Ss) W0.heap.size l X.heap.size V γ Y Y (fun γ'=>GaX n0 g w N d ((all g).map (qbl r)) (.exit 0) k γ' Y):=fun q hq aj=>by
   refine⟨γ,(qb7 n0 Ss).invk ab.o (am.mono fun b _ h e=>h (e▸aF.o.1)),an.o _ _ aY.o (am.mono fun b _ h=>by have:=s.o;omega),GBd.refl _ _,Keep.refl _ _,rfl,aj.trans hq,aN,a9,_,qs,(by rw [aQ];exact aB),aK,aW,ad,(aG.o.step y.o).stay am fun b t=>by have:=s.o;omega⟩
  clear aN aB aM aI bR aW ar o1 o2 hh hv a5 bg aV am aU;have bi:(d=(k:Int))∨((k:Int)<d)∨d<0:=by
   have:=bw.o;omega
  have dp:(0:Int)<=k:=wA
  refine qby ?_ hY bN aR bh ad bd bf hd aD aE a6 zx bJ z0 aQ bQ;clear hY bN aR bh ad bd bf hd aD aE a6 zx bJ z0 aQ bQ;intro dc a0 aS a3 cO cI cJ dd cL cM cg df cH de cN cK;clear cG zX zY bU;rcases bi with h3 |h3 |h3
  ·have h4:(0:Int)<=d:=by omega
   have bW:=aS.o _ rfl h3;have h5:((k:Int)==d)=true:=xC.2 h3.symm;refine hd2 ?_ h3 bW;clear h3 bW;intro da bx;gi_wp2;exact bx.o
  ·have h4:(0:Int)<=d:=by omega
   have h5: ¬(k:Int)=d:=wA
   gi_wp2_with (gi_at_builtin;refine qcd rfl _ _ _ rfl rfl rfl a3.o ?_)
   exact a0.o (fun _=>wA)
  ·have h4: ¬(0:Int)<=d:=by omega
   gi_wp2_with (gi_at_builtin;refine qcd rfl _ _ _ rfl rfl rfl a3.o ?_)
   exact a0.o (fun _=>wA)
 case done=>
  rintro D γ W hD aL aC cy ⟨h1,h2,h3,vl,qs,h4,h5,h6,h7,h8⟩ z ba;have aP:qjf d (all g).length=(all g).length:=by
   unfold qjf;split
   ·rfl
   ·have:=h1 wA;omega
  have ai:=bn.o D γ W _ vl qs (zG _) (by have:=hD;omega) aL aC h4 h5 h6 h7 h8 z.1 aP;have e0:=qb h4 0 _ rfl;have f0:=qe h4;simp only [zD]at e0;clear h1 h2 h4 h6 h7 h8 z ba aP;refine hd1 ?_ ai;clear ai;intro ap;gi_wp2;refine⟨wF,rfl,(zU.2 ap.o).mono ?_⟩;rintro e W9 ⟨v9,rfl,ag,h9⟩;refine hd2 ?_ ag h9;clear ag h9;intro ao a8;gi_wp2;obtain⟨g9,q9,h9⟩:=a8.o;refine qhp ao.o (qcn (xm rfl _ _ _) ⟨g9,v9,q9,rfl,h9⟩)
theorem qmo {n0:Nat}{Ss:List Nat}{g:Gh}{w:World}(hg:GInv g w)(hs:qfr Ss g)(l:n0<=w.heap.size){J:Nat}{r:RuleD}(m:qc1 r)(u:JoinIs g w J r){s sN:Option Nat}(y: ∀S,s=some S->S∈Ss)(x: ∀S,sN=some S->S∈Ss){Bj q p:Nat}
  (z:w.heap[Bj]?=some (.cells #[qk J] 35 (0,0))) (R:w.heap[q]?=some (.cells #[qa1 s] 42 (0,0))) (b3:w.heap[p]?=some (.cells #[qa1 sN] 42 (0,0))) (f1:g.free Bj) (f2:g.free q) (f3:g.free p) (h:(qix g s sN r (-1)).length<=67108864) (d:Int):
  Calls prog 17 #[.func (.func 65) #[] #[qk Bj,qk q,qk p],.int .i64 d] w fun e w'=> ∃g' v qs,e=.returned v/\GStep n0 g w g' w'/\g'.st=g.st/\MqsAt (fun b=>g'.free b/\w.heap.size<=b) w' v qs/\qs.map (·.1)=qd3 (((qix g s sN r (-1)).map (qbl r)).take (qjf d (qix g s sN r (-1)).length)):=by
 obtain⟨ai,vb,vv,va,vt,vh,u⟩:=u;exact qun (all:=fun γ=>qix γ s sN r (-1)) (V:=EachV (fun b=>b<w.heap.size/\g.free b) w.heap.size n0 w) (U:=fun b=>b<w.heap.size/\g.free b) hg hs l (qd6 Tryz.func65 wB rfl)
  (q19 m u (fun b c=>c.1) y x ⟨qe z,f1⟩ z ⟨qe R,f2⟩ R ⟨qe b3,f3⟩ b3) (fun b c=>c.2) (fun X t=>⟨fun b c=>t.block b c.1 c.1,t.size,zW l t.size⟩) (fun X Y hV hK=>hV.keep (fun b c=>c.1) hK (fun b c=>c.1)) h ⟨by have:=qjv m.formed;omega,by have:=qiq m.formed r.body.length (zG _);rw [qhi m.formed] at this;have:=qgw m.formed;omega⟩ d
theorem q7z (n:Nat):qjf (-1) n=n:=by unfold qjf;rw [zI wA]
theorem qnl {n0:Nat}{Ss:List Nat}{g:Gh}{w:World}(q:GInv g w)(hs:qfr Ss g)(l:n0<=w.heap.size){J:Nat}{r:RuleD}(t:qc1 r)(hj:JoinIs g w J r){s sN:Option Nat}(p: ∀S,s=some S->S∈Ss)(m: ∀S,sN=some S->S∈Ss){Bj h d:Nat}
  (u:w.heap[Bj]?=some (.cells #[qk J] 35 (0,0))) (x:w.heap[h]?=some (.cells #[qa1 s] 42 (0,0))) (y:w.heap[d]?=some (.cells #[qa1 sN] 42 (0,0))) (z:g.free Bj) (R:g.free h) (U:g.free d) (c:(qix g s sN r (-1)).length<=67108864):
  Calls prog 17 #[.func (.func 65) #[] #[qk Bj,qk h,qk d],.int .i64 (-1)] w fun e w'=> ∃g' v qs,e=.returned v/\GStep n0 g w g' w'/\g'.st=g.st/\MqsAt (fun b=>g'.free b/\w.heap.size<=b) w' v qs/\qs.map (·.1)=qd0 (qi5 g s sN r.body) r:=by
 refine(qmo q hs l t hj p m u x y z R U c (-1)).mono ?_;rintro e w' ⟨g',v,qs,Y,h2,h3,h4,h5⟩;refine⟨g',v,qs,Y,h2,h3,h4,?_⟩;rw [h5,q7z,←qrn q s sN t,←zL (f:=qbl r),zi]
def gh0:Gh:=⟨fun _=>none,fun _=>none,fun _=>none⟩
theorem qoe (w:World):GInv gh0 w:=⟨fun S c h=>(by cases h),fun b S T h=>(by cases h),fun b T h=>(by cases h),fun b o h=>(by cases h),fun b o h=>(by cases h),fun b S R U h=>(by cases h)⟩
theorem qiw (b:Nat):gh0.free b:=⟨rfl,rfl⟩
theorem q70 {g:Gh}{S:Nat}{fs:List qj}(h:g.st S=some (qc6 okF fs)):qfr [S] g:=fun S' b=>by
 rw [zm.1 b];exact⟨_,h,qpq fs⟩
theorem qof {n0:Nat}{g:Gh}{X Y:World}(h:GStep n0 gh0 X g Y):wE X Y:=h.keep.mono fun b _ _=>qiw b
theorem qjs {w:World}{n B t:Nat}{xs:List ByteArray}(h:w.heap[B]?=some (.cells (xs.map Value.string).toArray t (0,0)))(c:B<n)(b:xs.length<=1073741824):qaf n w (.slice (some ⟨B,0,none⟩) xs.length xs.length) xs:=qb4 (qmf h b) c
theorem qnm (w:World):Calls prog 8 #[] w fun e w'=>e=.returned (.bool true)/\Keep (fun b=>b<w.heap.size) w w':=by
 obtain⟨N,hN⟩:=ex (w.heap.size);obtain⟨W0,d⟩:=ex ((((w.alloc (.cells #[.string ⟨#[97]⟩,.string ⟨#[98]⟩] 9)).alloc (.cells #[.string ⟨#[98]⟩,.string ⟨#[99]⟩] 9)).alloc (.cells #[.string ⟨#[99]⟩,.string ⟨#[97]⟩] 9)).alloc (.cells #[.string ⟨#[101]⟩,.slice (some ⟨w.heap.size,0,none⟩) 2 2,.string ⟨#[101]⟩,.slice (some ⟨w.heap.size+1,0,none⟩) 2 2,.string ⟨#[101]⟩,.slice (some ⟨w.heap.size+2,0,none⟩) 2 2] 86));have k0:wE w W0:=by rw [←d];exact((kAl.trans kAl).trans kAl).trans kAl
 have z0:W0.heap.size=N+4:=by rw [←d,←hN];simp
 have p0:W0.heap[N]?=some (.cells ([bA,bB].map Value.string).toArray 9 (0,0)):=by rw [←d,←hN];exact(((Keep.alloc (fun _=>True) _ _).trans kAl).trans kAl).heap (qh w _) trivial
 have p1:W0.heap[N+1]?=some (.cells ([bB,bC].map Value.string).toArray 9 (0,0)):=by
  rw [←d,←hN];have:=qh (w.alloc (.cells #[.string ⟨#[97]⟩,.string ⟨#[98]⟩] 9)) (.cells #[.string ⟨#[98]⟩,.string ⟨#[99]⟩] 9);rw [zO]at this;exact((Keep.alloc (fun _=>True) _ _).trans kAl).heap this trivial
 have p2:W0.heap[N+2]?=some (.cells ([bC,bA].map Value.string).toArray 9 (0,0)):=by
  rw [←d,←hN];have:=qh ((w.alloc (.cells #[.string ⟨#[97]⟩,.string ⟨#[98]⟩] 9)).alloc (.cells #[.string ⟨#[98]⟩,.string ⟨#[99]⟩] 9)) (.cells #[.string ⟨#[99]⟩,.string ⟨#[97]⟩] 9);rw [zO,zO]at this;exact(Keep.alloc (fun _=>True) _ _).heap this trivial
 have p3:W0.heap[N+3]?=some (.cells #[.string ⟨#[101]⟩,.slice (some ⟨N,0,none⟩) 2 2,.string ⟨#[101]⟩,.slice (some ⟨N+1,0,none⟩) 2 2,.string ⟨#[101]⟩,.slice (some ⟨N+2,0,none⟩) 2 2] 86 (0,0)):=by
  rw [←d,←hN];have:=qh (((w.alloc (.cells #[.string ⟨#[97]⟩,.string ⟨#[98]⟩] 9)).alloc (.cells #[.string ⟨#[98]⟩,.string ⟨#[99]⟩] 9)).alloc (.cells #[.string ⟨#[99]⟩,.string ⟨#[97]⟩] 9)) (.cells #[.string ⟨#[101]⟩,.slice (some ⟨w.heap.size,0,none⟩) 2 2,.string ⟨#[101]⟩,.slice (some ⟨w.heap.size+1,0,none⟩) 2 2,.string ⟨#[101]⟩,.slice (some ⟨w.heap.size+2,0,none⟩) 2 2] 86);rw [zO,zO,zO]at this;exact this
 have hF:FactsIn (N+4) W0 (.slice (some ⟨N+3,0,none⟩) 3 3) qhq:=by
  refine⟨_,3,rfl,wD,⟨wD,wD⟩,fun k f hk=>⟨N+3,0,rfl,wA,?_⟩⟩
  match k,hk with
  |0,hk=>
   cases hk;refine⟨.slice (some ⟨N,0,none⟩) 2 2,fun j v c=>?_,qjs p0 wA wD⟩
   match j,c with
   |0,c=>cases c;exact qb p3 0 _ rfl
   |1,c=>cases c;exact qb p3 1 _ rfl
  |1,hk=>
   cases hk;refine⟨.slice (some ⟨N+1,0,none⟩) 2 2,fun j v c=>?_,qjs p1 wA wD⟩
   match j,c with
   |0,c=>cases c;exact qb p3 2 _ rfl
   |1,c=>cases c;exact qb p3 3 _ rfl
  |2,hk=>
   cases hk;refine⟨.slice (some ⟨N+2,0,none⟩) 2 2,fun j v c=>?_,qjs p2 wA wD⟩
   match j,c with
   |0,c=>cases c;exact qb p3 4 _ rfl
   |1,c=>cases c;exact qb p3 5 _ rfl
 have aH:=qkb (n0:=W0.heap.size) (qoe W0) hF wA (fun b _=>qiw b) wD wD;rw [qoq]at aH;refine hd9 ?_ hN d k0 p0 p1 p2 p3 hF aH;clear hN d k0 p0 p1 p2 p3 hF aH;intro bJ aU bb cR cS cT cU cE a6
 go_enter Tryz.func8,Tryz.ntmps8
 go_wp2_with fail;rw [aU.o,bJ.o];refine a6.o.mono ?_;rintro e W1 ⟨S,g1,rfl,aF,Y,-,hS⟩;have h1:=qof aF;have bj:g1.st S=some qhq:=by rw [Y];unfold Gh.with;simp
 refine hd4 ?_ aF h1 Y bj;clear aF h1 Y bj;intro ak aT bK p;go_wp2_with fail;refine(q8q W1).mono ?_;rintro e W2 ⟨vh,vb,rfl,hR,k2⟩;have aA:=qkt hR (zG _);have i1:=ak.o.inv;have s2:=GStep.below (n0:=0) i1 k2;unfold qaq at aA⊢;refine hd5 ?_ hR k2 aA i1 s2;clear hR k2 aA i1 s2;intro cF bc aZ cH bP;go_wp2_with fail;refine aZ.o.mono ?_;rintro e W3 ⟨k3,⟨h0,-⟩ |⟨br,J,de,dc,vv,va,vt,df,rfl,c⟩⟩
 ·exact absurd q5z h0
 have i2:=bP.o.inv;have s3:=GStep.below (n0:=0) i2 k3;have bm:=qqh i2 c;have ad:=qia J (some S) (some S) W3;have cx:=k3.size;unfold qa1 at ad;simp only [Option.map_some]at ad;clear c;refine hd6 ?_ br k3 i2 s3 bm ad;clear br k3 i2 s3 bm ad;intro aj bL cI bh a4 a0;go_wp2_with fail;refine a0.o.mono ?_;rintro e W4 ⟨rfl,b1,b2,b3,z4,k4⟩;have s4:=GStep.own (n0:=0) bh.o.inv k4;have R:=a4.o.step s4;have i4:=s4.inv;have y: ∀b,W3.heap.size<=b->g1.free b:=fun b hb=>qdm bh.o.inv hb;have aB:=qnl (n0:=0) (Ss:= [S]) i4 (q70 (fs:=qhq) (by rw [qoq];exact p.o)) (ya _) aj.o R (s:=some S) (sN:=some S) (fun S' h=>by cases h;exact zm.2 rfl) (fun S' h=>by cases h;exact zm.2 rfl) b1 (by unfold qa1;exact b2) (by unfold qa1;exact b3) (y _ (zG _)) (y _ wA) (y _ wA) (by
  rw [qyc i4 _ _ aj.o];have:=yN List.length (show qd0 (qi5 g1 (some S) (some S) qho.body) qho=_ from(by unfold qi5 qd1;simp only [p.o,Option.getD_some];exact qyd));unfold qd0 at this;rw [qg0,zL]at this;rw [this];decide)
 have aE:qd0 (qi5 g1 (some S) (some S) qho.body) qho= [⟨[bA,bC],[bA,bC,bB]⟩,⟨[bB,bA],[bB,bA,bC]⟩,⟨[bC,bB],[bC,bB,bA]⟩]:=by
  unfold qi5 qd1;simp only [p.o,Option.getD_some];exact qyd
 rw [aE]at aB;clear b1 b2 b3;refine hd8 ?_ k4 s4 R i4 y aB aE z4;clear k4 s4 R i4 y aB aE z4;intro bM cV ap cJ cm a1 cn cW;go_wp2_with fail;refine a1.o.mono ?_;rintro e W5 ⟨g5,v5,qs,rfl,s5,am,bn,af⟩;have bq:qs.length=3:=by have:=yN List.length af;simpa using this
 obtain⟨q0,ae⟩: ∃q0,qs[0]?=some q0:=⟨_,zB wA⟩;have al:q0.1=⟨[bA,bC],[bA,bC,bB]⟩:=by
  have:=yN (fun l=>l[0]?) af;simp only [zP,ae]at this
  simpa using this
 have bs: ∀m:qac,m∈qs.map (·.1)->m.head.length<=1073741824/\m.vals.length<=1073741824:=by
  rw [af]
  decide
 obtain⟨bW,bo⟩:=bn.mq wA (fun q hq=>bs _ (yL.2 ⟨q,hq,rfl⟩));have bp:=bo q0 (zH ae);obtain⟨c3,c6,rfl,-,-,bk⟩:=bW;obtain⟨b,o,rfl,bV,az⟩:=bk 0 q0 ae;have c0:=az 0 _ rfl;have c1:=az 1 _ rfl;simp only [Nat.zero_mul,Nat.add_zero]at c0 c1;obtain⟨m0,dd,dg⟩:=q0;simp only at c0 c1 al;subst al;obtain⟨ab,ag⟩:=bp;simp only at ab ag;obtain⟨c2,c5,rfl,-,-,-⟩:=id ab;obtain⟨c4,c7,rfl,-,-,-⟩:=id ag;have bS:g5.st S=some qhq:=by rw [am];exact p.o
 have U:=qm6 (s5.inv.store S qhq bS);rw [show(qhq.length:Int)=3 from rfl]at U;have bl:=ap.o.step s5;rw [bq];clear bk az ae bo bn af bq am bs;refine hd7 ?_ ab ag U bl s5 c0 c1;clear ab ag U bl s5 c0 c1;intro aY ba aq a2 bi bG bH;go_wp2_with fail;refine(qyt _ _).mono ?_;rintro e w9 ⟨rfl,g⟩;have g:=g.symm;subst g;go_wp2_with fail;refine aq.o.mono ?_;rintro e W6 ⟨rfl,k6⟩;have d0:=k6.cell bG.o trivial;have c9:b<W6.heap.size:=zk bV k6.size;obtain⟨W7,t⟩:=ex (W6.alloc (.cells #[.string ⟨#[97]⟩,.string ⟨#[99]⟩] 9));have k7:wE W6 W7:=by rw [←t];exact kAl
 have n7:W7.heap[W6.heap.size]?=some (.cells ([bA,bC].map Value.string).toArray 9 (0,0)):=by rw [←t];exact qh _ _
 have z7:W7.heap.size=W6.heap.size+1:=by rw [←t];simp
 have aI:=qe2 W7.heap.size _ _ _ _ W7 (qb4 (qm8 aY.o ((k6.trans k7).mt)) (by have:=k6.size;omega)) (qjs n7 wA wD) (zG _);rw [zS (rfl: [bA,bC]= [bA,bC])]at aI;refine hd6 ?_ k6 k7 n7 z7 t aI;clear k6 k7 n7 z7 t aI;intro bf au cO cX aV a7;go_wp2_with fail;rw [aV.o];refine a7.o.mono ?_;rintro e W8 ⟨rfl,m8,aw⟩;have k8:wE W7 W8:=by rw [aw];exact Keep.drewN' _ _ _
 have e1:=k8.cell (au.o.cell (bf.o.cell bH.o wF) wF) trivial;have da:b<W8.heap.size:=by have:=au.o.size;have:=k8.size;omega
 obtain⟨W9,u⟩:=ex (W8.alloc (.cells #[.string ⟨#[97]⟩,.string ⟨#[99]⟩,.string ⟨#[98]⟩] 9));have k9:wE W8 W9:=by rw [←u];exact kAl
 have n9:W9.heap[W8.heap.size]?=some (.cells ([bA,bC,bB].map Value.string).toArray 9 (0,0)):=by rw [←u];exact qh _ _
 have z9:W9.heap.size=W8.heap.size+1:=by rw [←u];simp
 have ah:=((bf.o.trans au.o).trans k8).trans k9;have aJ:=qe2 W9.heap.size _ _ _ _ W9 (qb4 (qm8 ba.o ah.mt) (by have:=ah.size;omega)) (qjs n9 wA wD) (zG _);rw [zS (rfl: [bA,bC,bB]= [bA,bC,bB])]at aJ;refine hd8 ?_ aw k8 k9 n9 z9 u aJ ah;clear aw k8 k9 n9 z9 u aJ ah;intro cj cK cL cP cY aW a8 bg;go_wp2_with fail;rw [aW.o];refine a8.o.mono ?_;rintro e WA ⟨rfl,mA,ax⟩;have kA:wE W9 WA:=by rw [ax];exact Keep.drewN' _ _ _
 have aL:=bg.o.trans kA;have z:JoinIs g5 WA J qho:=a2.o.step (GStep.own (n0:=0) bi.o.inv aL);obtain⟨ja,jb,jv,jq,jt,jh,z⟩:=z;have aa:=qua z (zG _);rw [q50]at aa;refine hd5 ?_ ax kA aL z aa;clear ax kA aL z aa;intro ck cM bd a3 ar;go_wp2_with fail;refine ar.o.mono ?_;rintro e WB ⟨vo,rfl,ho,kB⟩;obtain⟨ao,co,rfl⟩:=qi ho;have aG:=qbj (ss:= [bX,bZ,bY]) ho wD;obtain⟨WC,x⟩:=ex (WB.alloc (.cells #[.string ⟨#[88]⟩,.string ⟨#[90]⟩,.string ⟨#[89]⟩] 9));have kC:wE WB WC:=by rw [←x];exact kAl
 have nC:WC.heap[WB.heap.size]?=some (.cells ([bX,bZ,bY].map Value.string).toArray 9 (0,0)):=by rw [←x];exact qh _ _
 have zC:WC.heap.size=WB.heap.size+1:=by rw [←x];simp
 have aK:=qe2 WC.heap.size _ _ _ _ WC (qb4 (qm8 aG kC.mt) wA) (qjs nC wA wD) (zG _);rw [zS (rfl: [bX,bZ,bY]= [bX,bZ,bY])]at aK;refine hd8 ?_ ho kB aG x kC nC zC aK;clear ho kB aG x kC nC zC aK;intro cG bN cp aX bO cQ cZ a9;go_wp2_with fail;rw [aX.o];refine a9.o.mono ?_;rintro e WD ⟨rfl,mD,ay⟩;have kD:wE WC WD:=by rw [ay];exact Keep.drewN' _ _ _
 have ai:=(bN.o.trans bO.o).trans kD;have aD:=qwu (a3.o.keep ai (fun _ _=>wF) (fun b hb=>hb.1));rw [q7y]at aD;have hE:Keep (fun b=>b<w.heap.size) w WD:=by
  have q0:=bb.o.size;have q1:=aT.o.size;have q2:=bc.o.size;exact bb.o.mt.trans (aT.o.mt.trans ((bc.o.mono fun b _ h=>wA).trans ((bL.o.mono fun b _ h=>wA).trans (bM.o.mt.trans ((bi.o.keep.mono fun b _ h=>ak.o.new b wA (qiw b)).trans ((bd.o.trans ai).mt))))))
 refine hd5 ?_ ay kD ai aD hE;clear ay kD ai aD hE;intro cl cN cq a5 bI;go_wp2_with fail;refine a5.o.mono ?_;rintro e w9 ⟨rfl,g⟩;have g:=g.symm;subst g;go_wp2_with fail;go_ret;exact⟨rfl,bI.o⟩
end Go.Proofs
namespace Go.Ink
open Go.RowKit
section
variable {F : Fence} {n : Nat} {P : Program} {ops : Array Oper} {Q : Exit -> Act -> World -> Prop} {md : Region.Mode} {S S' : World -> Prop} {late : List Nat}
end
end Go.Ink
namespace Go.Proofs
open Go.RowKit Go.Ink Go.Flt R4 P16
theorem qsg {w:World}{base:Nat}{e:TypeId}{sz n:Nat}{v:Value}{xs:List Value}(h:w.ownsRow base e sz v n xs)(d:0<n): ∃g cap,v=.slice (some ⟨g,0,none⟩) n cap/\base<=g/\g<w.heap.size/\n<=cap/\cap<=maxLen/\
  (∀j u,xs[j]?=some u->w.cell? ⟨g,j,none⟩=some u)/\ ∀j,w.frozen? ⟨g,j,none⟩=false:=by
 rcases h.2 with ⟨h1,h2⟩ |⟨g,cap,cur,h1,hb,hg,hnc,hcm,hcs,ht⟩
 ·omega
 ·refine⟨g,cap,h1,hb,qe hg,hnc,hcm,fun j u b=>?_,fun j=>qg hg j⟩;have c:cur.toList[j]?=some u:=by
   rw [←ht,getElem?_take]at b;split at b
   ·exact b
   ·cases b
  have:=qb hg j u (by simpa using c)
  simpa using this
theorem q2q {J:qa7}{r:RuleD}(c:qc1 r): ∀m,m∈qd0 J r->m.head.length<=1073741824/\m.vals.length<=1073741824:=fun m d=>by
 unfold qd0 at d;rw [qj1]at d;obtain⟨b,-,rfl⟩:=yL.1 d;unfold qbl;simp only [zL];refine⟨by have:=qjv c.formed;omega,?_⟩;have:=qiq c.formed r.body.length (zG _);rw [qhi c.formed]at this;have:=qgw c.formed;omega
theorem q71 {r:RuleD}(h:qc1 r):qds r=0:=by
 have d:S12.looseOf r=none:=by
  unfold S12.looseOf;rw [yn];intro x g;obtain⟨L,c,b,e⟩:=qyb.1 (h.bound x g);have:x∈qcf r.body:=qsf.2 ⟨L,c,b,by unfold LitD.uses LitD.terms;rw [zI (.inl b)];exact e⟩;simp [this]
 unfold qds;rw [zI h.formed,zI d]
end Go.Proofs
namespace Go.Ink
theorem qqi {l:List qac}(h:qhc l):(l.map (·.vals)).Nodup:=by
 refine pairwise_map.2 (h.imp fun {x y} hxy e=>?_);rw [e]at hxy;exact absurd hxy (by rw [qhb];decide)
section
variable {body : List LitD} {O F A N : List qj} (hA : ∀ f, f ∈ A ↔ f ∈ O ∨ f ∈ F) (hd : ∀ f, f ∈ O -> f ∉ F) {rk : Nat -> Nat} (hrk : ∀ i j, i ∈ qao body -> j ∈ qao body -> rk i = rk j -> i = j) {np : Nat} (hnp : ∀ i, i ∈ qao body -> rk i < np) (hon : ∀ k, k < np -> ∃ i, i ∈ qao body /\ rk i = k)
include hA
include hd hrk hnp
omit hA hnp in
include hon in
omit hA hnp in
include hon in
end
theorem q51 {J:qa7}{r:RuleD}(c: ∀i,(J.pos i).Nodup):((qd0 J r).map (·.vals)).Nodup:=by
 have e:(qem J r.body).Nodup:=List.Pairwise.filter _ (qkw c _ qb1 (by rw [qf8];exact qlf _ _ _ fun i hi=>(qc9 hi).2));have h:=ql2 (fun x g=>qnh g) (fun b d=>(qjl.1 d).1.2.1) e;exact(qqi (qkn h))
end Go.Ink
namespace Go.Proofs
open Go.RowKit Go.Ink Go.Flt R4 P16
theorem qz3 {body:List LitD}: ∀{i:Nat},i<=body.length->qc7 body i=((List.range i).filter fun j=>qbg body j==1).length:=by
 intro i
 induction i with
 |zero=>intro _;rfl
 |succ i ih=>
  intro h;obtain⟨L,c⟩: ∃L,body[i]?=some L:=⟨_,zB wA⟩;have d:qbg body i=L.kind:=by unfold qbg;rw [zJ,c];rfl
  rw [qs9 c,ih wA,xx,yT,zR]
  congr 1
  by_cases b:L.kind=1
  ·rw [zI b,xV (by rw [d,b];rfl)];rfl
  ·rw [zF b,xf (by rw [d];simpa using b)];rfl
theorem q9a {body:List LitD}{i:Nat}(h:i∈qao body):(qao body)[qc7 body i]?=some i:=by
 obtain⟨c,b⟩:=qc9 h;rw [qz3 (Nat.le_of_lt c)];obtain⟨m,d⟩: ∃m,body.length=i+(1+m):=⟨body.length-i-1,wA⟩;unfold qao;rw [d,range_add,yT,yH (zG _),xY,Nat.add_comm 1 m,range_succ_eq_map,yX,xV (by simpa using b)]
 rfl
theorem q52 {body:List LitD}{k i:Nat}(h:(qao body)[k]?=some i):qc7 body i=k:=by
 have l:=q9a (zH h);have d:(qao body).Nodup:=List.Pairwise.filter _ nodup_range;obtain⟨e,b⟩:=zA.1 h;obtain⟨g,c⟩:=zA.1 l;rcases Nat.lt_trichotomy k (qc7 body i) with hlt |heq |hgt
 ·exact absurd (by rw [b,c]) ((pairwise_iff_getElem.1 d) _ _ e g hlt)
 ·exact heq.symm
 ·exact absurd (by rw [b,c]) ((pairwise_iff_getElem.1 d) _ _ g e hgt)
end Go.Proofs
namespace Go.Proofs
open Go.RowKit Go.Ink Go.Flt R4 P16
attribute [local go_sem] Oper.semAt_some
def qk8 (a:qac)(bs:List qac):Bool:=bs.any fun b=>decide (a.vals=b.vals)&&decide (a.head=b.head)
def qec (ms bs:List qac):Bool:=ms.all fun a=>qk8 a bs
theorem q2r {a:qac}{bs:List qac}{k:Nat}{b:qac}(c:bs[k]?=some b):qk8 a (bs.take (k+1))=(qk8 a (bs.take k) ||(decide (a.vals=b.vals)&&decide (a.head=b.head))):=by
 unfold qk8;rw [zh,c,any_append];simp
theorem qwz {b bs:List qac}{k:Nat}{a:qac}(e:b[k]?=some a):qec (b.drop k) bs=(qk8 a bs&&qec (b.drop (k+1)) bs):=by
 obtain⟨d,c⟩:=zA.1 e;rw [zt d,c];rfl
theorem qup {a:qac}{bs:List qac}:qk8 a bs=decide (a∈bs):=by
 rw [yu,zT];unfold qk8;rw [any_eq_true];constructor
 ·rintro⟨b,hb,h⟩;rw [zV,zT,zT]at h;obtain⟨c,e⟩:=a;obtain⟨d,v2⟩:=b;obtain⟨rfl,rfl⟩:=h;exact hb
 ·intro h;exact⟨a,h,wC⟩
theorem qz4 {n:Nat}{w:World}{va vb:Value}{ms bs:List qac}(ha:qfe n w va ms)(hb:qfe n w vb bs)(hn:n<=w.heap.size):
  Calls prog 19 #[va,vb] w fun e w'=>e=.returned (.bool (qec ms bs))/\ ∃m,w'=w.drewN m:=by
 obtain⟨aa,ca,rfl,bb,a7,aA⟩:=id ha;obtain⟨ab,cb,rfl,bc,a8,aB⟩:=id hb;refine hd4 ?_ ha hb aA aB;clear ha hb aA aB;intro aV aW au aw
 go_enter Tryz.func19,Tryz.ntmps19
 go_wp2_with fail
 go_loopw [5] (fun ix wr=> ∃k:Nat,k<=ms.length/\ix=.int .i64 (k:Int)/\(∃m,wr=w.drewN m)/\qec ms bs=qec (ms.drop k) bs) (fun i _=>ms.length-(intOf i).toNat)
 case atStart=>exact⟨0,wA,rfl,⟨0,rfl⟩,rfl⟩
 case round=>
  obtain⟨k,hk,rfl,hM,U⟩:=hrel;have hK:wE w wr:=by obtain⟨m,rfl⟩:=hM;exact Keep.drewN' _ _ _
  have ba:(0:Int)<=k:=wA
  by_cases aC:k<ms.length
  ·have aS:(k:Int)<ms.length:=by omega
   obtain⟨a,am⟩: ∃a,ms[k]?=some a:=⟨_,zB aC⟩;obtain⟨b,o,rfl,a5,xh,xv,an,ap,aq⟩:=au.o k a am;rw [qwz am]at U;obtain⟨ah,ch,rfl,-,-,-⟩:=id ap;obtain⟨av,cv,rfl,-,-,-⟩:=id aq;have c0:=an 0 _ rfl;have c1:=an 1 _ rfl;simp only [Nat.add_zero]at c0 c1;obtain⟨W1,az⟩: ∃W1,W1=wr:=⟨_,rfl⟩;rw [←az]at hK hM⊢;clear am an az;refine hd7 ?_ hK hM U ap aq c0 c1;clear hK hM U ap aq c0 c1;intro aF al ae ax ay aD aE;go_wp2_with fail
   go_loopw [6,7] (fun vf ix wr=> ∃j:Nat,j<=bs.length/\ix=.int .i64 (j:Int)/\(∃m,wr=w.drewN m)/\vf=.bool (qk8 a (bs.take j))) (fun _ i _=>bs.length-(intOf i).toNat)
   case atStart=>exact⟨0,wA,rfl,al.o,rfl⟩
   case round=>
    obtain⟨j,hj,rfl,hQ,rfl⟩:=hrel;have x:wE w wr:=by obtain⟨m,rfl⟩:=hQ;exact Keep.drewN' _ _ _
    have a9:(0:Int)<=j:=wA
    have hs:=x.size;by_cases ao:j<bs.length
    ·have aR:(j:Int)<bs.length:=by omega
     obtain⟨y,aj⟩: ∃y,bs[j]?=some y:=⟨_,zB ao⟩;obtain⟨b2,o2,rfl,a4,yh,yv,Y,ai,ak⟩:=aw.o j y aj;have u:=q2r (a:=a) aj;obtain⟨aG,aK,rfl,-,-,-⟩:=id ai;obtain⟨aH,aL,rfl,-,-,-⟩:=id ak;have f0:=x.cell aD.o trivial;have f1:=x.cell aE.o trivial;have f2:=x.cell (Y 0 _ rfl) trivial;have f3:=x.cell (Y 1 _ rfl) trivial;simp only [Nat.add_zero]at f2 f3;have a6:b<wr.heap.size:=wA
     have aP:b2<wr.heap.size:=wA
     cases z:qk8 a (bs.take j) with
     |true=>
      rw [z,Bool.true_or]at u;clear aj Y ai ak z;refine hd3 ?_ x hQ u;clear x hQ u;intro ag v R;go_wp2_with fail
      go_quiet (fail)
      go_wp2_with fail;go_roundw
      case rel=>exact⟨j+1,wA,by go_num,(by obtain⟨m,h⟩:=v.o;rw [h,World.drewN_drewN];exact⟨_,rfl⟩),by rw [R.o]⟩
      case measure=>simp [intOf];omega
     |false=>
      rw [z,xH]at u;have s: ∀m,Calls prog 32 #[.slice av a.vals.length cv,.slice aH y.vals.length aL] (wr.drewN m) fun e w'=>e=.returned (.bool (decide (a.vals=y.vals)))/\ ∃m',w'=(wr.drewN m).drewN m':=fun m=>
       qe2 n _ _ a.vals y.vals _ (qam ay.o ((x.trans (Keep.drewN' _ _ _)).mt)) (qam ak ((x.trans (Keep.drewN' _ _ _)).mt)) (by simp;omega)
      have q: ∀m,Calls prog 32 #[.slice ah a.head.length ch,.slice aG y.head.length aK] (wr.drewN m) fun e w'=>e=.returned (.bool (decide (a.head=y.head)))/\ ∃m',w'=(wr.drewN m).drewN m':=fun m=>
       qe2 n _ _ a.head y.head _ (qam ax.o ((x.trans (Keep.drewN' _ _ _)).mt)) (qam ai ((x.trans (Keep.drewN' _ _ _)).mt)) (by simp;omega)
      obtain⟨c,hc⟩:=ex (decide (a.head=y.head));obtain⟨d,hd⟩:=ex (decide (a.vals=y.vals));simp only [hc,hd]at u s q;clear aj Y ai ak z hc hd;cases d with
      |false=>
       rw [yZ]at u;refine hd5 ?_ x hQ u s q;clear x hQ u s q;intro ag v R t g;go_wp2_with fail
       go_quiet ((go_at_call 32;first |with_reducible exact Calls.quiet_of (t.o _) |with_reducible exact Calls.quiet_of (g.o _) |exact Calls.quiet_of (g.o _)))
       go_wp2_with fail;go_roundw
       case rel=>exact⟨j+1,wA,by go_num,(by obtain⟨m,h⟩:=v.o;rw [h,World.drewN_drewN];exact⟨_,rfl⟩),by rw [R.o]⟩
       case measure=>simp [intOf];omega
      |true=>
       rw [yU]at u;refine hd5 ?_ x hQ u s q;clear x hQ u s q;intro ag v R t g;go_wp2_with fail
       go_quiet ((go_at_call 32;first |with_reducible exact Calls.quiet_of (t.o _) |with_reducible exact Calls.quiet_of (g.o _) |exact Calls.quiet_of (g.o _)))
       go_wp2_with fail;go_roundw
       case rel=>exact⟨j+1,wA,by go_num,(by obtain⟨m,h⟩:=v.o;rw [h,World.drewN_drewN];exact⟨_,rfl⟩),by rw [R.o]⟩
       case measure=>simp [intOf];omega
    ·obtain rfl:j=bs.length:=by omega
     rw [zi];cases z:qk8 a bs with
     |true=>
      have l:qec ms bs=qec (ms.drop (k+1)) bs:=by rw [ae.o,z];rfl
      clear ao z;refine hd3 ?_ x hQ l;clear x hQ l;intro ag v p;go_wp2_with fail;go_roundw
      case rel=>exact⟨k+1,wA,by go_num,v.o,p.o⟩
      case measure=>simp [intOf];omega
     |false=>
      have l:qec ms bs=false:=by rw [ae.o,z];rfl
      clear ao z;refine hd3 ?_ x hQ l;clear x hQ l;intro ag v p;go_wp2_with fail;go_ret;exact⟨by rw [p.o];try rfl,v.o⟩
  ·obtain rfl:k=ms.length:=by omega
   have l:qec ms bs=true:=by rw [U,xo];rfl
   clear aC U;refine hd3 ?_ hK hM l;clear hK hM l;intro aF al p;go_wp2_with fail;go_ret;exact⟨by rw [p.o];try rfl,al.o⟩
def qqj (l:List qac):Prop:= ∀i a b,l[i]?=some a->l[i+1]?=some b->a.vals≠b.vals
theorem q53 {l:List qac}(h:(l.map (·.vals)).Nodup):qqj l:=fun i a b p q e=>by
 have g:(l.map (·.vals))[i]?=some a.vals:=by rw [zP,p];rfl
 have m:(l.map (·.vals))[i+1]?=some b.vals:=by rw [zP,q];rfl
 obtain⟨s,c⟩:=zA.1 g;obtain⟨t,d⟩:=zA.1 m;have:=(pairwise_iff_getElem.1 h) i (i+1) s t wA;exact this (by rw [c,d,e])
theorem q54 {n:Nat}{w:World}{va:Value}{g:List qac}(ha:qfe n w va g)(hn:n<=w.heap.size)(z:qqj g):
  Calls prog 20 #[va] w fun e w'=>e=.returned (.bool false)/\wE w w':=by
 obtain⟨aa,ca,rfl,aw,ar,U⟩:=id ha;refine hd3 ?_ ha U z;clear ha U z;intro al h v
 go_enter Tryz.func20,Tryz.ntmps20
 go_wp2_with fail
 go_loopw [3] (fun ix wr=> ∃k:Nat,1<=k/\k<=g.length+1/\ix=.int .i64 (k:Int)/\wE w wr) (fun i _=>g.length+1-(intOf i).toNat)
 case atStart=>exact⟨1,wA,wA,rfl,Keep.refl _ _⟩
 case round=>
  obtain⟨k,au,hk,rfl,hK⟩:=hrel;by_cases ah:k<g.length
  ·have Y:(k:Int)<g.length:=by omega
   obtain⟨j,rfl⟩: ∃j,k=j+1:=⟨k-1,wA⟩;obtain⟨a,q⟩: ∃a,g[j]?=some a:=⟨_,zB wA⟩;obtain⟨y,t⟩: ∃y,g[j+1]?=some y:=⟨_,zB ah⟩;obtain⟨b,o,ag,ap,xh,xv,R,ai,s⟩:=h.o j a q;subst ag;obtain⟨b2,o2,x,ao,yh,yv,l,aj,u⟩:=h.o (j+1) y t;cases x;obtain⟨av,cv,rfl,-,-,-⟩:=id s;obtain⟨ad,ae,rfl,-,-,-⟩:=id u;have hs:=hK.size;have f1:=hK.cell (R 1 _ rfl) trivial;have f3:=hK.cell (l 1 _ rfl) trivial;have aq:b<wr.heap.size:=wA
   have ab:decide (a.vals=y.vals)=false:=zM (v.o j a y q t);have c: ∀m,Calls prog 32 #[.slice av a.vals.length cv,.slice ad y.vals.length ae] (wr.drewN m) fun e w'=>e=.returned (.bool false)/\ ∃m',w'=(wr.drewN m).drewN m':=fun m=>by
    have:=qe2 n _ _ a.vals y.vals (wr.drewN m) (qam s ((hK.trans (Keep.drewN' _ _ _)).mt)) (qam u ((hK.trans (Keep.drewN' _ _ _)).mt)) (by simp;omega);rw [ab]at this;exact this
   have e1:((j+1:Nat):Int)-1=(j:Int):=wA
   have e0:(0:Int)<=((j+1:Nat):Int):=wA
   have e2:(0:Int)<=(j:Int):=wA
   have e3:(j:Int)<g.length:=wA
   clear q t R l ai s aj u ab;refine hd2 ?_ hK c;clear hK c;intro p d;go_wp2_with fail
   go_quiet ((go_at_call 32;exact Calls.quiet_of (d.o _)))
   go_wp2_with fail;go_roundw
   case rel=>exact⟨j+1+1,wA,wA,by go_num,p.o.trans (Keep.drewN' _ _ _)⟩
   case measure=>simp [intOf];omega
  ·have Y: ¬(k:Int)<g.length:=by omega
   refine hd1 ?_ hK;clear hK;intro p;go_wp2_with fail;go_ret;exact⟨rfl,p.o⟩
end Go.Proofs
namespace Go.Proofs
open Go.RowKit Go.Ink Go.Flt R4 P16
theorem GStep.stay {n0:Nat}{g γ:Gh}{w X Y:World}{C:Nat->Prop}(h:GStep n0 g w γ X)(hK:Keep C X Y)(d: ∀b,b<w.heap.size->C b)(hi:GInv γ Y):GStep n0 g w γ Y:=
 ⟨⟨hK.os.trans h.keep.os,hK.tape.trans h.keep.tape,hK.output.trans h.keep.output,zW h.keep.size hK.size,fun k c e=>(hK.block k (zk c h.keep.size) (d k c)).trans (h.keep.block k c e)⟩,h.more,h.new,h.held,hi⟩
theorem qz5 {b bs:List qac}(h: ∀a,a∈b->a∈bs):qec b bs=true:=by
 unfold qec;rw [yM];intro a c;rw [qup];exact zS (h a c)
end Go.Proofs
namespace Go.Proofs
open Go.RowKit Go.Ink P16
attribute [local go_sem] Oper.semAt_some
theorem qor (c:Int)(w:World):Calls prog 223 #[.int .u8 c] w fun e w'=>e=.returned (.bool (qgr c))/\w'=w:=by
 go_enter Tryz.func223,Tryz.ntmps223
 go_wp2
 all_goals go_ret
 all_goals (refine⟨yN (fun b=>Ending.returned (Value.bool b)) ?_,rfl⟩;rw [yu];simp only [qgr,y8,zV,zT,xC];(try simp only [true_iff,false_iff,iff_true,iff_false,zz]);omega)
theorem qos (c:Int)(w:World):Calls prog 224 #[.int .u8 c] w fun e w'=>e=.returned (.bool (qfw c))/\w'=w:=by
 go_enter Tryz.func224,Tryz.ntmps224
 go_wp2
 all_goals go_ret
 all_goals (refine⟨yN (fun b=>Ending.returned (Value.bool b)) ?_,rfl⟩;rw [yu];simp only [qfw,y8,zV,zT,xC];(try simp only [true_iff,false_iff,iff_true,iff_false,zz]);omega)
theorem qw0 (c:Int)(w:World):Calls prog 249 #[.int .u8 c] w fun e w'=>e=.returned (.bool (qi0 c))/\w'=w:=by
 go_enter Tryz.func249,Tryz.ntmps249
 go_wp2
 all_goals go_ret
 all_goals (refine⟨yN (fun b=>Ending.returned (Value.bool b)) ?_,rfl⟩;rw [yu];simp only [qi0,y8,zV,zT,xC];(try simp only [true_iff,false_iff,iff_true,iff_false,zz]);omega)
theorem qqk (c:Int)(w:World):Calls prog 225 #[.int .u8 c] w fun e w'=>e=.returned (.bool (qcb c))/\w'=w:=by
 have p:=qor c w;have a2:=qos c w;have a3:=qw0 c w;obtain⟨v,q⟩: ∃b,qgr c=b:=⟨_,rfl⟩;obtain⟨x,s⟩: ∃b,qfw c=b:=⟨_,rfl⟩;obtain⟨y,t⟩: ∃b,qi0 c=b:=⟨_,rfl⟩;have u:qcb c=(v ||x ||y ||decide (c=95)):=by unfold qcb;rw [q,s,t]
 rw [q]at p;rw [s]at a2;rw [t]at a3;rw [u];clear q s t u;refine hd3 ?_ p a2 a3;clear p a2 a3;intro g l m;cases v with
 |true=>
  go_enter Tryz.func225,Tryz.ntmps225
  go_wp2_with fail;refine g.o.mono ?_;rintro e h ⟨rfl,d⟩;have d:=d.symm;subst d;go_wp2_with fail;go_ret;exact⟨rfl,rfl⟩
 |false=>
  cases x with
  |true=>
   go_enter Tryz.func225,Tryz.ntmps225
   go_wp2_with fail;refine g.o.mono ?_;rintro e h ⟨rfl,d⟩;have d:=d.symm;subst d;go_wp2_with fail;refine l.o.mono ?_;rintro e h ⟨rfl,d⟩;have d:=d.symm;subst d;go_wp2_with fail;go_ret;exact⟨rfl,rfl⟩
  |false=>
   cases y with
   |true=>
    go_enter Tryz.func225,Tryz.ntmps225
    go_wp2_with fail;refine g.o.mono ?_;rintro e h ⟨rfl,d⟩;have d:=d.symm;subst d;go_wp2_with fail;refine l.o.mono ?_;rintro e h ⟨rfl,d⟩;have d:=d.symm;subst d;go_wp2_with fail;refine m.o.mono ?_;rintro e h ⟨rfl,d⟩;have d:=d.symm;subst d;go_wp2_with fail;go_ret;exact⟨rfl,rfl⟩
   |false=>
    go_enter Tryz.func225,Tryz.ntmps225
    go_wp2_with fail;refine g.o.mono ?_;rintro e h ⟨rfl,d⟩;have d:=d.symm;subst d;go_wp2_with fail;refine l.o.mono ?_;rintro e h ⟨rfl,d⟩;have d:=d.symm;subst d;go_wp2_with fail;refine m.o.mono ?_;rintro e h ⟨rfl,d⟩;have d:=d.symm;subst d;go_wp2_with fail;go_ret;exact⟨yN (fun b=>Ending.returned (Value.bool b)) (by rw [yu];simp),rfl⟩
theorem qz6 (s:ByteArray)(w:World):Calls prog 176 #[.string s] w fun e w'=>e=.returned (.bool (qeo s))/\w'=w:=by
 obtain⟨l,d⟩: ∃b,(s.toList== [105,110,112,117,116])=b:=⟨_,rfl⟩;obtain⟨i2,g⟩: ∃b,(s.toList== [111,117,116,112,117,116])=b:=⟨_,rfl⟩;obtain⟨i3,h⟩: ∃b,(s.toList== [110,111,116])=b:=⟨_,rfl⟩;have p:(s=qg3)=(l=true):=by
  rw [←d];have e:qg3.toList= [105,110,112,117,116]:=wB
  rw [←e];exact qg2 s qg3
 have q:(s=qfx)=(i2=true):=by
  rw [←g];have e:qfx.toList= [111,117,116,112,117,116]:=wB
  rw [←e];exact qg2 s qfx
 have t:(s=qj7)=(i3=true):=by
  rw [←h];have e:qj7.toList= [110,111,116]:=wB
  rw [←e];exact qg2 s qj7
 have m:qeo s=(l ||i2 ||i3):=by
  unfold qeo;simp only [p,q,t,Bool.decide_eq_true]
 clear p q t;refine hd1 ?_ m;clear m;intro c
 go_enter Tryz.func176,Tryz.ntmps176
 cases l<;>cases i2
 all_goals go_wp2_with fail
 all_goals go_ret
 all_goals exact⟨by rw [c.o];rfl,rfl⟩
theorem qql (s:ByteArray)(low:Bool)(hs:s.size<=1073741824)(w:World):Calls prog 175 #[.string s,.bool low] w fun e w'=>e=.returned (.bool (qcm s low))/\w'=w:=by
 rcases yY s.size 1 with h0 |h0
 ·have hE:qcm s low=false:=by unfold qcm qbv;rw [zM (show ¬1<=s.size from wA),yZ,yO,yZ]
  have h1:(s.size:Int)<1:=wA
  rw [hE];clear hE h0
  go_enter Tryz.func175,Tryz.ntmps175
  go_wp2_with fail;go_ret;exact⟨rfl,rfl⟩
 have h1: ¬(s.size:Int)<1:=wA
 rcases yY 64 s.size with h64 |h64
 ·have hE:qcm s low=false:=by
   unfold qcm qbv;rw [zM (show ¬s.size<=64 from wA),yO,yO,yZ]
  have h2:(64:Int)<s.size:=wA
  rw [hE];clear hE h64
  go_enter Tryz.func175,Tryz.ntmps175
  go_wp2_with fail;go_ret;exact⟨rfl,rfl⟩
 have h2: ¬(64:Int)<s.size:=wA
 have am:0<s.size:=wA
 have aw:(0:Int)<s.size:=wA
 have ao:=q8m am;have v:=qgb s am;rw [ao]at v;obtain⟨c,hc⟩:=ex (qez s);rw [hc]at ao v;have g1:=qor c w;have g2:=qos c w;have Y:qcm s low=(((qcq s).all qcb&&(decide (1<=s.size)&&decide (s.size<=64)))&&(if low=true then qgr c else qfw c)):=by unfold qcm qbv;rw [hc]
 rw [zS (show 1<=s.size from wA),zS h64,xK,xK]at Y;have x:(if low=true then qgr c else qfw c)=true->((qcq s).take 1).all qcb=true:=fun h=>by
  rw [qh2 qcb (qcq s) (k:=0) v,take_zero,all_nil,yU];split at h
  ·exact qtx h
  ·exact qty h
 obtain⟨b1,R⟩: ∃b,(if low=true then qgr c else qfw c)=b:=⟨_,rfl⟩;rw [R]at Y x;cases low with
 |true=>
  rw [zI rfl]at R;rw [R]at g1;clear g2 hc R v;cases b1 with
  |false=>
   rw [yO]at Y;clear x;refine hd2 ?_ g1 Y;clear g1 Y;intro ah y
   go_enter Tryz.func175,Tryz.ntmps175
   go_wp2_with fail;refine ah.o.mono ?_;rintro e w9 ⟨rfl,d⟩;have d:=d.symm;subst d;go_wp2_with fail;go_ret;exact⟨by rw [y.o];rfl,rfl⟩
  |true=>
   rw [xK]at Y;have x:=x rfl;refine hd3 ?_ g1 Y x;clear g1 Y x;intro ah y ae
   go_enter Tryz.func175,Tryz.ntmps175
   go_wp2_with fail;refine ah.o.mono ?_;rintro e w9 ⟨rfl,d⟩;have d:=d.symm;subst d;go_wp2_with fail
   go_loopw [5] (fun i wr=> ∃k:Nat,1<=k/\k<=s.size/\i=.int .i64 (k:Int)/\wr=w/\((qcq s).take k).all qcb=true) (fun i _=>s.size-(intOf i).toNat)
   case atStart=>exact⟨1,wA,wA,rfl,rfl,ae.o⟩
   case round=>
    obtain⟨k,au,hk,rfl,U,g⟩:=hrel;have U:=U.symm;subst U;have ar:(0:Int)<=k:=wA
    by_cases af:k<s.size
    ·have ap:(k:Int)<s.size:=by omega
     have p:=qgb s af;have t:=qh2 qcb (qcq s) p;rw [g,yU]at t;have q:=qqk ((s[k].toNat:Nat):Int) w;cases m:qcb ((s[k].toNat:Nat):Int) with
     |false=>
      rw [m]at q;have ag:=qju qcb _ p m;refine hd6 ?_ p t q m ag g;clear p t q m ag g;intro aa z u ab ad l;go_wp2_with fail;refine u.o.mono ?_;rintro e w9 ⟨rfl,d⟩;have d:=d.symm;subst d;go_wp2_with fail;go_ret;exact⟨by rw [y.o,ad.o];rfl,rfl⟩
     |true=>
      rw [m]at q t;refine hd5 ?_ p t q m g;clear p t q m g;intro aa z u ab l;go_wp2_with fail;refine u.o.mono ?_;rintro e w9 ⟨rfl,d⟩;have d:=d.symm;subst d;go_wp2_with fail;go_roundw
      case rel=>exact⟨k+1,wA,wA,by go_num,by trivial,z.o⟩
      case measure=>simp [intOf];omega
    ·obtain rfl:k=s.size:=by omega
     rw [yx (by rw [qjc];omega)]at g;clear af;refine hd1 ?_ g;clear g;intro l;go_wp2_with fail;go_ret;exact⟨by rw [y.o,l.o];rfl,rfl⟩
 |false=>
  rw [zF wC]at R;rw [R]at g2;clear g1 hc R v;cases b1 with
  |false=>
   rw [yO]at Y;clear x;refine hd2 ?_ g2 Y;clear g2 Y;intro ai y
   go_enter Tryz.func175,Tryz.ntmps175
   go_wp2_with fail;refine ai.o.mono ?_;rintro e w9 ⟨rfl,d⟩;have d:=d.symm;subst d;go_wp2_with fail;go_ret;exact⟨by rw [y.o];rfl,rfl⟩
  |true=>
   rw [xK]at Y;have x:=x rfl;refine hd3 ?_ g2 Y x;clear g2 Y x;intro ai y ae
   go_enter Tryz.func175,Tryz.ntmps175
   go_wp2_with fail;refine ai.o.mono ?_;rintro e w9 ⟨rfl,d⟩;have d:=d.symm;subst d;go_wp2_with fail
   go_loopw [5] (fun i wr=> ∃k:Nat,1<=k/\k<=s.size/\i=.int .i64 (k:Int)/\wr=w/\((qcq s).take k).all qcb=true) (fun i _=>s.size-(intOf i).toNat)
   case atStart=>exact⟨1,wA,wA,rfl,rfl,ae.o⟩
   case round=>
    obtain⟨k,au,hk,rfl,U,g⟩:=hrel;have U:=U.symm;subst U;have ar:(0:Int)<=k:=wA
    by_cases af:k<s.size
    ·have ap:(k:Int)<s.size:=by omega
     have p:=qgb s af;have t:=qh2 qcb (qcq s) p;rw [g,yU]at t;have q:=qqk ((s[k].toNat:Nat):Int) w;cases m:qcb ((s[k].toNat:Nat):Int) with
     |false=>
      rw [m]at q;have ag:=qju qcb _ p m;refine hd6 ?_ p t q m ag g;clear p t q m ag g;intro aa z u ab ad l;go_wp2_with fail;refine u.o.mono ?_;rintro e w9 ⟨rfl,d⟩;have d:=d.symm;subst d;go_wp2_with fail;go_ret;exact⟨by rw [y.o,ad.o];rfl,rfl⟩
     |true=>
      rw [m]at q t;refine hd5 ?_ p t q m g;clear p t q m g;intro aa z u ab l;go_wp2_with fail;refine u.o.mono ?_;rintro e w9 ⟨rfl,d⟩;have d:=d.symm;subst d;go_wp2_with fail;go_roundw
      case rel=>exact⟨k+1,wA,wA,by go_num,by trivial,z.o⟩
      case measure=>simp [intOf];omega
    ·obtain rfl:k=s.size:=by omega
     rw [yx (by rw [qjc];omega)]at g;clear af;refine hd1 ?_ g;clear g;intro l;go_wp2_with fail;go_ret;exact⟨by rw [y.o,l.o];rfl,rfl⟩
theorem qqm (s:ByteArray)(v:s.size<=1073741824)(w:World):Calls prog 138 #[.string s] w fun e w'=>e=.returned (.bool (qdk s))/\w'=w:=by
 have q:=qql s true v w;have p:=qz6 s w;have l:qdk s=(qcm s true&&!qeo s):=rfl;obtain⟨u,g⟩: ∃b,qcm s true=b:=⟨_,rfl⟩;obtain⟨x,h⟩: ∃b,qeo s=b:=⟨_,rfl⟩;rw [g]at q l;rw [h]at p l;rw [l];clear l g h;refine hd2 ?_ q p;clear q p;intro d m;cases u
 ·go_enter Tryz.func138,Tryz.ntmps138
  go_wp2_with fail;refine d.o.mono ?_;rintro e t ⟨rfl,c⟩;have c:=c.symm;subst c;go_wp2_with fail;go_ret;exact⟨rfl,rfl⟩
 ·go_enter Tryz.func138,Tryz.ntmps138
  go_wp2_with fail;refine d.o.mono ?_;rintro e t ⟨rfl,c⟩;have c:=c.symm;subst c;go_wp2_with fail;refine m.o.mono ?_;rintro e t ⟨rfl,c⟩;have c:=c.symm;subst c;go_wp2_with fail;go_ret;exact⟨rfl,rfl⟩
theorem q2s (s:ByteArray)(h:s.size<=1073741824)(w:World):Calls prog 205 #[.string s] w fun e w'=>e=.returned (.bool (qh3 s))/\w'=w:=by
 have d:=qql s false h w;have g:qh3 s=qcm s false:=rfl;rw [g];refine hd1 ?_ d;clear d;intro c
 go_enter Tryz.func205,Tryz.ntmps205
 go_wp2_with fail;refine c.o.mono ?_;rintro e l ⟨rfl,b⟩;have b:=b.symm;subst b;go_wp2_with fail;go_ret;exact⟨rfl,rfl⟩
end Go.Proofs
