/- Parts of the proof. -/
import Derived.Test.YtnponcjnahicnaaGreatDoorRoBToRfB
set_option linter.unusedSimpArgs false
set_option linter.unusedVariables false
set_option maxRecDepth 100000
set_option maxHeartbeats 2000000
open Go.Proofs.Tryz(prog)
open List(filter_map flatMap_map flatten_append getElem?_mapIdx length_mapIdx map_map nil_append take_sublist)
namespace Go.Proofs
open Go.RowKit Go.Ink Go.Flt R4 P16
attribute [local go_sem] Oper.semAt_some
theorem q3y {ts l:List ByteArray}{k:Nat}{t:ByteArray}(h:ts[k]?=some t):(ts.take (k+1)).foldl qo l=qo ((ts.take k).foldl qo l) t:=by
 rw [zh,h,yl];rfl
theorem qdu {w:World}{base:Nat}{e:TypeId}{sz:Nat}{v:Value}{n:Nat}{xs:List Value}(h:w.ownsRow base e sz v n xs){b:Nat}(d:b<base):some b≠v.ownBlock:=fun c=>by
 have:=(zE h b c.symm).1;omega
theorem qvm {w:World}{base:Nat}{v vf:Value}{l ts:List ByteArray}{n:Nat}(p:ByteArray)(ho:w.ownsRow base 9 1 v l.length (l.map .string))(hf:qaf n w vf ts)(hn:n<=base)(hb:base<=w.heap.size)(hl:l.length+ts.length<=1073741824):
  Calls prog 54 #[v,.agg #[.string p,vf]] w fun e w'=> ∃v',e=.returned v'/\Keep (fun b=>b<base) w w'/\w'.ownsRow base 9 1 v' (ts.foldl qo l).length ((ts.foldl qo l).map .string):=by
 obtain⟨af,cf,rfl,bg,bb,am⟩:=id hf;obtain⟨N,hN⟩:=ex (w.heap.size);obtain⟨W0,s⟩:=ex (w.alloc (.cells #[.string p,.slice af ts.length cf] 86));have k0:wE w W0:=by rw [←s];exact kAl
 have p0:W0.heap[N]?=some (.cells #[.string p,.slice af ts.length cf] 86 (0,0)):=by rw [←s,←hN];exact qh _ _
 have z0:W0.heap.size=N+1:=by rw [←s,←hN];simp
 have o0:=qf ho k0 (fun _ _=>wF);have g0: ∀g,v.ownBlock=some g->g≠N:=fun g h=>by have:=(zE ho g h).2;omega
 have an:=qam hf k0.mt;have aV:=qfo ts l;refine qdx ?_ ho hf am hN s k0 p0 o0 g0 an;clear ho hf am hN s k0 p0 o0 g0 an;intro a4 a3 ah t ae al aH aG aC aO
 go_enter Tryz.func54,Tryz.ntmps54
 go_wp2_with fail;rw [ae.o,t.o]
 go_loopw [0,5] (fun v0 ix wr=> ∃k:Nat,k<=ts.length/\ix=.int .i64 (k:Int)/\Keep (fun b=>b<base∨b=N) W0 wr/\(∀g,v0.ownBlock=some g->g≠N)/\wr.ownsRow base 9 1 v0 ((ts.take k).foldl qo l).length (((ts.take k).foldl qo l).map .string)) (fun _ i _=>ts.length-(intOf i).toNat)
 case atStart=>exact⟨0,wA,rfl,Keep.refl _ _,aC.o,aG.o⟩
 case round=>
  obtain⟨k,hk,rfl,hK,hg,hO⟩:=hrel;have m:=hK.heap aH.o (.inr rfl);have d0:=qb m 0 _ rfl;have d1:=qb m 1 _ rfl;have a9:=qe m;simp only [zD]at d0 d1;have aX:=hK.size;by_cases aK:k<ts.length
  ·obtain⟨x,hx⟩: ∃x,ts[k]?=some x:=⟨_,zB aK⟩;obtain⟨b,off,rfl,a8,he⟩:=ah.o k x hx;have f0:=hK.cell (al.o.cell he wF) (show b<base∨b=N from .inl wA);simp only [yB]at f0;have ba:b<wr.heap.size:=by have:=t.o;omega
   have aW:(k:Int)<ts.length:=wA
   have bf:(0:Int)<=k:=wA
   have ad:=q3y (l:=l) hx;have ar:=qfo (ts.take k) l;rw [yC]at ar;have hS:=qbj hO wA;obtain⟨ss,ax⟩:=ex ((ts.take k).foldl qo l);rw [ax]at hO ad ar hS;clear ax hx he;refine hd6 ?_ hK hO ad hS hg m;clear hK hO ad hS hg m;intro Y q z aE u ag;go_wp2_with fail;refine(qn4 wr.heap.size _ ss x _ aE.o (zG _)).mono ?_;rintro e W1 ⟨i,rfl,aM,bc,bd,y⟩;subst aM;by_cases U:i<0
   ·have c:=y.1 U;have d:(ts.take (k+1)).foldl qo l=ss++ [x]:=z.o.trans (zF c);obtain⟨v',W2,aw,au,aq,g2,R,aL,ao,aJ⟩:=qc3 qef 60 q.o [.string x] rfl (by simp [Value.oneCell']) wA (by have:=t.o;omega);subst aL;have kW:=Y.o.trans (aq.mono fun b _ (h:b<base∨b=N)=>by
     rcases h with h |rfl
     ·exact qdu q.o h
     ·exact fun e=>u.o _ e.symm rfl)
    have av:W2.ownsRow base 9 1 (.slice (some ⟨g2,0,none⟩) (ss.length+1) R) ((ts.take (k+1)).foldl qo l).length (((ts.take (k+1)).foldl qo l).map .string):=by
     rw [d]
     simpa using au
    have ap: ∀g,(Value.slice (some ⟨g2,0,none⟩) (ss.length+1) R).ownBlock=some g->g≠N:=fun g h=>by
     simp [Value.ownBlock]at h;rcases ao with h2 |h2
     ·rw [←h];exact u.o _ h2
     ·have:=t.o;omega
    clear y c d au aq ao aJ;refine hd4 ?_ aw kW av ap;clear aw kW av ap;intro ak aF aj ai;go_wp2_with (at_builtin;refine qbo rfl _ _ _ rfl rfl rfl ak.o ?_);go_roundw
    case rel=>exact⟨k+1,wA,by go_num,aF.o,ai.o,aj.o⟩
    case measure=>simp [intOf];omega
   ·have c:x∈ss:=by
     by_cases h:x∈ss
     ·exact h
     ·exact absurd (y.2 h) U
    have d:(ts.take (k+1)).foldl qo l=ss:=z.o.trans (zI c);clear y c;refine hd1 ?_ d;clear d;intro aa;go_wp2_with fail;go_roundw
    case rel=>exact⟨k+1,wA,by go_num,Y.o,u.o,by rw [aa.o];exact q.o⟩
    case measure=>simp [intOf];omega
  ·obtain rfl:k=ts.length:=by omega
   rw [zi]at hO;have hE:Keep (fun b=>b<base) w wr:=al.o.mt.trans (hK.mono fun b _ h=>.inl h);refine hd5 ?_ hK hO hg m hE;clear hK hO hg m hE;intro Y q u ag aD;go_wp2_with fail;go_ret;exact⟨_,rfl,aD.o,q.o⟩
def qaw (body:List LitD):List qcg:=(body.filter fun L=>L.kind==1).map (·.atom)
theorem qny {body:List LitD}{k:Nat}{L:LitD}(h:body[k]?=some L)(b:(L.kind==1)=true):qaw (body.take (k+1))=qaw (body.take k)++ [L.atom]:=by
 unfold qaw;rw [zh,h,yT,zn];simp [b]
theorem qoz {body:List LitD}{k:Nat}{L:LitD}(h:body[k]?=some L)(b:(L.kind==1)=false):qaw (body.take (k+1))=qaw (body.take k):=by
 unfold qaw;rw [zh,h,yT,zn];simp [b]
theorem qnz (body:List LitD):(qaw body).length<=body.length:=by
 unfold qaw;rw [zL];exact yd _ _
def qeb (p:qcg×Value):List Value:= [.string p.1.pred,p.2]
theorem q6s:qb2 prog 67 24 2 40:=qcl (z:=.agg #[.string ⟨#[]⟩,.slice none 0 0]) wB wB rfl wD wD
theorem qjh {n:Nat}{r:RuleD}{sh sb:Value}{w:World}(hr:RuleIn n w sh sb r)(hn:n<=w.heap.size):
  Calls prog 33 #[qaq r sh sb] w fun e w'=> ∃(v:Value) (ps:List (qcg×Value)),e=.returned v/\Keep (fun b=>b<w.heap.size) w w'/\ps.map (·.1)=qaw r.body/\(∀p,p∈ps->qak n w' p.2 p.1.args)/\w'.ownsRow w.heap.size 24 2 v ps.length (ps.flatMap qeb):=by
 obtain⟨⟨ah,aa,rfl,aO,aK,ae⟩,⟨ab,Y,rfl,aN,aJ,ad⟩⟩:=id hr;unfold qaq;obtain⟨N,hN⟩:=ex (w.heap.size);obtain⟨W0,q⟩:=ex (w.alloc (.cells #[.string r.head.pred,.slice ah r.head.args.length aa,.slice ab r.body.length Y] 27));have k0:wE w W0:=by rw [←q];exact kAl
 have p0:W0.heap[N]?=some (.cells #[.string r.head.pred,.slice ah r.head.args.length aa,.slice ab r.body.length Y] 27 (0,0)):=by rw [←q,←hN];exact qh _ _
 have z0:W0.heap.size=N+1:=by rw [←q,←hN];simp
 refine hd7 ?_ hr ae ad hN q k0 p0;clear hr ae ad hN q k0 p0;intro a0 aF ai m ap av aH
 go_enter Tryz.func33,Tryz.ntmps33
 go_wp2_with fail;rw [ap.o,m.o]
 go_loopw [3,4] (fun v3 ix wr=> ∃(k:Nat) (ps:List (qcg×Value)),k<=r.body.length/\ix=.int .i64 (k:Int)/\Keep (fun b=>b<N+1) W0 wr/\ps.map (·.1)=qaw (r.body.take k)/\(∀p,p∈ps->qak n wr p.2 p.1.args)/\wr.ownsRow (N+1) 24 2 v3 ps.length (ps.flatMap qeb)) (fun _ i _=>r.body.length-(intOf i).toNat)
 case atStart=>exact⟨0,[],wA,rfl,Keep.refl _ _,rfl,fun p h=>(by cases h),zj _ _ _ _⟩
 case round=>
  obtain⟨k,ps,hk,rfl,hK,d,hT,z⟩:=hrel;have c:=hK.heap aH.o wA;have d0:=qb c 0 _ rfl;have d1:=qb c 1 _ rfl;have d2:=qb c 2 _ rfl;have a8:=qe c;simp only [zD]at d0 d1 d2;have aW:=hK.size;by_cases az:k<r.body.length
  ·obtain⟨L,hL⟩: ∃L,r.body[k]?=some L:=⟨_,zB az⟩;obtain⟨b,off,rfl,hb,sa,s,am⟩:=ai.o k L hL;have kw:Keep (fun b=>b<n) w wr:=av.o.mt.trans (hK.mono fun b _ h=>by have:=m.o;omega);have f0:=kw.cell (s 0 _ rfl) hb;have f1:=kw.cell (s 1 _ rfl) hb;have f2:=kw.cell (s 2 _ rfl) hb;have R:=qan am kw;have a9:b<wr.heap.size:=by have:=m.o;omega
   have aV:(k:Int)<r.body.length:=wA
   have ba:(0:Int)<=k:=wA
   simp only [Nat.add_zero]at f0;have bc:ps.length<=k:=by
    have h1:=yN List.length d;rw [zL]at h1;have h2:=qnz (r.body.take k);rw [yC]at h2;omega
   cases t:(L.kind==1) with
   |false=>
    have g:=d.trans (qoz hL t).symm;clear d hL s am R kw;refine hd5 ?_ hK z hT g c;clear hK z hT g c;intro af u ag l U;go_wp2_with fail;go_roundw
    case rel=>exact⟨k+1,ps,wA,by go_num,af.o,l.o,ag.o,u.o⟩
    case measure=>simp [intOf];omega
   |true=>
    have g:(ps++ [(L.atom,sa)]).map (·.1)=qaw (r.body.take (k+1)):=by rw [zn,d,qny hL t];rfl
    obtain⟨x,y,rfl,bf,bd,aQ⟩:=id R;obtain⟨v',W2,al,aA,aj,g2,aw,aR,aL,aM⟩:=qc3 q6s 67 z (qeb (L.atom,.slice x L.atom.args.length y)) rfl (by simp [qeb,Value.oneCell']) wA wA;subst aR;have kW:=hK.trans (aj.mono fun b _ h=>qdu z h);have aB:W2.ownsRow (N+1) 24 2 (.slice (some ⟨g2,0,none⟩) (ps.length+1) aw) (ps++ [(L.atom,Value.slice x L.atom.args.length y)]).length ((ps++ [(L.atom,Value.slice x L.atom.args.length y)]).flatMap qeb):=by
     simpa using aA
    have ak:Keep (fun b=>b<n) wr W2:=aj.mono fun b _ h=>qdu z (by have:=m.o;omega);have ay: ∀p,p∈ps++ [(L.atom,Value.slice x L.atom.args.length y)]->qak n W2 p.2 p.1.args:=fun p hp=>by
     rcases zr.1 hp with h |h
     ·exact qan (hT p h) ak
     ·cases zm.1 h;exact qan R ak
    simp only [qeb]at al;clear d hL s am R kw aQ hT aA aj aL aM ak;refine hd8 ?_ hK z ay g c al kW aB;clear hK z ay g c al kW aB;intro af u ao l U au aG aq;go_wp2_with (at_builtin;refine qbo rfl _ _ _ rfl rfl rfl au.o ?_);go_roundw
    case rel=>exact⟨k+1,_,wA,by go_num,aG.o,l.o,ao.o,aq.o⟩
    case measure=>simp [intOf];omega
  ·obtain rfl:k=r.body.length:=by omega
   rw [zi]at d;have hE:Keep (fun b=>b<N) w wr:=av.o.mt.trans (hK.mono fun b _ h=>wA);clear az;refine hd6 ?_ hK z hT d hE c;clear hK z hT d hE c;intro af u ag ar aE U;go_wp2_with fail;go_ret;exact⟨_,ps,rfl,m.o▸aE.o,ar.o,ag.o,u.o.mono (by have:=m.o;omega)⟩
def qdr (ats:List qcg):List ByteArray:=ats.flatMap fun a=>qal a.args
theorem q8o (body:List LitD):(qdr (qaw body)).length<=(body.flatMap LitD.uses).length:=by
 induction body with
 |nil=>simp [qdr,qaw]
 |cons L ls ih=>
  unfold qdr qaw at ih⊢;rw [yF,zR];by_cases h:(L.kind==1)=true
  ·rw [xV (by simpa using h),yX,yF,zR];have b:L.kind=1:=by simpa using h
   have:(qal L.atom.args).length=L.uses.length:=by unfold qal LitD.uses LitD.terms;rw [zI (.inl b)]
   omega
  ·rw [xf (by simpa using h)];omega
theorem q3z (r:RuleD):(qdr (qaw r.body)).length<=r.stands.length:=by
 have c:=q8o r.body;have b:r.names.length=r.stands.length:=by unfold RuleD.names;rw [zL]
 rw [qjx,zR]at b;omega
theorem q30 (body:List LitD):q8 body (qao body)=qdr (qaw body):=by
 have c:body=(List.range body.length).map (fun i=>body.getD i default):=by
  refine xX fun i=>?_;rw [zP];by_cases h:i<body.length
  ·rw [xr h,zB h];simp [zJ,zB h]
  ·rw [xB wA,xB (by simp;omega)];rfl
 have b:qdr (qaw body)=(qao body).flatMap fun i=>qal (body.getD i default).atom.args:=by
  unfold qdr qaw
  conv=>lhs;rw [c]
  rw [filter_map,map_map,flatMap_map]
  rfl
 rw [b];unfold q8;have: ∀(l:List Nat),(∀i,i∈l->qbg body i=1)->(l.flatMap fun i=>if (body.getD i default).kind=3∨(body.getD i default).kind=2 then [] else qal (body.getD i default).atom.args)=l.flatMap fun i=>qal (body.getD i default).atom.args:=by
  intro l
  induction l with
  |nil=>intro _;rfl
  |cons i l ih=>
   intro h;have hi:=h i (yJ ..);unfold qbg at hi;rw [yF,yF,ih fun j d=>h j (yD _ d),zF wA]
 exact this _ fun i hi=>(qc9 hi).2
theorem qvn {many:Nat}{xs:List ByteArray}{j:Nat}(h:j<xs.length)(n:Nat):qf2 many (xs.drop j) n=if 20000<n*many then true else qf2 many (xs.drop (j+1)) (n*many):=by
 rw [zt h];rfl
def qew (ats:List qcg)(i:Nat):List ByteArray:=qdr (ats.take i)
theorem qms {b:List qcg}{i:Nat}{a:qcg}(h:b[i]?=some a):qew b (i+1)=qew b i++qal a.args:=by
 unfold qew qdr;rw [zh,h,yG];simp
theorem qn0 {ts:List TermD}{k:Nat}{t:TermD}(h:ts[k]?=some t)(b:t.var=true):qal (ts.take (k+1))=qal (ts.take k)++ [t.text]:=by
 unfold qal;rw [zh,h,yT,zn];simp [b]
theorem qpo {ts:List TermD}{k:Nat}{t:TermD}(h:ts[k]?=some t)(b:t.var=false):qal (ts.take (k+1))=qal (ts.take k):=by
 unfold qal;rw [zh,h,yT,zn];simp [b]
theorem qvo (b:List qcg)(i:Nat):(qew b i).length<=(qdr b).length:=by
 unfold qew qdr
 conv=>rhs;rw [←yw i b,yG,zR]
 omega
theorem qll (ts:List TermD)(k:Nat):(qal (ts.take k)).length<=(qal ts).length:=by
 unfold qal;rw [zL,zL];exact((take_sublist _ _).filter _).length_le
abbrev qyo (n:Nat)(w:World)(v:Value)(ps:List (qcg×Value)):Prop:=SliceIn n w 2 (fun w b o p=>CellsE w b o (qeb p)) v ps
theorem qsw {w:World}{base:Nat}{e:TypeId}{v:Value}{n:Nat}{ps:List (qcg×Value)}(h:w.ownsRow base e 2 v n (ps.flatMap qeb))(q:n=ps.length)(g:ps.length<=1073741824):qyo w.heap.size w v ps:=
 qda h ps q g _ fun b k p s l=>fun j u d=>by
  have c:j<2:=by
   have:=(zA.1 d).1
   simpa [qeb]using this
  have m:=qbf qeb 2 (fun _=>rfl) _ k j p s c;have:=l j c;rw [m,d]at this;exact this
theorem qxl {n:Nat}{r:RuleD}{sh sb:Value}{w:World}(hr:RuleIn n w sh sb r)(hn:n<=w.heap.size)(cs:r.stands.length<=1073741824){many:Nat}(hm:many<=1000000):
  Calls prog 55 #[qaq r sh sb,.int .i64 (many:Int)] w fun e w'=>e=.returned (.bool (qeu r many))/\Keep (fun b=>b<w.heap.size) w w':=by
 have aB:qeu r many=qf2 many ((qdr (qaw r.body)).foldl qo []) 1:=by unfold qeu qfn;rw [q30]
 have bh:=q3z r;unfold qaq;obtain⟨N,hN⟩:=ex (w.heap.size);obtain⟨W0,aa⟩:=ex (w.alloc (.cells #[.string r.head.pred,sh,sb] 27));have k0:wE w W0:=by rw [←aa];exact kAl
 have p0:W0.heap[N]?=some (.cells #[.string r.head.pred,sh,sb] 27 (0,0)):=by rw [←aa,←hN];exact qh _ _
 have z0:W0.heap.size=N+1:=by rw [←aa,←hN];simp
 have af:=qjh (w:=W0) (hr.keep k0.mt) wA;have d0:=qb p0 0 _ rfl;have d1:=qb p0 1 _ rfl;have d2:=qb p0 2 _ rfl;have cu:=qe p0;simp only [zD]at d0 d1 d2;unfold qaq at af;obtain⟨⟨ah,b8,rfl,b0,bR,aD⟩,⟨ab,b7,rfl,bW,bQ,aC⟩⟩:=id hr;refine hd9 ?_ hr hN aa k0 p0 af aB aD aC;clear hr hN aa k0 p0 af aB aD aC;intro ck ak aU bH cm aI aG bG bF
 go_enter Tryz.func55,Tryz.ntmps55
 go_wp2_with fail;rw [aU.o,ak.o];refine aI.o.mono ?_;rintro e W1 ⟨v,ps,rfl,k1,aN,hT,Y⟩;have z1:=k1.size;have aM:ps.length<=1073741824:=by
  have h1:=yN List.length aN;rw [zL]at h1;have h2:=qnz r.body;omega
 have hA:=qsw Y rfl aM;obtain⟨av,cv,rfl,-,cz,aL⟩:=id hA;obtain⟨M,hM⟩:=ex (W1.heap.size);have q:=aG.o;rw [←aN]at q bh;obtain⟨A,ao⟩:=ex (ps.map (·.1));rw [ao]at q bh;have az: ∀(k:Nat) (p:qcg×Value),ps[k]?=some p->A[k]?=some p.1:=fun k p h=>by rw [←ao,zP,h];rfl
 have a4:A.length=ps.length:=by rw [←ao,zL]
 have cG:n<=M:=by have:=ak.o;omega
 have ct:N+1<=M:=by have:=ak.o;omega
 clear Y hA aN ao;rw [hM]at aL;refine hd7 ?_ k1 hT aL hM q az a4;clear k1 hT aL hM q az a4;intro bI bD aW aj am aF aS;go_wp2_with fail
 go_loopw [5,7] (fun v5 ix wr=> ∃(k:Nat),k<=ps.length/\ix=.int .i64 (k:Int)/\Keep (fun b=>b<M) W1 wr/\wr.ownsRow M 9 1 v5 ((qew A k).foldl qo []).length (((qew A k).foldl qo []).map .string)) (fun _ i _=>ps.length-(intOf i).toNat)
 case atStart=>exact⟨0,wA,rfl,Keep.refl _ _,zj _ _ _ _⟩
 case round=>
  obtain⟨k,hk,rfl,hK,Y⟩:=hrel;have bk:=hK.size;have cD:(0:Int)<=k:=wA
  by_cases bb:k<ps.length
  ·have ce:(k:Int)<ps.length:=by omega
   obtain⟨p,hp⟩: ∃p,ps[k]?=some p:=⟨_,zB bb⟩;obtain⟨b,off,rfl,hb,a7⟩:=aW.o k p hp;have aq:=aF.o k p hp;obtain⟨ap,cp,bg,cE,cy,a8⟩:=id (bD.o p (zH hp));have ar:=a7 1 _ (show(qeb p)[1]?=some p.2 from rfl);rw [bg]at ar;have bl:(qew A k).length+(qal p.1.args).length<=1073741824:=by
    have h1:=qvo A (k+1);rw [qms aq,zR]at h1;omega
   have aO:=qms aq;obtain⟨R,bn⟩:=ex (qew A k);rw [bn]at Y bl aO;obtain⟨W2,a5⟩: ∃W2,W2=wr:=⟨_,rfl⟩;rw [←a5]at hK Y bk⊢;have g1:=hK.cell ar hb;have cx:b<W2.heap.size:=by have:=aj.o;omega
   clear a7 bn a5 hp bg;refine hd6 ?_ hK Y a8 aO aq ar;clear hK Y a8 aO aq ar;intro bw bx aX a2 b6 aV;go_wp2_with fail
   go_loopw [5,8] (fun v5 ix wr=> ∃(j:Nat),j<=p.1.args.length/\ix=.int .i64 (j:Int)/\Keep (fun b=>b<M) W1 wr/\wr.ownsRow M 9 1 v5 ((R++qal (p.1.args.take j)).foldl qo []).length (((R++qal (p.1.args.take j)).foldl qo []).map .string)) (fun _ i _=>p.1.args.length-(intOf i).toNat)
   case atStart=>exact⟨0,wA,rfl,bw.o,by rw [show R++qal (p.1.args.take 0)=R from by simp [qal]];exact bx.o⟩
   case round=>
    obtain⟨j,hj,rfl,hJ,g⟩:=hrel;have cg:=hJ.size;have bS:(0:Int)<=j:=wA
    clear g1;have g1:=hJ.cell aV.o hb;have cc:b<wr.heap.size:=by have:=aj.o;omega
    by_cases ae:j<p.1.args.length
    ·have a9:(j:Int)<p.1.args.length:=by omega
     obtain⟨u,hu⟩: ∃u,p.1.args[j]?=some u:=⟨_,zB ae⟩;obtain⟨bt,ot,rfl,cw,aP,aQ⟩:=aX.o j u hu;have q0:=hJ.cell aP (show bt<M from wA);have q1:=hJ.cell aQ (show bt<M from wA);have cb:bt<wr.heap.size:=by have:=aj.o;omega
     have ax:=qfo (R++qal (p.1.args.take j)) [];rw [zR]at ax;have cH:=qll p.1.args j;have bU:([]:List ByteArray).length=0:=rfl;cases z:u.var with
     |false=>
      rw [z]at q0;have bc:=qpo hu z;clear aP aQ hu z;refine hd3 ?_ hJ g bc;clear hJ g bc;intro y d aZ;go_wp2_with fail;go_roundw
      case rel=>exact⟨j+1,wA,by go_num,y.o,by rw [aZ.o];exact d.o⟩
      case measure=>simp [intOf];omega
     |true=>
      rw [z]at q0;have ag:(R++qal (p.1.args.take (j+1))).foldl qo []=qo ((R++qal (p.1.args.take j)).foldl qo []) u.text:=by rw [qn0 hu z,←yr,yl];rfl
      have hS:=qbj g wA;obtain⟨ss,bj⟩:=ex ((R++qal (p.1.args.take j)).foldl qo []);rw [bj]at g ag hS ax;clear aP aQ hu z bj;refine hd4 ?_ hJ g ag hS;clear hJ g ag hS;intro y d U bz;go_wp2_with fail;refine(qn4 wr.heap.size _ ss u.text _ bz.o (zG _)).mono ?_;rintro e W3 ⟨i,rfl,b3,cA,cB,aw⟩;subst b3;by_cases aE:i<0
      ·have s:=aw.1 aE;have t:(R++qal (p.1.args.take (j+1))).foldl qo []=ss++ [u.text]:=U.o.trans (zF s);obtain⟨v',W4,bi,bd,ba,g2,a3,b2,au,bV⟩:=qc3 qef 60 d.o [.string u.text] rfl (by simp [Value.oneCell']) wA (by have:=aj.o;omega);subst b2;have kW:=y.o.trans (ba.mono fun b _ (h:b<M)=>qdu d.o h);have bf:W4.ownsRow M 9 1 (.slice (some ⟨g2,0,none⟩) (ss.length+1) a3) ((R++qal (p.1.args.take (j+1))).foldl qo []).length (((R++qal (p.1.args.take (j+1))).foldl qo []).map .string):=by
        rw [t]
        simpa using bd
       clear aw s t bd ba au bV;refine hd3 ?_ bi kW bf;clear bi kW bf;intro a1 bJ a0;go_wp2_with (at_builtin;refine qbo rfl _ _ _ rfl rfl rfl a1.o ?_);go_roundw
       case rel=>exact⟨j+1,wA,by go_num,bJ.o,a0.o⟩
       case measure=>simp [intOf];omega
      ·have s:u.text∈ss:=by
        by_cases h:u.text∈ss
        ·exact h
        ·exact absurd (aw.2 h) aE
       have t:(R++qal (p.1.args.take (j+1))).foldl qo []=ss:=U.o.trans (zI s);clear aw s;refine hd1 ?_ t;clear t;intro aJ;go_wp2_with fail;go_roundw
       case rel=>exact⟨j+1,wA,by go_num,y.o,by rw [aJ.o];exact d.o⟩
       case measure=>simp [intOf];omega
    ·obtain rfl:j=p.1.args.length:=by omega
     rw [zi,←a2.o]at g;clear ae;refine hd2 ?_ hJ g;clear hJ g;intro y d;go_wp2_with fail;go_roundw
     case rel=>exact⟨k+1,wA,by go_num,y.o,d.o⟩
     case measure=>simp [intOf];omega
  ·obtain rfl:k=ps.length:=by omega
   have ay:qew A ps.length=qdr A:=by unfold qew;rw [←aS.o,zi]
   rw [ay]at Y;have ax:=qfo (qdr A) [];obtain⟨l,hl⟩:=ex ((qdr A).foldl qo []);have x:=am.o;rw [hl]at Y ax x;obtain⟨al,cl,rfl⟩:=qi Y;have bU:([]:List ByteArray).length=0:=rfl;have hE:Keep (fun b=>b<w.heap.size) w wr:=bH.o.mt.trans ((bI.o.trans (hK.mono fun b _ h=>wA)).mono fun b _ h=>by have:=ak.o;omega);obtain⟨W5,a6⟩: ∃W5,W5=wr:=⟨_,rfl⟩;rw [←a6]at hE⊢;clear bb ay hl hK Y a6;refine hd2 ?_ x hE;clear x hE;intro an aT;go_wp2_with fail
   go_loopw [9,10] (fun v9 ix wr=> ∃(j n:Nat),j<=l.length/\ix=.int .i64 (j:Int)/\v9=.int .i64 (n:Int)/\n<=20000/\wr=W5/\qeu r many=qf2 many (l.drop j) n) (fun _ i _=>l.length-(intOf i).toNat)
   case atStart=>exact⟨0,1,wA,rfl,rfl,wA,rfl,an.o⟩
   case round=>
    obtain⟨j,m,hj,rfl,rfl,b1,rfl,hg⟩:=hrel;have bS:(0:Int)<=j:=wA
    by_cases ae:j<l.length
    ·have a9:(j:Int)<l.length:=by omega
     rw [qvn ae]at hg;have bP:m*many<=20000*1000000:=Nat.mul_le_mul b1 hm;obtain⟨c,hc⟩:=ex (m*many);have cf:(m:Int)*(many:Int)=(c:Int):=by rw [←hc];simp
     rw [hc]at hg bP;by_cases aA:20000<c
     ·rw [zI aA]at hg;have aK:(20000:Int)<c:=by omega
      clear hc;refine hd1 ?_ hg;clear hg;intro aH;go_wp2_with fail;go_ret;exact⟨by rw [aH.o];try rfl,aT.o⟩
     ·rw [zF aA]at hg;have aK:(c:Int)<=20000:=by omega
      clear hc;refine hd1 ?_ hg;clear hg;intro aH;go_wp2_with fail;go_roundw
      case rel=>exact⟨j+1,c,wA,by go_num,by go_num,wA,wF,aH.o⟩
      case measure=>simp [intOf];omega
    ·obtain rfl:j=l.length:=by omega
     rw [xo]at hg;have au:qeu r many=false:=hg;clear ae hg;refine hd1 ?_ au;clear au;intro aY;go_wp2_with fail;go_ret;exact⟨by rw [aY.o];try rfl,aT.o⟩
def qbu (r:RuleD):List TermD:=r.head.args++r.body.flatMap qm
def qc0 (r:RuleD)(k:Nat):List TermD:=r.head.args++(r.body.take k).flatMap qm
theorem qvp {r:RuleD}{k:Nat}{L:LitD}(h:r.body[k]?=some L):qc0 r (k+1)=qc0 r k++qm L:=by
 unfold qc0;rw [zh,h,yG,yr];simp
theorem qo0 (r:RuleD)(k:Nat):(qc0 r k).length<=(qbu r).length:=by
 unfold qc0 qbu;rw [zR,zR]
 conv=>rhs;rw [←yw k r.body,yG,zR]
 omega
theorem qji (a b:List TermD):qae (a++b)=qae a++qae b:=by unfold qae;rw [yG]
theorem q6t {α:Type}{f:α->List Value}{sz:Nat}(b: ∀x,(f x).length=sz): ∀{xs:List α} {j:Nat} {u:Value},(xs.flatMap f)[j]?=some u-> ∃k i x,j=k*sz+i/\xs[k]?=some x/\(f x)[i]?=some u:=by
 intro xs
 induction xs with
 |nil=>intro j u h;simp at h
 |cons x xs ih=>
  intro j u h;rw [yF]at h;by_cases e:j<sz
  ·rw [yR (by rw [b];exact e)]at h;exact⟨0,j,x,wA,rfl,h⟩
  ·rw [yH (by rw [b];omega),b]at h;obtain⟨k,i,y,g,c,d⟩:=ih h;exact⟨k+1,i,y,by rw [Nat.succ_mul];omega,c,d⟩
theorem qvq {α:Type}{n sz:Nat}{w:World}{E:World->Nat->Nat->α->Prop}{f:α->List Value}(v: ∀x,(f x).length=sz){a:Option Addr}{c:Nat}{xs:List α}(h:SliceIn n w sz E (.slice a xs.length c) xs)
  (q: ∀b o x,E w b o x-> ∀j u,(f x)[j]?=some u->w.cell? ⟨b,o+j,none⟩=some u):
  (∀b,a=some b-> ∀j u,(xs.flatMap f)[j]?=some u->w.cell? (b.add j)=some u)/\(a=none->xs.length=0):=by
 obtain⟨a',U,R,hl,Y,p⟩:=h;injection R with h1 l m
 subst h1;refine⟨fun b s j u y=>?_,fun h=>?_⟩
 ·obtain⟨k,i,x,rfl,l,m⟩:=q6t v y;obtain⟨g,o,e,t,z⟩:=p k x l;rw [s]at e;cases e;rw [show((⟨g,o,none⟩:Addr).add (k*sz+i))=⟨g,o+k*sz+i,none⟩ from by unfold Addr.add;split<;>simp_all [xG]];exact q _ _ _ z _ _ m
 ·cases d:xs with
  |nil=>rfl
  |cons x xs=>
   obtain⟨b,o,e,-⟩:=p 0 x (by rw [d];rfl);rw [h]at e;cases e
theorem qea {m:Nat}{w:World}{a:Option Addr}{c:Nat}{ts:List TermD}(h:qak m w (.slice a ts.length c) ts):(∀b,a=some b-> ∀j u,(qae ts)[j]?=some u->w.cell? (b.add j)=some u)/\(a=none->ts.length=0):=
 qvq (f:=fun(t:TermD)=> [.bool t.var,.string t.text]) (fun _=>rfl) h fun b o x e j u d=>by
  match j,d with
  |0,d=>cases d;exact e.1
  |1,d=>cases d;exact e.2
theorem qks (ts:List TermD): ∀u∈qae ts,u.oneCell'=true:=fun u c=>by
 unfold qae at c;obtain⟨t,-,b⟩:=xD.1 c;simp at b;rcases b with rfl |rfl<;>simp [Value.oneCell']
theorem qn1 {n:Nat}{r:RuleD}{sh sb:Value}{w:World}(hr:RuleIn n w sh sb r)(hn:n<=w.heap.size)(cb:(qbu r).length<=1073741824):
  Calls prog 82 #[qaq r sh sb] w fun e w'=> ∃v,e=.returned v/\Keep (fun b=>b<w.heap.size) w w'/\w'.ownsRow w.heap.size 77 2 v (qbu r).length (qae (qbu r)):=by
 unfold qaq;obtain⟨N,hN⟩:=ex (w.heap.size);have m:=hr.1;obtain⟨⟨ah,t,rfl,bz,bw,aC⟩,⟨ab,d,rfl,bx,bv,aB⟩⟩:=id hr;obtain⟨W0,aa⟩:=ex (w.alloc (.cells #[.string r.head.pred,.slice ah r.head.args.length t,.slice ab r.body.length d] 27));have k0:wE w W0:=by rw [←aa];exact kAl
 have p0:W0.heap[N]?=some (.cells #[.string r.head.pred,.slice ah r.head.args.length t,.slice ab r.body.length d] 27 (0,0)):=by rw [←aa,←hN];exact qh _ _
 have z0:W0.heap.size=N+1:=by rw [←aa,←hN];simp
 have d0:=qb p0 0 _ rfl;have d1:=qb p0 1 _ rfl;have d2:=qb p0 2 _ rfl;have ce:=qe p0;simp only [zD]at d0 d1 d2;obtain⟨W1,an⟩:=ex (W0.alloc (.cells #[] 77));have k1:wE W0 W1:=by rw [←an];exact kAl
 have o1:=qfc W0 77 2;rw [an,z0]at o1;have aM:=qan m ((k0.trans k1).mt);have bu:=qo0 r 0;have aK:qc0 r 0=r.head.args:=by unfold qc0;simp
 rw [aK]at bu;obtain⟨v2,W2,bc,ar,a8,a9⟩:=qhx (P:=prog) qh1 22 o1 ah r.head.args.length t (qae r.head.args) (qei _) (qea aM).1 (qea aM).2 (qks _) wA (by have:=k1.size;omega);rw [nil_append,zD]at ar;obtain⟨a2,c2,rfl⟩:=qi ar;have z1:=k1.size;have aE:Keep (fun b=>b<N+1) W1 W2:=a9.mono fun b _ h e=>by
  rcases a8 b e with h1 |h1
  ·simp [Value.ownBlock]at h1;omega
  ·omega
 have bf:Keep (fun b=>b<N+1) W0 W2:=k1.mt.trans aE;clear a8 a9 aM o1 m aE;refine qk2 ?_ z0 hr aC aB hN aa an k0 k1 bf p0 bc ar aK;clear z0 hr aC aB hN aa an k0 k1 bf p0 bc ar aK;intro b0 bS bs aG p aT aU a0 bU a1 bt aY aX aZ;refine qbr Tryz.func82 rfl ?_;simp only [Tryz.ntmps82,qdy,Nat.reduceAdd,Nat.reduceSub]
 gi_wp2_with (gi_at_builtin;refine qcd (v:=.slice (some ⟨w.heap.size+1,0,none⟩) 0 0) (u:=.slice ah r.head.args.length t) (v':=.slice a2 r.head.args.length c2) (w':=W2) rfl (.tmp 5) (.tmp 8) 22 rfl rfl rfl (by have h:=aY.o;rw [aT.o,aU.o,p.o];exact h) ?_)
 rw [p.o];gi_loopw [3,4] (fun v3 ix wr=> ∃(k:Nat),k<=r.body.length/\ix=.int .i64 (k:Int)/\Keep (fun b=>b<N+1) W0 wr/\wr.ownsRow (N+1) 77 2 v3 (qc0 r k).length (qae (qc0 r k))) (fun _ i _=>r.body.length-(intOf i).toNat)
 case atStart=>exact⟨0,wA,rfl,a1.o,by rw [aZ.o];exact aX.o⟩
 case round=>
  obtain⟨k,hk,rfl,hK,hO⟩:=hrel;have c:=hK.heap bt.o wA;have e0:=qb c 0 _ rfl;have e1:=qb c 1 _ rfl;have e2:=qb c 2 _ rfl;have bJ:=qe c;simp only [zD]at e0 e1 e2;have bM:=hK.size;have cg:(0:Int)<=k:=wA
  obtain⟨a3,c3,rfl⟩:=qi hO;by_cases bb:k<r.body.length
  ·have bL:(k:Int)<r.body.length:=by omega
   obtain⟨L,hL⟩: ∃L,r.body[k]?=some L:=⟨_,zB bb⟩;obtain⟨b,off,rfl,hb,sa,g,aL⟩:=aG.o k L hL;have kw:Keep (fun b=>b<n) w wr:=a0.o.mt.trans (hK.mono fun b _ h=>by have:=p.o;omega);have f0:=kw.cell (g 0 _ rfl) hb;have f2:=kw.cell (g 2 _ rfl) hb;have f3:=kw.cell (g 3 _ rfl) hb;have f4:=kw.cell (g 4 _ rfl) hb;have f5:=kw.cell (g 5 _ rfl) hb;have f6:=kw.cell (g 6 _ rfl) hb;simp only [Nat.add_zero]at f0;have m:=qan aL kw;have cf:b<wr.heap.size:=by have:=p.o;omega
   have l:=qvp hL;have ba:=qo0 r (k+1);obtain⟨a4,a6,rfl,cj,ci,bd⟩:=id m;cases ad:(L.kind==3) with
   |false=>
    have ae:qm L=L.atom.args:=by unfold qm;rw [zF (by simpa using ad)]
    rw [ae]at l;rw [l,zR]at ba;obtain⟨v',W5,ag,z,aq,y⟩:=qhx (P:=prog) qh1 22 hO a4 L.atom.args.length a6 (qae L.atom.args) (qei _) (qea m).1 (qea m).2 (qks _) wA wA;obtain⟨a5,c5,rfl⟩:=qi z;have kW:=hK.trans (y.mono fun b _ (h:b<N+1) e=>by
     rcases aq b e with h1 |h1
     ·exact qdu hO h h1.symm
     ·omega)
    have af:W5.ownsRow (N+1) 77 2 (.slice a5 ((qc0 r k).length+L.atom.args.length) c5) (qc0 r (k+1)).length (qae (qc0 r (k+1))):=by
     rw [l,qji,zR];exact z
    clear hL g aL m kw bd aq y z l f3 f4 f5 f6;refine hd6 ?_ hK hO c ag kW af;clear hK hO c ag kW af;intro aQ aF aA Y aI U
    gi_wp2_with (gi_at_builtin;refine qcd (v:=.slice a3 (qc0 r k).length c3) (u:=.slice a4 L.atom.args.length a6) (v':=.slice a5 ((qc0 r k).length+L.atom.args.length) c5) (w':=W5) rfl (.tmp 39) (.tmp 46) 22 rfl rfl rfl Y.o ?_)
    go_roundw
    case rel=>exact⟨k+1,wA,by go_num,aI.o,U.o⟩
    case measure=>simp [intOf];omega
   |true=>
    have ae:qm L= [L.left,L.right]:=by unfold qm;rw [zI (by simpa using ad)]
    rw [ae]at l;rw [l,zR]at ba;have ca: [L.left,L.right].length=2:=rfl;have kd:wE wr wr.drew:=kDr;obtain⟨x,aJ⟩:=ex (wr.drew);rw [aJ]at kd;obtain⟨Wb,ao⟩:=ex (x.alloc (.cells #[.bool L.left.var,.string L.left.text,.bool L.right.var,.string L.right.text] 77));have kb:wE x Wb:=by rw [←ao];exact kAl
    have pb:Wb.heap[x.heap.size]?=some (.cells #[.bool L.left.var,.string L.left.text,.bool L.right.var,.string L.right.text] 77 (0,0)):=by rw [←ao];exact qh _ _
    have am:=qf hO (kd.trans kb) (fun _ _=>wF);have cl:=kd.size;have ck:=kb.size;obtain⟨v',W5,ag,z,y,g5,c5,bD,aq,ch⟩:=app (P:=prog) qh1 22 am ⟨x.heap.size,0,none⟩ 2 2 (qae [L.left,L.right]) rfl (fun j u hj=>by
     have:=qb pb j u (by
      rw [show(qae [L.left,L.right])= [Value.bool L.left.var,.string L.left.text,.bool L.right.var,.string L.right.text]from rfl]at hj;exact hj)
     rw [show((⟨x.heap.size,0,none⟩:Addr).add j)=⟨x.heap.size,0+j,none⟩ from by unfold Addr.add;split<;>simp_all];exact this) (qks _) wA wA wA
    subst bD;have kW:=hK.trans ((kd.trans kb).mono (fun _ _ _=>wF) |>.trans (y.mono fun b _ (h:b<N+1)=>qdu am h));have af:W5.ownsRow (N+1) 77 2 (.slice (some ⟨g5,0,none⟩) ((qc0 r k).length+2) c5) (qc0 r (k+1)).length (qae (qc0 r (k+1))):=by
     rw [l,qji,zR];exact z
    have q:x.cell? ⟨N,2,none⟩=some (.slice (some ⟨b,off,none⟩) r.body.length d)/\x.cell? ⟨b,off+k*7+3,none⟩=some (.bool L.left.var)/\x.cell? ⟨b,off+k*7+4,none⟩=some (.string L.left.text)/\x.cell? ⟨b,off+k*7+5,none⟩=some (.bool L.right.var)/\x.cell? ⟨b,off+k*7+6,none⟩=some (.string L.right.text):=
     ⟨kd.cell e2 wF,kd.cell f3 wF,kd.cell f4 wF,kd.cell f5 wF,kd.cell f6 wF⟩
    have R:Keep (fun b=>b<N+1) Wb W5:=y.mono fun b _ (h:b<N+1)=>qdu am h;have s:Wb.cell? ⟨N,2,none⟩=some (.slice (some ⟨b,off,none⟩) r.body.length d)/\Wb.cell? ⟨b,off+k*7+3,none⟩=some (.bool L.left.var)/\Wb.cell? ⟨b,off+k*7+4,none⟩=some (.string L.left.text)/\Wb.cell? ⟨b,off+k*7+5,none⟩=some (.bool L.right.var)/\Wb.cell? ⟨b,off+k*7+6,none⟩=some (.string L.right.text):=
     ⟨kb.cell q.1 wF,kb.cell q.2.1 wF,kb.cell q.2.2.1 wF,kb.cell q.2.2.2.1 wF,kb.cell q.2.2.2.2 wF⟩
    have ap:b<N+1:=by have:=p.o;omega
    have a7:W5.cell? ⟨N,2,none⟩=some (.slice (some ⟨b,off,none⟩) r.body.length d)/\W5.cell? ⟨b,off+k*7+3,none⟩=some (.bool L.left.var)/\W5.cell? ⟨b,off+k*7+4,none⟩=some (.string L.left.text)/\W5.cell? ⟨b,off+k*7+5,none⟩=some (.bool L.right.var)/\W5.cell? ⟨b,off+k*7+6,none⟩=some (.string L.right.text):=
     ⟨R.cell s.1 (show N<N+1 from wA),R.cell s.2.1 ap,R.cell s.2.2.1 ap,R.cell s.2.2.2.1 ap,R.cell s.2.2.2.2 ap⟩
    have cd:b<x.heap.size:=wA
    have cc:N<x.heap.size:=wA
    clear hL g aL m kw bd y z l aq am pb R;refine qby ?_ hK hO c ag kW af q s a7 aJ ao kd kb f3 f4 f5;clear hK hO c ag kW af q s a7 aJ ao kd kb f3 f4 f5;intro aQ aF aA Y aI U aR aS az aW aV bW bV bO bP bQ;refine hd1 ?_ f6;clear f6;intro bR;gi_wp2;refine qag ?_;refine qw rfl (fun X=>X.cell? ⟨N,2,none⟩=some (.slice (some ⟨b,off,none⟩) r.body.length d)/\X.cell? ⟨b,off+k*7+3,none⟩=some (.bool L.left.var)/\X.cell? ⟨b,off+k*7+4,none⟩=some (.string L.left.text)/\X.cell? ⟨b,off+k*7+5,none⟩=some (.bool L.right.var)/\X.cell? ⟨b,off+k*7+6,none⟩=some (.string L.right.text)) [] ?_;rw [aW.o];refine qq [0,1,2,3,4,5,6,7,8,9,10,11,12] ?_
    iterate 13
     refine tkB rfl aR.o ?_
     try simp only [qr]
    refine ql ?_;refine hoR 13 rfl fun K aw=>?_;gi_wp2;rw [aV.o];refine aw.o _ _ (fun _=>aS.o) ?_;refine hoR 14 rfl fun K ax=>?_;refine qcd rfl (.tmp 24) (.tmp 37) 22 rfl rfl rfl Y.o ?_;gi_wp2;refine ax.o _ _ (fun _=>az.o) ?_;refine hoR 15 rfl fun K ay=>?_;gi_wp2;refine ay.o _ _ (fun _=>az.o) ?_;refine qz wB (qah ?_);clear aw ax ay;gi_wp2;go_roundw
    case rel=>exact⟨k+1,wA,by go_num,aI.o,U.o⟩
    case measure=>simp [intOf];omega
  ·obtain rfl:k=r.body.length:=by omega
   have aD:qc0 r r.body.length=qbu r:=by unfold qc0 qbu;rw [zi]
   have hE:Keep (fun b=>b<N) w wr:=a0.o.mt.trans (hK.mono fun b _ h=>wA);clear bb;refine hd5 ?_ hK hO hE c aD;clear hK hO hE c aD;intro aQ aF br aA aH;gi_wp2;refine yA (xm rfl _ _ _) rfl ?_;exact⟨_,rfl,by rw [p.o];exact br.o,by rw [p.o];rw [←aH.o];exact aF.o.mono (show N<=N+1 from wA)⟩
def qok (r:RuleD):List ByteArray:=(qal (qbu r)).foldl qo []
theorem qf3 {w:World}{base:Nat}{e:TypeId}{v:Value}{n:Nat}{ts:List TermD}(h:w.ownsRow base e 2 v n (qae ts))(m:n=ts.length)(g:ts.length<=1073741824):qak w.heap.size w v ts:=
 qda h ts m g TermE fun b k t p c=>by
  have d: ∀j,j<2->(qae ts)[k*2+j]?=([Value.bool t.var,.string t.text]:List Value)[j]?:=fun j l=>qbf (fun(t:TermD)=> [Value.bool t.var,.string t.text]) 2 (fun _=>rfl) _ k j t p l;exact⟨by have:=c 0 wA;rw [d 0 wA] at this;exact this,by have:=c 1 wA;rw [d 1 wA] at this;exact this⟩
theorem qxm {n:Nat}{r:RuleD}{sh sb:Value}{w:World}(hr:RuleIn n w sh sb r)(hn:n<=w.heap.size)(af:(qbu r).length<=1073741824):
  Calls prog 31 #[qaq r sh sb] w fun e w'=> ∃v,e=.returned v/\Keep (fun b=>b<w.heap.size) w w'/\w'.ownsRow w.heap.size 9 1 v (qok r).length ((qok r).map .string):=by
 obtain⟨N,hN⟩:=ex (w.heap.size);obtain⟨W0,t⟩:=ex (w.alloc (.cells #[.string r.head.pred,sh,sb] 27));have k0:wE w W0:=by rw [←t];exact kAl
 have p0:W0.heap[N]?=some (.cells #[.string r.head.pred,sh,sb] 27 (0,0)):=by rw [←t,←hN];exact qh _ _
 have z0:W0.heap.size=N+1:=by rw [←t,←hN];simp
 have g:=qn1 (w:=W0) (hr.keep k0.mt) wA af;have d0:=qb p0 0 _ rfl;have d1:=qb p0 1 _ rfl;have d2:=qb p0 2 _ rfl;have bm:=qe p0;simp only [zD]at d0 d1 d2;unfold qaq at g⊢;obtain⟨⟨ah,a4,rfl,aX,aT,Y⟩,⟨ab,a3,rfl,aW,aS,U⟩⟩:=id hr;obtain⟨ts,aD⟩:=ex (qbu r);have aF:qok r=(qal ts).foldl qo []:=by unfold qok;rw [aD]
 rw [aD]at g af;refine hd9 ?_ hr hN t k0 p0 g aF Y U;clear hr hN t k0 p0 g aF Y U;intro bf ad am aM bg z ar aL aK
 go_enter Tryz.func31,Tryz.ntmps31
 go_wp2_with fail;rw [am.o];refine z.o.mono ?_;rintro e W1 ⟨v,rfl,k1,hO⟩;have z1:=k1.size;have hA:=qf3 hO rfl af;obtain⟨av,cv,rfl,-,bo,ag⟩:=id hA;obtain⟨M,hM⟩:=ex (W1.heap.size);have bl:N+1<=M:=wA
 rw [hM]at ag;rw [ad.o];clear hO hA;refine hd3 ?_ k1 ag hM;clear k1 ag hM;intro aN an al;go_wp2_with fail
 go_loopw [4,5] (fun v4 ix wr=> ∃(k:Nat),k<=ts.length/\ix=.int .i64 (k:Int)/\Keep (fun b=>b<M) W1 wr/\wr.ownsRow M 9 1 v4 ((qal (ts.take k)).foldl qo []).length (((qal (ts.take k)).foldl qo []).map .string)) (fun _ i _=>ts.length-(intOf i).toNat)
 case atStart=>exact⟨0,wA,rfl,Keep.refl _ _,zj _ _ _ _⟩
 case round=>
  obtain⟨j,hj,rfl,y,d⟩:=hrel;have a9:=y.size;have br:(0:Int)<=j:=wA
  by_cases aw:j<ts.length
  ·have a8:(j:Int)<ts.length:=by omega
   obtain⟨u,hu⟩: ∃u,ts[j]?=some u:=⟨_,zB aw⟩;obtain⟨bt,ot,rfl,bn,ai,aj⟩:=an.o j u hu;have q0:=y.cell ai (show bt<M from wA);have q1:=y.cell aj (show bt<M from wA);have a7:bt<wr.heap.size:=by have:=al.o;omega
   have aY:=qfo (qal (ts.take j)) [];have bu:=qll ts j;have ba:(qal ts).length<=ts.length:=by unfold qal;rw [zL];exact yd _ _
   have bs:([]:List ByteArray).length=0:=rfl;cases p:u.var with
   |false=>
    rw [p]at q0;have ay:=qpo hu p;clear ai aj hu p;refine hd3 ?_ y d ay;clear y d ay;intro q c ao;go_wp2_with fail;go_roundw
    case rel=>exact⟨j+1,wA,by go_num,q.o,by rw [ao.o];exact c.o⟩
    case measure=>simp [intOf];omega
   |true=>
    rw [p]at q0;have x:(qal (ts.take (j+1))).foldl qo []=qo ((qal (ts.take j)).foldl qo []) u.text:=by rw [qn0 hu p,yl];rfl
    have hS:=qbj d wA;obtain⟨ss,aC⟩:=ex ((qal (ts.take j)).foldl qo []);rw [aC]at d x hS aY;clear ai aj hu p aC;refine hd4 ?_ y d x hS;clear y d x hS;intro q c s aJ;go_wp2_with fail;refine(qn4 wr.heap.size _ ss u.text _ aJ.o (zG _)).mono ?_;rintro e W3 ⟨i,rfl,a0,bp,bq,R⟩;subst a0;by_cases aa:i<0
    ·have l:=R.1 aa;have m:(qal (ts.take (j+1))).foldl qo []=ss++ [u.text]:=s.o.trans (zF l);obtain⟨v',W4,aB,az,ax,g2,au,aZ,aU,aV⟩:=qc3 qef 60 c.o [.string u.text] rfl (by simp [Value.oneCell']) wA (by have:=al.o;omega);subst aZ;have kW:=q.o.trans (ax.mono fun b _ (h:b<M)=>qdu c.o h);have aA:W4.ownsRow M 9 1 (.slice (some ⟨g2,0,none⟩) (ss.length+1) au) ((qal (ts.take (j+1))).foldl qo []).length (((qal (ts.take (j+1))).foldl qo []).map .string):=by
      rw [m]
      simpa using az
     clear R l m az ax aU aV;refine hd3 ?_ aB kW aA;clear aB kW aA;intro aq aO ap;go_wp2_with (at_builtin;refine qbo rfl _ _ _ rfl rfl rfl aq.o ?_);go_roundw
     case rel=>exact⟨j+1,wA,by go_num,aO.o,ap.o⟩
     case measure=>simp [intOf];omega
    ·have l:u.text∈ss:=by
      by_cases h:u.text∈ss
      ·exact h
      ·exact absurd (R.2 h) aa
     have m:(qal (ts.take (j+1))).foldl qo []=ss:=s.o.trans (zI l);clear R l;refine hd1 ?_ m;clear m;intro ae;go_wp2_with fail;go_roundw
     case rel=>exact⟨j+1,wA,by go_num,q.o,by rw [ae.o];exact c.o⟩
     case measure=>simp [intOf];omega
  ·obtain rfl:j=ts.length:=by omega
   rw [zi,←ar.o]at d;have hE:Keep (fun b=>b<N) w wr:=aM.o.mt.trans ((aN.o.trans (y.mono fun b _ h=>wA)).mono fun b _ h=>wA);clear aw;refine hd3 ?_ y d hE;clear y d hE;intro q c aI;go_wp2_with fail;go_ret;exact⟨_,rfl,by rw [ad.o];exact aI.o,by rw [ad.o];exact c.o.mono (show N<=M from wA)⟩
theorem qmt {fs:List qj}{k:Nat}{f:qj}(h:fs[k]?=some f)(l:List ByteArray):qcs (fs.drop k) l=if l.length<=400 then qcs (fs.drop (k+1)) (qqg l f) else l:=by
 obtain⟨c,b⟩:=zA.1 h;rw [zt c,b];rfl
theorem q6u {n:Nat}{r:RuleD}{sh sb v:Value}{fs:List qj}{w:World}(hr:RuleIn n w sh sb r)(hf:FactsIn n w v fs)(hn:n<=w.heap.size)(aY:r.stands.length<=1073741824)(ap: ∀f,f∈fs->f.tuple.length<=1073741424):
  Calls prog 6 #[qaq r sh sb,v] w fun e w'=>e=.returned (.bool (qhd r fs))/\Keep (fun b=>b<w.heap.size) w w':=by
 obtain⟨N,hN⟩:=ex (w.heap.size);obtain⟨W0,y⟩:=ex (w.alloc (.cells #[.string r.head.pred,sh,sb] 27));have k0:wE w W0:=by rw [←y];exact kAl
 have p0:W0.heap[N]?=some (.cells #[.string r.head.pred,sh,sb] 27 (0,0)):=by rw [←y,←hN];exact qh _ _
 have z0:W0.heap.size=N+1:=by rw [←y,←hN];simp
 have ao:=hr.keep k0.mt;obtain⟨af,cf,rfl,bo,bm,am⟩:=id hf;have x:=fun(many:Nat) (X:World) (hX:RuleIn n X sh sb r) (hnX:n<=X.heap.size) (hm:many<=1000000)=>qxl (w:=X) (many:=many) hX hnX aY hm;unfold qaq at x⊢;obtain⟨⟨ah,a8,rfl,a4,a0,U⟩,⟨ab,a7,rfl,a3,aZ,R⟩⟩:=id hr;by_cases av:400<fs.length
 ·have hv:qhd r fs=true:=by unfold qhd;rw [zI av]
  have az:(400:Int)<fs.length:=wA
  refine qlx ?_ hr hf hN y k0 p0 ao am ap x U R hv;clear hr hf hN y k0 p0 ao am ap x U R hv;intro aH aW q aq aJ aK aI ar au ae ay ax ak
  go_enter Tryz.func6,Tryz.ntmps6
  go_wp2_with fail;go_ret;exact⟨by rw [ak.o];try rfl,kAl⟩
 ·have hv:qhd r fs=(decide (400<(qcs fs []).length) ||qeu r (qcs fs []).length):=by unfold qhd;rw [zF av]
  have az:(fs.length:Int)<=400:=wA
  refine qlx ?_ hr hf hN y k0 p0 ao am ap x U R hv;clear hr hf hN y k0 p0 ao am ap x U R hv;intro aH aW q aq aJ aK aI ar au ae ay ax ak
  go_enter Tryz.func6,Tryz.ntmps6
  go_wp2_with fail;rw [aq.o,q.o]
  go_loopw [5,6] (fun v5 ix wr=> ∃(k:Nat) (l:List ByteArray),k<=fs.length/\ix=.int .i64 (k:Int)/\Keep (fun b=>b<N+1) W0 wr/\wr.ownsRow (N+1) 9 1 v5 l.length (l.map .string)/\l.length<=1073741824/\qcs fs []=qcs (fs.drop k) l) (fun _ i _=>fs.length-(intOf i).toNat)
  case atStart=>exact⟨0,[],wA,rfl,Keep.refl _ _,zj _ _ _ _,wC,rfl⟩
  case round=>
   obtain⟨k,l,hk,rfl,hK,hO,bp,s⟩:=hrel;have m:=hK.heap aK.o wA;have d0:=qb m 0 _ rfl;have d1:=qb m 1 _ rfl;have d2:=qb m 2 _ rfl;have bj:=qe m;simp only [zD]at d0 d1 d2;have bb:=hK.size;have bn:(0:Int)<=k:=wA
   obtain⟨al,cl,rfl⟩:=qi hO;have kw:Keep (fun b=>b<N) w wr:=aJ.o.mt.trans (hK.mono fun b _ h=>wA);have t:(k=fs.length∨400<l.length)->qcs fs []=l:=fun h=>by
    rcases h with rfl |h
    ·rw [s,xo];rfl
    ·rw [s];by_cases a1:k<fs.length
     ·obtain⟨f,aa⟩: ∃f,fs[k]?=some f:=⟨_,zB a1⟩;rw [qmt aa,zF wA]
     ·rw [xk wA];rfl
   by_cases z:400<l.length
   ·have g:qhd r fs=true:=by rw [ak.o,t (.inr z),zS z];rfl
    have a5:(400:Int)<l.length:=wA
    by_cases an:k<fs.length
    ·have aP:(k:Int)<fs.length:=by omega
     clear t s;refine hd5 ?_ g hK hO kw m;clear g hK hO kw m;intro p aj aw Y ad;go_wp2_with fail;go_ret;exact⟨by rw [p.o];try rfl,by rw [q.o];exact Y.o⟩
    ·obtain rfl:k=fs.length:=by omega
     clear t s an;refine hd5 ?_ g hK hO kw m;clear g hK hO kw m;intro p aj aw Y ad;go_wp2_with fail;go_ret;exact⟨by rw [p.o];try rfl,by rw [q.o];exact Y.o⟩
   ·have a5:(l.length:Int)<=400:=by omega
    by_cases an:k<fs.length
    ·have aP:(k:Int)<fs.length:=by omega
     obtain⟨f,aa⟩: ∃f,fs[k]?=some f:=⟨_,zB an⟩;obtain⟨b,o,rfl,hb,sv,aA,aC⟩:=ar.o k f aa;have kn:Keep (fun b=>b<n) w wr:=kw.mono fun b _ h=>by have:=q.o;omega
     have f0:=kn.cell (aA 0 _ rfl) hb;have f1:=kn.cell (aA 1 _ rfl) hb;simp only [Nat.add_zero]at f0;have bk:b<wr.heap.size:=by have:=q.o;omega
     have br:=au.o f (zH aa);have d:=qvm (n:=n) f.pred hO (qam aC kn) (by have:=q.o;omega) wA wA;have aB:=qfo f.tuple l;rw [qmt aa,zI wA]at s;obtain⟨l2,aN⟩:=ex (f.tuple.foldl qo l);unfold qqg at s;rw [aN]at s d aB;obtain⟨sa,sc,rfl,bq,-,-⟩:=id aC;clear aA aC aa kn t aN;refine hd6 ?_ s hK hO kw m d;clear s hK hO kw m d;intro aG aj aw Y ad u;go_wp2_with fail;refine u.o.mono ?_;rintro e W2 ⟨v',rfl,k2,o2⟩;have aL:=aj.o.trans k2;obtain⟨a2,c2,rfl⟩:=qi o2;have aO:l2.length<=1073741824:=wA
     clear k2;refine hd2 ?_ aL o2;clear aL o2;intro aF aX;go_wp2_with fail;go_roundw
     case rel=>exact⟨k+1,l2,wA,by go_num,aF.o,aX.o,aO,aG.o⟩
     case measure=>simp [intOf];omega
    ·obtain rfl:k=fs.length:=by omega
     have g:qhd r fs=qeu r l.length:=by rw [ak.o,t (.inl rfl),zM z];rfl
     have d:=ae.o l.length wr (aH.o.keep (kw.mono fun b _ h=>by have:=q.o;omega)) (by have:=q.o;omega) wA;obtain⟨c,hc⟩:=ex (qeu r l.length);rw [hc]at g d;clear t s an;refine hd6 ?_ g hK hO kw m d;clear g hK hO kw m d;intro p aj aw Y ad u;go_wp2_with fail;refine u.o.mono ?_;rintro e W2 ⟨rfl,k2⟩;have hE:=Y.o.trans (k2.mono fun b _ h=>wA);clear k2;refine hd1 ?_ hE;clear hE;intro aV;go_wp2_with fail;go_ret;have a6:decide ((400:Int)<l.length)=false:=by simp;omega
     refine⟨?_,by rw [q.o];exact aV.o⟩;rw [p.o];show Ending.returned (Value.bool (decide ((400:Int)<l.length) ||c))=_;rw [a6]
     rfl
def qdq (p:qj×Value):List Value:= [.string p.1.pred,p.2]
theorem qvr:qb2 prog 28 86 2 40:=qcl (z:=.agg #[.string ⟨#[]⟩,.slice none 0 0]) wB wB rfl wD wD
abbrev qq2 (n:Nat)(w:World)(v:Value)(ps:List (qj×Value)):Prop:=SliceIn n w 2 (fun w b o p=>CellsE w b o (qdq p)) v ps
theorem qxn {n:Nat}{w:World}{v:Value}{fs:List qj}(h:FactsIn n w v fs): ∃ps:List (qj×Value),ps.map (·.1)=fs/\qq2 n w v ps/\ ∀p,p∈ps->qaf n w p.2 p.1.tuple:=by
 obtain⟨a,c,hv,hl,Y,x⟩:=h;have q: ∀k,∃t,∀f,fs[k]?=some f-> ∃b o,a=some ⟨b,o,none⟩/\b<n/\CellsE w b (o+k*2) [.string f.pred,t]/\qaf n w t f.tuple:=fun k=>by
  cases y:fs[k]? with
  |none=>exact⟨.nilFunc,fun f h=>by cases h⟩
  |some f=>
   obtain⟨b,o,e,s,t,d,l⟩:=x k f y;exact⟨t,fun f' h=>by cases h;exact⟨b,o,e,s,d,l⟩⟩
 obtain⟨g,U⟩: ∃g:Nat->Value,∀k f,fs[k]?=some f-> ∃b o,a=some ⟨b,o,none⟩/\b<n/\CellsE w b (o+k*2) [.string f.pred,g k]/\qaf n w (g k) f.tuple:=⟨fun k=>Classical.choose (q k),fun k=>Classical.choose_spec (q k)⟩;have m: ∀(k:Nat) (p:qj×Value),(fs.mapIdx fun k f=>(f,g k))[k]?=some p->fs[k]?=some p.1/\p.2=g k:=fun k p h=>by
  rw [getElem?_mapIdx]at h;obtain⟨f,hf,x⟩:=xO.1 h;subst x;exact⟨hf,rfl⟩
 refine⟨fs.mapIdx fun k f=>(f,g k),?_,⟨a,c,by rw [length_mapIdx];exact hv,by rw [length_mapIdx];exact hl,by rw [length_mapIdx];exact Y,fun k p z=>?_⟩,fun p z=>?_⟩
 ·refine xX fun k=>?_;rw [zP,getElem?_mapIdx];cases fs[k]?<;>rfl
 ·obtain⟨d,l⟩:=m k p z;obtain⟨b,o,e,s,u,R⟩:=U k _ d;exact⟨b,o,e,s,by rw [←l] at u;exact u⟩
 ·obtain⟨k,y⟩:=zy.1 z;obtain⟨d,l⟩:=m k p y;obtain⟨b,o,e,s,u,R⟩:=U k _ d;rw [l];exact R
theorem qq3 {m:Nat}{w:World}{a:Option Addr}{c:Nat}{ps:List (qj×Value)}(h:qq2 m w (.slice a ps.length c) ps):(∀b,a=some b-> ∀j u,(ps.flatMap qdq)[j]?=some u->w.cell? (b.add j)=some u)/\(a=none->ps.length=0):=
 qvq (E:=fun w b o p=>CellsE w b o (qdq p)) (f:=qdq) (fun _=>rfl) h fun b o x e j u d=>e j u d
theorem q31 {n:Nat}{w:World}{base:Nat}{e:TypeId}{v:Value}{k:Nat}{ps:List (qj×Value)}(h:w.ownsRow base e 2 v k (ps.flatMap qdq))(R:k=ps.length)(y:ps.length<=1073741824)(Y:n<=w.heap.size)(hT: ∀p,p∈ps->qaf n w p.2 p.1.tuple):FactsIn w.heap.size w v (ps.map (·.1)):=by
 have hA:qq2 w.heap.size w v ps:=qda h ps R y _ fun b i p d q=>fun j u t=>by
  have l:j<2:=by
   have:=(zA.1 t).1
   simpa [qdq]using this
  have hi:=qbf qdq 2 (fun _=>rfl) _ i j p d l;have:=q j l;rw [hi,t]at this;exact this
 obtain⟨a,c,hv,U,q,z⟩:=hA;refine⟨a,c,by rw [zL];exact hv,by rw [zL];exact U,by rw [zL];exact q,fun i f g=>?_⟩;rw [zP]at g;cases d:ps[i]? with
 |none=>rw [d] at g;cases g
 |some p=>
  rw [d]at g;cases g;obtain⟨b,o,x,m,s⟩:=z i p d;exact⟨b,o,x,m,p.2,s,qb4 (hT p (zH d)) Y⟩
def q7f (n:Nat)(w:World)(b o:Nat)(fs:List qj):Prop:= ∃v,w.cell? ⟨b,o,none⟩=some v/\FactsIn n w v fs
theorem q32 {n m:Nat}{v:Value}{ls:List (List qj)}{w:World}(hl:SliceIn m w 1 (q7f n) v ls)(hn:n<=m)(hm:m<=w.heap.size)(aO:ls.flatten.length<=1073741824):
  Calls prog 7 #[v] w fun e w'=> ∃v',e=.returned v'/\Keep (fun b=>b<w.heap.size) w w'/\FactsIn w'.heap.size w' v' ls.flatten:=by
 obtain⟨al,cl,rfl,a0,aW,aj⟩:=id hl;have av: ∀k,(ls.take k).flatten.length<=ls.flatten.length:=fun k=>by
  conv=>rhs;rw [←yw k ls,flatten_append,zR]
  omega
 refine hd3 ?_ hl aj av;clear hl aj av;intro aR af q
 go_enter Tryz.func7,Tryz.ntmps7
 go_wp2_with fail
 go_loopw [3,4] (fun v3 ix wr=> ∃(k:Nat) (ps:List (qj×Value)),k<=ls.length/\ix=.int .i64 (k:Int)/\Keep (fun b=>b<w.heap.size) w wr/\ps.map (·.1)=(ls.take k).flatten/\(∀p,p∈ps->qaf n w p.2 p.1.tuple)/\wr.ownsRow w.heap.size 86 2 v3 ps.length (ps.flatMap qdq)) (fun _ i _=>ls.length-(intOf i).toNat)
 case atStart=>exact⟨0,[],wA,rfl,Keep.refl _ _,rfl,fun p h=>(by cases h),zj _ _ _ _⟩
 case round=>
  obtain⟨k,ps,hk,rfl,hK,c,hT,s⟩:=hrel;have aN:=hK.size;have aZ:(0:Int)<=k:=wA
  obtain⟨a3,c3,rfl⟩:=qi s;have aG:ps.length<=1073741824:=by
   have h1:=yN List.length c;rw [zL]at h1;have h2:=q.o k;omega
  by_cases ao:k<ls.length
  ·have aM:(k:Int)<ls.length:=by omega
   obtain⟨fs,y⟩: ∃fs,ls[k]?=some fs:=⟨_,zB ao⟩;obtain⟨b,o,rfl,hb,vf,aw,ak⟩:=af.o k fs y;obtain⟨d,R,U,Y⟩:=qxn ak;obtain⟨aq,cq,rfl,a1,aX,aE⟩:=id U;have f0:=hK.cell aw (show b<w.heap.size from wA);simp only [yB]at f0;have aV:b<wr.heap.size:=wA
   have kn:Keep (fun b=>b<n) w wr:=hK.mono fun b _ h=>wA
   have g:qq2 n wr (.slice aq d.length cq) d:=U.mono fun b o p hb h=>fun j u hj=>kn.cell (h j u hj) hb;have l:(ls.take (k+1)).flatten=(ls.take k).flatten++fs:=by rw [zh,y,flatten_append];simp
   have aL:ps.length+d.length<=1073741824:=by
    have h1:=yN List.length c;have h3:=yN List.length R;have h2:=q.o (k+1);rw [l,zR]at h2;rw [zL]at h1 h3;omega
   obtain⟨v',W5,au,z,am,an⟩:=qhx (P:=prog) qvr 28 s aq d.length cq (d.flatMap qdq) (qa4 qdq 2 (fun _=>rfl) _) (qq3 g).1 (qq3 g).2 (fun u hu=>by
    obtain⟨p,hp,hu⟩:=xD.1 hu;obtain⟨ax,cx,hx,-,-,-⟩:=Y p hp;unfold qdq at hu;rw [hx]at hu;simp at hu;rcases hu with rfl |rfl<;>simp [Value.oneCell']) wA wA
   obtain⟨a5,c5,rfl⟩:=qi z;have kW:=hK.trans (an.mono fun b _ (h:b<w.heap.size) e=>by
    rcases am b e with h1 |h1
    ·exact qdu s h h1.symm
    ·omega)
   have ap:W5.ownsRow w.heap.size 86 2 (.slice a5 (ps.length+d.length) c5) (ps++d).length ((ps++d).flatMap qdq):=by
    rw [yG,zR];exact z
   have t:(ps++d).map (·.1)=(ls.take (k+1)).flatten:=by rw [zn,c,R,l]
   have ai: ∀p,p∈ps++d->qaf n w p.2 p.1.tuple:=fun p hp=>by
    rcases zr.1 hp with h |h
    ·exact hT p h
    ·exact Y p h
   clear c hT y aw ak R U Y aE kn g l am an z;refine hd7 ?_ hK s au kW ap t ai;clear hK s au kW ap t ai;intro ad az ah aA ag x ae;go_wp2_with (at_builtin;refine qbo (v:=.slice a3 ps.length c3) (u:=.slice aq d.length cq) (v':=.slice a5 (ps.length+d.length) c5) (w':=W5) rfl (.tmp 11) (.tmp 15) 28 rfl rfl rfl ah.o ?_);go_roundw
   case rel=>exact⟨k+1,ps++d,wA,by go_num,aA.o,x.o,ae.o,ag.o⟩
   case measure=>simp [intOf];omega
  ·obtain rfl:k=ls.length:=by omega
   rw [zi]at c;have hF:=q31 (n:=n) s rfl aG wA (fun p hp=>qam (hT p hp) (hK.mono fun b _ h=>wA));rw [c]at hF;clear ao c hT;refine hd3 ?_ hK s hF;clear hK s hF;intro ad az ay;go_wp2_with fail;go_ret;exact⟨_,rfl,ad.o,ay.o⟩
end Go.Proofs
