/- Parts of the proof. -/
import Derived.Test.YtnponcjnahicnaaGreatDoorCmFToRfA
set_option linter.unusedSimpArgs false
set_option linter.unusedVariables false
set_option maxRecDepth 100000
set_option maxHeartbeats 2000000
open Go.Proofs.Tryz(prog)
open List(filter_map flatMap_map map_map nil_append take_sublist)
namespace Go.Proofs
open Go.RowKit Go.Ink Go.Flt R4 P16
attribute [local go_sem] Oper.semAt_some
def qhd (a b:List ByteArray):Int:=if ltR a b=true then-1 else if ltR b a=true then 1 else 0
theorem q0c (x y:ByteArray)(xs d:List ByteArray):qhd (x::xs) (y::d)=if qkp x y=0 then qhd xs d else qkp x y:=by
 unfold qhd qkp;simp only [ltR];by_cases b:ltS x y=true
 ·simp [b,qqh b]
 ·by_cases c:ltS y x=true
  ·simp [b,c]
  ·simp [b,c]
theorem q0d {xs b:List ByteArray}{k:Nat}{x y:ByteArray}(g:xs[k]?=some x)(h:b[k]?=some y):qhd (xs.drop k) (b.drop k)=if qkp x y=0 then qhd (xs.drop (k+1)) (b.drop (k+1)) else qkp x y:=by
 obtain⟨e,c⟩:=zA.1 g;obtain⟨f,d⟩:=zA.1 h;rw [zr e,zr f,c,d,q0c]
theorem q2o {xs b:List ByteArray}{k:Nat}(c:k<=xs.length)(d:k<=b.length)(h:k=xs.length∨k=b.length):qhd (xs.drop k) (b.drop k)=if xs.length<b.length then-1 else if b.length<xs.length then 1 else 0:=by
 rcases h with rfl |rfl
 ·rw [xo];by_cases h:xs.length<b.length
  ·rw [zI h,zr h];rfl
  ·rw [zF h,zF xz,xk xz];rfl
 ·rw [xo];by_cases h:b.length<xs.length
  ·rw [zF xz,zI h,zr h];rfl
  ·rw [zF xz,zF h,xk xz];rfl
theorem qxp (n:Nat)(va vb:Value)(xs j:List ByteArray)(w:World)(ha:qal n w va xs)(hb:qal n w vb j)(hn:n<=w.heap.size):
  Calls prog 125 #[va,vb] w fun e w'=>e=.returned (.int .i64 (qhd xs j))/\ ∃m,w'=w.drewN m:=by
 obtain⟨aa,ca,rfl,aE,aA,ad⟩:=id ha;obtain⟨ab,cb,rfl,aF,aB,ae⟩:=id hb;refine hd4 ?_ ha hb ad ae;clear ha hb ad ae;intro ao ap X Y
 go_enter Tryz.func125,Tryz.ntmps125
 go_wp2_with fail
 go_loopw [5] (fun i wr=> ∃k:Nat,k<=xs.length/\k<=j.length/\i=.int .i64 (k:Int)/\(∃m,wr=w.drewN m)/\qhd xs j=qhd (xs.drop k) (j.drop k)) (fun i _=>xs.length-(intOf i).toNat)
 case atStart=>exact⟨0,xz,xz,rfl,⟨0,rfl⟩,rfl⟩
 case round=>
  obtain⟨k,hk,al,rfl,hM,b⟩:=hrel;have hK:wD w wr:=by obtain⟨m,rfl⟩:=hM;exact Keep.drewN' _ _ _
  have q:=zg hM;clear hM;have aD:(0:Int)<=k:=xz
  have f:(k=xs.length∨k=j.length)->qhd xs j=if xs.length<j.length then-1 else if j.length<xs.length then 1 else 0:=fun h=>b.trans (q2o hk al h)
  by_cases v:k<xs.length
  ·have an:(k:Int)<xs.length:=by omega
   by_cases z:k<j.length
   ·have s:(k:Int)<j.length:=by omega
    obtain⟨x,hx⟩: ∃x,xs[k]?=some x:=⟨_,zB v⟩;obtain⟨y,hy⟩: ∃y,j[k]?=some y:=⟨_,zB z⟩;obtain⟨ba,oa,rfl,ay,R⟩:=X.o k x hx;obtain⟨bb,ob,rfl,az,U⟩:=Y.o k y hy;have f1:=hK.cell R trivial;have f2:=hK.cell U trivial;simp only [yA]at f1 f2;have hs:=hK.size;have aw:ba<wr.heap.size:=xz
    have ax:bb<wr.heap.size:=xz
    rw [q0d hx hy]at b;have d:=fun w=>qry x y w;by_cases p:qkp x y=0
    ·rw [zI p]at b;rw [p]at d;clear hx hy p R U f;refine hd3 ?_ b hK d;clear b hK d;intro l u g;go_wp2_with fail
     go_quiet ((go_at_call 163;exact Calls.quiet_of_same (g.o _)))
     go_wp2_with fail;go_roundw
     case rel=>exact⟨k+1,xz,xz,by go_num,(by obtain⟨m,h⟩:=q.o;rw [h,World.drewN_drewN];exact⟨_,rfl⟩),l.o⟩
     case measure=>simp [intOf];omega
    ·rw [zF p]at b;obtain⟨c,hc⟩:=ex (qkp x y);rw [hc]at b d p;have aG:(c !=0)=true:=by simpa using p
     clear hx hy p R U f hc;refine hd3 ?_ b hK d;clear b hK d;intro l u g;go_wp2_with fail
     go_quiet ((go_at_call 163;exact Calls.quiet_of_same (g.o _)))
     go_wp2_with fail;go_ret;exact⟨by rw [l.o];try rfl,(by obtain⟨m,h⟩:=q.o;rw [h,World.drewN_drewN];exact⟨_,rfl⟩)⟩
   ·have t:=f (.inr xz);rw [zF xz,zI xz]at t;have s:(j.length:Int)<xs.length:=by omega
    obtain rfl:k=j.length:=xz
    clear b f v z;refine hd2 ?_ t hK;clear t hK;intro r u;go_wp2_with fail;go_ret;exact⟨by rw [r.o];try rfl,q.o⟩
  ·have t:=f (.inl xz);obtain rfl:k=xs.length:=by omega
   by_cases h1:xs.length<j.length
   ·rw [zI h1]at t;have s:(xs.length:Int)<j.length:=by omega
    clear b f v h1;refine hd2 ?_ t hK;clear t hK;intro r u;go_wp2_with fail;go_ret;exact⟨by rw [r.o];try rfl,q.o⟩
   ·rw [zF h1,zF xz]at t;have s:(xs.length:Int)=j.length:=by omega
    clear b f v h1;refine hd2 ?_ t hK;clear t hK;intro r u;go_wp2_with fail;go_ret;exact⟨by rw [r.o];try rfl,q.o⟩
theorem qgz {w:World}{base:Nat}{e:TypeId}{sz:Nat}{v:Value}{n:Nat}{xs:List Value}(h:w.ownsRow base e sz v n xs){b:Nat}(d:b<base):some b≠v.ownBlock:=fun c=>by
 have:=(zE h b c.symm).1;omega
def qa3 (body:List LitD):List qfx:=(body.filter fun L=>L.kind==1).map (·.atom)
theorem qml {body:List LitD}{k:Nat}{L:LitD}(h:body[k]?=some L)(b:(L.kind==1)=true):qa3 (body.take (k+1))=qa3 (body.take k)++ [L.atom]:=by
 unfold qa3;rw [zh,h,yS,zm];simp [b]
theorem qng {body:List LitD}{k:Nat}{L:LitD}(h:body[k]?=some L)(b:(L.kind==1)=false):qa3 (body.take (k+1))=qa3 (body.take k):=by
 unfold qa3;rw [zh,h,yS,zm];simp [b]
theorem qtg (body:List LitD):(qa3 body).length<=body.length:=by
 unfold qa3;rw [zL];exact yd _ _
def qhi (p:qfx×Value):List Value:= [.string p.1.pred,p.2]
theorem q2p:qb2 prog 67 24 2 40:=qcl (z:=.agg #[.string ⟨#[]⟩,.slice none 0 0]) wA wA rfl wC wC
theorem qrg {n:Nat}{r:RuleD}{sh sb:Value}{w:World}(hr:RuleIn n w sh sb r)(hn:n<=w.heap.size):
  Calls prog 33 #[qaz r sh sb] w fun e w'=> ∃(v:Value) (ps:List (qfx×Value)),e=.returned v/\Keep (fun b=>b<w.heap.size) w w'/\ps.map (·.1)=qa3 r.body/\(∀p,p∈ps->qad n w' p.2 p.1.args)/\w'.ownsRow w.heap.size 24 2 v ps.length (ps.flatMap qhi):=by
 obtain⟨⟨ah,U,rfl,aL,aH,Y⟩,⟨ab,R,rfl,aK,aG,X⟩⟩:=id hr;unfold qaz;obtain⟨N,hN⟩:=ex (w.heap.size);obtain⟨W0,l⟩:=ex (w.alloc (.cells #[.string r.head.pred,.slice ah r.head.args.length U,.slice ab r.body.length R] 27));have k0:wD w W0:=by rw [←l];exact kAl
 have p0:W0.heap[N]?=some (.cells #[.string r.head.pred,.slice ah r.head.args.length U,.slice ab r.body.length R] 27 (0,0)):=by rw [←l,←hN];exact qh _ _
 have z0:W0.heap.size=N+1:=by rw [←l,←hN];simp
 refine hd7 ?_ hr Y X hN l k0 p0;clear hr Y X hN l k0 p0;intro aY aC ae j am aq aE
 go_enter Tryz.func33,Tryz.ntmps33
 go_wp2_with fail;rw [am.o,j.o]
 go_loopw [3,4] (fun v3 ix wr=> ∃(k:Nat) (ps:List (qfx×Value)),k<=r.body.length/\ix=.int .i64 (k:Int)/\Keep (fun b=>b<N+1) W0 wr/\ps.map (·.1)=qa3 (r.body.take k)/\(∀p,p∈ps->qad n wr p.2 p.1.args)/\wr.ownsRow (N+1) 24 2 v3 ps.length (ps.flatMap qhi)) (fun _ i _=>r.body.length-(intOf i).toNat)
 case atStart=>exact⟨0,[],xz,rfl,Keep.refl _ _,rfl,fun p h=>(by cases h),zj _ _ _ _⟩
 case round=>
  obtain⟨k,ps,hk,rfl,hK,d,hT,x⟩:=hrel;have c:=hK.heap aE.o xz;have d0:=qb c 0 _ rfl;have d1:=qb c 1 _ rfl;have d2:=qb c 2 _ rfl;have a6:=qe c;simp only [zD]at d0 d1 d2;have aT:=hK.size;by_cases aw:k<r.body.length
  ·obtain⟨L,hL⟩: ∃L,r.body[k]?=some L:=⟨_,zB aw⟩;obtain⟨b,off,rfl,hb,sa,m,aj⟩:=ae.o k L hL;have kw:Keep (fun b=>b<n) w wr:=aq.o.mt.trans (hK.mono fun b _ h=>by have:=j.o;omega);have f0:=kw.cell (m 0 _ rfl) hb;have f1:=kw.cell (m 1 _ rfl) hb;have f2:=kw.cell (m 2 _ rfl) hb;have y:=qq aj kw;have a7:b<wr.heap.size:=by have:=j.o;omega
   have aS:(k:Int)<r.body.length:=xz
   have a8:(0:Int)<=k:=xz
   simp only [Nat.add_zero]at f0;have ba:ps.length<=k:=by
    have h1:=yM List.length d;rw [zL]at h1;have h2:=qtg (r.body.take k);rw [yB]at h2;omega
   cases q:(L.kind==1) with
   |false=>
    have f:=d.trans (qng hL q).symm;clear d hL m aj y kw;refine hd5 ?_ hK x hT f c;clear hK x hT f c;intro aa s ad g z;go_wp2_with fail;go_roundw
    case rel=>exact⟨k+1,ps,xz,by go_num,aa.o,g.o,ad.o,s.o⟩
    case measure=>simp [intOf];omega
   |true=>
    have f:(ps++ [(L.atom,sa)]).map (·.1)=qa3 (r.body.take (k+1)):=by rw [zm,d,qml hL q];rfl
    obtain⟨t,u,rfl,bc,bb,aN⟩:=id y;obtain⟨v',W2,ai,ax,af,g2,ar,aO,aI,aJ⟩:=qdd q2p 67 x (qhi (L.atom,.slice t L.atom.args.length u)) rfl (by simp [qhi,Value.oneCell']) xz xz;subst aO;have kW:=hK.trans (af.mono fun b _ h=>qgz x h);have ay:W2.ownsRow (N+1) 24 2 (.slice (some ⟨g2,0,none⟩) (ps.length+1) ar) (ps++ [(L.atom,Value.slice t L.atom.args.length u)]).length ((ps++ [(L.atom,Value.slice t L.atom.args.length u)]).flatMap qhi):=by
     simpa using ax
    have ag:Keep (fun b=>b<n) wr W2:=af.mono fun b _ h=>qgz x (by have:=j.o;omega);have av: ∀p,p∈ps++ [(L.atom,Value.slice t L.atom.args.length u)]->qad n W2 p.2 p.1.args:=fun p hp=>by
     rcases zn.1 hp with h |h
     ·exact qq (hT p h) ag
     ·cases zl.1 h;exact qq y ag
    simp only [qhi]at ai;clear d hL m aj y kw aN hT ax af aI aJ ag;refine hd8 ?_ hK x av f c ai kW ay;clear hK x av f c ai kW ay;intro aa s al g z ap aD an;go_wp2_with (at_builtin;refine qcd rfl _ _ _ rfl rfl rfl ap.o ?_);go_roundw
    case rel=>exact⟨k+1,_,xz,by go_num,aD.o,g.o,al.o,an.o⟩
    case measure=>simp [intOf];omega
  ·obtain rfl:k=r.body.length:=by omega
   rw [zi]at d;have hE:Keep (fun b=>b<N) w wr:=aq.o.mt.trans (hK.mono fun b _ h=>xz);clear aw;refine hd6 ?_ hK x hT d hE c;clear hK x hT d hE c;intro aa s ad ao aB z;go_wp2_with fail;go_ret;exact⟨_,ps,rfl,j.o▸aB.o,ao.o,ad.o,s.o.mono (by have:=j.o;omega)⟩
def qgv (ats:List qfx):List ByteArray:=ats.flatMap fun a=>qar a.args
theorem q5o (body:List LitD):qaa body (qcn body)=qgv (qa3 body):=by
 have c:body=(List.range body.length).map (fun i=>body.getD i default):=by
  refine xW fun i=>?_;rw [zP];by_cases h:i<body.length
  ·rw [xr h,zB h];simp [zJ,zB h]
  ·rw [xA xz,xA (by simp;omega)];rfl
 have b:qgv (qa3 body)=(qcn body).flatMap fun i=>qar (body.getD i default).atom.args:=by
  unfold qgv qa3
  conv=>lhs;rw [c]
  rw [filter_map,map_map,flatMap_map]
  rfl
 rw [b];unfold qaa;have: ∀(l:List Nat),(∀i,i∈l->qb1 body i=1)->(l.flatMap fun i=>if (body.getD i default).kind=3∨(body.getD i default).kind=2 then [] else qar (body.getD i default).atom.args)=l.flatMap fun i=>qar (body.getD i default).atom.args:=by
  intro l
  induction l with
  |nil=>intro _;rfl
  |cons i l ih=>
   intro h;have hi:=h i (yI ..);unfold qb1 at hi;rw [yE,yE,ih fun j d=>h j (yC _ d),zF xz]
 exact this _ fun i hi=>(qf5 hi).2
theorem qqy {ts:List TermD}{k:Nat}{t:TermD}(h:ts[k]?=some t)(b:t.var=true):qar (ts.take (k+1))=qar (ts.take k)++ [t.text]:=by
 unfold qar;rw [zh,h,yS,zm];simp [b]
theorem qth {ts:List TermD}{k:Nat}{t:TermD}(h:ts[k]?=some t)(b:t.var=false):qar (ts.take (k+1))=qar (ts.take k):=by
 unfold qar;rw [zh,h,yS,zm];simp [b]
theorem qpw (ts:List TermD)(k:Nat):(qar (ts.take k)).length<=(qar ts).length:=by
 unfold qar;rw [zL,zL];exact((take_sublist _ _).filter _).length_le
def qca (r:RuleD):List TermD:=r.head.args++r.body.flatMap ql
def qci (r:RuleD)(k:Nat):List TermD:=r.head.args++(r.body.take k).flatMap ql
theorem qti {r:RuleD}{k:Nat}{L:LitD}(h:r.body[k]?=some L):qci r (k+1)=qci r k++ql L:=by
 unfold qci;rw [zh,h,yF,yq];simp
theorem qnh (r:RuleD)(k:Nat):(qci r k).length<=(qca r).length:=by
 unfold qci qca;rw [zR,zR]
 conv=>rhs;rw [←yu k r.body,yF,zR]
 omega
theorem qin (a b:List TermD):qv (a++b)=qv a++qv b:=by unfold qv;rw [yF]
theorem q2q {α:Type}{f:α->List Value}{sz:Nat}(b: ∀x,(f x).length=sz): ∀{xs:List α} {j:Nat} {u:Value},(xs.flatMap f)[j]?=some u-> ∃k i x,j=k*sz+i/\xs[k]?=some x/\(f x)[i]?=some u:=by
 intro xs
 induction xs with
 |nil=>intro j u h;simp at h
 |cons x xs ih=>
  intro j u h;rw [yE]at h;by_cases e:j<sz
  ·rw [yQ (by rw [b];exact e)]at h;exact⟨0,j,x,xz,rfl,h⟩
  ·rw [yG (by rw [b];omega),b]at h;obtain⟨k,i,y,g,c,d⟩:=ih h;exact⟨k+1,i,y,by rw [Nat.succ_mul];omega,c,d⟩
theorem q5p {α:Type}{n sz:Nat}{w:World}{E:World->Nat->Nat->α->Prop}{f:α->List Value}(t: ∀x,(f x).length=sz){a:Option Addr}{c:Nat}{xs:List α}(h:SliceIn n w sz E (.slice a xs.length c) xs)
  (q: ∀b o x,E w b o x-> ∀j u,(f x)[j]?=some u->w.cell? ⟨b,o+j,none⟩=some u):
  (∀b,a=some b-> ∀j u,(xs.flatMap f)[j]?=some u->w.cell? (b.add j)=some u)/\(a=none->xs.length=0):=by
 obtain⟨a',R,z,X,U,p⟩:=h;injection z with h1 l m
 subst h1;refine⟨fun b r j u v=>?_,fun h=>?_⟩
 ·obtain⟨k,i,x,rfl,l,m⟩:=q2q t v;obtain⟨g,o,e,s,y⟩:=p k x l;rw [r]at e;cases e;rw [show((⟨g,o,none⟩:Addr).add (k*sz+i))=⟨g,o+k*sz+i,none⟩ from by unfold Addr.add;split<;>simp_all [xF]];exact q _ _ _ y _ _ m
 ·cases d:xs with
  |nil=>rfl
  |cons x xs=>
   obtain⟨b,o,e,-⟩:=p 0 x (by rw [d];rfl);rw [h]at e;cases e
theorem qdr {m:Nat}{w:World}{a:Option Addr}{c:Nat}{ts:List TermD}(h:qad m w (.slice a ts.length c) ts):(∀b,a=some b-> ∀j u,(qv ts)[j]?=some u->w.cell? (b.add j)=some u)/\(a=none->ts.length=0):=
 q5p (f:=fun(t:TermD)=> [.bool t.var,.string t.text]) (fun _=>rfl) h fun b o x e j u d=>by
  match j,d with
  |0,d=>cases d;exact e.1
  |1,d=>cases d;exact e.2
theorem qij (ts:List TermD): ∀u∈qv ts,u.oneCell'=true:=fun u c=>by
 unfold qv at c;obtain⟨t,-,b⟩:=xC.1 c;simp at b;rcases b with rfl |rfl<;>simp [Value.oneCell']
theorem qmm {n:Nat}{r:RuleD}{sh sb:Value}{w:World}(hr:RuleIn n w sh sb r)(hn:n<=w.heap.size)(cd:(qca r).length<=1073741824):
  Calls prog 82 #[qaz r sh sb] w fun e w'=> ∃v,e=.returned v/\Keep (fun b=>b<w.heap.size) w w'/\w'.ownsRow w.heap.size 77 2 v (qca r).length (qv (qca r)):=by
 unfold qaz;obtain⟨N,hN⟩:=ex (w.heap.size);have l:=hr.1;obtain⟨⟨ah,s,rfl,bD,bx,aB⟩,⟨ab,d,rfl,bz,bw,aA⟩⟩:=id hr;obtain⟨W0,Y⟩:=ex (w.alloc (.cells #[.string r.head.pred,.slice ah r.head.args.length s,.slice ab r.body.length d] 27));have k0:wD w W0:=by rw [←Y];exact kAl
 have p0:W0.heap[N]?=some (.cells #[.string r.head.pred,.slice ah r.head.args.length s,.slice ab r.body.length d] 27 (0,0)):=by rw [←Y,←hN];exact qh _ _
 have z0:W0.heap.size=N+1:=by rw [←Y,←hN];simp
 have d0:=qb p0 0 _ rfl;have d1:=qb p0 1 _ rfl;have d2:=qb p0 2 _ rfl;have cg:=qe p0;simp only [zD]at d0 d1 d2;obtain⟨W1,am⟩:=ex (W0.alloc (.cells #[] 77));have k1:wD W0 W1:=by rw [←am];exact kAl
 have o1:=qhh W0 77 2;rw [am,z0]at o1;have aL:=qq l ((k0.trans k1).mt);have bv:=qnh r 0;have aJ:qci r 0=r.head.args:=by unfold qci;simp
 rw [aJ]at bv;obtain⟨v2,W2,bb,aq,a7,a8⟩:=qi0 (P:=prog) qgb 22 o1 ah r.head.args.length s (qv r.head.args) (qdv _) (qdr aL).1 (qdr aL).2 (qij _) xz (by have:=k1.size;omega);rw [nil_append,zD]at aq;obtain⟨a2,c2,rfl⟩:=qi aq;have z1:=k1.size;have aD:Keep (fun b=>b<N+1) W1 W2:=a8.mono fun b _ h e=>by
  rcases a7 b e with h1 |h1
  ·simp [Value.ownBlock]at h1;omega
  ·omega
 have bf:Keep (fun b=>b<N+1) W0 W2:=k1.mt.trans aD;clear a7 a8 aL o1 l aD;refine ql3 ?_ z0 hr aB aA hN Y am k0 k1 bf p0 bb aq aJ;clear z0 hr aB aA hN Y am k0 k1 bf p0 bb aq aJ;intro b2 bV bt aF m aS aT aZ bW a0 bu aX aW aY;refine qbl Tryz.func82 rfl ?_;simp only [Tryz.ntmps82,qdm,Nat.reduceAdd,Nat.reduceSub]
 gi_wp2_with (gi_at_builtin;refine qby (v:=.slice (some ⟨w.heap.size+1,0,none⟩) 0 0) (u:=.slice ah r.head.args.length s) (v':=.slice a2 r.head.args.length c2) (w':=W2) rfl (.tmp 5) (.tmp 8) 22 rfl rfl rfl (by have h:=aX.o;rw [aS.o,aT.o,m.o];exact h) ?_)
 rw [m.o];gi_loopw [3,4] (fun v3 ix wr=> ∃(k:Nat),k<=r.body.length/\ix=.int .i64 (k:Int)/\Keep (fun b=>b<N+1) W0 wr/\wr.ownsRow (N+1) 77 2 v3 (qci r k).length (qv (qci r k))) (fun _ i _=>r.body.length-(intOf i).toNat)
 case atStart=>exact⟨0,xz,rfl,a0.o,by rw [aY.o];exact aW.o⟩
 case round=>
  obtain⟨k,hk,rfl,hK,hO⟩:=hrel;have c:=hK.heap bu.o xz;have e0:=qb c 0 _ rfl;have e1:=qb c 1 _ rfl;have e2:=qb c 2 _ rfl;have bK:=qe c;simp only [zD]at e0 e1 e2;have bN:=hK.size;have ci:(0:Int)<=k:=xz
  obtain⟨a3,c3,rfl⟩:=qi hO;by_cases ba:k<r.body.length
  ·have bM:(k:Int)<r.body.length:=by omega
   obtain⟨L,hL⟩: ∃L,r.body[k]?=some L:=⟨_,zB ba⟩;obtain⟨b,off,rfl,hb,sa,f,aK⟩:=aF.o k L hL;have kw:Keep (fun b=>b<n) w wr:=aZ.o.mt.trans (hK.mono fun b _ h=>by have:=m.o;omega);have f0:=kw.cell (f 0 _ rfl) hb;have f2:=kw.cell (f 2 _ rfl) hb;have f3:=kw.cell (f 3 _ rfl) hb;have f4:=kw.cell (f 4 _ rfl) hb;have f5:=kw.cell (f 5 _ rfl) hb;have f6:=kw.cell (f 6 _ rfl) hb;simp only [Nat.add_zero]at f0;have l:=qq aK kw;have ch:b<wr.heap.size:=by have:=m.o;omega
   have g:=qti hL;have a9:=qnh r (k+1);obtain⟨a1,a4,rfl,cl,ck,bc⟩:=id l;cases aa:(L.kind==3) with
   |false=>
    have ad:ql L=L.atom.args:=by unfold ql;rw [zF (by simpa using aa)]
    rw [ad]at g;rw [g,zR]at a9;obtain⟨v',W5,af,y,ap,x⟩:=qi0 (P:=prog) qgb 22 hO a1 L.atom.args.length a4 (qv L.atom.args) (qdv _) (qdr l).1 (qdr l).2 (qij _) xz xz;obtain⟨a5,c5,rfl⟩:=qi y;have kW:=hK.trans (x.mono fun b _ (h:b<N+1) e=>by
     rcases ap b e with h1 |h1
     ·exact qgz hO h h1.symm
     ·omega)
    have ae:W5.ownsRow (N+1) 77 2 (.slice a5 ((qci r k).length+L.atom.args.length) c5) (qci r (k+1)).length (qv (qci r (k+1))):=by
     rw [g,qin,zR];exact y
    clear hL f aK l kw bc ap x y g f3 f4 f5 f6;refine hd6 ?_ hK hO c af kW ae;clear hK hO c af kW ae;intro aP aE az U aH R
    gi_wp2_with (gi_at_builtin;refine qby (v:=.slice a3 (qci r k).length c3) (u:=.slice a1 L.atom.args.length a4) (v':=.slice a5 ((qci r k).length+L.atom.args.length) c5) (w':=W5) rfl (.tmp 39) (.tmp 46) 22 rfl rfl rfl U.o ?_)
    go_roundw
    case rel=>exact⟨k+1,xz,by go_num,aH.o,R.o⟩
    case measure=>simp [intOf];omega
   |true=>
    have ad:ql L= [L.left,L.right]:=by unfold ql;rw [zI (by simpa using aa)]
    rw [ad]at g;rw [g,zR]at a9;have cc: [L.left,L.right].length=2:=rfl;have kd:wD wr wr.drew:=kDr;obtain⟨t,aI⟩:=ex (wr.drew);rw [aI]at kd;obtain⟨Wb,an⟩:=ex (t.alloc (.cells #[.bool L.left.var,.string L.left.text,.bool L.right.var,.string L.right.text] 77));have kb:wD t Wb:=by rw [←an];exact kAl
    have pb:Wb.heap[t.heap.size]?=some (.cells #[.bool L.left.var,.string L.left.text,.bool L.right.var,.string L.right.text] 77 (0,0)):=by rw [←an];exact qh _ _
    have al:=qf hO (kd.trans kb) (fun _ _=>wE);have cn:=kd.size;have cm:=kb.size;obtain⟨v',W5,af,y,x,g5,c5,bF,ap,cj⟩:=app (P:=prog) qgb 22 al ⟨t.heap.size,0,none⟩ 2 2 (qv [L.left,L.right]) rfl (fun j u hj=>by
     have:=qb pb j u (by
      rw [show(qv [L.left,L.right])= [Value.bool L.left.var,.string L.left.text,.bool L.right.var,.string L.right.text]from rfl]at hj;exact hj)
     rw [show((⟨t.heap.size,0,none⟩:Addr).add j)=⟨t.heap.size,0+j,none⟩ from by unfold Addr.add;split<;>simp_all];exact this) (qij _) xz xz xz
    subst bF;have kW:=hK.trans ((kd.trans kb).mono (fun _ _ _=>wE) |>.trans (x.mono fun b _ (h:b<N+1)=>qgz al h));have ae:W5.ownsRow (N+1) 77 2 (.slice (some ⟨g5,0,none⟩) ((qci r k).length+2) c5) (qci r (k+1)).length (qv (qci r (k+1))):=by
     rw [g,qin,zR];exact y
    have p:t.cell? ⟨N,2,none⟩=some (.slice (some ⟨b,off,none⟩) r.body.length d)/\t.cell? ⟨b,off+k*7+3,none⟩=some (.bool L.left.var)/\t.cell? ⟨b,off+k*7+4,none⟩=some (.string L.left.text)/\t.cell? ⟨b,off+k*7+5,none⟩=some (.bool L.right.var)/\t.cell? ⟨b,off+k*7+6,none⟩=some (.string L.right.text):=
     ⟨kd.cell e2 wE,kd.cell f3 wE,kd.cell f4 wE,kd.cell f5 wE,kd.cell f6 wE⟩
    have z:Keep (fun b=>b<N+1) Wb W5:=x.mono fun b _ (h:b<N+1)=>qgz al h;have q:Wb.cell? ⟨N,2,none⟩=some (.slice (some ⟨b,off,none⟩) r.body.length d)/\Wb.cell? ⟨b,off+k*7+3,none⟩=some (.bool L.left.var)/\Wb.cell? ⟨b,off+k*7+4,none⟩=some (.string L.left.text)/\Wb.cell? ⟨b,off+k*7+5,none⟩=some (.bool L.right.var)/\Wb.cell? ⟨b,off+k*7+6,none⟩=some (.string L.right.text):=
     ⟨kb.cell p.1 wE,kb.cell p.2.1 wE,kb.cell p.2.2.1 wE,kb.cell p.2.2.2.1 wE,kb.cell p.2.2.2.2 wE⟩
    have ao:b<N+1:=by have:=m.o;omega
    have a6:W5.cell? ⟨N,2,none⟩=some (.slice (some ⟨b,off,none⟩) r.body.length d)/\W5.cell? ⟨b,off+k*7+3,none⟩=some (.bool L.left.var)/\W5.cell? ⟨b,off+k*7+4,none⟩=some (.string L.left.text)/\W5.cell? ⟨b,off+k*7+5,none⟩=some (.bool L.right.var)/\W5.cell? ⟨b,off+k*7+6,none⟩=some (.string L.right.text):=
     ⟨z.cell q.1 (show N<N+1 from xz),z.cell q.2.1 ao,z.cell q.2.2.1 ao,z.cell q.2.2.2.1 ao,z.cell q.2.2.2.2 ao⟩
    have cf:b<t.heap.size:=xz
    have ce:N<t.heap.size:=xz
    clear hL f aK l kw bc x y g ap al pb z;refine qde ?_ hK hO c af kW ae p q a6 aI an kd kb f3 f4 f5;clear hK hO c af kW ae p q a6 aI an kd kb f3 f4 f5;intro aP aE az U aH R aQ aR ay aV aU b1 b0 bQ bR bS;refine hd1 ?_ f6;clear f6;intro bU;gi_wp2;refine qag ?_;refine qw rfl (fun X=>X.cell? ⟨N,2,none⟩=some (.slice (some ⟨b,off,none⟩) r.body.length d)/\X.cell? ⟨b,off+k*7+3,none⟩=some (.bool L.left.var)/\X.cell? ⟨b,off+k*7+4,none⟩=some (.string L.left.text)/\X.cell? ⟨b,off+k*7+5,none⟩=some (.bool L.right.var)/\X.cell? ⟨b,off+k*7+6,none⟩=some (.string L.right.text)) [] ?_;rw [aV.o];refine qab [0,1,2,3,4,5,6,7,8,9,10,11,12] ?_
    iterate 13
     refine tkB rfl aQ.o ?_
     try simp only [qac]
    refine qk ?_;refine hoR 13 rfl fun K av=>?_;gi_wp2;rw [aU.o];refine av.o _ _ (fun _=>aR.o) ?_;refine hoR 14 rfl fun K aw=>?_;refine qby rfl (.tmp 24) (.tmp 37) 22 rfl rfl rfl U.o ?_;gi_wp2;refine aw.o _ _ (fun _=>ay.o) ?_;refine hoR 15 rfl fun K ax=>?_;gi_wp2;refine ax.o _ _ (fun _=>ay.o) ?_;refine qx wA (qai ?_);clear av aw ax;gi_wp2;go_roundw
    case rel=>exact⟨k+1,xz,by go_num,aH.o,R.o⟩
    case measure=>simp [intOf];omega
  ·obtain rfl:k=r.body.length:=by omega
   have aC:qci r r.body.length=qca r:=by unfold qci qca;rw [zi]
   have hE:Keep (fun b=>b<N) w wr:=aZ.o.mt.trans (hK.mono fun b _ h=>xz);clear ba;refine hd5 ?_ hK hO hE c aC;clear hK hO hE c aC;intro aP aE br az aG;gi_wp2;refine zz (xm rfl _ _ _) rfl ?_;exact⟨_,rfl,by rw [m.o];exact br.o,by rw [m.o];rw [←aG.o];exact aE.o.mono (show N<=N+1 from xz)⟩
def qm1 (r:RuleD):List ByteArray:=(qar (qca r)).foldl q8 []
theorem qe6 {w:World}{base:Nat}{e:TypeId}{v:Value}{n:Nat}{ts:List TermD}(h:w.ownsRow base e 2 v n (qv ts))(i:n=ts.length)(f:ts.length<=1073741824):qad w.heap.size w v ts:=
 qed h ts i f TermE fun b k t l c=>by
  have d: ∀j,j<2->(qv ts)[k*2+j]?=([Value.bool t.var,.string t.text]:List Value)[j]?:=fun j g=>qas (fun(t:TermD)=> [Value.bool t.var,.string t.text]) 2 (fun _=>rfl) _ k j t l g;exact⟨by have:=c 0 xz;rw [d 0 xz] at this;exact this,by have:=c 1 xz;rw [d 1 xz] at this;exact this⟩
theorem qu6 {n:Nat}{r:RuleD}{sh sb:Value}{w:World}(hr:RuleIn n w sh sb r)(hn:n<=w.heap.size)(ad:(qca r).length<=1073741824):
  Calls prog 31 #[qaz r sh sb] w fun e w'=> ∃v,e=.returned v/\Keep (fun b=>b<w.heap.size) w w'/\w'.ownsRow w.heap.size 9 1 v (qm1 r).length ((qm1 r).map .string):=by
 obtain⟨N,hN⟩:=ex (w.heap.size);obtain⟨W0,s⟩:=ex (w.alloc (.cells #[.string r.head.pred,sh,sb] 27));have k0:wD w W0:=by rw [←s];exact kAl
 have p0:W0.heap[N]?=some (.cells #[.string r.head.pred,sh,sb] 27 (0,0)):=by rw [←s,←hN];exact qh _ _
 have z0:W0.heap.size=N+1:=by rw [←s,←hN];simp
 have f:=qmm (w:=W0) (hr.keep k0.mt) xz ad;have d0:=qb p0 0 _ rfl;have d1:=qb p0 1 _ rfl;have d2:=qb p0 2 _ rfl;have bn:=qe p0;simp only [zD]at d0 d1 d2;unfold qaz at f⊢;obtain⟨⟨ah,a3,rfl,aW,aS,U⟩,⟨ab,a2,rfl,aV,aR,R⟩⟩:=id hr;obtain⟨ts,aB⟩:=ex (qca r);have aD:qm1 r=(qar ts).foldl q8 []:=by unfold qm1;rw [aB]
 rw [aB]at f ad;refine hd9 ?_ hr hN s k0 p0 f aD U R;clear hr hN s k0 p0 f aD U R;intro bg Y ak aL bh y ap aK aJ
 go_enter Tryz.func31,Tryz.ntmps31
 go_wp2_with fail;rw [ak.o];refine y.o.mono ?_;rintro e W1 ⟨v,rfl,k1,hO⟩;have z1:=k1.size;have hA:=qe6 hO rfl ad;obtain⟨av,cv,rfl,-,bp,ae⟩:=id hA;obtain⟨M,hM⟩:=ex (W1.heap.size);have bm:N+1<=M:=xz
 rw [hM]at ae;rw [Y.o];clear hO hA;refine hd3 ?_ k1 ae hM;clear k1 ae hM;intro aM al aj;go_wp2_with fail
 go_loopw [4,5] (fun v4 ix wr=> ∃(k:Nat),k<=ts.length/\ix=.int .i64 (k:Int)/\Keep (fun b=>b<M) W1 wr/\wr.ownsRow M 9 1 v4 ((qar (ts.take k)).foldl q8 []).length (((qar (ts.take k)).foldl q8 []).map .string)) (fun _ i _=>ts.length-(intOf i).toNat)
 case atStart=>exact⟨0,xz,rfl,Keep.refl _ _,zj _ _ _ _⟩
 case round=>
  obtain⟨j,hj,rfl,x,d⟩:=hrel;have a9:=x.size;have bu:(0:Int)<=j:=xz
  by_cases ar:j<ts.length
  ·have a8:(j:Int)<ts.length:=by omega
   obtain⟨u,hu⟩: ∃u,ts[j]?=some u:=⟨_,zB ar⟩;obtain⟨bt,ot,rfl,bo,af,ag⟩:=al.o j u hu;have q0:=x.cell af (show bt<M from xz);have q1:=x.cell ag (show bt<M from xz);have a7:bt<wr.heap.size:=by have:=aj.o;omega
   have aX:=qkz (qar (ts.take j)) [];have bw:=qpw ts j;have ba:(qar ts).length<=ts.length:=by unfold qar;rw [zL];exact yd _ _
   have bv:([]:List ByteArray).length=0:=rfl;cases m:u.var with
   |false=>
    rw [m]at q0;have aw:=qth hu m;clear af ag hu m;refine hd3 ?_ x d aw;clear x d aw;intro p c am;go_wp2_with fail;go_roundw
    case rel=>exact⟨j+1,xz,by go_num,p.o,by rw [am.o];exact c.o⟩
    case measure=>simp [intOf];omega
   |true=>
    rw [m]at q0;have t:(qar (ts.take (j+1))).foldl q8 []=q8 ((qar (ts.take j)).foldl q8 []) u.text:=by rw [qqy hu m,yk];rfl
    have hS:=qcc d xz;obtain⟨ss,aA⟩:=ex ((qar (ts.take j)).foldl q8 []);rw [aA]at d t hS aX;clear af ag hu m aA;refine hd4 ?_ x d t hS;clear x d t hS;intro p c q aI;go_wp2_with fail;refine(qyj wr.heap.size _ ss u.text _ aI.o (zG _)).mono ?_;rintro e W3 ⟨i,rfl,aZ,bq,br,z⟩;subst aZ;by_cases X:i<0
    ·have g:=z.1 X;have l:(qar (ts.take (j+1))).foldl q8 []=ss++ [u.text]:=q.o.trans (zF g);obtain⟨v',W4,az,ax,au,g2,aq,aY,aT,aU⟩:=qdd qgm 60 c.o [.string u.text] rfl (by simp [Value.oneCell']) xz (by have:=aj.o;omega);subst aY;have kW:=p.o.trans (au.mono fun b _ (h:b<M)=>qgz c.o h);have ay:W4.ownsRow M 9 1 (.slice (some ⟨g2,0,none⟩) (ss.length+1) aq) ((qar (ts.take (j+1))).foldl q8 []).length (((qar (ts.take (j+1))).foldl q8 []).map .string):=by
      rw [l]
      simpa using ax
     clear z g l ax au aT aU;refine hd3 ?_ az kW ay;clear az kW ay;intro ao aN an;go_wp2_with (at_builtin;refine qcd rfl _ _ _ rfl rfl rfl ao.o ?_);go_roundw
     case rel=>exact⟨j+1,xz,by go_num,aN.o,an.o⟩
     case measure=>simp [intOf];omega
    ·have g:u.text∈ss:=by
      by_cases h:u.text∈ss
      ·exact h
      ·exact absurd (z.2 h) X
     have l:(qar (ts.take (j+1))).foldl q8 []=ss:=q.o.trans (zI g);clear z g;refine hd1 ?_ l;clear l;intro aa;go_wp2_with fail;go_roundw
     case rel=>exact⟨j+1,xz,by go_num,p.o,by rw [aa.o];exact c.o⟩
     case measure=>simp [intOf];omega
  ·obtain rfl:j=ts.length:=by omega
   rw [zi,←ap.o]at d;have hE:Keep (fun b=>b<N) w wr:=aL.o.mt.trans ((aM.o.trans (x.mono fun b _ h=>xz)).mono fun b _ h=>xz);clear ar;refine hd3 ?_ x d hE;clear x d hE;intro p c aH;go_wp2_with fail;go_ret;exact⟨_,rfl,by rw [Y.o];exact aH.o,by rw [Y.o];exact c.o.mono (show N<=M from xz)⟩
end Go.Proofs
