/- Parts of the proof. -/
import Derived.Test.YtnponcjnahicnaaGreatDoorDlKToDlM
import Derived.Test.YtnponcjnahicnaaGreatDoorRows
import Derived.Lib.SmallJoins
import Derived.Shelf.Strconv.Itoa3
import Derived.Lib.AppendIntMem
import Derived.Lib.ItoaLen
set_option linter.unusedSimpArgs false
set_option linter.unusedVariables false
set_option maxRecDepth 100000
set_option maxHeartbeats 4000000
open Go.Proofs.Tryz(prog)
open List(drop_succ_cons drop_zero length_range length_replicate map_const' map_map map_replicate mem_append_right sum_append sum_cons sum_nil sum_replicate_nat take_succ_cons take_zero)
namespace Go.Proofs
open Go.RowKit Go.Ink Go.Flt R4 P16
attribute [local go_sem] Oper.semAt_some
theorem qza (n:Nat):madeCells #[Value.bool false] n=Array.replicate n (Value.bool false):=by
 apply Array.ext
 ·simp [madeCells]
 ·intro i b c;simp [madeCells,Nat.mod_one]
theorem q7o:(1073741824:Nat)<=maxLen:=wD
theorem qt4 {X:World}{V n:Nat}{base:Nat}(b:base<=V){e:TypeId}{z:Value}(h:X.heap[V]?=some (.cells (Array.replicate n z) e (0,0)))(c:n<=1073741824):X.ownsRow base e 1 (.slice (some ⟨V,0,none⟩) n n) n (List.replicate n z):=
 ⟨wC,.inr ⟨V,n,_,rfl,b,h,zG _,zW c q7o,wC,wC⟩⟩
theorem q48 (vars:List ByteArray):qck vars (List.replicate vars.length ⟨#[]⟩) (List.replicate vars.length false) qb1:=by
 refine⟨wC,wC,fun p x b=>⟨fun h=>?_,fun⟨v,h⟩=>(by cases h)⟩,fun p x v _ h=>(by cases h),fun x v h=>(by cases h)⟩;rw [xU]at h;split at h
 ·cases h
 ·cases h
def OwnM (b:Nat)(w:World)(v:Value)(ms:List qac):Prop:=
 ∃qs:List MQ,w.ownsRow b 122 2 v qs.length (qs.flatMap qad)/\(∀q,q∈qs->w.ownsRow b 9 1 q.2.1 q.1.head.length (q.1.head.map .string)/\w.ownsRow b 9 1 q.2.2 q.1.vals.length (q.1.vals.map .string)/\q.1.head.length<=1073741824/\q.1.vals.length<=1073741824)/\qs.map (·.1)=ms/\qs.length<=1073741824
theorem OwnM.matches {b:Nat}{w:World}{v:Value}{e:List qac}(h:OwnM b w v e):qfe w.heap.size w v e:=by
 obtain⟨m,g,c,rfl,l⟩:=h;exact qq4 (qvu g rfl l) (zG _) fun q d=>⟨qbj (c q d).1 (c q d).2.2.1,qbj (c q d).2.1 (c q d).2.2.2⟩
theorem OwnM.keep {C:Nat->Prop}{b:Nat}{w w':World}{v:Value}{m:List qac}(h:OwnM b w v m)(hK:Keep C w w')(l: ∀x,b<=x->x<w.heap.size->C x):OwnM b w' v m:=by
 obtain⟨s,g,d,p⟩:=h;exact⟨s,qf g hK (fun x c=>l x (zE g x c).1 (zE g x c).2),fun q e=>⟨qf (d q e).1 hK (fun x c=>l x (zE (d q e).1 x c).1 (zE (d q e).1 x c).2),qf (d q e).2.1 hK (fun x c=>l x (zE (d q e).2.1 x c).1 (zE (d q e).2.1 x c).2),(d q e).2.2⟩,p⟩
theorem OwnM.mono {b g:Nat}{w:World}{v:Value}{l:List qac}(h:OwnM b w v l)(d:g<=b):OwnM g w v l:=by
 obtain⟨s,m,c,p⟩:=h;exact⟨s,m.mono d,fun q e=>⟨(c q e).1.mono d,(c q e).2.1.mono d,(c q e).2.2⟩,p⟩
theorem OwnM.form {b:Nat}{w:World}{v:Value}{d:List qac}(h:OwnM b w v d): ∃a c,v=.slice a d.length c:=by
 obtain⟨m,e,g,rfl,l⟩:=h;rw [zL];exact qi e
theorem qt5 {n:Nat}{w:World}{r:RuleD}{sh sb vi:Value}{sN:Option Nat}{g:List (Option Nat)}{Cs:Nat->List qj}{neg:List qj}(hr:qc1 r)(hR:RuleIn n w sh sb r)(hn:n<=w.heap.size)(hi:qm2 n w vi g)(aD:g.length=(qao r.body).length)(bG: ∀(k:Nat) (s:Option Nat),g[k]?=some s->RSt w s (Cs k))(bz: ∀(k:Nat) (x:qj),x∈Cs k->okF x=true)(bx:RSt w sN neg)(aC:(nxM r Cs neg 0 qb1).length<=1000000)(aH:(qbu r).length<=1073741824):
  Calls prog 68 #[qaq r sh sb,vi,.pointer (sN.map fun S=>⟨S,0,none⟩)] w fun e w'=> ∃v,e=.returned v/\wE w w'/\OwnM w.heap.size w' v (qd0 (nxJ r.body Cs neg) r):=by
 obtain⟨pN,aL⟩:=ex ((sN.map fun S=>(⟨S,0,none⟩:Addr)));obtain⟨N,hN⟩:=ex (w.heap.size);obtain⟨m,y,rfl,-,-,-⟩:=id hR.1;obtain⟨l,t,rfl,-,-,-⟩:=id hR.2;obtain⟨W0,aq⟩:=ex (w.alloc (.cells #[.string r.head.pred,.slice m r.head.args.length y,.slice l r.body.length t] 27));have k0:wE w W0:=by rw [←aq];exact kAl
 have p0:W0.heap[N]?=some (.cells #[.string r.head.pred,.slice m r.head.args.length y,.slice l r.body.length t] 27 (0,0)):=by rw [←aq,←hN];exact qh _ _
 have aw:=qxm (w:=W0) (hR.keep k0.mt) (by have:=k0.size;omega) aH;rw [q7l hr.formed]at aw;have am:(qu r).length<=1073741824:=by have:=qiq hr.formed r.body.length (zG _);rw [qhi hr.formed] at this;have:=qgw hr.formed;omega
 unfold qaq at aw⊢;obtain⟨ai,ci,rfl,-,-,-⟩:=id hi;have d0:=qb p0 0 _ rfl;have d1:=qb p0 1 _ rfl;have d2:=qb p0 2 _ rfl;have l0:=qe p0;simp only [zD]at d0 d1 d2;rw [aL];refine qub ?_ hr hR hi aD bG bz bx aC aH aL hN aq k0 p0 aw;clear hr hR hi aD bG bz bx aC aH aL hN aq k0 p0 aw;intro bc aY bU aG bd bb ba ae ch aB bR a0 bV b0 a9
 go_enter Tryz.func68,Tryz.ntmps68
 go_wp2_with fail;rw [a0.o,bR.o];refine a9.o.mono ?_;rintro e W1 ⟨vv,rfl,k1,oV⟩;obtain⟨av,cv,rfl⟩:=qi oV;have aN:=bV.o.trans (k1.mono fun b hb _=>hb);have p1:=k1.heap b0.o l0;have hS: ∀X,wE W1 X->X.cell? ⟨N,0,none⟩=some (.string r.head.pred)/\X.cell? ⟨N,1,none⟩=some (.slice m r.head.args.length y)/\X.cell? ⟨N,2,none⟩=some (.slice l r.body.length t):=fun X hX=>by
  have q:=hX.heap p1 trivial;have q0:=qb q 0 _ rfl;have q1:=qb q 1 _ rfl;have q2:=qb q 2 _ rfl;simp only [zD]at q0 q1 q2;exact⟨q0,q1,q2⟩
 obtain⟨Wd,aI⟩:=ex (W1.drew);have kd:wE W1 Wd:=by rw [←aI];exact kDr
 have ax:=aN.trans kd;have bn:=hS Wd kd;have cK:N<Wd.heap.size:=by have:=k1.size;have:=kd.size;omega
 have aK:=qjh (w:=Wd) (aY.o.keep ax.mt) (by have:=ax.size;omega);unfold qaq at aK;have bK:=qf oV kd fun _ _=>trivial;clear d0 d1 d2 oV k1 p1;refine hd8 ?_ aN hS aI kd ax bn aK bK;clear aN hS aI kd ax bn aK bK;intro cj aZ a4 bW bf aX a8 bg;go_wp2_with fail;refine qau rfl (fun X=>X.cell? ⟨N,0,none⟩=some (.string r.head.pred)/\X.cell? ⟨N,1,none⟩=some (.slice m r.head.args.length y)/\X.cell? ⟨N,2,none⟩=some (.slice l r.body.length t)) [] ?_;rw [a4.o];refine qq [0,1,2,4,5] ?_
 iterate 5
  refine tkA rfl aX.o ?_
  try simp only [qr]
 refine ql ?_;refine ho 3 rfl fun K c=>?_;go_wp2_with fail;refine a8.o.mono ?_;rintro e W2 ⟨va,ps,rfl,k2,aM,hT,oA⟩;have ay:wE Wd W2:=k2.mono fun b hb _=>hb;have aO:=bW.o.trans ay;have ab:=bf.o.trans ay;have bl:=aZ.o W2 aO;obtain⟨B,hB⟩:=ex (W2.heap.size);have cH:=ab.size;have bD:ps.length=(qao r.body).length:=by
  have:=yN List.length aM;rw [zL,qm1,zL]at this;exact this
 have cB:=qgw bc.o.formed;have cF:(qao r.body).length<=r.body.length:=by
  unfold qao;exact zW (yd _ _) (by rw [length_range];exact zG _)
 have bJ:=qf bg.o ay fun _ _=>trivial;have br:=qsw oA rfl wA;obtain⟨aa,ca,rfl⟩:=qi oA;obtain⟨W3,ar⟩:=ex (W2.alloc (.cells #[.string r.head.pred,.slice m r.head.args.length y,.slice l r.body.length t,.slice av (qu r).length cv,.slice aa ps.length ca,.slice ai g.length ci,.pointer pN,.slice none 0 0] 195));have k3:wE W2 W3:=by rw [←ar];exact kAl
 have p3:W3.heap[B]?=some (.cells #[.string r.head.pred,.slice m r.head.args.length y,.slice l r.body.length t,.slice av (qu r).length cv,.slice aa ps.length ca,.slice ai g.length ci,.pointer pN,.slice none 0 0] 195 (0,0)):=by rw [←ar,←hB];exact qh _ _
 have bm:=aZ.o W3 (aO.trans k3);have hC:NxC B W2 r (.slice m r.head.args.length y) (.slice l r.body.length t) (.slice av (qu r).length cv) (.slice aa ps.length ca) (.slice ai g.length ci) sN ps g Cs neg:=by
  subst hB;have bu:Keep (fun b=>b<n) w W2:=ab.mt;have bv:Keep (fun b=>b<w.heap.size) w W2:=ab.mt;have bF:qm2 n W2 (.slice ai g.length ci) g:=SliceIn.mono bU.o fun b o s hb hx=>bu.cell hx hb;exact⟨(aY.o.keep bu).wider wA,qbj bJ am,br,aM,fun p hp=>qfj (hT p hp) wA,SliceIn.wider bF wA (fun _ _ _ _ h=>h),by rw [aG.o,bD],fun k s hs=>((bd.o k s hs).keep bv).low,bb.o,(ba.o.keep bv).low⟩
 have Y: ∀X V KK,B+1<=V->wE W3 X->X.heap[V]?=some (.cells (Array.replicate (qu r).length (.string ⟨#[]⟩)) 9 (0,0))->X.heap[KK]?=some (.cells (madeCells #[.bool false] (qu r).length) 4 (0,0))->
   Calls prog 123 #[.pointer (some ⟨B,0,none⟩),.int .i64 0,.slice (some ⟨V,0,none⟩) (qu r).length (qu r).length,.slice (some ⟨KK,0,none⟩) (qu r).length (qu r).length] X fun e W'=> ∃v0 aP an,e=.returned v0/\NxO B W' (fun v=> #[.string r.head.pred,.slice m r.head.args.length y,.slice l r.body.length t,.slice av (qu r).length cv,.slice aa ps.length ca,.slice ai g.length ci,.pointer pN,v]) aP an/\wE w W'/\
    an.map (·.1)=qd0 (nxJ r.body Cs neg) r/\an.length<=1000000:=fun X V KK b2 hX hV bo=>by
  have z:NxO B X (fun v=> #[.string r.head.pred,.slice m r.head.args.length y,.slice l r.body.length t,.slice av (qu r).length cv,.slice aa ps.length ca,.slice ai g.length ci,.pointer pN,v]) (.slice none 0 0) []:=⟨hX.heap p3 wF,zj _ _ _ _,fun q hq=>(by cases hq),fun q hq=>(by cases hq)⟩;rw [qza]at bo;have h1:=q47 bc.o hC wA ps.length 0 wA X (.slice none 0 0) (.slice (some ⟨V,0,none⟩) (qu r).length (qu r).length) (.slice (some ⟨KK,0,none⟩) (qu r).length (qu r).length) [] (List.replicate (qu r).length ⟨#[]⟩) (List.replicate (qu r).length false) qb1 ((k3.trans hX).mt) (by rw [aB.o];exact z) (q48 _) (by rw [length_replicate,map_replicate];exact qt4 b2 hV am) (by rw [length_replicate,map_replicate];exact qt4 (ya _) bo am) (fun x hx=>(by simp [q8] at hx)) (by simpa using ae.o);rw [aB.o]at h1;refine h1.mono ?_;rintro e W' ⟨v0,aP,an,rfl,b5,b3,b8,cC,b7⟩;refine⟨v0,aP,an,rfl,b5,?_,?_,by rw [b7];simpa using ae.o⟩
  ·exact((ab.trans (k3.trans hX)).mt).trans (b3.mono fun b hb (h:b<w.heap.size)=>⟨hb,wA,fun e=>by simp [Value.ownBlock] at e⟩) |>.mono fun b hb _=>hb
  ·rw [b8];exact q1r r Cs neg
 have aF:=fun u=>qkf (qu r).length am u;have aE:=fun u=>qjg (qu r).length am u;obtain⟨We,aJ⟩:=ex (W3.drew);have ke:wE W3 We:=by rw [←aJ];exact kDr
 obtain⟨Wa,ah⟩:=ex ((We.alloc (.cells (Array.replicate (qu r).length (.string ⟨#[]⟩)) 9)).alloc (.cells (madeCells #[.bool false] (qu r).length) 4));obtain⟨Wb,aj⟩:=ex ((We.alloc (.cells (madeCells #[.bool false] (qu r).length) 4)).alloc (.cells (Array.replicate (qu r).length (.string ⟨#[]⟩)) 9));have cb:B+1<=We.heap.size:=by have:=ke.size;have:=qe p3;omega
 have bs:=Y Wa We.heap.size (We.heap.size+1) cb (by rw [←ah];exact ke.trans (kAl.trans kAl)) (by rw [←ah];exact(Keep.alloc (fun _=>True) _ _).heap (qh _ _) wF) (by
  rw [←ah];have:=qh (We.alloc (.cells (Array.replicate (qu r).length (.string ⟨#[]⟩)) 9)) (.cells (madeCells #[.bool false] (qu r).length) 4);rw [zO]at this;exact this)
 have bt:=Y Wb (We.heap.size+1) We.heap.size wA (by rw [←aj];exact ke.trans (kAl.trans kAl)) (by
  rw [←aj];have:=qh (We.alloc (.cells (madeCells #[.bool false] (qu r).length) 4)) (.cells (Array.replicate (qu r).length (.string ⟨#[]⟩)) 9);rw [zO]at this;exact this) (by rw [←aj];exact(Keep.alloc (fun _=>True) _ _).heap (qh _ _) wF)
 clear Y k2 aM hT ay aO oA bJ br hC p3 bD;refine qhw ?_ ab bl hB ar k3 bm aJ ke ah aj bs bt;clear ab bl hB ar k3 bm aJ ke ah aj bs bt;intro ck az U a1 cy aA a5 cz a2 a3 a6 a7;go_wp2_with fail;refine c.o _ _ (fun _=>az.o) ?_;refine qq [6] ?_
 iterate 1
  refine tkA rfl az.o ?_
  try simp only [qr]
 refine ql ?_;refine ho 7 rfl fun K d=>?_;go_wp2_with fail;rw [a1.o,U.o];refine d.o _ _ (fun _=>aA.o) ?_;refine qq [8] ?_
 iterate 1
  refine tkA rfl aA.o ?_
  try simp only [qr]
 refine ql ?_;refine qa0 wB ?_;clear c d;go_wp2_with fail;refine qau rfl (fun _=>True) [] ?_;rw [a5.o];refine qq [0,1,2,4,5] ?_
 iterate 5
  refine tkA rfl trivial ?_
  try simp only [qr]
 refine ql ?_;refine q2c (i:=3) (j:=6) rfl rfl wB (fun K hK=>?_) (fun K hK=>?_)
 ·have c:=zg hK;clear hK;go_wp2_with fail;refine c.o _ _ (fun _=>wF) ?_;refine ho 6 rfl fun K d=>?_;go_wp2_with fail;rw [a2.o];refine d.o _ _ (fun _=>wF) ?_;refine qf1 (i:=7) rfl wB (fun K hK=>?_);have R:=zg hK;clear hK aF aE;go_wp2_with fail;refine a6.o.mono ?_;rintro e W5 ⟨v0,vo,qs,rfl,z,ag,hm,hl⟩;have d7:=qb z.box 7 _ rfl;have l5:=qe z.box;simp only [zD]at d7;have ak:OwnM w.heap.size W5 vo (qd0 (nxJ r.body Cs neg) r):=⟨qs,z.own.mono (by have:=U.o;omega),fun q hq=>⟨(z.rows q hq).1.mono (by have:=U.o;omega),(z.rows q hq).2.mono (by have:=U.o;omega),z.few q hq⟩,hm,wA⟩;clear hm;refine hd3 ?_ z ag ak;clear z ag ak;intro bS ad af;go_wp2_with fail;refine R.o _ _ (fun _=>wF) ?_;refine qa0 wB ?_;clear c d R;go_wp2_with fail;go_ret;exact⟨_,rfl,ad.o,af.o⟩
 ·have c:=zg hK;clear hK;go_wp2_with fail;refine c.o _ _ (fun _=>wF) ?_;refine ho 3 rfl fun K d=>?_;go_wp2_with fail;rw [a3.o];refine d.o _ _ (fun _=>wF) ?_;refine qf1 (i:=7) rfl wB (fun K hK=>?_);have R:=zg hK;clear hK aF aE;go_wp2_with fail;refine a7.o.mono ?_;rintro e W5 ⟨v0,vo,qs,rfl,z,ag,hm,hl⟩;have d7:=qb z.box 7 _ rfl;have l5:=qe z.box;simp only [zD]at d7;have ak:OwnM w.heap.size W5 vo (qd0 (nxJ r.body Cs neg) r):=⟨qs,z.own.mono (by have:=U.o;omega),fun q hq=>⟨(z.rows q hq).1.mono (by have:=U.o;omega),(z.rows q hq).2.mono (by have:=U.o;omega),z.few q hq⟩,hm,wA⟩;clear hm;refine hd3 ?_ z ag ak;clear z ag ak;intro bS ad af;go_wp2_with fail;refine R.o _ _ (fun _=>wF) ?_;refine qa0 wB ?_;clear c d R;go_wp2_with fail;go_ret;exact⟨_,rfl,ad.o,af.o⟩
theorem q7p:qb2 prog 140 44 1 8:=qcl (z:=.pointer none) wB wB rfl wD wD
def qhm (s:Option Nat):Value:=.pointer (s.map fun S=>⟨S,0,none⟩)
theorem q49 {w:World}{base n:Nat}{e:TypeId}{v:Value}{c:List (Option Nat)}(h:w.ownsRow base e 1 v n (c.map qhm))(l:n=c.length)(d:c.length<=1073741824):qm2 w.heap.size w v c:=
 qda h c l d _ fun b k x m g=>by
  have:=g 0 wD;rw [zP,show k*1+0=k from wA,m]at this
  simpa [qhm]using this
theorem qi7 {n:Nat}{w:World}{va vb:Value}{d:List qac}(ha:qfe n w va d)(hb:qfe n w vb d)(hn:n<=w.heap.size):
  Calls prog 18 #[va,vb] w fun e w'=>e=.returned (.bool true)/\wE w w':=by
 obtain⟨aa,ca,rfl,aH,aE,U⟩:=id ha;obtain⟨ab,cb,rfl,aI,aF,Y⟩:=id hb;have aJ:((d.length:Int) !=d.length)=false:=wC
 refine hd4 ?_ ha hb U Y;clear ha hb U Y;intro ap aq x y
 go_enter Tryz.func18,Tryz.ntmps18
 go_wp2_with fail
 go_loopw [5] (fun ix wr=> ∃k:Nat,k<=d.length/\ix=.int .i64 (k:Int)/\wE w wr) (fun i _=>d.length-(intOf i).toNat)
 case atStart=>exact⟨0,wA,rfl,Keep.refl _ _⟩
 case round=>
  obtain⟨k,hk,rfl,hK⟩:=hrel;have aG:(0:Int)<=k:=wA
  have hs:=hK.size;by_cases ad:k<d.length
  ·have am:(k:Int)<d.length:=by omega
   obtain⟨a,h⟩: ∃a,d[k]?=some a:=⟨_,zB ad⟩;obtain⟨b,o,rfl,aC,xh,xv,l,p,q⟩:=x.o k a h;obtain⟨b2,o2,rfl,aB,yh,yv,c,s,t⟩:=y.o k a h;obtain⟨ah,ch,rfl,-,-,-⟩:=id p;obtain⟨av,cv,rfl,-,-,-⟩:=id q;obtain⟨ae,ag,rfl,-,-,-⟩:=id s;obtain⟨af,ai,rfl,-,-,-⟩:=id t;have f0:=hK.cell (l 0 _ rfl) trivial;have f1:=hK.cell (l 1 _ rfl) trivial;have f2:=hK.cell (c 0 _ rfl) trivial;have f3:=hK.cell (c 1 _ rfl) trivial;simp only [Nat.add_zero]at f0 f2;have aD:b<wr.heap.size:=wA
   have al:b2<wr.heap.size:=wA
   have z: ∀m,Calls prog 70 #[.slice ah a.head.length ch,.slice ae a.head.length ag] (wr.drewN m) fun e w'=>e=.returned (.bool true)/\ ∃m',w'=(wr.drewN m).drewN m':=fun m=>by
    have:=qmz n _ _ a.head a.head (wr.drewN m) (qam p ((hK.trans (Keep.drewN' _ _ _)).mt)) (qam s ((hK.trans (Keep.drewN' _ _ _)).mt)) (by have:=(Keep.drewN' (fun _=>True) wr m).size;omega);rw [zS rfl]at this;exact this
   have R: ∀m,Calls prog 70 #[.slice av a.vals.length cv,.slice af a.vals.length ai] (wr.drewN m) fun e w'=>e=.returned (.bool true)/\ ∃m',w'=(wr.drewN m).drewN m':=fun m=>by
    have:=qmz n _ _ a.vals a.vals (wr.drewN m) (qam q ((hK.trans (Keep.drewN' _ _ _)).mt)) (qam t ((hK.trans (Keep.drewN' _ _ _)).mt)) (by have:=(Keep.drewN' (fun _=>True) wr m).size;omega);rw [zS rfl]at this;exact this
   clear h l c p q s t;refine hd3 ?_ hK z R;clear hK z R;intro g u v;go_wp2_with fail
   go_quiet ((go_at_call 70;first |with_reducible exact Calls.quiet_of (u.o _) |with_reducible exact Calls.quiet_of (v.o _)))
   go_wp2_with fail;go_roundw
   case rel=>exact⟨k+1,wA,by go_num,g.o.trans (Keep.drewN' _ _ _)⟩
   case measure=>simp [intOf];omega
  ·obtain rfl:k=d.length:=by omega
   clear ad;refine hd1 ?_ hK;clear hK;intro g;go_wp2_with fail;go_ret;exact⟨rfl,g.o⟩
end Go.Proofs
namespace Go.Proofs
open Go.RowKit Go.Ink Go.ChangeShapes Go.WideShapes
def q68 (w:World)(b o:Nat)(s:Bool):Prop:=w.cell? ⟨b,o,none⟩=some (.bool s)
abbrev qx4 (n:Nat)(w:World)(v:Value)(ss:List Bool):Prop:=SliceIn n w 1 q68 v ss
section
variable {H : Type} {enc : TypeId × Value -> H} {w : World}
def qbi (d:DataW H):Nat:=YtnponcjnahicnaaGreatDoor.Rows.uptoBulk d
def qob (l:List (DataW H)):Nat:=YtnponcjnahicnaaGreatDoor.Rows.uptoBulkAll l
theorem qo7 (d:DataW H):1<=qbi d:=by
 cases d with
 |lit l=>cases l<;>simp [qbi,YtnponcjnahicnaaGreatDoor.Rows.uptoBulk]
 |nil=>simp [qbi,YtnponcjnahicnaaGreatDoor.Rows.uptoBulk]
 |ptr d=>simp [qbi,YtnponcjnahicnaaGreatDoor.Rows.uptoBulk]
 |slice elems spare=>simp [qbi,YtnponcjnahicnaaGreatDoor.Rows.uptoBulk]
 |agg parts=>simp [qbi,YtnponcjnahicnaaGreatDoor.Rows.uptoBulk]
 |iface t d=>simp [qbi,YtnponcjnahicnaaGreatDoor.Rows.uptoBulk]
 |map entries=>simp [qbi,YtnponcjnahicnaaGreatDoor.Rows.uptoBulk]
 |held h=>simp [qbi,YtnponcjnahicnaaGreatDoor.Rows.uptoBulk]
theorem qm3 (l:List (DataW H)):qob l=(l.map qbi).sum:=by
 induction l with
 |nil=>simp [qob,YtnponcjnahicnaaGreatDoor.Rows.uptoBulkAll]
 |cons x r ih=>
  simp only [yX,sum_cons,←ih];simp [qob,qbi,YtnponcjnahicnaaGreatDoor.Rows.uptoBulkAll]
theorem qir (l:List (DataW H)):qbi (.agg l)=(l.map qbi).sum+1:=by
 rw [←qm3];simp [qob,qbi,YtnponcjnahicnaaGreatDoor.Rows.uptoBulk]
theorem qzb (l s:List (DataW H)):(l.map qbi).sum+1<=qbi (.slice l s):=by
 rw [←qm3];simp only [qob,qbi,YtnponcjnahicnaaGreatDoor.Rows.uptoBulk];omega
theorem qm4 {n:Nat}{f g:Nat->Nat}(h: ∀i,i<n->f i<=g i):((List.range n).map f).sum<=((List.range n).map g).sum:=by
 induction n with
 |zero=>simp
 |succ n ih=>
  have b:=ih (fun i hi=>h i wA);have c:=h n wA;simp only [xx,zn,sum_append,yX,xi,sum_cons,sum_nil];omega
theorem q1v: ∀{n:Nat} {g:Nat->Nat} {i:Nat},i<n->g i<=((List.range n).map g).sum:=by
 intro n g
 induction n with
 |zero=>intro i h;omega
 |succ n ih=>
  intro i hi;simp only [xx,zn,sum_append,yX,xi,sum_cons,sum_nil];rcases Nat.lt_succ_iff_lt_or_eq.1 hi with h |rfl
  ·have:=ih h;omega
  ·omega
theorem qt6 {a:Addr}(h:a.spot=none)(n:Nat):a.add n=⟨a.block,a.off+n,none⟩:=by
 obtain⟨b,o,s⟩:=a;simp only at h;subst h;unfold Addr.add;split<;>simp_all
theorem qh7 {α:Type}[Inhabited α]{t e:TypeId}{sz z:Nat}{cs:List Value}{y:DataW H×List MemPlace}{E:World->Nat->Nat->α->Prop}{size:α->Nat}
  (ht:prog.underlying t=some (.slice e)) (hc:prog.cellsOf e=sz) (hp:0<sz)
  (h:DataW.trod enc prog w 0 (fun _=>true) true z t cs=some y) (hb:qbi y.1<=1048576)
  (ab: ∀b off n cs' y',b<w.heap.size->(∀j v,cs'[j]?=some v->w.cell? ⟨b,off+j,none⟩=some v)->
   DataW.trod enc prog w 0 (fun _=>true) true n e cs'=some y'->qbi y'.1<=1048576-> ∃x,E w b off x/\size x<=qbi y'.1):
  ∃v xs,cs= [v]/\SliceIn w.heap.size w sz E v xs/\xs.length+1<=qbi y.1/\(xs.map size).sum+1<=qbi y.1:=by
 rcases Deep.open_slice ht h with ⟨rfl,rfl⟩ |⟨a,len,cap,m,n,D,Pl,rfl,_,hl,hm,hmm,rfl,hx⟩
 ·exact⟨_,[],rfl,⟨none,0,rfl,wC,by simp [maxLen],wC⟩,by simpa using qo7 _,by simpa using qo7 _⟩
 simp only [yg]at hmm;simp only at hb;have hB:=qzb ((List.range len).map D) ((List.range (m-len)).map fun j=>D (len+j));rw [map_map]at hB;have hD: ∀i,i<len->qbi (D i)<=((List.range len).map (qbi∘D)).sum:=fun i hi=>q1v (g:=qbi∘D) hi;have ai:len<=((List.range len).map (qbi∘D)).sum:=by
  have:=qm4 (n:=len) (f:=fun _=>1) (g:=qbi∘D) (fun i _=>qo7 _);have R:((List.range len).map fun _=>1).sum=len:=by rw [map_const',sum_replicate_nat,length_range,yB]
  omega
 have ha:0<len->a.spot=none:=fun h0=>by
  obtain⟨cs',R,_⟩:=hx 0 wA;obtain⟨_,ae,c⟩:=World.cells?_some R;have h2:cs'[0]?=some (cs'[0]' wA):=zB _;have l:=c 0 wA;rw [h2]at l;simp only [Nat.zero_mul,Addr.add,yg]at l;unfold World.cell? at l;split at l
  ·split at l
   ·cases l
   ·rename_i Y;cases d:a.spot with
    |none=>rfl
    |some q=>rw [d] at Y;simp at Y
  ·cases l
 have key: ∀i,i<len-> ∃x,(E w a.block (a.off+i*sz) x/\a.block<w.heap.size)/\size x<=qbi (D i):=fun i hi=>by
  have d:=ha wA;obtain⟨cs',R,h2⟩:=hx i wA;obtain⟨_,ae,c⟩:=World.cells?_some R;have p:a.block<w.heap.size:=by
   have:=World.cells?_block R wA
   rwa [qt6 d] at this
  obtain⟨x,hE,Y⟩:=ab a.block (a.off+i*sz) n cs' _ p (fun j v hj=>by
   have ap:=(zA.1 hj).1;have l:=c j wA;rw [Deep.add_add,qt6 d,hj,hc,←xG]at l;exact l) h2 (by have:=hD i hi;simp only;omega)
  exact⟨x,⟨hE,p⟩,Y⟩
 obtain⟨f,hf⟩:=Deep.choose_lt key;have aj:=qm4 (n:=len) (f:=size∘f) (g:=qbi∘D) (fun i hi=>(hf i hi).2);refine⟨_,(List.range len).map f,rfl,⟨some a,cap,wC,by simp;omega,⟨by simpa using hl,hm⟩,fun k x U=>?_⟩,by simp only [zL,length_range];omega,by rw [map_map];simp only;omega⟩;have u:k<len:=by simpa using (zA.1 U).1
 rw [zP,xr u]at U;simp only [Option.map_some,yb]at U;subst U;refine⟨a.block,a.off,?_,(hf k u).1.2,(hf k u).1.1⟩;have d:=ha wA;obtain⟨b,o,s⟩:=a;simp only at d;rw [d]
end
section
variable {H : Type} {enc : TypeId × Value -> H} {w : World}
theorem qlu:prog.cellsOf 77=2:=wB
theorem qlv:prog.cellsOf 24=2:=wB
theorem qr3:prog.cellsOf 79=7:=wB
theorem qp6:prog.cellsOf 27=3:=wB
theorem qp7:prog.cellsOf 4=1:=wB
theorem qh8:prog.cellsOf 9=1:=wB
theorem qwr:prog.cellsOf 22=1:=wB
theorem qzc:prog.cellsOf 25=1:=wB
theorem qzd:prog.cellsOf 75=1:=wB
def qh9 (t:TermD):Prop:=t.text.size<=1048576
def qtm (a:qcg):Prop:=a.pred.size<=1048576/\ ∀t,t∈a.args->qh9 t
def qtn (L:LitD):Prop:=qtm L.atom/\qh9 L.left/\qh9 L.right
def q69 (r:RuleD):Prop:=qtm r.head/\ ∀L,L∈r.body->qtn L
theorem qkk {α:Type}{n:Nat}{w:World}{sz:Nat}{E:World->Nat->Nat->α->Prop}{G:α->Prop}{v:Value}{xs:List α}(h:SliceIn n w sz E v xs)(d: ∀b o x,E w b o x->G x): ∀x,x∈xs->G x:=by
 intro x l;obtain⟨a,cap,_,_,_,c⟩:=h;obtain⟨k,g⟩:=zy.1 l;obtain⟨b,off,_,_,e⟩:=c k x g;exact d _ _ _ e
theorem qm5 {c:Nat}{e:List Value}{y:DataW H×List MemPlace}(h:DataW.trod enc prog w 0 (fun _=>true) true c 77 e=some y):
  ∃t:TermD,e= [.bool t.var,.string t.text]/\t.text.size<=qbi y.1:=by
 obtain⟨z,p,n,rfl,m,g,l⟩:=trod_struct2 Tryz.underlying77 h;rw [qlu]at m
 match e,m with
 | [c0,c1],_=>
  simp only [qp7,qh8,drop_zero,drop_succ_cons,take_succ_cons,take_zero]at g l;obtain⟨b,q,_⟩:=DataW.trod_bool Tryz.underlying4 g;obtain⟨s,v,x,_⟩:=DataW.trod_string Tryz.underlying9 l;cases q;cases v;refine⟨⟨b,s⟩,rfl,?_⟩;have u:qbi p.1=s.size+1:=by
   rw [x];show s.data.toList.length+1=_;rw [Array.length_toList]
   rfl
  have d:=qir [z.1,p.1];simp only [yX,xi,sum_cons,sum_nil]at d;simp only [d];omega
theorem qze {c:Nat}{d:List Value}{y:DataW H×List MemPlace}(h:DataW.trod enc prog w 0 (fun _=>true) true c 22 d=some y)(s:qbi y.1<=1048576):
  ∃v ts,d= [v]/\qak w.heap.size w v ts/\ts.length+1<=qbi y.1/\ ∀t,t∈ts->qh9 t:=by
 obtain⟨v,xs,p,e,q,_⟩:=qh7 (E:=fun w b o t=>TermE w b o t/\qh9 t) (size:=fun _=>0) Tryz.underlying22 qlu wA h s (fun b off n l z _ g m u=>by
  obtain⟨t,rfl,x⟩:=qm5 m;exact⟨t,⟨⟨g 0 _ rfl,g 1 _ rfl⟩,by unfold qh9;omega⟩,wA⟩)
 exact⟨v,xs,p,e.mono fun _ _ _ _ h=>h.1,q,qkk e fun _ _ _ h=>h.2⟩
theorem qr4 {c:Nat}{d:List Value}{y:DataW H×List MemPlace}(h:DataW.trod enc prog w 0 (fun _=>true) true c 24 d=some y)(p:qbi y.1<=1048576):
  ∃(a:qcg) (sa:Value),d= [.string a.pred,sa]/\qak w.heap.size w sa a.args/\a.args.length+1<=qbi y.1/\qtm a:=by
 obtain⟨R,U,n,rfl,l,e,g⟩:=trod_struct2 Tryz.underlying24 h;rw [qlv]at l
 match d,l with
 | [c0,c1],_=>
  simp only [qwr,qh8,drop_zero,drop_succ_cons,take_succ_cons,take_zero]at e g;simp only [qir,yX,xi,sum_cons,sum_nil]at p⊢;obtain⟨s,t,z,_⟩:=DataW.trod_string Tryz.underlying9 e;obtain⟨v,ts,x,u,m,b⟩:=qze g wA;have q:qbi R.1=s.size+1:=by
   rw [z];show s.data.toList.length+1=_;rw [Array.length_toList]
   rfl
  cases t;cases x;exact⟨⟨s,ts⟩,c1,rfl,u,by simp only;omega,by simp only;omega,b⟩
theorem q5a {c:Nat}{e:List Value}{y:DataW H×List MemPlace}(h:DataW.trod enc prog w 0 (fun _=>true) true c 79 e=some y)(u:qbi y.1<=1048576):
  ∃(L:LitD) (sa:Value),e=qap L sa/\qak w.heap.size w sa L.atom.args/\L.atom.args.length+1<=qbi y.1/\qtn L:=by
 obtain⟨Y,y1,y2,y3,n,rfl,d,g,m,p,q⟩:=Go.Joins.trod_struct4 Tryz.underlying79 h;rw [qr3]at d
 match e,d with
 | [c0,c1,c2,c3,c4,c5,c6],_=>
  simp only [qzd,qlv,qlu,drop_zero,drop_succ_cons,take_succ_cons,take_zero]at g m p q;simp only [qir,yX,xi,sum_cons,sum_nil]at u⊢;obtain⟨k,z,_⟩:=DataW.trod_int Tryz.underlying75 g;obtain⟨a,sa,t,U,s,b⟩:=qr4 m wA;obtain⟨l,d,v⟩:=qm5 p;obtain⟨r,R,x⟩:=qm5 q;cases z;cases t;cases d;cases R;exact⟨⟨k,a,l,r⟩,c2,rfl,U,by simp only;omega,b,by unfold qh9;simp only;omega,by unfold qh9;simp only;omega⟩
theorem q1w {d:Nat}{l:List Value}{y:DataW H×List MemPlace}(h:DataW.trod enc prog w 0 (fun _=>true) true d 25 l=some y)(u:qbi y.1<=1048576):
  ∃v ls,l= [v]/\qge w.heap.size w v ls/\(ls.map fun L=>L.atom.args.length+1).sum+1<=qbi y.1/\ ∀L,L∈ls->qtn L:=by
 obtain⟨v,xs,s,m,_,t⟩:=qh7 (E:=fun W b o L=>LitE w.heap.size W b o L/\qtn L) (size:=fun L:LitD=>L.atom.args.length+1) Tryz.underlying25 qr3 wA h u (fun b off n p U _ x q g=>by
  obtain⟨L,R,rfl,z,e,c⟩:=q5a q g;exact⟨L,⟨⟨R,x,z⟩,c⟩,e⟩)
 exact⟨v,xs,s,m.mono fun _ _ _ _ h=>h.1,t,qkk m fun _ _ _ h=>h.2⟩
def qlw (r:RuleD):Nat:=r.head.args.length+(r.body.map fun L=>L.atom.args.length+1).sum+1
theorem q1x {b:Nat}{c:List Value}{y:DataW H×List MemPlace}(h:DataW.trod enc prog w 0 (fun _=>true) true b 27 c=some y)(u:qbi y.1<=1048576):
  ∃(r:RuleD) (sh sb:Value),c= [.string r.head.pred,sh,sb]/\RuleIn w.heap.size w sh sb r/\qlw r<=qbi y.1/\q69 r:=by
 obtain⟨U,Y,n,rfl,q,m,p⟩:=trod_struct2 Tryz.underlying27 h;rw [qp6]at q
 match c,q with
 | [c0,c1,c2],_=>
  simp only [qzc,qlv,drop_zero,drop_succ_cons,take_succ_cons,take_zero]at m p;simp only [qir,yX,xi,sum_cons,sum_nil]at u⊢;obtain⟨a,R,t,x,s,d⟩:=qr4 m wA;obtain⟨v,ls,z,l,g,e⟩:=q1w p wA;cases t;cases z;exact⟨⟨a,ls⟩,c1,c2,rfl,⟨x,l⟩,by simp only [qlw];omega,d,e⟩
theorem qzf {c:Nat}{d:List Value}{y:DataW H×List MemPlace}(h:DataW.trod enc prog w 0 (fun _=>true) true c 29 d=some y)(p:qbi y.1<=1048576):
  ∃v bs,d= [v]/\qx4 w.heap.size w v bs:=by
 obtain⟨v,xs,l,m,_⟩:=qh7 (E:=q68) (size:=fun _=>0) Tryz.underlying29 qp7 wA h p (fun b off n e t _ q g _=>by
  obtain⟨s,rfl,_⟩:=DataW.trod_bool Tryz.underlying4 g;exact⟨s,q 0 _ rfl,wA⟩)
 exact⟨v,xs,l,m⟩
end
theorem qx5 (L:LitD):L.uses.length<=L.atom.args.length+2:=by
 unfold LitD.uses;rw [zL];refine zW (yd _ _) ?_;unfold LitD.terms;split
 ·omega
 ·split<;>simp
theorem q5b (ls:List LitD):(ls.flatMap LitD.uses).length<=2*(ls.map fun L=>L.atom.args.length+1).sum:=by
 induction ls with
 |nil=>simp
 |cons L ls ih=>
  have:=qx5 L;simp only [yF,zR,yX,sum_cons];omega
section
variable {H : Type} {enc : TypeId × Value -> H} {w : World}
theorem qp8:prog.cellsOf 86=2:=wB
theorem qzg:prog.cellsOf 60=1:=wB
def qto (f:qj):Prop:=f.pred.size<=1048576/\f.tuple.length<=1048576/\ ∀s,s∈f.tuple->s.size<=1048576
theorem qt7 {b:Nat}{c:List Value}{y:DataW H×List MemPlace}(h:DataW.trod enc prog w 0 (fun _=>true) true b 9 c=some y):
  ∃s:ByteArray,c= [.string s]/\s.size+1=qbi y.1:=by
 obtain⟨s,d,e,_⟩:=DataW.trod_string Tryz.underlying9 h;refine⟨s,d,?_⟩;rw [e];show _=s.data.toList.length+1;rw [Array.length_toList]
 rfl
theorem q1y {c:Nat}{d:List Value}{y:DataW H×List MemPlace}(h:DataW.trod enc prog w 0 (fun _=>true) true c 60 d=some y)(q:qbi y.1<=1048576):
  ∃v ts,d= [v]/\qaf w.heap.size w v ts/\ts.length+1<=qbi y.1/\ ∀s,s∈ts->s.size<=1048576:=by
 obtain⟨v,xs,m,e,p,_⟩:=qh7 (E:=fun w b o t=>qgq w b o t/\t.size<=1048576) (size:=fun _=>0) Tryz.underlying60 qh8 wA h q (fun b off n g R _ x l u=>by
  obtain⟨t,rfl,z⟩:=qt7 l;exact⟨t,⟨x 0 _ rfl,wA⟩,wA⟩)
 exact⟨v,xs,m,e.mono fun _ _ _ _ h=>h.1,p,qkk e fun _ _ _ h=>h.2⟩
theorem qjk {c:Nat}{m:List Value}{y:DataW H×List MemPlace}(h:DataW.trod enc prog w 0 (fun _=>true) true c 28 m=some y)(R:qbi y.1<=1048576):
  ∃v fs,m= [v]/\FactsIn w.heap.size w v fs/\fs.length+1<=qbi y.1/\ ∀f,f∈fs->qto f:=by
 obtain⟨v,xs,e,q,z,_⟩:=qh7 (E:=fun W b o f=>q7g w.heap.size W b o f/\qto f) (size:=fun _=>0) Tryz.underlying28 qp8 wA h R (fun b off n g y' _ U x l=>by
  obtain⟨y0,y1,n,rfl,t,p,e⟩:=trod_struct2 Tryz.underlying86 x;rw [qp8]at t
  match g,t with
  | [c0,c1],_=>
   simp only [qzg,qh8,drop_zero,drop_succ_cons,take_succ_cons,take_zero]at p e;simp only [qir,yX,xi,sum_cons,sum_nil]at l⊢;obtain⟨s,Y,aa⟩:=qt7 p;obtain⟨v,ts,hv,ht,u,d⟩:=q1y e wA;cases Y;cases hv;exact⟨⟨s,ts⟩,⟨⟨c1,U,ht⟩,by simp only;omega,by simp only;omega,d⟩,wA⟩)
 exact⟨v,xs,e,q.mono fun _ _ _ _ h=>h.1,z,qkk q fun _ _ _ h=>h.2⟩
end
section
variable {H : Type} {enc : TypeId × Value -> H} {w : World}
theorem qzh:prog.cellsOf 31=9:=wB
theorem qws:prog.cellsOf 28=1:=wB
theorem qwt:prog.cellsOf 29=1:=wB
theorem q1z:prog.cellsOf 3=1:=wB
theorem qt8 {P:Program}{base:Nat}{b:Nat->Bool}{c:Bool}{t:TypeId}{g l m p q s u:Field}{v:Nat}{d:List Value}{x:DataW H×List MemPlace}(R:P.underlying t=some (.struct #[g,l,m,p,q,s,u]))(h:DataW.trod enc P w base b c v t d=some x):
  ∃y0 y1 y2 y3 y4 y5 y6 n,x.1=.agg [y0.1,y1.1,y2.1,y3.1,y4.1,y5.1,y6.1]/\d.length=P.cellsOf t/\
   DataW.trod enc P w base b c n g.type ((d.drop g.offset).take (P.cellsOf g.type))=some y0/\DataW.trod enc P w base b c n l.type ((d.drop l.offset).take (P.cellsOf l.type))=some y1/\
   DataW.trod enc P w base b c n m.type ((d.drop m.offset).take (P.cellsOf m.type))=some y2/\DataW.trod enc P w base b c n p.type ((d.drop p.offset).take (P.cellsOf p.type))=some y3/\
   DataW.trod enc P w base b c n q.type ((d.drop q.offset).take (P.cellsOf q.type))=some y4/\DataW.trod enc P w base b c n s.type ((d.drop s.offset).take (P.cellsOf s.type))=some y5/\
   DataW.trod enc P w base b c n u.type ((d.drop u.offset).take (P.cellsOf u.type))=some y6:=by
 obtain⟨xs,n,_,rfl,z,y,e⟩:=DataW.trod_struct R h
 match xs,y with
 | [y0,y1,y2,y3,y4,y5,y6],_=>exact⟨y0,y1,y2,y3,y4,y5,y6,n,wC,z,by simpa using e 0 g rfl,by simpa using e 1 l rfl,by simpa using e 2 m rfl,by simpa using e 3 p rfl,by simpa using e 4 q rfl,by simpa using e 5 s rfl,by simpa using e 6 u rfl⟩
theorem q13 {d:Nat}{e:List Value}{y:DataW H×List MemPlace}(h:DataW.trod enc prog w 0 (fun _=>true) true d 31 e=some y)(u:qbi y.1<=1048576):
  ∃(r:RuleD) (k:Int) (sh sb vo vd va vn vc:Value) (fo fd fa fn:List qj) (cut:List Bool),e= [.string r.head.pred,sh,sb,.int .i64 k,vo,vd,va,vn,vc]/\RuleIn w.heap.size w sh sb r/\FactsIn w.heap.size w vo fo/\FactsIn w.heap.size w vd fd/\FactsIn w.heap.size w va fa/\FactsIn w.heap.size w vn fn/\qx4 w.heap.size w vc cut/\
   qlw r<=1048576/\q69 r/\(∀f,f∈fo++fd++fa++fn->qto f)/\fo.length+fd.length+fa.length+fn.length<=1048576:=by
 obtain⟨y0,y1,y2,y3,y4,y5,y6,n,hy,v,g,l,m,p,q,s,t⟩:=qt8 Tryz.underlying31 h;rw [hy,qir]at u;simp only [yX,xi,sum_cons,sum_nil]at u;rw [qzh]at v
 match e,v with
 | [c0,c1,c2,c3,c4,c5,c6,c7,c8],_=>
  simp only [qp6,q1z,qws,qwt,drop_zero,drop_succ_cons,take_succ_cons,take_zero]at g l m p q s t;obtain⟨r,sh,sb,x,hr,ae,c⟩:=q1x g wA;obtain⟨k,z,_⟩:=DataW.trod_int Tryz.underlying3 l;obtain⟨v2,fo,R,i2,l2,n2⟩:=qjk m wA;obtain⟨v3,fd,U,i3,l3,n3⟩:=qjk p wA;obtain⟨v4,fa,Y,i4,l4,n4⟩:=qjk q wA;obtain⟨v5,fn,e5,i5,l5,n5⟩:=qjk s wA;obtain⟨v6,cut,e6,i6⟩:=qzf t wA;cases x;cases z;cases R;cases U;cases Y;cases e5;cases e6;refine⟨r,k,_,_,_,_,_,_,_,fo,fd,fa,fn,cut,rfl,hr,i2,i3,i4,i5,i6,wA,c,fun f b=>?_,wA⟩;rcases zr.1 b with b |b
  ·rcases zr.1 b with b |b
   ·rcases zr.1 b with b |b
    ·exact n2 f b
    ·exact n3 f b
   ·exact n4 f b
  ·exact n5 f b
end
end Go.Proofs
namespace Go.Proofs
open Go.RowKit Go.ChangeShapes Go.WideShapes
theorem qt9 {H:Type}{enc:TypeId×Value->H}{P:Program}(l:laidOutB P=true){W e:World}(g:Below W.heap.size W e){m:Nat->Bool}:
  ∀{ts:List TypeId} {vs:List Value} {ds:List (DataW H)} {p:List MemPlace},(∀t,t∈ts->P.readableRec t=true/\t<P.types.size)->
   DataW.TrodAll enc P W 0 (fun _=>true) true ts vs ds p->(∀x,x∈p->x.block<W.heap.size)->(∀x,x∈p->m x.block=true)->DataW.TrodAll enc P e 0 m true ts vs ds p
 | [],_,_,_,_,h,_,_=>by
  obtain⟨rfl,rfl,rfl⟩:=trodAll_nil h;exact trodAll_mk0
 |t::ts,_,_,_,hr,h,h1,h2=>by
  obtain⟨v,R,d,q,a,b,rfl,rfl,rfl,y,z⟩:=trodAll_cons h;exact trodAll_cons_mk (WideElems.Trod_stays l (hr t yJ).1 (hr t yJ).2 y (fun x c=>g.same (h1 x (xd _ c))) (fun x c=>h2 x (xd _ c)))
   (qt9 l g (fun u s=>hr u (yD _ s)) z (fun x c=>h1 x (mem_append_right _ c)) (fun x c=>h2 x (mem_append_right _ c)))
theorem qzi {H:Type}{enc:TypeId×Value->H}{P:Program}{f:Func}{s:ChangeSpec}{apart fresh c:Bool}{W y:World}{args:Array Value}{v:Value}{g u:List (DataW H)}{d:List MemPlace}
  (z:DataW.Whole enc P f.params.toList s.vars apart W args.toList g u d) (hv:s.vars= []) (U:(s.fn H (g++u)).vars= [])
  (m: ∀b,DataW.TrodAll enc P y b (fun _=>false) c f.resultTypes.toList (v.resultList f.resultTypes.size) (s.fn H (g++u)).results [])
  (e:(s.fn H (g++u)).args=g) (hl:laidOutB P=true) (hr: ∀t,t∈f.params.toList->P.readableRec t=true/\t<P.types.size) (hb:Below W.heap.size W y):
  s.post enc P f apart fresh c false W args v y:=by
 have l:=z.lt;have R:=z;obtain⟨p,q,hA,hV,rfl,_,_⟩:=z;rw [hv]at hV;obtain⟨rfl,rfl⟩:=trodVars_none hV;refine⟨g,[],_,[],p,[],R,m _,?_,?_,hb.frame _,fun h=>by cases h⟩
 ·rw [e];exact qt9 hl hb hr hA (fun x Y=>l x (by simpa using Y)) (fun x Y=>by simpa using l x (by simpa using Y))
 ·rw [hv,U];rfl
end Go.Proofs
namespace Go.Proofs
open Go.Shelf Go.Sort Go.RowKit Go.Ink
attribute [local go_sem] Oper.semAt_some
def Tryz.laysM171_ren:Go.Shelf.Ren:=⟨fun |171=>172 |243=>222 |246=>248 |283=>261 |284=>262 |285=>263 |286=>264 |129=>191 |317=>268 |318=>269 |319=>270 |320=>271 |337=>274 |338=>275 |n=>n,fun |3=>3 |9=>9 |2=>2 |4=>4 |171=>328 |0=>0 |53=>284 |37=>330 |5=>5 |173=>331 |212=>335 |51=>106 |20=>20 |213=>336 |46=>230 |232=>337 |233=>338 |n=>n,fun |17=>0 |18=>1 |19=>2 |n=>n⟩
theorem Tryz.laysM171:Go.Proofs.LaysM.n171 prog Tryz.laysM171_ren:={mixed:=wB,f129:=Tryz.func191.trans (yN some wB),f171:=Tryz.func172.trans (yN some wB),f243:=Tryz.func222.trans (yN some wB),f246:=Tryz.func248.trans (yN some wB),f283:=Tryz.func261.trans (yN some wB),f284:=Tryz.func262.trans (yN some wB),f285:=Tryz.func263.trans (yN some wB),f286:=Tryz.func264.trans (yN some wB),f317:=Tryz.func268.trans (yN some wB),f318:=Tryz.func269.trans (yN some wB),f319:=Tryz.func270.trans (yN some wB),f320:=Tryz.func271.trans (yN some wB),f337:=Tryz.func274.trans (yN some wB),f338:=Tryz.func275.trans (yN some wB),t0:=Tryz.underlying0,a0:=Tryz.isAgg0,z0:=Tryz.sizeOf0,v0:=Tryz.zeroValue0,t2:=Tryz.underlying2,a2:=Tryz.isAgg2,z2:=Tryz.sizeOf2,v2:=Tryz.zeroValue2,t3:=Tryz.underlying3,a3:=Tryz.isAgg3,z3:=Tryz.sizeOf3,v3:=Tryz.zeroValue3,t4:=Tryz.underlying4,a4:=Tryz.isAgg4,z4:=Tryz.sizeOf4,v4:=Tryz.zeroValue4,t5:=Tryz.underlying5,a5:=Tryz.isAgg5,z5:=Tryz.sizeOf5,v5:=Tryz.zeroValue5,t9:=Tryz.underlying9,a9:=Tryz.isAgg9,z9:=Tryz.sizeOf9,v9:=Tryz.zeroValue9,t20:=Tryz.underlying20,a20:=Tryz.isAgg20,z20:=Tryz.sizeOf20,v20:=Tryz.zeroValue20,t37:=Tryz.underlying330,a37:=Tryz.isAgg330,z37:=Tryz.sizeOf330,v37:=Tryz.zeroValue330,t46:=Tryz.underlying230,a46:=Tryz.isAgg230,z46:=Tryz.sizeOf230,v46:=Tryz.zeroValue230,t51:=Tryz.underlying106,a51:=Tryz.isAgg106,z51:=Tryz.sizeOf106,v51:=Tryz.zeroValue106,t53:=Tryz.underlying284,a53:=Tryz.isAgg284,z53:=Tryz.sizeOf284,v53:=Tryz.zeroValue284,t171:=Tryz.underlying328,a171:=Tryz.isAgg328,z171:=Tryz.sizeOf328,v171:=Tryz.zeroValue328,t173:=Tryz.underlying331,a173:=Tryz.isAgg331,z173:=Tryz.sizeOf331,v173:=Tryz.zeroValue331,t212:=Tryz.underlying335,a212:=Tryz.isAgg335,z212:=Tryz.sizeOf335,v212:=Tryz.zeroValue335,t213:=Tryz.underlying336,a213:=Tryz.isAgg336,z213:=Tryz.sizeOf336,t232:=Tryz.underlying337,a232:=Tryz.isAgg337,z232:=Tryz.sizeOf337,v232:=Tryz.zeroValue337,t233:=Tryz.underlying338,a233:=Tryz.isAgg338,z233:=Tryz.sizeOf338,v233:=Tryz.zeroValue338,g17:=wB,g18:=wB,g19:=wB,i0:=wB,i2:=wB,i3:=wB,i4:=wB,i5:=wB,i9:=wB,i20:=wB,i37:=wB,i46:=wB,i51:=wB,i53:=wB,i171:=wB,i173:=wB,i212:=wB,i232:=wB,i233:=wB,m17:=wB,m18:=wB,m19:=by kernel_rfl}
def Tab (w:World):Prop:=Lib.TabIs prog w "internal/strconv.uint64pow10" .u64 Lib.pow10Tab
theorem Tab.keep {w w':World}(h:Tab w)(hK:Keep (fun b=>b<w.heap.size) w w'):Tab w':=Lib.tabBelow_of_tabIs h w' (hK.below (zG _))
theorem qzj {C:Nat->Prop}(w:World)(k:Nat):Keep C w (w.drewN k):=by
 refine⟨?_,?_,?_,?_,?_⟩<;>simp [World.drewN]
theorem q14 {C:Nat->Prop}(w:World)(b:Array Obj):Keep C w (grow w b):=
 ⟨rfl,rfl,rfl,by simp [grow],fun i hi _=>by simp only [grow];rw [Array.getElem?_append_left hi]⟩
theorem q5c (n:Int)(b: -9223372036854775808<=n)(c:n<=9223372036854775807)(w:World)(d:Tab w):
  Calls prog 172 #[.int .i64 n] w fun e w'=>e=.returned (.string ⟨(Lib.itoa n).toArray⟩)/\wE w w':=by
 refine(Any.strconv_Itoa Tryz.laysM171 n b c w d).mono ?_;rintro e w' ⟨rfl,k,g,rfl⟩;exact⟨rfl,(qzj _ _).trans (q14 _ _)⟩
def qbx (n:Nat):ByteArray:=⟨#[109,97,114,107,32]⟩++⟨(Lib.itoa n).toArray⟩
theorem q5d (n:Nat)(v:n<=1073741824)(w:World)(l:Tab w):
  Calls prog 129 #[.int .i64 n] w fun e w'=>e=.returned (.string (qbx n))/\wE w w':=by
 have hi:=q5c n wA wA w l;have q:=Lib.itoa_length_le (n:Int) wA wA;have b: ∀w',(Op.stringOp .add ⟨#[109,97,114,107,32]⟩ ⟨(Lib.itoa n).toArray⟩).run prog w'=.ok (.string (qbx n)) w':=fun w'=>run_string_add_sum w' _ _ (by simp [ByteArray.size];omega);obtain⟨t,d⟩: ∃t:ByteArray,⟨(Lib.itoa n).toArray⟩=t:=⟨_,rfl⟩;obtain⟨u,m⟩: ∃u:ByteArray,qbx n=u:=⟨_,rfl⟩;rw [d,m]at b;rw [d]at hi;rw [m];clear q d m;refine hd3 ?_ hi b l;clear hi b l;intro h c p
 go_enter Tryz.func129,Tryz.ntmps129
 go_wp2_with fail;refine h.o.mono ?_;rintro e w' ⟨rfl,hK⟩;have s:=c.o w';refine hd1 ?_ hK;clear hK;intro g;go_wp2_with fail;go_ret;exact⟨rfl,g.o⟩
end Go.Proofs
