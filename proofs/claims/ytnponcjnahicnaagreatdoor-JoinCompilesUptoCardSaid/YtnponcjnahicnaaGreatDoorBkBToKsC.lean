/- Parts of the proof. -/
import Derived.Test.YtnponcjnahicnaaGreatDoorBkA
import Derived.StillTailTactics
set_option linter.unusedSimpArgs false
set_option linter.unusedVariables false
set_option maxRecDepth 100000
set_option maxHeartbeats 2000000
open Go.Proofs.Tryz(prog)
open List(replicate_succ')
namespace Go.Proofs
open Go.RowKit Go.Ink
attribute [local go_sem] Oper.semAt_some
theorem qrr {X:World}{B:Nat}{vT:Value}{ts:List (Value×Nat)}(h:BookIn X B vT ts):Calls prog 85 #[.pointer (some ⟨B,0,none⟩)] X fun e Y=>e=.returned (.bool true)/\Y=X:=by
 have i:=qb h.box 1 _ rfl;have j:=qe h.box;refine hd1 ?_ h;clear h;intro g
 go_enter Tryz.func85,Tryz.ntmps85
 go_wp2_with fail
 go_loopw [3] (fun c wr=>c=.int .i64 0/\wr=X) (fun _ _=>0)
 case atStart=>exact⟨rfl,rfl⟩
 case round=>
  obtain⟨rfl,b⟩:=hrel;subst b;go_wp2_with fail
  go_loopw [6] (fun c d=>c=.int .i64 0/\d=wr) (fun _ _=>0)
  case atStart=>exact⟨rfl,rfl⟩
  case round=>
   obtain⟨rfl,b⟩:=hrel;subst b;go_wp2_with fail
   go_loopw [9] (fun c f=>c=.int .i64 0/\f=wr) (fun _ _=>0)
   case atStart=>exact⟨rfl,rfl⟩
   case round=>
    obtain⟨rfl,b⟩:=hrel;subst b;go_wp2_with fail;go_ret;exact⟨rfl,rfl⟩
theorem qq9 {X:World}{B:Nat}{vT:Value}{ts:List (Value×Nat)}(h:BookIn X B vT ts):Calls prog 86 #[.pointer (some ⟨B,0,none⟩)] X fun e Y=>e=.returned (.bool true)/\Y=X:=by
 have i:=qb h.box 2 _ rfl;have j:=qe h.box;refine hd1 ?_ h;clear h;intro g
 go_enter Tryz.func86,Tryz.ntmps86
 go_wp2_with fail
 go_loopw [3] (fun c wr=>c=.int .i64 0/\wr=X) (fun _ _=>0)
 case atStart=>exact⟨rfl,rfl⟩
 case round=>
  obtain⟨rfl,b⟩:=hrel;subst b;go_wp2_with fail
  go_loopw [6] (fun c d=>c=.int .i64 0/\d=wr) (fun _ _=>0)
  case atStart=>exact⟨rfl,rfl⟩
  case round=>
   obtain⟨rfl,b⟩:=hrel;subst b;go_wp2_with fail
   go_loopw [9] (fun c f=>c=.int .i64 0/\f=wr) (fun _ _=>0)
   case atStart=>exact⟨rfl,rfl⟩
   case round=>
    obtain⟨rfl,b⟩:=hrel;subst b;go_wp2_with fail;go_ret;exact⟨rfl,rfl⟩
theorem qlf {X:World}{B:Nat}{vT:Value}{ts:List (Value×Nat)}(h:BookIn X B vT ts)(l:MkO X ts 0)(hT: ∀Y,Keep (fun b=> ¬qd4 ts b) X Y->Tab Y):
  Calls prog 36 #[.pointer (some ⟨B,0,none⟩)] X fun e Y=>e=.returned (.bool true)/\Keep (fun b=> ¬qd4 ts b) X Y:=by
 have p:=qq8 h l (hT X (Keep.refl _ _)) (fun _ _ Y m=>hT Y m);have s: ∀Y,Keep (fun b=> ¬qd4 ts b) X Y->BookIn Y B vT ts:=fun Y m=>h.keep m fun b hb' ⟨t,ht,e⟩=>by
  rcases hb' with rfl |hb'
  ·exact(h.ne t ht _ e).1 rfl
  ·exact(h.ne t ht _ e).2 hb'
 refine hd5 ?_ h l hT p s;clear h l hT p s;intro y u v g d
 go_enter Tryz.func36,Tryz.ntmps36
 go_wp2_with fail;refine g.o.mono ?_;rintro e Y ⟨rfl,f⟩;have q:=qrr (d.o Y f);have r:=qq9 (d.o Y f);refine hd3 ?_ f q r;clear f q r;intro k i j;go_wp2_with fail;refine i.o.mono ?_;rintro e x ⟨rfl,c⟩;have c:=c.symm;subst c;go_wp2_with fail;refine j.o.mono ?_;rintro e x ⟨rfl,c⟩;have c:=c.symm;subst c;go_wp2_with fail;go_ret;exact⟨rfl,k.o⟩
end Go.Proofs
namespace Go.Proofs
open Go.RowKit Go.Ink Go.Flt R4 P16
attribute [local go_sem] Oper.semAt_some
theorem qt7 {X:World}{B A M:Nat}{vT l v2:Value}{vs:List Value}(f:X.heap[B]?=some (.cells #[vT,.slice none 0 0,.slice none 0 0] 73 (0,0)))(i:X.ownsRow M 60 1 vT vs.length vs)(s:X.heap[A]?=some (.cells #[l,v2] 60 (0,0)))(hM:B<M)(ak:M<=X.heap.size)(x:vs.length<=1073741824)(h1:l.oneCell'=true)(h2:v2.oneCell'=true):
  Calls prog 34 #[.pointer (some ⟨B,0,none⟩),.slice (some ⟨A,0,none⟩) 2 2] X fun e Y=>e=.returned (.tuple #[])/\ ∃v',Y.heap[B]?=some (.cells #[v',.slice none 0 0,.slice none 0 0] 73 (0,0))/\Y.ownsRow M 60 1 v' (vs.length+2) (vs++ [l,v2])/\Keep (fun b=>b≠B/\b<M) X Y:=by
 obtain⟨aT,cT,rfl⟩:=qi i;obtain⟨v',W1,z,ho,g,c,rfl,y,am,k⟩:=qly (P:=prog) qx9 69 i ⟨A,0,none⟩ 2 2 [l,v2] rfl (fun j u hj=>by
  have:=qb s j u (by simpa using hj);rw [zD]at this;rw [show((⟨A,0,none⟩:Addr).add j)=⟨A,j,none⟩ from by unfold Addr.add;split<;>simp_all];exact this) (fun u R=>by
  simp only [zt,yR,yf]at R;rcases R with rfl |rfl
  ·exact h1
  ·exact h2) wC xz xz
 have an:M<=g:=by
  rcases y with h |h
  ·exact(zE i _ h).1
  ·omega
 have d:=k.heap f (show B≠g from xz);have c0:=qb f 0 _ rfl;have l0:=qe f;have c1:=qb d 0 _ rfl;have f1:=qg d 0;have l1:=qe d;have v:=qz 0 (.slice (some ⟨g,0,none⟩) (vs.length+2) c) d;have t:Keep (fun b=>b≠B) W1 (W1.setCell ⟨B,0,none⟩ (.slice (some ⟨g,0,none⟩) (vs.length+2) c)):=kSc;have oS:=qf ho t (fun b hb=>by cases hb;show g≠B;omega);have U:Keep (fun b=>b≠B/\b<M) X (W1.setCell ⟨B,0,none⟩ (.slice (some ⟨g,0,none⟩) (vs.length+2) c)):=(k.mono fun b _ h=>by have:=h.2;omega).trans (t.mono fun b _ h=>h.1);simp only [zD]at c0 c1;clear d y ho t;refine hd8 ?_ f i s z k v oS U;clear f i s z k v oS U;intro ad ae ab p af m r q
 go_enter Tryz.func34,Tryz.ntmps34
 go_wp2_with (at_builtin;refine qcd rfl _ _ _ rfl rfl rfl p.o ?_);refine xx (yr rfl _ _ _) rfl ?_;exact⟨rfl,_,m.o,r.o,q.o⟩
end Go.Proofs
namespace Go.Proofs
open Go.RowKit Go.Ink P16 S12
attribute [local go_sem] Oper.semAt_some
theorem qlp (p:ByteArray):(p.toList==p.toList)=true:=wB
theorem qyb {P:Program}{ops:Array Oper}{Q:Exit->Act->World->Prop}{l:List Oper}{a:Act}{w:World}(G:World->Prop)(h:G w)(k: ∀W,G W->wpList P ops Q l a W):wpList P ops Q l a w:=k w h
theorem qob {P:Program}{f:FuncId}{args:Array Value}{R:Ending->World->Prop}{w:World}(G:World->Prop)(h:G w)(k: ∀W,G W->Calls P f args W R):Calls P f args w R:=k w h
theorem qrs (n:Nat)(va vb:Value)(ts:List TermD)(w:World)(l:qad n w va ts)(m:qad n w vb ts)(hn:n<=w.heap.size):
  Calls prog 128 #[va,vb] w fun e w'=>e=.returned (.bool true)/\wD w w':=by
 obtain⟨aa,ca,rfl,ae,X,h⟩:=id l;obtain⟨ab,cb,rfl,af,Y,j⟩:=id m;refine hd4 ?_ l m h j;clear l m h j;intro s t f g
 go_enter Tryz.func128,Tryz.ntmps128
 go_wp2_with fail
 go_loopw [5] (fun i wr=> ∃k:Nat,k<=ts.length/\i=.int .i64 k/\wD w wr) (fun i _=>ts.length-(intOf i).toNat)
 case atStart=>exact⟨0,xz,rfl,Keep.refl _ _⟩
 case round=>
  obtain⟨k,hk,rfl,hK⟩:=hrel;by_cases p:k<ts.length
  ·obtain⟨x,q⟩: ∃x,ts[k]?=some x:=⟨_,zB p⟩;obtain⟨u,oa,rfl,R,c⟩:=f.o k x q;obtain⟨v,ob,rfl,U,d⟩:=g.o k x q;have f1:=hK.cell c.1 trivial;have f2:=hK.cell c.2 trivial;have f3:=hK.cell d.1 trivial;have f4:=hK.cell d.2 trivial;have hs:=hK.size;have y:u<wr.heap.size:=by omega
   have z:v<wr.heap.size:=xz
   have r:(k:Int)<ts.length:=xz
   have ad:(0:Int)<=k:=xz
   clear q c d;refine hd1 ?_ hK;clear hK;intro b;go_wp2_with fail
   go_quiet (fail)
   go_wp2_with fail;go_roundw
   case rel=>exact⟨k+1,xz,by go_num,b.o.trans (Keep.drewN' _ _ _)⟩
   case measure=>simp [intOf];omega
  ·obtain rfl:k=ts.length:=by omega
   refine hd1 ?_ hK;clear hK;intro b;go_wp2_with fail;go_ret;exact⟨rfl,b.o⟩
theorem qhj (n:Nat)(p:ByteArray)(va vb:Value)(ts:List TermD)(w:World)(i:qad n w va ts)(j:qad n w vb ts)(U:n<=w.heap.size):
  Calls prog 78 #[.agg #[.string p,va],.agg #[.string p,vb]] w fun e w'=>e=.returned (.bool true)/\Keep (fun b=>b<w.heap.size) w w':=by
 obtain⟨x,z,rfl,t,r,c⟩:=id i;obtain⟨y,R,rfl,u,s,d⟩:=id j;have v:(p.toList==p.toList)=true:=qlp _;refine hd4 ?_ i j c d;clear i j c d;intro f g k l
 go_enter Tryz.func78,Tryz.ntmps78
 go_wp2_with fail;refine(qrs n _ _ ts _ (qq f.o (kAl.trans kAl)) (qq g.o (kAl.trans kAl)) (by simp;omega)).mono ?_;rintro e W1 ⟨rfl,m⟩;have q:Keep (fun b=>b<w.heap.size) w W1:=(kAl.trans kAl).trans m.mt;clear m;refine hd1 ?_ q;clear q;intro h;go_wp2_with fail;go_ret;exact⟨rfl,h.o⟩
theorem qoc (n:Nat)(L:LitD)(va vb:Value)(w:World)(l:qad n w va L.atom.args)(m:qad n w vb L.atom.args)(hn:n<=w.heap.size):
  Calls prog 76 #[.agg (qu L va).toArray,.agg (qu L vb).toArray] w fun e w'=>e=.returned (.bool true)/\Keep (fun b=>b<w.heap.size) w w':=by
 unfold qu;obtain⟨s,z,rfl,ag,ae,c⟩:=id l;obtain⟨t,R,rfl,ah,af,d⟩:=id m;have ai:(L.left.text.toList==L.left.text.toList)=true:=qlp _;have aj:(L.right.text.toList==L.right.text.toList)=true:=qlp _;refine hd4 ?_ l m c d;clear l m c d;intro i j p q
 go_enter Tryz.func76,Tryz.ntmps76
 go_wp2_with fail;refine qob (fun W=>Keep (fun b=>b<w.heap.size) w W/\W.heap.size=w.heap.size+1+1/\W.heap[w.heap.size]?=some (.cells (qu L (.slice s L.atom.args.length z)).toArray 79 (0,0))/\W.heap[w.heap.size+1]?=some (.cells (qu L (.slice t L.atom.args.length R)).toArray 79 (0,0)))
  ⟨kAl.trans kAl,wB,qec (qh _ _) _,by simp only [qah,zO];simp [qu]⟩ ?_
 rintro W0 ⟨f,s0,n1,n2⟩;refine(qhj n L.atom.pred _ _ L.atom.args W0 (qq i.o (f.mono fun b _ h=>xz)) (qq j.o (f.mono fun b _ h=>xz)) xz).mono ?_;rintro e W1 ⟨rfl,g⟩;have m1:=g.heap n1 xz;have m2:=g.heap n2 xz;have u:=qb m1 3 _ rfl;have v:=qb m1 4 _ rfl;have x:=qb m1 5 _ rfl;have y:=qb m1 6 _ rfl;have U:=qb m2 3 _ rfl;have X:=qb m2 4 _ rfl;have Y:=qb m2 5 _ rfl;have g6:=qb m2 6 _ rfl;simp only [zD]at u v x y U X Y g6;have r:Keep (fun b=>b<w.heap.size) w W1:=f.trans (g.mono fun b _ h=>xz);clear g f n1 n2 m1 m2;refine hd1 ?_ r;clear r;intro k;go_wp2_with fail;go_ret;exact⟨rfl,k.o⟩
theorem qhk (n:Nat)(r:RuleD)(sh sb aE aD:Value)(w:World)(ha:RuleIn n w sh sb r)(hb:RuleIn n w aE aD r)(hn:n<=w.heap.size):
  Calls prog 27 #[.agg #[.string r.head.pred,sh,sb],.agg #[.string r.head.pred,aE,aD]] w fun e w'=>e=.returned (.bool true)/\Keep (fun b=>b<w.heap.size) w w':=by
 obtain⟨⟨ah,am,rfl,a4,a2,ax⟩,⟨ab,al,rfl,a3,a1,aw⟩⟩:=id ha;obtain⟨⟨aS,X,rfl,aI,aG,aa⟩,⟨aR,U,rfl,aH,aF,Y⟩⟩:=id hb;clear ax aw aa Y;refine hd2 ?_ ha hb;clear ha hb;intro aM aN
 go_enter Tryz.func27,Tryz.ntmps27
 go_wp2_with fail;refine qob (fun W=>Keep (fun b=>b<w.heap.size) w W/\W.heap.size=w.heap.size+1+1/\W.heap[w.heap.size]?=some (.cells #[.string r.head.pred,.slice ah r.head.args.length am,.slice ab r.body.length al] 27 (0,0))/\W.heap[w.heap.size+1]?=some (.cells #[.string r.head.pred,.slice aS r.head.args.length X,.slice aR r.body.length U] 27 (0,0)))
  ⟨kAl.trans kAl,wB,by simp only [qah,zO];simp,by simp only [qah,zO];simp⟩ ?_
 rintro W0 ⟨k0,s0,n1,n2⟩;have ad:=aM.o.keep (w':=W0) (k0.mono fun b _ h=>xz);have ae:=aN.o.keep (w':=W0) (k0.mono fun b _ h=>xz);refine(qhj n r.head.pred _ _ r.head.args W0 ad.1 ae.1 xz).mono ?_;rintro e W1 ⟨rfl,l⟩;have z1:=l.size;have m1:=l.heap n1 xz;have m2:=l.heap n2 xz;have c2:=qb m1 2 _ rfl;have g2:=qb m2 2 _ rfl;simp only [zD]at c2 g2;have bK:((r.body.length:Int) !=r.body.length)=false:=wB
 have kw:Keep (fun b=>b<w.heap.size) w W1:=k0.trans (l.mono fun b _ h=>xz);have c:=ad.keep (w':=W1) (l.mono fun b _ h=>xz);have d:=ae.keep (w':=W1) (l.mono fun b _ h=>xz);have l1:=qe m1;have l2:=qe m2;obtain⟨O,hO⟩:=ex (w.heap.size);rw [hO]at m1 m2 kw s0 c2 g2 l1 l2 hn⊢;obtain⟨_,_,e1,-,-,au⟩:=id c.2;obtain⟨_,_,e2,-,-,av⟩:=id d.2;cases e1;cases e2;clear l k0 n1 n2 ad ae;refine hd8 ?_ kw c d hO m1 m2 au av;clear kw c d hO m1 m2 au av;intro aQ aO aP aL br bt aj ak;go_wp2_with fail
 go_loopw [5] (fun i wr=> ∃k:Nat,k<=r.body.length/\i=.int .i64 k/\Keep (fun b=>b<O+2) W1 wr) (fun i _=>r.body.length-(intOf i).toNat)
 case atStart=>exact⟨0,xz,rfl,Keep.refl _ _⟩
 case round=>
  obtain⟨k,hk,rfl,hK⟩:=hrel;by_cases a5:k<r.body.length
  ·obtain⟨L,hx⟩: ∃x,r.body[k]?=some x:=⟨_,zB a5⟩;obtain⟨ba,oa,rfl,bG,sa,aA,ay⟩:=aj.o k L hx;obtain⟨bb,ob,rfl,bH,sb,aB,az⟩:=ak.o k L hx;have hs:=hK.size;have c2:=hK.cell c2 (show O<O+2 from xz);have bz:=hK.cell g2 (show O+1<O+2 from xz);have a8:O<wr.heap.size:=by omega
   have bO:O+1<wr.heap.size:=xz
   have f: ∀j v,(qu L sa)[j]?=some v->wr.cell? ⟨ba,oa+k*7+j,none⟩=some v:=fun j v h=>hK.cell (aA j v h) (show ba<O+2 from xz);have g: ∀j v,(qu L sb)[j]?=some v->wr.cell? ⟨bb,ob+k*7+j,none⟩=some v:=fun j v h=>hK.cell (aB j v h) (show bb<O+2 from xz);have f0:=f 0 _ rfl;have f1:=f 1 _ rfl;have f2:=f 2 _ rfl;have f3:=f 3 _ rfl;have f4:=f 4 _ rfl;have f5:=f 5 _ rfl;have f6:=f 6 _ rfl;have g0:=g 0 _ rfl;have g1:=g 1 _ rfl;have an:=g 2 _ rfl;have g3:=g 3 _ rfl;have g4:=g 4 _ rfl;have g5:=g 5 _ rfl;have g6:=g 6 _ rfl;simp only [Nat.add_zero]at f0 g0;have bD:ba<wr.heap.size:=xz
   have bF:bb<wr.heap.size:=xz
   have m:=qq ay (hK.mono fun b _ h=>xz);have q:=qq az (hK.mono fun b _ h=>xz);have bq:(k:Int)<r.body.length:=xz
   have bI:(0:Int)<=k:=xz
   clear hx aA aB f g ay az;have aq:=And.intro f0 (And.intro f1 (And.intro f2 (And.intro f3 (And.intro f4 (And.intro f5 f6)))));have ar:=And.intro g0 (And.intro g1 (And.intro an (And.intro g3 (And.intro g4 (And.intro g5 g6)))));refine hd5 ?_ hK m q aq ar;clear hK m q aq ar;intro t u z a9 bc;go_wp2_with fail
   go_still_tail 10,wA
   change wpList _ _ _ _ _ wr.drew;refine qyb (fun W=>wD wr W) kDr ?_;rintro W kd;have p:=qq u.o kd.mt;have s:=qq z.o kd.mt;have ap:=t.o.trans kd.mt;have sd:=kd.size;clear f0 f1 f2 f3 f4 f5 f6 g0 g1 an g3 g4 g5 g6 kd;refine hd3 ?_ p s ap;clear p s ap;intro y R ai;go_wp2_with fail;refine(qoc n L _ _ W y.o R.o xz).mono ?_;rintro e W1 ⟨rfl,l⟩;have ao:=ai.o.trans (l.mono fun b _ h=>xz);clear l;refine hd1 ?_ ao;clear ao;intro ag;go_wp2_with fail;go_roundw
   case rel=>exact⟨k+1,xz,by go_num,ag.o⟩
   case measure=>simp [intOf];omega
  ·obtain rfl:k=r.body.length:=by omega
   have c2:=hK.cell c2 (show O<O+2 from xz);have hs:=hK.size;have a8:O<wr.heap.size:=xz
   refine hd1 ?_ hK;clear hK;intro t;go_wp2_with fail;go_ret;exact⟨rfl,by rw [aL.o];exact aQ.o.trans (t.o.mono fun b _ h=>xz)⟩
end Go.Proofs
namespace Go.Proofs
open Go.RowKit Go.Ink Go.Flt R4 P16
attribute [local go_sem] Oper.semAt_some
theorem qv7 (w:World):Calls prog 25 #[.pointer none] w fun e w'=>e=.returned (.int .i64 0)/\w'=w:=by
 go_enter Tryz.func25,Tryz.ntmps25
 go_wp2_with fail;go_ret;exact⟨rfl,rfl⟩
theorem qt8 (w:World):Calls prog 26 #[.pointer none] w fun e w'=>e=.returned (.slice none 0 0)/\w'=w:=by
 go_enter Tryz.func26,Tryz.ntmps26
 go_wp2_with fail;go_ret;exact⟨rfl,rfl⟩
theorem qt9 (w:World):Calls prog 28 #[.pointer none] w fun e w'=>e=.returned (.agg #[.string ⟨#[]⟩,.slice none 0 0,.slice none 0 0])/\wD w w':=by
 go_enter Tryz.func28,Tryz.ntmps28
 go_wp2_with fail;refine zz (v:=.agg #[.string ⟨#[]⟩,.slice none 0 0,.slice none 0 0]) (by simp [results,Tryz.results28,go_sem]) rfl ⟨rfl,?_⟩
 first |exact Keep.refl _ _ |exact kAl
theorem q07 {n0:Nat}{Ss:List Nat}{U:Nat->Prop}{z:Nat}{W0:World}{r:RuleD}(h: ∀b,U b->b<z){Bj Bx R:Nat}(e:U Bj)(c:W0.heap[Bj]?=some (.cells #[.pointer none] 35 (0,0))):
  qkr prog 65 #[qj Bj,qj Bx,qj R] (qa8 n0 Ss) (fun γ=>([]:List Asg).length) (fun γ0 i γ n X args=> ∃b,([]:List Asg)[i]?=some b/\qic r (qm r) b γ n X args) (EachV U z n0 W0) U:=by
 intro l Jp Jx W u hl hinv p hU y m d x;show Calls prog 65 #[.func (.yield l) #[] #[],qj Bj,qj Bx,qj R] W _;have a1:=qb ((p.1 Bj e).trans c) 0 _ rfl;have l1:=qe ((p.1 Bj e).trans c);simp only [zD]at a1;have f: ∀Y,wD W Y->(∃v,Ending.returned (Value.tuple #[])=.returned v)/\W.heap.size<=Y.heap.size/\ ∃γ',(qa8 n0 Ss).inv γ' Y/\EachV U z n0 W0 Y/\(Jp ([]:List Asg).length γ' Y∨ ∃k,k<([]:List Asg).length/\Jx k γ' Y):=fun Y q=>
  ⟨⟨_,rfl⟩,q.size,u,⟨hinv.1.keep q.mt,hinv.2⟩,p.keep h q (fun _ _=>wE),.inl (y 0 u W u _ x ⟨GStep.own hinv.1 q,rfl⟩)⟩
 refine qg5 ?_ h e c hinv p hU y m d x f;clear h e c hinv p hU y m d x f;intro ae ab s t al ak aj ad j ai g
 go_enter Tryz.func65,Tryz.ntmps65
 go_wp2_with fail;refine zz (yr rfl _ _ _) rfl (by simpa using g.o _ (Keep.refl _ _))
theorem qyc {n0:Nat}{Ss:List Nat}{U:Nat->Prop}{z:Nat}{W0:World}{r:RuleD}(h: ∀b,U b->b<z){Bj Bk Bo Bd R Bn:Nat}(e:U Bj)(c:W0.heap[Bj]?=some (.cells #[.pointer none] 35 (0,0))):
  qkr prog 80 #[qj Bj,qj Bk,qj Bo,qj Bd,qj R,qj Bn] (qa8 n0 Ss) (fun γ=>([]:List Asg).length) (fun γ0 i γ n X args=> ∃b,([]:List Asg)[i]?=some b/\qic r (qm r) b γ n X args) (EachV U z n0 W0) U:=by
 intro l Jp Jx W u hl hinv p hU y m d x;show Calls prog 80 #[.func (.yield l) #[] #[],qj Bj,qj Bk,qj Bo,qj Bd,qj R,qj Bn] W _;have a1:=qb ((p.1 Bj e).trans c) 0 _ rfl;have l1:=qe ((p.1 Bj e).trans c);simp only [zD]at a1;have f: ∀Y,wD W Y->(∃v,Ending.returned (Value.tuple #[])=.returned v)/\W.heap.size<=Y.heap.size/\ ∃γ',(qa8 n0 Ss).inv γ' Y/\EachV U z n0 W0 Y/\(Jp ([]:List Asg).length γ' Y∨ ∃k,k<([]:List Asg).length/\Jx k γ' Y):=fun Y q=>
  ⟨⟨_,rfl⟩,q.size,u,⟨hinv.1.keep q.mt,hinv.2⟩,p.keep h q (fun _ _=>wE),.inl (y 0 u W u _ x ⟨GStep.own hinv.1 q,rfl⟩)⟩
 refine qg5 ?_ h e c hinv p hU y m d x f;clear h e c hinv p hU y m d x f;intro ag ae s t an am al af j ak g
 go_enter Tryz.func80,Tryz.ntmps80
 go_wp2_with fail
 go_quiet (fail)
 go_wp2_with fail;refine zz (yr rfl _ _ _) rfl (g.o _ (Keep.drewN' _ _ _))
theorem qlq {n0:Nat}{g:Gh}{w:World}(u:GInv g w)(f:n0<=w.heap.size){gf:Nat}{lb:Array Value}(m: ∀args w,(callFunc gf args).run prog w=.ok (.enter gf args) w)
  (k:qkr prog gf lb (qa8 n0 []) (fun γ=>([]:List Asg).length) (fun γ0 i γ n X args=> ∃b,([]:List Asg)[i]?=some b/\qic qfu (qm qfu) b γ n X args) (EachV (fun b=>b<w.heap.size/\g.free b) w.heap.size n0 w) (fun b=>b<w.heap.size/\g.free b)):
  Calls prog 17 #[.func (.func gf) #[] lb,.int .i64 (-1)] w fun e w'=> ∃g' a c,e=.returned (.slice a 0 c)/\GStep n0 g w g' w'/\g'.st=g.st:=by
 refine(qmd (all:=fun γ=> []) (V:=EachV (fun b=>b<w.heap.size/\g.free b) w.heap.size n0 w) (U:=fun b=>b<w.heap.size/\g.free b) u (fun S h=>by cases h) f m k (fun b d=>d.2) (fun X j=>⟨fun b d=>j.block b d.1 d.1,j.size,zW f j.size⟩) (fun X Y t hK=>t.keep (fun b d=>d.1) hK (fun b d=>d.1)) wB wC (-1)).mono ?_;rintro e w' ⟨g',v,y,l,p,q,r,s⟩;have x:y.length=0:=by
  have:=yM List.length s;rw [zL,qkv]at this;rw [this];rfl
 obtain⟨a,c,rfl⟩:=qi r.own;rw [x]at l;exact⟨g',a,c,l,p,q⟩
end Go.Proofs
namespace Go.Proofs
open Go.RowKit Go.Ink P16
attribute [local go_sem] Oper.semAt_some
def qex:TermD:=⟨false,⟨#[0,114,111,111,109]⟩⟩
def LentT (base:Nat)(w:World)(v:Value)(ts:List TermD):Prop:= ∃g cap,v=.slice (some ⟨g,0,none⟩) ts.length cap/\w.ownsRow base 77 2 (.slice (some ⟨g,0,none⟩) (ts.length+3) cap) (ts.length+3) (qv (ts++ [qex,qex,qex]))
theorem LentT.keep {base:Nat}{w w':World}{v:Value}{ts:List TermD}{C:Nat->Prop}(h:LentT base w v ts)(hK:Keep C w w')(c: ∀b,base<=b->b<w.heap.size->C b):LentT base w' v ts:=by
 obtain⟨g,cap,rfl,h⟩:=h;exact⟨g,cap,rfl,qf h hK (fun b d=>by have:=zE h b d;exact c b this.1 this.2)⟩
theorem LentT.mono {base b:Nat}{w:World}{v:Value}{ts:List TermD}(h:LentT base w v ts)(c:b<=base):LentT b w v ts:=by
 obtain⟨g,cap,rfl,h⟩:=h;exact⟨g,cap,rfl,h.mono c⟩
theorem LentT.terms {base:Nat}{w:World}{v:Value}{ts:List TermD}(h:LentT base w v ts)(i:ts.length<=1073741824):qad w.heap.size w v ts:=by
 obtain⟨g,cap,rfl,h⟩:=h;have c:=qcm h;refine⟨_,cap,rfl,i,⟨xz,c.2.1⟩,fun k t e=>⟨g,0,rfl,c.2.2.1,?_⟩⟩;have b:=(zA.1 e).1;have d: ∀j,j<2->(qv (ts++ [qex,qex,qex]))[k*2+j]?=([Value.bool t.var,.string t.text]:List Value)[j]?:=fun j f=>by
  refine qas _ 2 (fun _=>rfl) _ k j t ?_ f;rw [yQ b];exact e
 rw [zD];exact⟨qau h _ _ (d 0 xz),qau h _ _ (d 1 xz)⟩
theorem qlr {w:World}{m:Nat}{v:Value}(p:ByteArray){ts:List TermD}(h:qad m w v ts)(hm:m<=w.heap.size):Calls prog 74 #[.agg #[.string p,v]] w fun e w'=> ∃v',e=.returned (.agg #[.string p,v'])/\LentT w.heap.size w' v' ts/\Keep (fun b=>b<w.heap.size) w w':=by
 obtain⟨a,c,rfl,hl,hc,he⟩:=id h;obtain⟨N,hN⟩:=ex (w.heap.size);obtain⟨W0,d⟩:=ex ((w.alloc (.cells #[.string p,.slice a ts.length c] 24)).alloc (.cells #[.string ⟨#[]⟩,.slice none 0 0] 24));have k0:wD w W0:=by rw [←d];exact kAl.trans kAl
 have z0:W0.heap.size=N+2:=by rw [←d,←hN];simp
 have p0:W0.heap[N]?=some (.cells #[.string p,.slice a ts.length c] 24 (0,0)):=by rw [←d,←hN];exact(Keep.alloc (fun _=>True) _ _).heap (qh w _) trivial
 have p1:W0.heap[N+1]?=some (.cells #[.string ⟨#[]⟩,.slice none 0 0] 24 (0,0)):=by
  rw [←d,←hN];have:=qh (w.alloc (.cells #[.string p,.slice a ts.length c] 24)) (.cells #[.string ⟨#[]⟩,.slice none 0 0] 24);rw [zO]at this;exact this
 have c0:=qb p0 0 _ rfl;have c1:=qb p0 1 _ rfl;simp only [zD]at c0 c1;have bt:N<W0.heap.size:=xz
 have an:=qu7 p (qq h k0.mt) xz;refine hd9 ?_ h hN d k0 z0 p0 p1 an he;clear h hN d k0 z0 p0 p1 an he;intro Xh y ad aF ak aM aN ah bf
 go_enter Tryz.func74,Tryz.ntmps74
 go_wp2_with fail;rw [ad.o,y.o];go_wp2_with fail;refine ah.o.mono ?_;rintro e W1 ⟨v1,rfl,o1,k1⟩;obtain⟨a1,z,rfl⟩:=qi o1;refine hd2 ?_ o1 k1;clear o1 k1;intro aJ aj;go_wp2_with fail;obtain⟨M,hM⟩:=ex (W1.heap.size);obtain⟨W2,l⟩:=ex (W1.alloc (.cells #[.string p,.slice a1 ts.length z] 24));have k2:wD W0 W2:=by rw [←l];exact aj.o.trans kAl
 have p2:W2.heap[M]?=some (.cells #[.string p,.slice a1 ts.length z] 24 (0,0)):=by rw [←l,←hM];exact qh _ _
 have o2:W2.ownsRow (N+2) 77 2 (.slice a1 ts.length z) ts.length (qv ts):=by
  rw [←l];exact(qf aJ.o (Keep.alloc (fun _=>True) _ _) (fun _ _=>wE)).mono (by have:=ak.o;omega)
 have br:N+2<=M:=by rw [←hM];have:=aj.o.size;have:=ak.o;omega
 refine hd5 ?_ hM l k2 p2 o2;clear hM l k2 p2 o2;intro aC ae aG aO aK;rw [ae.o,aC.o]
 go_loopw [4] (fun i' wr=> ∃(k:Nat) (a3:Option Addr) (x:Nat),k<=3/\i'=.int .i64 (k:Int)/\Keep (fun b=>b<N+2) W2 wr/\wr.heap[M]?=some (.cells #[.string p,.slice a3 (ts.length+k) x] 24 (0,0))/\wr.ownsRow (N+2) 77 2 (.slice a3 (ts.length+k) x) (ts.length+k) (qv (ts++List.replicate k qex))) (fun i _=>3-(intOf i).toNat)
 case atStart=>exact⟨0,a1,z,xz,rfl,Keep.refl _ _,aO.o,by simpa using aK.o⟩
 case round=>
  obtain⟨k,a3,x,hk,rfl,hK,f,ho⟩:=hrel;have bD:=hK.size;have d1:=qb f 1 _ rfl;have f1:=qg f 1;have lM:=qe f;simp only [zD]at d1;by_cases bz:k<3
  ·have a5:(k:Int)<3:=by omega
   obtain⟨Wa,q⟩:=ex (wr.alloc (.cells #[.bool false,.string ⟨#[0,114,111,111,109]⟩] 77));obtain⟨A,hA⟩:=ex (wr.heap.size);have ka:wD wr Wa:=by rw [←q];exact kAl
   have pa:Wa.heap[A]?=some (.cells #[.bool false,.string ⟨#[0,114,111,111,109]⟩] 77 (0,0)):=by rw [←q,←hA];exact qh _ _
   have za:Wa.heap.size=A+1:=by rw [←q,←hA];simp
   obtain⟨v',W3,hr,Y,g,c4,rfl,hg,bv,X⟩:=qly (P:=prog) qgb 22 (qf ho ka (fun _ _=>wE)) ⟨A,0,none⟩ 1 1 (qv [qex]) rfl (fun j u hj=>by
    have:=qb pa j u (by simpa [qv,qex] using hj);rw [zD]at this;rw [show((⟨A,0,none⟩:Addr).add j)=⟨A,j,none⟩ from by unfold Addr.add;split<;>simp_all];exact this) (qij _) wC xz xz
   have bw:N+2<=g:=by
    rcases hg with h |h
    ·exact(zE ho _ h).1
    ·omega
   have s:M≠g:=by
    rintro rfl;obtain⟨cs,t⟩:=qao Y rfl;rcases hg with h |h
    ·obtain⟨cs,t⟩:=qao ho h;rw [f]at t;injection t with t
     injection t with _ t _
     revert t
     decide
    ·omega
   have r:=X.heap (ka.heap f wE) s;have d3:=qb r 1 _ rfl;have f3:=qg r 1;have l3:=qe r;simp only [zD]at d3;obtain⟨W4,R⟩:=ex (W3.setCell ⟨M,1,none⟩ (.slice (some ⟨g,0,none⟩) (ts.length+k+1) c4));have k4:Keep (fun b=>b≠M) W3 W4:=by rw [←R];exact kSc
   have b4:W4.heap[M]?=some (.cells #[.string p,.slice (some ⟨g,0,none⟩) (ts.length+(k+1)) c4] 24 (0,0)):=by rw [←R];exact qz 1 _ r
   have o4:W4.ownsRow (N+2) 77 2 (.slice (some ⟨g,0,none⟩) (ts.length+(k+1)) c4) (ts.length+(k+1)) (qv (ts++List.replicate (k+1) qex)):=by
    have:=qf Y k4 (fun b f=>by cases f;exact fun e=>s e.symm);rw [replicate_succ',←yq];unfold qv at this⊢;rw [yF];exact this
   have kk:Keep (fun b=>b<N+2) W2 W4:=hK.trans (ka.mt.trans ((X.mono fun b _ h=>xz).trans (k4.mono fun b _ h=>xz)));clear pa Y hg X r k4 ka ho f s;refine hd8 ?_ q hr R b4 o4 kk hK hA;clear q hr R b4 o4 kk hK hA;intro ag aE af az aL aH aB aA;go_wp2_with (at_builtin;rw [ag.o,aA.o];refine qcd rfl _ _ _ rfl rfl rfl aE.o ?_);rw [af.o];go_roundw
   case rel=>exact⟨k+1,_,_,xz,by go_num,aH.o,az.o,aL.o⟩
   case measure=>simp [intOf];omega
  ·obtain rfl:k=3:=by omega
   obtain⟨g,rfl⟩: ∃g,a3=some ⟨g,0,none⟩:=by
    rcases ho.2 with ⟨h1,h2⟩ |⟨g,_,_,h1,_⟩
    ·omega
    ·cases h1;exact⟨g,rfl⟩
   have a2:=qcm ho;have aS:(ts.length:Int)<=x:=xz
   have kq:Keep (fun b=>b<N+2) W0 wr:=aG.o.mt.trans hK;have q0:=kq.heap aM.o xz;have q1:=kq.heap aN.o xz;have e1:=qb q0 1 _ rfl;have lN:=qe q1;have g0:=qb q1 0 _ rfl;have g1:=qb q1 1 _ rfl;have bn:=qg q1 0;have bo:=qg q1 1;simp only [zD]at e1 g0 g1;have d0:=qb f 0 _ rfl;simp only [zD]at d0;refine hd6 ?_ hK f ho kq q0 q1;clear hK f ho kq q0 q1;intro aB aD ai aI bg aP;go_wp2_with fail;obtain⟨W5,U⟩:=ex (((wr.setCell ⟨M,1,none⟩ (.slice (some ⟨g,0,none⟩) ts.length x)).setCell ⟨N+1,0,none⟩ (.string p)).setCell ⟨N+1,1,none⟩ (.slice (some ⟨g,0,none⟩) ts.length x));have kM:Keep (fun b=>b≠M) wr (wr.setCell ⟨M,1,none⟩ (.slice (some ⟨g,0,none⟩) ts.length x)):=kSc;have k5:Keep (fun b=>b≠M/\b≠N+1) wr W5:=by rw [←U];exact((kM.mono fun b _ h=>h.1).trans (kSc)).trans (kSc)
   have b5:W5.heap[N+1]?=some (.cells #[.string p,.slice (some ⟨g,0,none⟩) ts.length x] 24 (0,0)):=by rw [←U];exact qz 1 _ (qz 0 (.string p) (kM.heap aP.o xz))
   have e0:=qb b5 0 _ rfl;have al:=qb b5 1 _ rfl;have l5:=qe b5;simp only [zD]at e0 al;have s:g≠M:=by
    rintro rfl;obtain⟨cs,t⟩:=qao ai.o rfl;rw [aD.o]at t;injection t with t
    injection t with _ t _
    revert t
    decide
   have o5:=qf ai.o k5 (fun b f=>by cases f;exact⟨s,show g≠N+1 from xz⟩);have kW:Keep (fun b=>b<w.heap.size) w W5:=aF.o.mt.trans ((aI.o.mono fun b _ h=>by have:=y.o;omega).trans (k5.mono fun b _ h=>by have:=y.o;omega));have bu:=y.o;refine zz (v:=.agg #[.string p,.slice (some ⟨g,0,none⟩) ts.length x]) (by rw [U];simp [results,Tryz.results74,go_sem,e0,al,l5]) rfl ?_;rw [U];exact⟨_,rfl,⟨g,x,rfl,o5.mono xz⟩,kW⟩
theorem qls (n base:Nat)(p:ByteArray)(va vb:Value)(ts:List TermD)(w:World)(ha:LentT base w va ts)(hb:qad n w vb ts)(hn:n<=w.heap.size)(hl:ts.length<=1073741824):
  Calls prog 75 #[.agg #[.string p,va],.agg #[.string p,vb]] w fun e w'=>e=.returned (.bool true)/\Keep (fun b=>b<w.heap.size) w w':=by
 have r:=ha.terms hl;obtain⟨g,cap,rfl,ho⟩:=id ha;obtain⟨ab,cb,rfl,aT,aP,ad⟩:=id hb;have am:=qcm ho;have f: ∀k,k<3->w.cell? ⟨g,(ts.length+k)*2,none⟩=some (.bool false)/\w.cell? ⟨g,(ts.length+k)*2+1,none⟩=some (.string ⟨#[0,114,111,111,109]⟩):=fun k hk=>by
  have aa:(ts++ [qex,qex,qex])[ts.length+k]?=some qex:=by
   rw [yG xz,show ts.length+k-ts.length=k from xz]
   match k,hk with
   |0,_=>rfl
   |1,_=>rfl
   |2,_=>rfl
  have h0:=qau ho ((ts.length+k)*2+0) _ (qas (fun t:TermD=> [Value.bool t.var,.string t.text]) 2 (fun _=>rfl) _ _ 0 qex aa xz);have h1:=qau ho ((ts.length+k)*2+1) _ (qas (fun t:TermD=> [Value.bool t.var,.string t.text]) 2 (fun _=>rfl) _ _ 1 qex aa xz);exact⟨h0,h1⟩
 have al:(ts.length:Int)+3<=cap:=xz
 have hg:g<w.heap.size:=am.2.2.1;obtain⟨N,Y⟩:=ex (w.heap.size);obtain⟨W0,c⟩:=ex ((w.alloc (.cells #[.string p,.slice (some ⟨g,0,none⟩) ts.length cap] 24)).alloc (.cells #[.string p,.slice ab ts.length cb] 24));have k0:wD w W0:=by rw [←c];exact kAl.trans kAl
 have z0:W0.heap.size=N+2:=by rw [←c,←Y];simp
 have p0:W0.heap[N]?=some (.cells #[.string p,.slice (some ⟨g,0,none⟩) ts.length cap] 24 (0,0)):=by rw [←c,←Y];exact(Keep.alloc (fun _=>True) _ _).heap (qh w _) trivial
 have p1:W0.heap[N+1]?=some (.cells #[.string p,.slice ab ts.length cb] 24 (0,0)):=by
  rw [←c,←Y];have:=qh (w.alloc (.cells #[.string p,.slice (some ⟨g,0,none⟩) ts.length cap] 24)) (.cells #[.string p,.slice ab ts.length cb] 24);rw [zO]at this;exact this
 have j:=qhj w.heap.size p _ _ ts W0 (qq r k0.mt) (qfm (qq hb k0.mt) hn) k0.size;have hS: ∀X,Keep (fun b=>b<N+2) W0 X->X.cell? ⟨N,0,none⟩=some (.string p)/\X.cell? ⟨N,1,none⟩=some (.slice (some ⟨g,0,none⟩) ts.length cap)/\X.cell? ⟨N+1,0,none⟩=some (.string p)/\X.cell? ⟨N+1,1,none⟩=some (.slice ab ts.length cb)/\N+1<X.heap.size:=fun X hX=>by
  have q:=hX.heap p0 xz;have q':=hX.heap p1 xz;have q0:=qb q 0 _ rfl;have q1:=qb q 1 _ rfl;have q2:=qb q' 0 _ rfl;have q3:=qb q' 1 _ rfl;simp only [zD]at q0 q1 q2 q3;exact⟨q0,q1,q2,q3,qe q'⟩
 obtain⟨s0,s1,s2,s3,s4⟩:=hS W0 (Keep.refl _ _);refine ql3 ?_ ha hb r ho f Y c k0 z0 p0 p1 j hS ad;clear ha hb r ho f Y c k0 z0 p0 p1 j hS ad;intro aI aJ ar aK l d y z aj aL aM m x aq
 go_enter Tryz.func75,Tryz.ntmps75
 go_wp2_with fail;rw [y.o,d.o];go_wp2_with fail;refine m.o.mono ?_;rintro e W1 ⟨rfl,k1⟩;have s:Keep (fun b=>b<N+2) W0 W1:=k1.mono fun b _ h=>by have:=aj.o;omega
 obtain⟨r0,r1,r2,r3,r4⟩:=x.o W1 s;clear s0 s1 s2 s3 s4 k1;refine hd1 ?_ s;clear s;intro R;go_wp2_with fail
 go_loopw [6] (fun i' wr=> ∃k:Nat,k<=3/\i'=.int .i64 (k:Int)/\Keep (fun b=>b<N+2) W0 wr) (fun i _=>3-(intOf i).toNat)
 case atStart=>exact⟨0,xz,rfl,R.o⟩
 case round=>
  obtain⟨k,hk,rfl,hK⟩:=hrel;clear r0 r1 r2 r3 r4;obtain⟨r0,r1,r2,r3,r4⟩:=x.o wr hK;by_cases an:k<3
  ·have aw:(k:Int)<3:=by omega
   have aR:(0:Int)<=k:=xz
   have u:Keep (fun b=>b<N) w wr:=z.o.mt.trans (hK.mono fun b _ h=>xz);obtain⟨m0,m1⟩:=l.o k an;have aW:=u.cell m0 (show g<N by have:=d.o;omega);have aX:=u.cell m1 (show g<N by have:=d.o;omega);have aQ:g<wr.heap.size:=by have:=d.o;omega
   clear m0 m1;refine hd2 ?_ hK u;clear hK u;intro v U;go_wp2_with fail;go_roundw
   case rel=>exact⟨k+1,xz,by go_num,v.o⟩
   case measure=>simp [intOf];omega
  ·obtain rfl:k=3:=by omega
   have u:Keep (fun b=>b<w.heap.size) w wr:=z.o.mt.trans (hK.mono fun b _ h=>by have:=d.o;omega);refine hd2 ?_ hK u;clear hK u;intro v U;go_wp2_with fail;go_ret;exact⟨rfl,U.o⟩
end Go.Proofs
