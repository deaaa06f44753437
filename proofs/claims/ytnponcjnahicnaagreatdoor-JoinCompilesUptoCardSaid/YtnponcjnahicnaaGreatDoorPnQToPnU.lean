/- Parts of the proof. -/
import Derived.Test.YtnponcjnahicnaaGreatDoorPnKToFlt
import Derived.Deep.RegionHeld3
set_option linter.unusedSimpArgs false
set_option linter.unusedVariables false
set_option maxRecDepth 100000
set_option maxHeartbeats 1000000
open Go.Proofs.Tryz(prog)
open List(nil_append set_append_right take_set)
namespace Go.Proofs.P16
open Go.RowKit Go.Ink
attribute [local go_sem] Oper.semAt_some
def qbh (ls:List LitD):List ByteArray:=ls.foldl (fun K L=>if L.kind=1 then K++qbt K L.atom.args else K) []
theorem qnd (ls:List LitD){k:Nat}{L:LitD}(h:ls[k]?=some L):qbh (ls.take (k+1))=if L.kind=1 then qbh (ls.take k)++qbt (qbh (ls.take k)) L.atom.args else qbh (ls.take k):=by
 unfold qbh;rw [zh,h,yk]
 rfl
def qds (r:RuleD):Bool:=!r.head.args.any (qb8 (qbh r.body))&&r.body.all (qcj (qbh r.body))
theorem qne (w:World):(Instr.makeMap 292 none).run prog w=.ok (.map (some w.heap.size)) (w.alloc (.map #[] 0)):=by
 simp [Instr.makeMap,yp,yl Tryz.underlying292,Result.andThen,run_newObj_alloc]
theorem qs5 (n M B:Nat)(K:List ByteArray)(L:LitD)(f:Value)(w:World)(i:SetIn w M K)(l:w.cell? ⟨B,0,none⟩=some (.map (some M)))(d:qad n w f L.atom.args)(y:n<=w.heap.size):Calls prog 259 #[qd0 L f,.pointer (some ⟨B,0,none⟩)] w fun e w'=>e=.returned (.bool (!qcj K L))/\Keep (fun b=>b<w.heap.size) w w':=by
 have h:=fun W (hK:wD w W)=>qqo n M K L f W (i.keep hK wE) (qq d hK.mt) (by have:=hK.size;omega);obtain⟨t,v,rfl,-,-,-⟩:=id d;obtain⟨k,⟨pr,args⟩,⟨q,lt⟩,⟨s,r⟩⟩:=L;unfold qd0 at h⊢;simp only at h⊢;obtain⟨u,c⟩: ∃b,qcj K ⟨k,⟨pr,args⟩,⟨q,lt⟩,⟨s,r⟩⟩=b:=⟨_,rfl⟩;simp only [c]at h;rw [c];have p:=zQ w _ l;simp only at p;clear d i;refine hd2 ?_ h c;clear h c;intro j g
 go_enter Tryz.func259,Tryz.ntmps259
 go_wp2_with fail;refine(j.o _ kAl).mono ?_;rintro e z ⟨rfl,m⟩;go_wp2_with fail;go_ret;exact⟨rfl,kAl.trans (m.mono fun b x _=>by simp;omega)⟩
theorem q2b (n:Nat)(r:RuleD)(sh sb:Value)(w:World)(hr:RuleIn n w sh sb r)(hn:n<=w.heap.size):Calls prog 239 #[qaz r sh sb] w fun e w'=>e=.returned (.bool (qds r))/\Keep (fun b=>b<w.heap.size) w w':=by
 have f:=fun i L (hL:r.body[i]?=some L) M K W (d:SetIn W M K) (hK:Keep (fun b=>b<w.heap.size) w W)=>qnz n M K r sh sb i L hL W d (hr.keep (hK.mono fun b _ h=>xz)) (by have:=hK.size;omega);have hE:qds r=(!r.head.args.any (qb8 (qbh r.body))&&r.body.all (qcj (qbh r.body))):=rfl;obtain⟨hh,y⟩:=id hr;have X:=fun M K W (d:SetIn W M K) (hK:Keep (fun b=>b<w.heap.size) w W)=>qht (gf:=241) (bs:= #[.map (some M)]) (lb:= #[]) (qc0 Tryz.func241 wA rfl) (qb8 K) n sh r.head.args W (qq hh (hK.mono fun b _ h=>xz)) (by have:=hK.size;omega)
  (fun x _ W2 c=>(qny M K x W2 (d.keep c (show M<W.heap.size from d.lt))).mono fun e w' ⟨e1,s⟩=>⟨e1,s.mt⟩)
 have q:=fun B M K W (d:SetIn W M K) (hK:Keep (fun b=>b<w.heap.size) w W) (hB:W.cell? ⟨B,0,none⟩=some (.map (some M)))=>qj6 (gf:=259) (bs:= #[]) (lb:= #[.pointer (some ⟨B,0,none⟩)]) (qc0 Tryz.func259 wA rfl) (fun L=>!qcj K L) n sb r.body W (qid y (hK.mono fun b _ h=>xz)) (by have:=hK.size;omega)
  (fun x _ W2 c sa ai=>qs5 n M B K x sa W2 (d.keep c (show M<W.heap.size from d.lt)) (c.cell hB (zQ W _ hB)) ai (by have:=hK.size;have:=c.size;omega))
 simp only [qkg]at q;obtain⟨⟨pr,args⟩,body⟩:=r;unfold qaz at f⊢;simp only at f hE hh y X q⊢;obtain⟨aa,ca,rfl,-,-,-⟩:=id hh;obtain⟨ab,cb,rfl,bU,bQ,aO⟩:=id y;have bq:=fun w=>qne w;clear hh y hr;refine hd5 ?_ f hE X q aO;clear f hE X q aO;intro ae a3 ap aq aG
 go_enter Tryz.func239,Tryz.ntmps239
 go_wp2_with fail;refine qj9 (fun W=>Keep (fun b=>b<w.heap.size) w W/\W.heap.size=w.heap.size+1+1+1/\W.heap[w.heap.size]?=some (.cells #[.string pr,.slice aa args.length ca,.slice ab body.length cb] 27 (0,0))/\
  SetIn W (w.heap.size+1) []/\W.heap[w.heap.size+1+1]?=some (.cells #[.map (some (w.heap.size+1))] 292 (0,0))) ⟨(kAl.trans kAl).trans kAl,wB,by simp only [qah,zO];simp;omega,by
   refine(SetIn.keep (w:=(w.alloc (.cells #[.string pr,.slice aa args.length ca,.slice ab body.length cb] 27)).alloc (.map #[] 0)) ?_ (Keep.alloc (fun _=>True) _ _) wE);have:=qlx (w.alloc (.cells #[.string pr,.slice aa args.length ca,.slice ab body.length cb] 27))
   simpa using this,by simp only [qah,zO];simp⟩ ?_
 rintro W0 ⟨k0,z0,a1,s0,a2⟩;clear bq;obtain⟨N,hN⟩:=ex (w.heap.size);rw [hN]at k0 z0 a1 s0 a2⊢;have bW:n<=N:=xz
 refine hd5 ?_ k0 a1 s0 a2 hN;clear k0 a1 s0 a2 hN;intro a7 aX a9 aY ad
 go_loopw [10] (fun i' wr=> ∃k:Nat,k<=body.length/\i'=.int .i64 (k:Int)/\Keep (fun b=>b<N+1+1+1/\b≠N+1) W0 wr/\SetIn wr (N+1) (qbh (body.take k))) (fun i _=>body.length-(intOf i).toNat)
 case atStart=>exact⟨0,xz,rfl,Keep.refl _ _,a9.o⟩
 case round=>
  obtain⟨k,hk,rfl,hK,d⟩:=hrel;have b3:=hK.size;have b1:=hK.heap aX.o (show N<N+1+1+1/\N≠N+1 from xz);have b2:=hK.heap aY.o (show N+1+1<N+1+1+1/\N+1+1≠N+1 from xz);have c0:=qb b1 0 _ rfl;have c1:=qb b1 1 _ rfl;have c2:=qb b1 2 _ rfl;have c3:=qb b2 0 _ rfl;simp only [zD]at c0 c1 c2 c3;have bk:=d.lt;have bn:N<wr.heap.size:=xz
  have aJ:N+1+1<wr.heap.size:=xz
  have kw:Keep (fun b=>b<N) w wr:=a7.o.trans (hK.mono fun b _ h=>⟨xz,xz⟩);by_cases bp:k<body.length
  ·have bJ:(k:Int)<body.length:=by omega
   have bR:(0:Int)<=k:=xz
   obtain⟨x,hx⟩: ∃x,body[k]?=some x:=⟨_,zB bp⟩;obtain⟨b,o,rfl,y,sa,aN,ai⟩:=aG.o k x hx;obtain⟨ar,au,rfl,bV,-,-⟩:=id ai;have g: ∀j v,(qu x (.slice ar x.atom.args.length au))[j]?=some v->wr.cell? ⟨b,o+k*7+j,none⟩=some v:=fun j v h=>kw.cell (aN j v h) (show b<N from xz);have d0:=g 0 _ rfl;have d1:=g 1 _ rfl;have d2:=g 2 _ rfl;have d3:=g 3 _ rfl;have d4:=g 4 _ rfl;have d5:=g 5 _ rfl;have d6:=g 6 _ rfl;simp only [Nat.add_zero]at d0;have bP:b<wr.heap.size:=xz
   have l:=qnd body hx;obtain⟨W1,t⟩:=ex (wr.alloc (.cells #[.int .i64 x.kind,.string x.atom.pred,.slice ar x.atom.args.length au,.bool x.left.var,.string x.left.text,.bool x.right.var,.string x.right.text] 79));have s:wD wr W1:=by rw [←t];exact kAl
   have b4:=s.size;have ag:Keep (fun b=>b<N+1+1+1/\b≠N+1) W0 W1:=hK.trans s.mt;have m:=d.keep s trivial;have e0:=s.cell c0 trivial;have e1:=s.cell c1 trivial;have e2:=s.cell c2 trivial;have e3:=s.cell c3 trivial;clear g aN ai b1 b2;by_cases u:x.kind=1
   ·have aP:(x.kind==1)=true:=by simp [u]
    rw [zI u]at l;have ax:=ae.o k x hx (N+1) (qbh (body.take k)) W1.drew (m.keep (Keep.drew (fun _=>True) _) wE) ((kw.trans s.mt).trans kDr |>.mono fun b _ h=>by have:=ad.o;omega);have am:wr.alloc (.cells #[.int .i64 1,.string x.atom.pred,.slice ar x.atom.args.length au,.bool x.left.var,.string x.left.text,.bool x.right.var,.string x.right.text] 79)=W1:=by rw [←t,u]
    have b0:=qk4 (qbh (body.take k)) x.atom.args;have Y:(qa7 (qbh (body.take k)) x k).new=qbt (qbh (body.take k)) x.atom.args:=by unfold qa7;rw [zF xz]
    have p:=qxf (qbh (body.take k)) x k;rw [Y]at p;rw [←p]at l;rw [Y]at ax;clear Y;have bI:=m.lt;clear u;refine qho ?_ hK d kw t s ag m l ax hx am p;clear hK d kw t s ag m l ax hx am p;intro aC aE af U a8 z R al aH a6 a4 a5;go_wp2_with fail;rw [U.o]
    go_region_held3 (fun W=>W.cell? ⟨N,0,none⟩=some (.string pr)/\W.cell? ⟨N,1,none⟩=some (.slice aa args.length ca)/\W.cell? ⟨N,2,none⟩=some (.slice (some ⟨b,o,none⟩) body.length cb)/\W.cell? ⟨N+1+1,0,none⟩=some (.map (some (N+1))))
     (first |(refine⟨?_,?_,?_,?_⟩<;>assumption) |go_keep)
     (first
      |(go_at_call 211;refine aH.o.mono ?_;rintro e w1 ⟨vb,vn,rfl,ob,on,hq⟩;have q0:=hq.cell e0 (by simp;omega);have q1:=hq.cell e1 (by simp;omega);have q2:=hq.cell e2 (by simp;omega);have q3:=hq.cell e3 (by simp;omega);have zq:=hq.size;simp only [World.size_drew] at zq;clear e0 e1 e2 e3)
      |(go_at_call 212;have hl:=qqq w1.heap.size (N+1) (qbh (body.take k)) ⟨(k:Int),[],qbt (qbh (body.take k)) x.atom.args⟩ vb vn w1 ((R.o.keep (Keep.drew (fun _=>True) _) wE).keep hq (by simp;omega)) (qcc on (by simp only;omega)) (zG _);unfold qjv at hl;simp only at hl;refine hl.mono ?_;rintro e w2 ⟨rfl,aL,hp⟩;have p0:=hp.cell q0 (show N≠N+1 from xz);have p1:=hp.cell q1 (show N≠N+1 from xz);have p2:=hp.cell q2 (show N≠N+1 from xz);have p3:=hp.cell q3 (show N+1+1≠N+1 from xz)))
    have c:Keep (fun b=>b<N+1+1+1/\b≠N+1) W0 w2:=((z.o.trans kDr).trans (hq.mono fun b y h=>by simp;omega)).trans (hp.mono fun b y h=>h.2);have aM:SetIn w2 (N+1) (qbh (body.take (k+1))):=by rw [al.o];exact aL
    clear hq ob on hp aL;refine hd2 ?_ c aM;clear c aM;intro aD aF;go_wp2_with fail;go_roundw
    case rel=>exact⟨k+1,xz,by go_num,aD.o,aF.o⟩
    case measure=>simp [intOf];omega
   ·have aP:(x.kind==1)=false:=yZ.2 u;rw [zF u]at l;rw [←l]at m;refine hd9 ?_ hK d kw t s ag m l hx;clear hK d kw t s ag m l hx;intro aC aE af U a8 z R al a6;go_wp2_with fail;rw [U.o];go_roundw
    case rel=>exact⟨k+1,xz,by go_num,z.o,R.o⟩
    case measure=>simp [intOf];omega
  ·obtain rfl:k=body.length:=by omega
   rw [zi]at d;have ah:Keep (fun b=>b<w.heap.size) w wr:=kw.mono fun b _ h=>by have:=ad.o;omega
   have h1:=ap.o (N+1) (qbh body) wr d ah;have h2:=fun W (c:Keep (fun b=>b<wr.heap.size) wr W)=>aq.o (N+1+1) (N+1) (qbh body) W (d.keep c bk) (ah.trans (c.mono fun b y _=>y)) (c.cell c3 aJ);obtain⟨bh,av⟩: ∃b,args.any (qb8 (qbh body))=b:=⟨_,rfl⟩;obtain⟨bl,aw⟩: ∃b,body.all (qcj (qbh body))=b:=⟨_,rfl⟩;rw [av]at h1;simp only [aw]at h2;have aK:qds ⟨⟨pr,args⟩,body⟩=(!bh&&bl):=by rw [a3.o,av,aw]
   clear b1 b2 av aw;refine hd7 ?_ hK d kw h1 h2 aK ah;clear hK d kw h1 h2 aK ah;intro aC aE af aB aZ ak bv;cases bh
   ·go_wp2_with fail;refine aB.o.mono ?_;rintro e W2 ⟨rfl,k2⟩;have f2:=k2.cell c2 bn;have f3:=k2.cell c3 aJ;have b5:=k2.size;have bS:N<W2.heap.size:=by omega
    have h3:=aZ.o W2 k2;refine hd1 ?_ h3;clear h3;intro a0;go_wp2_with fail;refine a0.o.mono ?_;rintro e W3 ⟨rfl,k3⟩;go_wp2_with fail;go_ret;exact⟨by rw [ak.o];cases bl<;>rfl,(af.o.trans (k2.mono fun b y h=>xz)).trans (k3.mono fun b y h=>xz) |>.mono fun b _ h=>by have:=ad.o;omega⟩
   ·go_wp2_with fail;refine aB.o.mono ?_;rintro e W2 ⟨rfl,k2⟩;go_wp2_with fail;go_ret;exact⟨by rw [ak.o];rfl,(af.o.trans (k2.mono fun b y h=>xz)) |>.mono fun b _ h=>by have:=ad.o;omega⟩
def qhv (ls:List LitD):List ByteArray:=ls.foldl (fun K L=>if L.kind=1 then K++qir L.atom.args else K) []
theorem qnf (ls:List LitD){k:Nat}{L:LitD}(h:ls[k]?=some L):qhv (ls.take (k+1))=if L.kind=1 then qhv (ls.take k)++qir L.atom.args else qhv (ls.take k):=by
 unfold qhv;rw [zh,h,yk]
 rfl
theorem qk5 {K:List ByteArray}{ts:List TermD}{x:ByteArray}:x∈qbt K ts↔x∈qir ts/\x∉K:=by
 rw [←qzo];unfold qs2;simp only [yU,xI,yP]
theorem qzw (ls:List LitD)(x:ByteArray):x∈qhv ls↔x∈qbh ls:=by
 have h: ∀k,k<=ls.length->(x∈qhv (ls.take k)↔x∈qbh (ls.take k)):=by
  intro k
  induction k with
  |zero=>intro _;simp [qhv,qbh]
  |succ k b=>
   intro e;have b:=b xz;have c:=zB (show k<ls.length from xz);rw [qnf ls c,qnd ls c];split
   ·rw [zn,zn,qk5,b];constructor
    ·rintro(h |h)
     ·exact .inl h
     ·by_cases d:x∈qbh (ls.take k)
      ·exact .inl d
      ·exact .inr ⟨h,d⟩
    ·rintro(h |h)
     ·exact .inl h
     ·exact .inr h.1
   ·exact b
 have:=h ls.length (zG _)
 rwa [zi] at this
def qdq (r:RuleD)(l:List qaj)(arg:Bool):Int:=if !qak r ||!qbo l ||arg then 2 else if !qds r then 14 else 0
theorem qzx (n:Nat)(r:RuleD)(sh U:Value)(l:List qaj)(sv:Value)(w:World)(R:RuleIn n w sh U r)(hl:SizesIn n w sv l)(hn:n<=w.heap.size):Calls prog 207 #[qaz r sh U,sv] w fun e w'=>e=.returned (.int .i64 (qdq r l false))/\Keep (fun b=>b<w.heap.size) w w':=by
 have x:=fun W (hK:Keep (fun b=>b<w.heap.size) w W)=>qxb n r sh U W (R.keep (hK.mono fun b _ h=>xz)) (by have:=hK.size;omega);have h2:=fun W (hK:Keep (fun b=>b<w.heap.size) w W)=>qxc n l sv W (hl.keep (hK.mono fun b _ h=>xz)) (by have:=hK.size;omega);have y:=fun W (hK:Keep (fun b=>b<w.heap.size) w W)=>q2b n r sh U W (R.keep (hK.mono fun b _ h=>xz)) (by have:=hK.size;omega);have z:qdq r l false=if !qak r ||!qbo l ||false then 2 else if !qds r then 14 else 0:=rfl
 obtain⟨b1,m⟩: ∃b,qak r=b:=⟨_,rfl⟩;obtain⟨b2,p⟩: ∃b,qbo l=b:=⟨_,rfl⟩;obtain⟨b3,q⟩: ∃b,qds r=b:=⟨_,rfl⟩;simp only [m]at x;simp only [p]at h2;simp only [q]at y;rw [m,p,q]at z;obtain⟨aA,aE,rfl,-,-,-⟩:=id hl;obtain⟨⟨pr,args⟩,body⟩:=r;obtain⟨hh,k⟩:=id R;unfold qaz at x y⊢;simp only at hh k x y z⊢;obtain⟨aa,ca,rfl,-,-,-⟩:=id hh;obtain⟨ab,cb,rfl,-,-,-⟩:=id k;obtain⟨W0,f⟩:=ex (w.alloc (.cells #[.string pr,.slice aa args.length ca,.slice ab body.length cb] 27));have k0:Keep (fun b=>b<w.heap.size) w W0:=by rw [←f];exact kAl
 have hz:=k0.size;have v:W0.heap[w.heap.size]?=some (.cells #[.string pr,.slice aa args.length ca,.slice ab body.length cb] 27 (0,0)):=by rw [←f];exact qh _ _
 have l0:=qe v;have c0:=qb v 0 _ rfl;have c1:=qb v 1 _ rfl;have c2:=qb v 2 _ rfl;simp only [zD]at c0 c1 c2;clear m p q hh k R hl v;refine hd6 ?_ x h2 y z f k0;clear x h2 y z f k0;intro t X Y j i d;cases b1
 ·go_enter Tryz.func207,Tryz.ntmps207
  go_wp2_with fail;rw [i.o];refine(t.o _ d.o).mono ?_;rintro e W1 ⟨rfl,g⟩;go_wp2_with fail;go_ret;exact⟨by rw [j.o];rfl,d.o.trans (g.mono fun b k _=>xz)⟩
 ·cases b2
  all_goals go_enter Tryz.func207,Tryz.ntmps207
  all_goals go_wp2_with fail
  all_goals rw [i.o]
  all_goals refine(t.o _ d.o).mono ?_
  all_goals (rintro e W1 ⟨rfl,g⟩;have e0:=g.cell c0 l0;have e1:=g.cell c1 l0;have e2:=g.cell c2 l0;have z1:=g.size;have kk:Keep (fun b=>b<w.heap.size) w W1:=d.o.trans (g.mono fun b k _=>xz);have l1:w.heap.size<W1.heap.size:=xz;clear c0 c1 c2)
  all_goals (have u:=zg kk;have ay:=zg g;clear kk g)
  all_goals go_wp2_with fail
  all_goals refine(X.o _ u.o).mono ?_
  all_goals (rintro e W2 ⟨rfl,s⟩;have f0:=s.cell e0 l1;have f1:=s.cell e1 l1;have f2:=s.cell e2 l1;have z2:=s.size;have kk2:Keep (fun b=>b<w.heap.size) w W2:=u.o.trans (s.mono fun b k _=>xz);have l2:w.heap.size<W2.heap.size:=xz;clear e0 e1 e2)
  all_goals (have c:=zg kk2;have az:=zg s;clear kk2 s)
  ·go_wp2_with fail;go_ret;exact⟨by rw [j.o];rfl,c.o⟩
  ·cases b3
   all_goals go_wp2_with fail
   all_goals refine(Y.o _ c.o).mono ?_
   all_goals (rintro e W3 ⟨rfl,k3⟩)
   all_goals go_wp2_with fail
   all_goals go_ret
   all_goals exact⟨by rw [j.o];rfl,c.o.trans (k3.mono fun b k _=>xz)⟩
theorem qhh (w:World)(e:TypeId)(sz:Nat):(w.alloc (.cells #[] e)).ownsRow w.heap.size e sz (.slice (some ⟨w.heap.size,0,none⟩) 0 0) 0 []:=
 ⟨wB,.inr ⟨w.heap.size,0,#[],rfl,zG _,qh w _,zG _,by simp [maxLen],wB,wB⟩⟩
theorem qpt {T e:TypeId}{sz d:Nat}(h:qb2 prog T e sz d)(w:World)(a:Option Addr)(l c:Nat):(binOp .eql T (.slice a l c) (.slice none 0 0)).run prog w=.ok (.bool a.isNone) w:=by
 show((Op.equal T (.slice a l c) (.slice none 0 0))>>=fun b=>pure (Value.bool b)).run prog w=_;simp [run_equal_slice_nil w T e a l c h.1]
theorem qgb:qb2 prog 22 77 2 24:=qcl (z:=.agg #[.bool false,.string ⟨#[]⟩]) wA wA rfl wC wC
theorem qix:qb2 prog 25 79 7 96:=qcl (z:=.agg #[.int .i64 0,.string ⟨#[]⟩,.slice none 0 0,.bool false,.string ⟨#[]⟩,.bool false,.string ⟨#[]⟩]) wA wA rfl wC wC
theorem q2c:qb2 prog 245 251 3 56:=qcl (z:=.agg #[.int .i64 0,.slice none 0 0,.slice none 0 0]) wA wA rfl wC wC
theorem qgp (a:Option Addr)(m c:Nat)(d:List Value)(w:World)(s:d.length=m*2)(X: ∀b,a=some b-> ∀j u,d[j]?=some u->w.cell? (b.add j)=some u)(R:a=none->m=0)(g: ∀u∈d,u.oneCell'=true)(hm:m<=1073741824):
  Calls prog 113 #[.slice a m c] w fun e w'=> ∃v',e=.returned v'/\w'.ownsRow w.heap.size 77 2 v' m d/\wD w w':=by
 have hq:=fun w a l c=>qpt qgb w a l c;cases a with
 |none=>
  have z:=R rfl;subst z;have q:d= []:=yn (by simpa using s);subst q;clear s X R g hm
  go_enter Tryz.func113,Tryz.ntmps113
  go_wp2_with fail;go_ret;exact⟨_,rfl,zj _ _ _ _,Keep.refl _ _⟩
 |some b=>
  obtain⟨W0,f⟩:=ex (w.alloc (.cells #[] 77));have r:wD w W0:=by rw [←f];exact kAl
  have Y:=qhh w 77 2;rw [f]at Y;obtain⟨v',W1,U,ho,hg,hk⟩:=qi0 (P:=prog) qgb 22 Y (some b) m c d s (fun b' y j u hj=>r.cell (X b' y j u hj) wE) (fun h=>by cases h) g xz r.size;rw [nil_append,zD]at ho;have k:Keep (fun b=>b<w.heap.size) w W1:=r.mt.trans (hk.mono fun b _ h e=>by
   rcases hg b e with g |g
   ·simp [Value.ownBlock]at g;omega
   ·have:=r.size;omega)
  have p:wD w W1:=k.mono fun b y _=>y;rw [←f]at U;obtain⟨a',c',rfl⟩:=qi ho;clear s X R g hg hk k r Y f;refine hd3 ?_ U ho p;clear U ho p;intro x t i
  go_enter Tryz.func113,Tryz.ntmps113
  go_wp2_with (at_builtin;refine qcd (v:=.slice (some ⟨w.heap.size,0,none⟩) 0 0) (u:=.slice (some b) m c) (v':=.slice a' m c') (w':=W1) rfl (.tmp 5) (.tmp 6) 22 rfl rfl rfl x.o ?_);go_ret;exact⟨_,rfl,t.o,i.o⟩
theorem qlh (a:Option Addr)(m c:Nat)(d:List Value)(w:World)(s:d.length=m*7)(X: ∀b,a=some b-> ∀j u,d[j]?=some u->w.cell? (b.add j)=some u)(R:a=none->m=0)(g: ∀u∈d,u.oneCell'=true)(hm:m<=1073741824):
  Calls prog 114 #[.slice a m c] w fun e w'=> ∃v',e=.returned v'/\w'.ownsRow w.heap.size 79 7 v' m d/\wD w w':=by
 have hq:=fun w a l c=>qpt qix w a l c;cases a with
 |none=>
  have z:=R rfl;subst z;have q:d= []:=yn (by simpa using s);subst q;clear s X R g hm
  go_enter Tryz.func114,Tryz.ntmps114
  go_wp2_with fail;go_ret;exact⟨_,rfl,zj _ _ _ _,Keep.refl _ _⟩
 |some b=>
  obtain⟨W0,f⟩:=ex (w.alloc (.cells #[] 79));have r:wD w W0:=by rw [←f];exact kAl
  have Y:=qhh w 79 7;rw [f]at Y;obtain⟨v',W1,U,ho,hg,hk⟩:=qi0 (P:=prog) qix 25 Y (some b) m c d s (fun b' y j u hj=>r.cell (X b' y j u hj) wE) (fun h=>by cases h) g xz r.size;rw [nil_append,zD]at ho;have k:Keep (fun b=>b<w.heap.size) w W1:=r.mt.trans (hk.mono fun b _ h e=>by
   rcases hg b e with g |g
   ·simp [Value.ownBlock]at g;omega
   ·have:=r.size;omega)
  have p:wD w W1:=k.mono fun b y _=>y;rw [←f]at U;obtain⟨a',c',rfl⟩:=qi ho;clear s X R g hg hk k r Y f;refine hd3 ?_ U ho p;clear U ho p;intro x t i
  go_enter Tryz.func114,Tryz.ntmps114
  go_wp2_with (at_builtin;refine qcd (v:=.slice (some ⟨w.heap.size,0,none⟩) 0 0) (u:=.slice (some b) m c) (v':=.slice a' m c') (w':=W1) rfl (.tmp 5) (.tmp 6) 25 rfl rfl rfl x.o ?_);go_ret;exact⟨_,rfl,t.o,i.o⟩
end Go.Proofs.P16
namespace Go.Proofs.P16
open Go.RowKit Go.Ink
def qv (ts:List TermD):List Value:=ts.flatMap fun t=> [.bool t.var,.string t.text]
theorem qdv (ts:List TermD):(qv ts).length=ts.length*2:=qa1 _ 2 (fun _=>rfl) ts
theorem qg3 (ts:List TermD): ∀u∈qv ts,u.oneCell'=true:=qi2 _ (fun x u b=>by
 simp only [zt,yR,yf]at b;rcases b with rfl |rfl<;>rfl) ts
theorem qe6 {w:World}{base n:Nat}{e:TypeId}{v:Value}{ts:List TermD}(h:w.ownsRow base e 2 v n (qv ts))(i:n=ts.length)(f:ts.length<=1073741824):qad w.heap.size w v ts:=
 qed h ts i f TermE fun b k t l c=>by
  have d: ∀j,j<2->(qv ts)[k*2+j]?=([Value.bool t.var,.string t.text]:List Value)[j]?:=fun j g=>qas _ 2 (fun _=>rfl) _ k j t l g;exact⟨by have:=c 0 xz;rw [d 0 xz] at this;exact this,by have:=c 1 xz;rw [d 1 xz] at this;exact this⟩
theorem qdr {n:Nat}{w:World}{a:Option Addr}{c:Nat}{ts:List TermD}(h:qad n w (.slice a ts.length c) ts):(∀b,a=some b-> ∀j u,(qv ts)[j]?=some u->w.cell? (b.add j)=some u)/\(a=none->ts.length=0):=
 qfo (fun t:TermD=> [Value.bool t.var,Value.string t.text]) (fun _=>rfl) xz (fun b o x e j u d=>by
  match j,d with
  |0,d=>simp at d;subst d;exact e.1
  |1,d=>simp at d;subst d;exact e.2) h rfl
theorem qiy {w:World}{base:Nat}{e:TypeId}{sz n cap g:Nat}{xs:List Value}(h:w.ownsRow base e sz (.slice (some ⟨g,0,none⟩) n cap) n xs)(j:Nat)(u:Value)(b:j<xs.length):(w.setCell ⟨g,j,none⟩ u).ownsRow base e sz (.slice (some ⟨g,0,none⟩) n cap) n (xs.set j u):=by
 refine⟨by rw [xp];exact h.1,?_⟩;rcases h.2 with ⟨h1,_⟩ |⟨g',cap',cur,h1,hb,hg,hnc,hcm,hcs,ht⟩
 ·cases h1
 ·cases h1;refine .inr ⟨g,cap,cur.setIfInBounds j u,rfl,hb,qz j u hg,hnc,hcm,by rw [Array.size_setIfInBounds];exact hcs,?_⟩;rw [←ht,Array.toList_setIfInBounds,take_set]
abbrev qbn (p:LitD×Value):List Value:=qu p.1 p.2
theorem qvu (b rest:List (LitD×Value))(p:LitD×Value)(v:Value):((b++p::rest).flatMap qbn).set (b.length*7+2) v=(b++(p.1,v)::rest).flatMap qbn:=by
 rw [yF,yF,set_append_right _ _ (by rw [qa1 qbn 7 (fun _=>rfl)];omega),qa1 qbn 7 (fun _=>rfl)]
 congr 1
 rw [show b.length*7+2-b.length*7=2 from xz]
 rfl
def BodyOwn (base:Nat)(tl tt:TypeId)(w:World)(v:Value)(ls:List LitD):Prop:=
 ∃ps:List (LitD×Value),ps.map (·.1)=ls/\w.ownsRow base tl 7 v ls.length (ps.flatMap qbn)/\ ∀p,p∈ps->w.ownsRow base tt 2 p.2 p.1.atom.args.length (qv p.1.atom.args)
def RuleOwn (base:Nat)(tl tt:TypeId)(w:World)(vh vb:Value)(r:RuleD):Prop:=
 w.ownsRow base tt 2 vh r.head.args.length (qv r.head.args)/\BodyOwn base tl tt w vb r.body
def qo1 (r:RuleD):Prop:=r.head.args.length<=1073741824/\r.body.length<=1073741824/\ ∀L,L∈r.body->L.atom.args.length<=1073741824
theorem qjf {n:Nat}{w:World}{sh i:Value}{r:RuleD}(h:RuleIn n w sh i r):qo1 r:=by
 obtain⟨⟨_,_,_,b,_⟩,⟨a,c,l,d,j,e⟩⟩:=h;refine⟨b,d,fun L f=>?_⟩;obtain⟨k,g⟩:=zw.1 f;obtain⟨_,_,_,_,_,_,⟨_,_,_,h,_⟩⟩:=e k L g;exact h
theorem RuleOwn.rule {base:Nat}{j tt:TypeId}{w:World}{vh vb:Value}{r:RuleD}(h:RuleOwn base j tt w vh vb r)(e:qo1 r):RuleIn w.heap.size w vh vb r:=by
 obtain⟨f,ps,b,g,i⟩:=h;refine⟨qe6 f rfl e.1,?_⟩;have c: ∀p,p∈ps->p.1∈r.body:=fun p d=>by rw [←b];exact yK.2 ⟨p,d,rfl⟩
 have:=qr0 (n0:=w.heap.size) g (by have:=yM List.length b;rw [zL] at this;rw [this];exact e.2.1) (zG _) (fun p d=>qe6 (i p d) rfl (e.2.2 _ (c p d)))
 rwa [b] at this
theorem BodyOwn.keep {base:Nat}{j tt:TypeId}{w w':World}{v:Value}{ls:List LitD}{C:Nat->Prop}(h:BodyOwn base j tt w v ls)(hK:Keep C w w')(g: ∀b,base<=b->b<w.heap.size->C b):BodyOwn base j tt w' v ls:=by
 obtain⟨ps,d,e,f⟩:=h;exact⟨ps,d,qf e hK (fun b c=>by have:=zE e b c;exact g b this.1 this.2),fun p i=>qf (f p i) hK (fun b c=>by have:=zE (f p i) b c;exact g b this.1 this.2)⟩
theorem RuleOwn.keep {base:Nat}{d tt:TypeId}{w w':World}{vh vb:Value}{r:RuleD}{C:Nat->Prop}(h:RuleOwn base d tt w vh vb r)(hK:Keep C w w')(c: ∀b,base<=b->b<w.heap.size->C b):RuleOwn base d tt w' vh vb r:=
 ⟨qf h.1 hK (fun b e=>by have:=zE h.1 b e;exact c b this.1 this.2),h.2.keep hK c⟩
theorem BodyOwn.mono {base b:Nat}{e tt:TypeId}{w:World}{v:Value}{ls:List LitD}(h:BodyOwn base e tt w v ls)(d:b<=base):BodyOwn b e tt w v ls:=by
 obtain⟨ps,c,f,g⟩:=h;exact⟨ps,c,f.mono d,fun p i=>(g p i).mono d⟩
theorem RuleOwn.mono {base b:Nat}{d tt:TypeId}{w:World}{vh vb:Value}{r:RuleD}(h:RuleOwn base d tt w vh vb r)(c:b<=base):RuleOwn b d tt w vh vb r:=⟨h.1.mono c,h.2.mono c⟩
theorem qo2 {n:Nat}{w:World}{a:Option Addr}{c:Nat}{ls:List LitD}(h:qfj n w (.slice a ls.length c) ls): ∃ps:List (LitD×Value),ps.map (·.1)=ls/\(∀p,p∈ps->qad n w p.2 p.1.atom.args)/\(∀b,a=some b-> ∀j u,(ps.flatMap qbn)[j]?=some u->w.cell? (b.add j)=some u)/\(a=none->ls.length=0):=by
 obtain⟨a',c',X,hl,hc,y⟩:=h;cases X;have r: ∀k,k<=ls.length-> ∃ps:List (LitD×Value),ps.map (·.1)=ls.take k/\ ∀j p,ps[j]?=some p->qad n w p.2 p.1.atom.args/\ ∃b off,a=some ⟨b,off,none⟩/\CellsE w b (off+j*7) (qbn p):=by
  intro k
  induction k with
  |zero=>intro _;exact⟨[],rfl,fun j p h=>by simp at h⟩
  |succ k ih=>
   intro t;obtain⟨ps,e,d⟩:=ih xz;obtain⟨b,off,m,l,Y,g,v⟩:=y k _ (zB (show k<ls.length from xz));have q:ps.length=k:=by have:=yM List.length e;rw [zL,yB] at this;omega
   refine⟨ps++ [(ls[k]' xz,Y)],by rw [zm,e,zh,zB (show k<ls.length from xz)];rfl,fun j p f=>?_⟩;rcases yX j ps.length with i |hge
   ·rw [yQ i]at f;exact d j p f
   ·rw [yG hge]at f;have s:j-ps.length=0:=by
     have:=(zA.1 f).1;simp at this;omega
    rw [s]at f;simp at f;subst f;have:j=k:=xz
    subst this;exact⟨v,b,off,m,g⟩
 obtain⟨ps,e,d⟩:=r ls.length (zG _);rw [zi]at e;have q:ps.length=ls.length:=by have:=yM List.length e;rwa [zL] at this
 refine⟨ps,e,fun p U=>?_,fun b l j u f=>?_,fun m=>?_⟩
 ·obtain⟨j,f⟩:=zw.1 U;exact(d j p f).1
 ·have i:=(zA.1 f).1;rw [qa1 qbn 7 (fun _=>rfl)]at i;have z:j/7<ps.length:=by omega
  obtain⟨x,off,m,g⟩:=(d (j/7) _ (zB z)).2;rw [m]at l;cases l;have t:=qas qbn 7 (fun _=>rfl) ps (j/7) (j%7) _ (zB z) xz;rw [show j/7*7+j%7=j from xz,f]at t;have:=g (j%7) u t.symm;rw [show((⟨x,off,none⟩:Addr).add j)=⟨x,off+j,none⟩ from by unfold Addr.add;split<;>simp_all]
  rwa [xF,show j/7*7+j%7=j from xz] at this
 ·by_cases R:ls.length=0
  ·exact R
  ·obtain⟨b,off,l,_⟩:=y 0 ls[0] (zB xz);rw [m]at l;cases l
theorem qs6 {n:Nat}{w:World}{ps:List (LitD×Value)}(h: ∀p,p∈ps->qad n w p.2 p.1.atom.args): ∀u∈ps.flatMap qbn,u.oneCell'=true:=by
 intro u e;obtain⟨p,d,b⟩:=xC.1 e;obtain⟨a,c,f,_⟩:=h p d;unfold qbn qu at b;rw [f]at b;simp only [zt,yR,yf]at b;rcases b with rfl |rfl |rfl |rfl |rfl |rfl |rfl<;>rfl
end Go.Proofs.P16
