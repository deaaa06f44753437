/- Parts of the proof. -/
import Derived.Test.YtnponcjnahicnaaGreatPnKToFlt
import Derived.Deep.RegionHeld3
set_option linter.unusedSimpArgs false
set_option linter.unusedVariables false
set_option maxRecDepth 100000
set_option maxHeartbeats 2000000
open Go.Proofs.Tryz(prog)
open List(getElem_cons_succ getElem_cons_zero getElem_toArray nil_append set_append_right set_cons_succ set_cons_zero take_set)
namespace Go.Proofs.P16
open Go.RowKit Go.Ink
attribute [local go_sem] Oper.semAt_some
def qby (ls:List LitD):List ByteArray:=ls.foldl (fun K L=>if L.kind=1 then K++qcf K L.atom.args else K) []
theorem qo0 (ls:List LitD){k:Nat}{L:LitD}(h:ls[k]?=some L):qby (ls.take (k+1))=if L.kind=1 then qby (ls.take k)++qcf (qby (ls.take k)) L.atom.args else qby (ls.take k):=by
 unfold qby;rw [zh,h,yn]
 rfl
def qej (r:RuleD):Bool:=!r.head.args.any (qcu (qby r.body))&&r.body.all (qc7 (qby r.body))
theorem qo1 (w:World):(Instr.makeMap 237 none).run prog w=.ok (.map (some w.heap.size)) (w.alloc (.map #[] 0)):=by
 simp [Instr.makeMap,yt,yo Tryz.underlying237,Result.andThen,run_newObj_alloc]
theorem qu7 (n M B:Nat)(K:List ByteArray)(L:LitD)(sa:Value)(w:World)(g:SetIn w M K)(r:w.cell? ⟨B,0,none⟩=some (.map (some M)))(d:qai n w sa L.atom.args)(x:n<=w.heap.size):Calls prog 190 #[qew L sa,.pointer (some ⟨B,0,none⟩)] w fun e w'=>e=.returned (.bool (!qc7 K L))/\Keep (fun b=>b<w.heap.size) w w':=by
 have h:=fun W (hK:wG w W)=>qsp n M K L sa W (g.keep hK wH) (qak d hK.mt) (by have:=hK.size;omega);obtain⟨U,y,rfl,-,-,-⟩:=id d;obtain⟨k,⟨pr,args⟩,⟨s,lt⟩,⟨u,t⟩⟩:=L;unfold qew at h⊢;simp only at h⊢;obtain⟨R,c⟩: ∃b,qc7 K ⟨k,⟨pr,args⟩,⟨s,lt⟩,⟨u,t⟩⟩=b:=⟨_,rfl⟩;simp only [c]at h;rw [c];have m:=zQ w _ r;simp only at m;clear d g;refine hd2 ?_ h c;clear h c;intro q l
 go_enter Tryz.func190,Tryz.ntmps190
 go_wp2_with fail;refine(q.o _ kAl).mono ?_;rintro e v ⟨rfl,p⟩;go_wp2_with fail;go_ret;exact⟨rfl,kAl.trans (p.mono fun b z _=>by simp;omega)⟩
theorem q5n (n:Nat)(r:RuleD)(sh sb:Value)(w:World)(hr:RuleIn n w sh sb r)(hn:n<=w.heap.size):Calls prog 170 #[qam r sh sb] w fun e w'=>e=.returned (.bool (qej r))/\Keep (fun b=>b<w.heap.size) w w':=by
 have l:=fun i L (hL:r.body[i]?=some L) M K W (d:SetIn W M K) (hK:Keep (fun b=>b<w.heap.size) w W)=>qpp n M K r sh sb i L hL W d (hr.keep (hK.mono fun b _ h=>wC)) (by have:=hK.size;omega);have hE:qej r=(!r.head.args.any (qcu (qby r.body))&&r.body.all (qc7 (qby r.body))):=rfl;obtain⟨hh,z⟩:=id hr;have U:=fun M K W (d:SetIn W M K) (hK:Keep (fun b=>b<w.heap.size) w W)=>qih (gf:=172) (bs:= #[.map (some M)]) (lb:= #[]) (qdg Tryz.func172 wD rfl) (qcu K) n sh r.head.args W (qak hh (hK.mono fun b _ h=>wC)) (by have:=hK.size;omega)
  (fun x _ W2 c=>(qpo M K x W2 (d.keep c (show M<W.heap.size from d.lt))).mono fun e w' ⟨e1,q⟩=>⟨e1,q.mt⟩)
 have t:=fun B M K W (d:SetIn W M K) (hK:Keep (fun b=>b<w.heap.size) w W) (hB:W.cell? ⟨B,0,none⟩=some (.map (some M)))=>qk7 (gf:=190) (bs:= #[]) (lb:= #[.pointer (some ⟨B,0,none⟩)]) (qdg Tryz.func190 wD rfl) (fun L=>!qc7 K L) n sb r.body W (qi7 z (hK.mono fun b _ h=>wC)) (by have:=hK.size;omega)
  (fun x _ W2 c sa af=>qu7 n M B K x sa W2 (d.keep c (show M<W.heap.size from d.lt)) (c.cell hB (zQ W _ hB)) af (by have:=hK.size;have:=c.size;omega))
 simp only [qlh]at t;obtain⟨⟨pr,args⟩,body⟩:=r;unfold qam at l⊢;simp only at l hE hh z U t⊢;obtain⟨aa,ca,rfl,-,-,-⟩:=id hh;obtain⟨ab,cb,rfl,b8,ch,aD⟩:=id z;have a6:=fun w=>qo1 w;clear hh z hr;refine hd5 ?_ l hE U t aD;clear l hE U t aD;intro ah a7 aA ar aE
 go_enter Tryz.func170,Tryz.ntmps170
 go_wp2_with fail;refine qk9 (fun W=>Keep (fun b=>b<w.heap.size) w W/\W.heap.size=w.heap.size+1+1+1/\W.heap[w.heap.size]?=some (.cells #[.string pr,.slice aa args.length ca,.slice ab body.length cb] 27 (0,0))/\
  SetIn W (w.heap.size+1) []/\W.heap[w.heap.size+1+1]?=some (.cells #[.map (some (w.heap.size+1))] 237 (0,0))) ⟨(kAl.trans kAl).trans kAl,wE,by simp only [qao,zO];simp;omega,by
   refine(SetIn.keep (w:=(w.alloc (.cells #[.string pr,.slice aa args.length ca,.slice ab body.length cb] 27)).alloc (.map #[] 0)) ?_ (Keep.alloc (fun _=>True) _ _) wH);have:=qm9 (w.alloc (.cells #[.string pr,.slice aa args.length ca,.slice ab body.length cb] 27))
   simpa using this,by simp only [qao,zO];simp⟩ ?_
 rintro W0 ⟨k0,z0,a1,s0,a2⟩;clear a6;obtain⟨N,hN⟩:=ex (w.heap.size);rw [hN]at k0 z0 a1 s0 a2⊢;have bS:n<=N:=wC
 refine hd5 ?_ k0 a1 s0 a2 hN;clear k0 a1 s0 a2 hN;intro bk bc bo bp ag
 go_loopw [10] (fun i' wr=> ∃k:Nat,k<=body.length/\i'=.int .i64 (k:Int)/\Keep (fun b=>b<N+1+1+1/\b≠N+1) W0 wr/\SetIn wr (N+1) (qby (body.take k))) (fun i _=>body.length-(intOf i).toNat)
 case atStart=>exact⟨0,wC,rfl,Keep.refl _ _,bo.o⟩
 case round=>
  obtain⟨k,hk,rfl,hK,d⟩:=hrel;have cd:=hK.size;have b1:=hK.heap bc.o (show N<N+1+1+1/\N≠N+1 from wC);have b2:=hK.heap bp.o (show N+1+1<N+1+1+1/\N+1+1≠N+1 from wC);have c0:=qb b1 0 _ rfl;have c1:=qb b1 1 _ rfl;have c2:=qb b1 2 _ rfl;have c3:=qb b2 0 _ rfl;simp only [zD]at c0 c1 c2 c3;have a5:=d.lt;have a8:N<wr.heap.size:=wC
  have aN:N+1+1<wr.heap.size:=wC
  have kw:Keep (fun b=>b<N) w wr:=bk.o.trans (hK.mono fun b _ h=>⟨wC,wC⟩);by_cases bg:k<body.length
  ·have bK:(k:Int)<body.length:=by omega
   have bP:(0:Int)<=k:=wC
   obtain⟨x,hx⟩: ∃x,body[k]?=some x:=⟨_,zB bg⟩;obtain⟨b,o,rfl,z,sa,aG,af⟩:=aE.o k x hx;obtain⟨aq,ax,rfl,bV,-,-⟩:=id af;have g: ∀j v,(qal x (.slice aq x.atom.args.length ax))[j]?=some v->wr.cell? ⟨b,o+k*7+j,none⟩=some v:=fun j v h=>kw.cell (aG j v h) (show b<N from wC);have d0:=g 0 _ rfl;have d1:=g 1 _ rfl;have d2:=g 2 _ rfl;have d3:=g 3 _ rfl;have d4:=g 4 _ rfl;have d5:=g 5 _ rfl;have d6:=g 6 _ rfl;simp only [Nat.add_zero]at d0;have bR:b<wr.heap.size:=wC
   have m:=qo0 body hx;obtain⟨W1,u⟩:=ex (wr.alloc (.cells #[.int .i64 x.kind,.string x.atom.pred,.slice aq x.atom.args.length ax,.bool x.left.var,.string x.left.text,.bool x.right.var,.string x.right.text] 64));have q:wG wr W1:=by rw [←u];exact kAl
   have b9:=q.size;have aj:Keep (fun b=>b<N+1+1+1/\b≠N+1) W0 W1:=hK.trans q.mt;have p:=d.keep q trivial;have e0:=q.cell c0 trivial;have e1:=q.cell c1 trivial;have e2:=q.cell c2 trivial;have e3:=q.cell c3 trivial;clear g aG af b1 b2;by_cases y:x.kind=1
   ·have aO:(x.kind==1)=true:=by simp [y]
    rw [zI y]at m;have aw:=ah.o k x hx (N+1) (qby (body.take k)) W1.drew (p.keep (Keep.drew (fun _=>True) _) wH) ((kw.trans q.mt).trans kDr |>.mono fun b _ h=>by have:=ag.o;omega);have an:wr.alloc (.cells #[.int .i64 1,.string x.atom.pred,.slice aq x.atom.args.length ax,.bool x.left.var,.string x.left.text,.bool x.right.var,.string x.right.text] 64)=W1:=by rw [←u,y]
    have cf:=ql9 (qby (body.take k)) x.atom.args;have Y:(qbo (qby (body.take k)) x k).new=qcf (qby (body.take k)) x.atom.args:=by unfold qbo;rw [zF wC]
    have s:=qz2 (qby (body.take k)) x k;rw [Y]at s;rw [←s]at m;rw [Y]at aw;clear Y;have bF:=p.lt;clear y;refine qhv ?_ hK d kw u q aj p m aw hx an s;clear hK d kw u q aj p m aw hx an s;intro aQ aI ae ad aZ R X ao aH bu bv bj;go_wp2_with fail;rw [ad.o]
    go_region_held3 (fun W=>W.cell? ⟨N,0,none⟩=some (.string pr)/\W.cell? ⟨N,1,none⟩=some (.slice aa args.length ca)/\W.cell? ⟨N,2,none⟩=some (.slice (some ⟨b,o,none⟩) body.length cb)/\W.cell? ⟨N+1+1,0,none⟩=some (.map (some (N+1))))
     (first |(refine⟨?_,?_,?_,?_⟩<;>assumption) |go_keep)
     (first
      |(go_at_call 149;refine aH.o.mono ?_;rintro e w1 ⟨vb,vn,rfl,ob,on,hq⟩;have q0:=hq.cell e0 (by simp;omega);have q1:=hq.cell e1 (by simp;omega);have q2:=hq.cell e2 (by simp;omega);have q3:=hq.cell e3 (by simp;omega);have zq:=hq.size;simp only [World.size_drew] at zq;clear e0 e1 e2 e3)
      |(go_at_call 150;have hl:=qsr w1.heap.size (N+1) (qby (body.take k)) ⟨(k:Int),[],qcf (qby (body.take k)) x.atom.args⟩ vb vn w1 ((X.o.keep (Keep.drew (fun _=>True) _) wH).keep hq (by simp;omega)) (qbq on (by simp only;omega)) (zG _);unfold qks at hl;simp only at hl;refine hl.mono ?_;rintro e w2 ⟨rfl,aL,hp⟩;have p0:=hp.cell q0 (show N≠N+1 from wC);have p1:=hp.cell q1 (show N≠N+1 from wC);have p2:=hp.cell q2 (show N≠N+1 from wC);have p3:=hp.cell q3 (show N+1+1≠N+1 from wC)))
    have c:Keep (fun b=>b<N+1+1+1/\b≠N+1) W0 w2:=((R.o.trans kDr).trans (hq.mono fun b z h=>by simp;omega)).trans (hp.mono fun b z h=>h.2);have aM:SetIn w2 (N+1) (qby (body.take (k+1))):=by rw [ao.o];exact aL
    clear hq ob on hp aL;refine hd2 ?_ c aM;clear c aM;intro aF aK;go_wp2_with fail;go_roundw
    case rel=>exact⟨k+1,wC,by go_num,aF.o,aK.o⟩
    case measure=>simp [intOf];omega
   ·have aO:(x.kind==1)=false:=y9.2 y;rw [zF y]at m;rw [←m]at p;refine hd9 ?_ hK d kw u q aj p m hx;clear hK d kw u q aj p m hx;intro aQ aI ae ad aZ R X ao bu;go_wp2_with fail;rw [ad.o];go_roundw
    case rel=>exact⟨k+1,wC,by go_num,R.o,X.o⟩
    case measure=>simp [intOf];omega
  ·obtain rfl:k=body.length:=by omega
   rw [zi]at d;have ai:Keep (fun b=>b<w.heap.size) w wr:=kw.mono fun b _ h=>by have:=ag.o;omega
   have h1:=aA.o (N+1) (qby body) wr d ai;have h2:=fun W (c:Keep (fun b=>b<wr.heap.size) wr W)=>ar.o (N+1+1) (N+1) (qby body) W (d.keep c a5) (ai.trans (c.mono fun b z _=>z)) (c.cell c3 aN);obtain⟨bh,az⟩: ∃b,args.any (qcu (qby body))=b:=⟨_,rfl⟩;obtain⟨bl,ap⟩: ∃b,body.all (qc7 (qby body))=b:=⟨_,rfl⟩;rw [az]at h1;simp only [ap]at h2;have aC:qej ⟨⟨pr,args⟩,body⟩=(!bh&&bl):=by rw [a7.o,az,ap]
   clear b1 b2 az ap;refine hd7 ?_ hK d kw h1 h2 aC ai;clear hK d kw h1 h2 aC ai;intro aQ aI ae aJ a3 am bG;cases bh
   ·go_wp2_with fail;refine aJ.o.mono ?_;rintro e W2 ⟨rfl,k2⟩;have f2:=k2.cell c2 a8;have f3:=k2.cell c3 aN;have bO:=k2.size;have bN:N<W2.heap.size:=by omega
    have h3:=a3.o W2 k2;refine hd1 ?_ h3;clear h3;intro bf;go_wp2_with fail;refine bf.o.mono ?_;rintro e W3 ⟨rfl,k3⟩;go_wp2_with fail;go_ret;exact⟨by rw [am.o];cases bl<;>rfl,(ae.o.trans (k2.mono fun b z h=>wC)).trans (k3.mono fun b z h=>wC) |>.mono fun b _ h=>by have:=ag.o;omega⟩
   ·go_wp2_with fail;refine aJ.o.mono ?_;rintro e W2 ⟨rfl,k2⟩;go_wp2_with fail;go_ret;exact⟨by rw [am.o];rfl,(ae.o.trans (k2.mono fun b z h=>wC)) |>.mono fun b _ h=>by have:=ag.o;omega⟩
def qij (ls:List LitD):List ByteArray:=ls.foldl (fun K L=>if L.kind=1 then K++qjq L.atom.args else K) []
theorem qo2 (ls:List LitD){k:Nat}{L:LitD}(h:ls[k]?=some L):qij (ls.take (k+1))=if L.kind=1 then qij (ls.take k)++qjq L.atom.args else qij (ls.take k):=by
 unfold qij;rw [zh,h,yn]
 rfl
theorem qma {K:List ByteArray}{ts:List TermD}{x:ByteArray}:x∈qcf K ts↔x∈qjq ts/\x∉K:=by
 rw [←q2p];unfold qu4;simp only [yX,xL,yR]
theorem q2x (ls:List LitD)(x:ByteArray):x∈qij ls↔x∈qby ls:=by
 have h: ∀k,k<=ls.length->(x∈qij (ls.take k)↔x∈qby (ls.take k)):=by
  intro k
  induction k with
  |zero=>intro _;simp [qij,qby]
  |succ k b=>
   intro e;have b:=b wC;have d:=zB (show k<ls.length from wC);rw [qo2 ls d,qo0 ls d];split
   ·rw [zr,zr,qma,b];constructor
    ·rintro(h |h)
     ·exact .inl h
     ·by_cases c:x∈qby (ls.take k)
      ·exact .inl c
      ·exact .inr ⟨h,c⟩
    ·rintro(h |h)
     ·exact .inl h
     ·exact .inr h.1
   ·exact b
 have:=h ls.length (zG _)
 rwa [zi] at this
def qeh (r:RuleD)(l:List qap)(arg:Bool):Int:=if !qaq r ||!qb6 l ||arg then 2 else if !qej r then 14 else 0
theorem q2y (n:Nat)(r:RuleD)(sh sb:Value)(l:List qap)(sv:Value)(w:World)(hr:RuleIn n w sh sb r)(hl:SizesIn n w sv l)(hn:n<=w.heap.size):Calls prog 145 #[qam r sh sb,sv] w fun e w'=>e=.returned (.int .i64 (qeh r l false))/\Keep (fun b=>b<w.heap.size) w w':=by
 have z:=fun W (hK:Keep (fun b=>b<w.heap.size) w W)=>qzy n r sh sb W (hr.keep (hK.mono fun b _ h=>wC)) (by have:=hK.size;omega);have h2:=fun W (hK:Keep (fun b=>b<w.heap.size) w W)=>qzz n l sv W (hl.keep (hK.mono fun b _ h=>wC)) (by have:=hK.size;omega);have Y:=fun W (hK:Keep (fun b=>b<w.heap.size) w W)=>q5n n r sh sb W (hr.keep (hK.mono fun b _ h=>wC)) (by have:=hK.size;omega);have hE:qeh r l false=if !qaq r ||!qb6 l ||false then 2 else if !qej r then 14 else 0:=rfl
 obtain⟨b1,x⟩: ∃b,qaq r=b:=⟨_,rfl⟩;obtain⟨b2,s⟩: ∃b,qb6 l=b:=⟨_,rfl⟩;obtain⟨b3,u⟩: ∃b,qej r=b:=⟨_,rfl⟩;simp only [x]at z;simp only [s]at h2;simp only [u]at Y;rw [x,s,u]at hE;obtain⟨aH,aJ,rfl,-,-,-⟩:=id hl;obtain⟨⟨pr,args⟩,body⟩:=r;obtain⟨hh,q⟩:=id hr;unfold qam at z Y⊢;simp only at hh q z Y hE⊢;obtain⟨aa,ca,rfl,-,-,-⟩:=id hh;obtain⟨ab,cb,rfl,-,-,-⟩:=id q;obtain⟨W0,g⟩:=ex (w.alloc (.cells #[.string pr,.slice aa args.length ca,.slice ab body.length cb] 27));have k0:Keep (fun b=>b<w.heap.size) w W0:=by rw [←g];exact kAl
 have hz:=k0.size;have R:W0.heap[w.heap.size]?=some (.cells #[.string pr,.slice aa args.length ca,.slice ab body.length cb] 27 (0,0)):=by rw [←g];exact qh _ _
 have l0:=qe R;have c0:=qb R 0 _ rfl;have c1:=qb R 1 _ rfl;have c2:=qb R 2 _ rfl;simp only [zD]at c0 c1 c2;clear x s u hh q hr hl R;refine hd6 ?_ z h2 Y hE g k0;clear z h2 Y hE g k0;intro U aj an v p m;cases b1
 ·go_enter Tryz.func145,Tryz.ntmps145
  go_wp2_with fail;rw [p.o];refine(U.o _ m.o).mono ?_;rintro e W1 ⟨rfl,d⟩;go_wp2_with fail;go_ret;exact⟨by rw [v.o];rfl,m.o.trans (d.mono fun b q _=>wC)⟩
 ·cases b2
  all_goals go_enter Tryz.func145,Tryz.ntmps145
  all_goals go_wp2_with fail
  all_goals rw [p.o]
  all_goals refine(U.o _ m.o).mono ?_
  all_goals (rintro e W1 ⟨rfl,d⟩;have e0:=d.cell c0 l0;have e1:=d.cell c1 l0;have e2:=d.cell c2 l0;have z1:=d.size;have kk:Keep (fun b=>b<w.heap.size) w W1:=m.o.trans (d.mono fun b q _=>wC);have l1:w.heap.size<W1.heap.size:=wC;clear c0 c1 c2)
  all_goals (have y:=zg kk;have aE:=zg d;clear kk d)
  all_goals go_wp2_with fail
  all_goals refine(aj.o _ y.o).mono ?_
  all_goals (rintro e W2 ⟨rfl,t⟩;have f0:=t.cell e0 l1;have f1:=t.cell e1 l1;have f2:=t.cell e2 l1;have z2:=t.size;have X:Keep (fun b=>b<w.heap.size) w W2:=y.o.trans (t.mono fun b q _=>wC);have l2:w.heap.size<W2.heap.size:=wC;clear e0 e1 e2)
  all_goals (have c:=zg X;have aK:=zg t;clear X t)
  ·go_wp2_with fail;go_ret;exact⟨by rw [v.o];rfl,c.o⟩
  ·cases b3
   all_goals go_wp2_with fail
   all_goals refine(an.o _ c.o).mono ?_
   all_goals (rintro e W3 ⟨rfl,k3⟩)
   all_goals go_wp2_with fail
   all_goals go_ret
   all_goals exact⟨by rw [v.o];rfl,c.o.trans (k3.mono fun b q _=>wC)⟩
theorem qfg (w:World)(e:TypeId)(sz:Nat):(w.alloc (.cells #[] e)).ownsRow w.heap.size e sz (.slice (some ⟨w.heap.size,0,none⟩) 0 0) 0 []:=
 ⟨wE,.inr ⟨w.heap.size,0,#[],rfl,zG _,qh w _,zG _,by simp [maxLen],wE,wE⟩⟩
theorem qrt {T e:TypeId}{sz d:Nat}(h:qcj prog T e sz d)(w:World)(a:Option Addr)(l c:Nat):(binOp .eql T (.slice a l c) (.slice none 0 0)).run prog w=.ok (.bool a.isNone) w:=by
 show((Op.equal T (.slice a l c) (.slice none 0 0))>>=fun b=>pure (Value.bool b)).run prog w=_;simp [run_equal_slice_nil w T e a l c h.1]
theorem qh3:qcj prog 22 60 2 24:=qc2 (z:=.agg #[.bool false,.string ⟨#[]⟩]) wD wD rfl wF wF
theorem qlj:qcj prog 25 64 7 96:=qc2 (z:=.agg #[.int .i64 0,.string ⟨#[]⟩,.slice none 0 0,.bool false,.string ⟨#[]⟩,.bool false,.string ⟨#[]⟩]) wD wD rfl wF wF
theorem q5o:qcj prog 205 211 3 56:=qc2 (z:=.agg #[.int .i64 0,.slice none 0 0,.slice none 0 0]) wD wD rfl wF wF
theorem qhe (a:Option Addr)(m c:Nat)(d:List Value)(w:World)(y:d.length=m*2)(Y: ∀b,a=some b-> ∀j u,d[j]?=some u->w.cell? (b.add j)=some u)(hn:a=none->m=0)(p: ∀u∈d,u.oneCell'=true)(hm:m<=1073741824):
  Calls prog 81 #[.slice a m c] w fun e w'=> ∃v',e=.returned v'/\w'.ownsRow w.heap.size 60 2 v' m d/\wG w w':=by
 have hq:=fun w a l c=>qrt qh3 w a l c;cases a with
 |none=>
  have ad:=hn rfl;subst ad;have x:d= []:=yq (by simpa using y);subst x;clear y Y hn p hm
  go_enter Tryz.func81,Tryz.ntmps81
  go_wp2_with fail;go_ret;exact⟨_,rfl,zj _ _ _ _,Keep.refl _ _⟩
 |some b=>
  obtain⟨W0,g⟩:=ex (w.alloc (.cells #[] 60));have t:wG w W0:=by rw [←g];exact kAl
  have U:=qfg w 60 2;rw [g]at U;obtain⟨v',W1,X,ho,hg,hk⟩:=qhz (P:=prog) qh3 22 U (some b) m c d y (fun b' z j u hj=>t.cell (Y b' z j u hj) wH) (fun h=>by cases h) p wC t.size;rw [nil_append,zD]at ho;have r:Keep (fun b=>b<w.heap.size) w W1:=t.mt.trans (hk.mono fun b _ h e=>by
   rcases hg b e with p |p
   ·simp [Value.ownBlock]at p;omega
   ·have:=t.size;omega)
  have q:wG w W1:=r.mono fun b z _=>z;rw [←g]at X;obtain⟨a',c',rfl⟩:=qj ho;clear y Y hn p hg hk r t U g;refine hd3 ?_ X ho q;clear X ho q;intro R ab s
  go_enter Tryz.func81,Tryz.ntmps81
  go_wp2_with (at_builtin;refine qbu (v:=.slice (some ⟨w.heap.size,0,none⟩) 0 0) (u:=.slice (some b) m c) (v':=.slice a' m c') (w':=W1) rfl (.tmp 5) (.tmp 6) 22 rfl rfl rfl R.o ?_);go_ret;exact⟨_,rfl,ab.o,s.o⟩
theorem qmo (a:Option Addr)(m c:Nat)(d:List Value)(w:World)(y:d.length=m*7)(Y: ∀b,a=some b-> ∀j u,d[j]?=some u->w.cell? (b.add j)=some u)(hn:a=none->m=0)(p: ∀u∈d,u.oneCell'=true)(hm:m<=1073741824):
  Calls prog 82 #[.slice a m c] w fun e w'=> ∃v',e=.returned v'/\w'.ownsRow w.heap.size 64 7 v' m d/\wG w w':=by
 have hq:=fun w a l c=>qrt qlj w a l c;cases a with
 |none=>
  have ad:=hn rfl;subst ad;have x:d= []:=yq (by simpa using y);subst x;clear y Y hn p hm
  go_enter Tryz.func82,Tryz.ntmps82
  go_wp2_with fail;go_ret;exact⟨_,rfl,zj _ _ _ _,Keep.refl _ _⟩
 |some b=>
  obtain⟨W0,g⟩:=ex (w.alloc (.cells #[] 64));have t:wG w W0:=by rw [←g];exact kAl
  have U:=qfg w 64 7;rw [g]at U;obtain⟨v',W1,X,ho,hg,hk⟩:=qhz (P:=prog) qlj 25 U (some b) m c d y (fun b' z j u hj=>t.cell (Y b' z j u hj) wH) (fun h=>by cases h) p wC t.size;rw [nil_append,zD]at ho;have r:Keep (fun b=>b<w.heap.size) w W1:=t.mt.trans (hk.mono fun b _ h e=>by
   rcases hg b e with p |p
   ·simp [Value.ownBlock]at p;omega
   ·have:=t.size;omega)
  have q:wG w W1:=r.mono fun b z _=>z;rw [←g]at X;obtain⟨a',c',rfl⟩:=qj ho;clear y Y hn p hg hk r t U g;refine hd3 ?_ X ho q;clear X ho q;intro R ab s
  go_enter Tryz.func82,Tryz.ntmps82
  go_wp2_with (at_builtin;refine qbu (v:=.slice (some ⟨w.heap.size,0,none⟩) 0 0) (u:=.slice (some b) m c) (v':=.slice a' m c') (w':=W1) rfl (.tmp 5) (.tmp 6) 25 rfl rfl rfl R.o ?_);go_ret;exact⟨_,rfl,ab.o,s.o⟩
end Go.Proofs.P16
namespace Go.Proofs.P16
open Go.RowKit Go.Ink
def qad (ts:List TermD):List Value:=ts.flatMap fun t=> [.bool t.var,.string t.text]
theorem qeq (ts:List TermD):(qad ts).length=ts.length*2:=qa4 _ 2 (fun _=>rfl) ts
theorem qhr (ts:List TermD): ∀u∈qad ts,u.oneCell'=true:=qj9 _ (fun x u b=>by
 simp only [zw,yU,yi]at b;rcases b with rfl |rfl<;>rfl) ts
theorem qf7 {w:World}{base n:Nat}{e:TypeId}{v:Value}{ts:List TermD}(h:w.ownsRow base e 2 v n (qad ts))(g:n=ts.length)(p:ts.length<=1073741824):qai w.heap.size w v ts:=
 qdb h ts g p TermE fun b k t l c=>by
  have d: ∀j,j<2->(qad ts)[k*2+j]?=([Value.bool t.var,.string t.text]:List Value)[j]?:=fun j m=>qbj _ 2 (fun _=>rfl) _ k j t l m;exact⟨by have:=c 0 wC;rw [d 0 wC] at this;exact this,by have:=c 1 wC;rw [d 1 wC] at this;exact this⟩
theorem qei {n:Nat}{w:World}{a:Option Addr}{c:Nat}{ts:List TermD}(h:qai n w (.slice a ts.length c) ts):(∀b,a=some b-> ∀j u,(qad ts)[j]?=some u->w.cell? (b.add j)=some u)/\(a=none->ts.length=0):=
 qgo (fun t:TermD=> [Value.bool t.var,Value.string t.text]) (fun _=>rfl) wC (fun b o x e j u d=>by
  match j,d with
  |0,d=>simp at d;subst d;exact e.1
  |1,d=>simp at d;subst d;exact e.2) h rfl
theorem qh9 {w:World}{base:Nat}{e:TypeId}{sz n cap g:Nat}{xs:List Value}(h:w.ownsRow base e sz (.slice (some ⟨g,0,none⟩) n cap) n xs)(j:Nat)(u:Value)(b:j<xs.length):(w.setCell ⟨g,j,none⟩ u).ownsRow base e sz (.slice (some ⟨g,0,none⟩) n cap) n (xs.set j u):=by
 refine⟨by rw [xr];exact h.1,?_⟩;rcases h.2 with ⟨h1,_⟩ |⟨g',cap',cur,h1,hb,hg,hnc,hcm,hcs,ht⟩
 ·cases h1
 ·cases h1;refine .inr ⟨g,cap,cur.setIfInBounds j u,rfl,hb,qag j u hg,hnc,hcm,by rw [Array.size_setIfInBounds];exact hcs,?_⟩;rw [←ht,Array.toList_setIfInBounds,take_set]
abbrev qdl (p:LitD×Value):List Value:=qal p.1 p.2
theorem qyi (b rest:List (LitD×Value))(p:LitD×Value)(v:Value):((b++p::rest).flatMap qdl).set (b.length*7+2) v=(b++(p.1,v)::rest).flatMap qdl:=by
 rw [yG,yG,set_append_right _ _ (by rw [qa4 qdl 7 (fun _=>rfl)];omega),qa4 qdl 7 (fun _=>rfl)]
 congr 1
 rw [show b.length*7+2-b.length*7=2 from wC]
 rfl
def BodyOwn (base:Nat)(tl tt:TypeId)(w:World)(v:Value)(ls:List LitD):Prop:=
 ∃ps:List (LitD×Value),ps.map (·.1)=ls/\w.ownsRow base tl 7 v ls.length (ps.flatMap qdl)/\ ∀p,p∈ps->w.ownsRow base tt 2 p.2 p.1.atom.args.length (qad p.1.atom.args)
def RuleOwn (base:Nat)(tl tt:TypeId)(w:World)(vh vb:Value)(r:RuleD):Prop:=
 w.ownsRow base tt 2 vh r.head.args.length (qad r.head.args)/\BodyOwn base tl tt w vb r.body
def qu8 (r:RuleD):Prop:=r.head.args.length<=1073741824/\r.body.length<=1073741824/\ ∀L,L∈r.body->L.atom.args.length<=1073741824
theorem qps {n:Nat}{w:World}{sh b:Value}{r:RuleD}(h:RuleIn n w sh b r):qu8 r:=by
 obtain⟨⟨_,_,_,e,_⟩,⟨a,c,p,g,q,l⟩⟩:=h;refine⟨e,g,fun L m=>?_⟩;obtain⟨k,d⟩:=zy.1 m;obtain⟨_,_,_,_,_,_,⟨_,_,_,h,_⟩⟩:=l k L d;exact h
theorem RuleOwn.rule {base:Nat}{l tt:TypeId}{w:World}{vh g:Value}{r:RuleD}(h:RuleOwn base l tt w vh g r)(e:qu8 r):RuleIn w.heap.size w vh g r:=by
 obtain⟨m,ps,b,q,s⟩:=h;refine⟨qf7 m rfl e.1,?_⟩;have c: ∀p,p∈ps->p.1∈r.body:=fun p d=>by rw [←b];exact yL.2 ⟨p,d,rfl⟩
 have:=qug (n0:=w.heap.size) q (by have:=yO List.length b;rw [zL] at this;rw [this];exact e.2.1) (zG _) (fun p d=>qf7 (s p d) rfl (e.2.2 _ (c p d)))
 rwa [b] at this
theorem BodyOwn.keep {base:Nat}{l tt:TypeId}{w w':World}{v:Value}{ls:List LitD}{C:Nat->Prop}(h:BodyOwn base l tt w v ls)(hK:Keep C w w')(m: ∀b,base<=b->b<w.heap.size->C b):BodyOwn base l tt w' v ls:=by
 obtain⟨ps,d,g,q⟩:=h;exact⟨ps,d,qf g hK (fun b c=>by have:=zE g b c;exact m b this.1 this.2),fun p e=>qf (q p e) hK (fun b c=>by have:=zE (q p e) b c;exact m b this.1 this.2)⟩
theorem RuleOwn.keep {base:Nat}{d tt:TypeId}{w w':World}{vh c:Value}{r:RuleD}{C:Nat->Prop}(h:RuleOwn base d tt w vh c r)(hK:Keep C w w')(e: ∀b,base<=b->b<w.heap.size->C b):RuleOwn base d tt w' vh c r:=
 ⟨qf h.1 hK (fun b g=>by have:=zE h.1 b g;exact e b this.1 this.2),h.2.keep hK e⟩
theorem BodyOwn.mono {base b:Nat}{e tt:TypeId}{w:World}{v:Value}{ls:List LitD}(h:BodyOwn base e tt w v ls)(d:b<=base):BodyOwn b e tt w v ls:=by
 obtain⟨ps,c,l,m⟩:=h;exact⟨ps,c,l.mono d,fun p g=>(m p g).mono d⟩
theorem RuleOwn.mono {base b:Nat}{e tt:TypeId}{w:World}{vh c:Value}{r:RuleD}(h:RuleOwn base e tt w vh c r)(d:b<=base):RuleOwn b e tt w vh c r:=⟨h.1.mono d,h.2.mono d⟩
theorem qqt {n:Nat}{w:World}{a:Option Addr}{c:Nat}{ls:List LitD}(h:qgh n w (.slice a ls.length c) ls): ∃ps:List (LitD×Value),ps.map (·.1)=ls/\(∀p,p∈ps->qai n w p.2 p.1.atom.args)/\(∀b,a=some b-> ∀j u,(ps.flatMap qdl)[j]?=some u->w.cell? (b.add j)=some u)/\(a=none->ls.length=0):=by
 obtain⟨a',c',hv,hl,hc,R⟩:=h;cases hv;have y: ∀k,k<=ls.length-> ∃ps:List (LitD×Value),ps.map (·.1)=ls.take k/\ ∀j p,ps[j]?=some p->qai n w p.2 p.1.atom.args/\ ∃b off,a=some ⟨b,off,none⟩/\CellsE w b (off+j*7) (qdl p):=by
  intro k
  induction k with
  |zero=>intro _;exact⟨[],rfl,fun j p h=>by simp at h⟩
  |succ k ih=>
   intro x;obtain⟨ps,e,d⟩:=ih wC;obtain⟨b,off,s,q,sa,l,v⟩:=R k _ (zB (show k<ls.length from wC));have r:ps.length=k:=by have:=yO List.length e;rw [zL,yC] at this;omega
   refine⟨ps++ [(ls[k]' wC,sa)],by rw [zn,e,zh,zB (show k<ls.length from wC)];rfl,fun j p g=>?_⟩;rcases y7 j ps.length with m |hge
   ·rw [yS m]at g;exact d j p g
   ·rw [yH hge]at g;have t:j-ps.length=0:=by
     have:=(zA.1 g).1;simp at this;omega
    rw [t]at g;simp at g;subst g;have:j=k:=wC
    subst this;exact⟨v,b,off,s,l⟩
 obtain⟨ps,e,d⟩:=y ls.length (zG _);rw [zi]at e;have r:ps.length=ls.length:=by have:=yO List.length e;rwa [zL] at this
 refine⟨ps,e,fun p X=>?_,fun b q j u g=>?_,fun s=>?_⟩
 ·obtain⟨j,g⟩:=zy.1 X;exact(d j p g).1
 ·have m:=(zA.1 g).1;rw [qa4 qdl 7 (fun _=>rfl)]at m;have z:j/7<ps.length:=by omega
  obtain⟨U,off,s,l⟩:=(d (j/7) _ (zB z)).2;rw [s]at q;cases q;have x:=qbj qdl 7 (fun _=>rfl) ps (j/7) (j%7) _ (zB z) wC;rw [show j/7*7+j%7=j from wC,g]at x;have:=l (j%7) u x.symm;rw [show((⟨U,off,none⟩:Addr).add j)=⟨U,off+j,none⟩ from by unfold Addr.add;split<;>simp_all]
  rwa [xI,show j/7*7+j%7=j from wC] at this
 ·by_cases Y:ls.length=0
  ·exact Y
  ·obtain⟨b,off,q,_⟩:=R 0 ls[0] (zB wC);rw [s]at q;cases q
theorem qu9 {n:Nat}{w:World}{ps:List (LitD×Value)}(h: ∀p,p∈ps->qai n w p.2 p.1.atom.args): ∀u∈ps.flatMap qdl,u.oneCell'=true:=by
 intro u g;obtain⟨p,e,b⟩:=xF.1 g;obtain⟨a,c,d,_⟩:=h p e;unfold qdl qal at b;rw [d]at b;simp only [zw,yU,yi]at b;rcases b with rfl |rfl |rfl |rfl |rfl |rfl |rfl<;>rfl
end Go.Proofs.P16
namespace Go.Proofs.P16
open Go.RowKit Go.Ink
attribute [local go_sem] Oper.semAt_some
theorem qz3 (n:Nat)(r:RuleD)(sh sb:Value)(w:World)(hr:RuleIn n w sh sb r)(hn:n<=w.heap.size):
  Calls prog 146 #[qam r sh sb] w fun e w'=> ∃vh vb,e=.returned (qam r vh vb)/\RuleOwn w.heap.size 64 60 w' vh vb r/\Keep (fun b=>b<w.heap.size) w w':=by
 obtain⟨⟨pr,args⟩,body⟩:=r;obtain⟨hh,l⟩:=id hr;unfold qam;simp only at hh l⊢;obtain⟨aa,ca,rfl,cF,cK,-⟩:=id hh;obtain⟨ab,cb,rfl,cE,ds,-⟩:=id l;obtain⟨a5,bJ⟩:=qei hh;obtain⟨ps,bb,av,a7,bo⟩:=qqt l;have R:ps.length=body.length:=by have:=yO List.length bb;rwa [zL] at this
 have aP:=qu9 av;obtain⟨N,hN⟩:=ex (w.heap.size);have bI:=fun W (hK:Keep (fun b=>b<w.heap.size) w W)=>qhe aa args.length ca (qad args) W (qeq args) (fun b l j u hj=>hK.cell (a5 b l j u hj) (zQ w _ (a5 b l j u hj))) bJ (qhr args) cF;have bK:=fun W (hK:Keep (fun b=>b<w.heap.size) w W)=>qmo ab body.length cb (ps.flatMap qdl) W (by rw [qa4 qdl 7 (fun _=>rfl),R]) (fun b l j u hj=>hK.cell (a7 b l j u hj) (zQ w _ (a7 b l j u hj))) bo aP cE;have bL:=fun p (hp:p∈ps) W (hK:Keep (fun b=>b<w.heap.size) w W)=>show∀a c,p.2=.slice a p.1.atom.args.length c->_ from fun a c e=>
  have hs:=qei (e▸av p hp)
  qhe a p.1.atom.args.length c (qad p.1.atom.args) W (qeq _) (fun b l j u hj=>hK.cell (hs.1 b l j u hj) (zQ w _ (hs.1 b l j u hj))) hs.2 (qhr _) (by obtain⟨_,_,_,h,_⟩:=av p hp;exact h)
 clear hh l hr a5 bJ a7 bo aP;refine hd7 ?_ bI bK bL bb av R hN;clear bI bK bL bb av R hN;intro bp bM bi bF b8 s ao
 go_enter Tryz.func146,Tryz.ntmps146
 go_wp2_with fail;refine qzt (fun W=>Keep (fun b=>b<w.heap.size) w W/\W.heap.size=w.heap.size+1+1/\W.heap[w.heap.size]?=some (.cells #[.string pr,.slice aa args.length ca,.slice ab body.length cb] 27 (0,0))/\
  W.heap[w.heap.size+1]?=some (.cells #[.string ⟨#[]⟩,.slice none 0 0,.slice none 0 0] 27 (0,0))) ⟨kAl.trans kAl,wE,by simp only [qao,zO];simp,by simp only [qao,zO];simp⟩ ?_
 rintro W0 ⟨k0,z0,g1,g2⟩;have aW:=bp.o W0 k0;rw [ao.o]at k0 z0 g1 g2⊢;have ba:=qb g1 1 _ rfl;have a4:=qb g1 2 _ rfl;simp only [zD]at ba a4;refine hd3 ?_ k0 g1 g2;clear k0 g1 g2;intro cD cu cs;refine aW.mono ?_;rintro e W1 ⟨vh,rfl,oh,k1⟩;obtain⟨aw,ax,rfl⟩:=qj oh;have e1:=k1.cell ba trivial;have e2:=k1.cell a4 trivial;have b1:=k1.heap cu.o trivial;have dq:=qg b1 1;have dk:=k1.size;have dd:N<W1.heap.size:=wC
 obtain⟨W2,ak⟩:=ex (W1.setCell ⟨N,1,none⟩ (.slice aw args.length ax));have k2:Keep (fun b=>b≠N) W1 W2:=by rw [←ak];exact kSc
 have z2:W2.heap.size=W1.heap.size:=by rw [←ak];simp [World.setCell]
 have b2:=qag 1 (.slice aw args.length ax) b1;rw [ak]at b2;simp only [yK,set_cons_succ,set_cons_zero]at b2;have bz:=qf oh k2 (fun b l=>by have:=(zE oh b l).1;omega);have bd:Keep (fun b=>b<N) w W2:=(cD.o.trans k1.mt).trans (k2.mono fun b _ h=>wC);have r2:=k2.heap (k1.heap cs.o wH) (show N+1≠N from wC);have aO:=bM.o W2 (bd.mono fun b _ h=>by have:=ao.o;omega);have q2:=qb b2 2 _ rfl;simp only [zD]at q2;have c9:N<W2.heap.size:=wC
 clear ba a4 aW oh k1 k2 b1;refine hd6 ?_ ak b2 bz bd r2 aO;clear ak b2 bz bd r2 aO;intro bQ cJ aU bD cv a3;go_wp2_with fail;rw [bQ.o];refine a3.o.mono ?_;rintro e W3 ⟨vb,rfl,ob,k3⟩;have dr:=k3.size;obtain⟨ah,x,rfl⟩:=qj ob;have b3:=k3.heap cJ.o trivial;have q3:=qb b3 2 _ rfl;have cC:=qg b3 2;simp only [zD]at q3;have df:N<W3.heap.size:=wC
 obtain⟨W4,au⟩:=ex (W3.setCell ⟨N,2,none⟩ (.slice ah body.length x));have k4:Keep (fun b=>b≠N) W3 W4:=by rw [←au];exact kSc
 have z4:W4.heap.size=W3.heap.size:=by rw [←au];simp [World.setCell]
 have b4:=qag 2 (.slice ah body.length x) b3;rw [au]at b4;simp only [yK,set_cons_succ,set_cons_zero]at b4;have aH:Keep (fun b=>b≠N) W2 W4:=k3.mt.trans k4;have aG:=qf aU.o aH (fun b l=>by have:=(zE aU.o b l).1;omega);have bH:=(qf ob k4 (fun b l=>by have:=(zE ob b l).1;omega)).mono (show N+2<=W2.heap.size from wC);have aG:=aG.mono (show N+2<=W0.heap.size from wC);have bW:Keep (fun b=>b<N) w W4:=bD.o.trans (aH.mono fun b _ h=>wC);have r4:=aH.heap cv.o (show N+1≠N from wC);have q4:=qb b4 2 _ rfl;simp only [zD]at q4;have di:N<W4.heap.size:=wC
 clear q2 ob k3 k4 aH b3;refine hd6 ?_ au b4 aG bH bW r4;clear au b4 aG bH bW r4;intro bN cA bG bV bR cz;go_wp2_with fail;rw [bN.o];clear q3 cC q4
 go_loopw [17] (fun i' wr=> ∃(k:Nat) (qs:List (LitD×Value)),k<=body.length/\i'=.int .i64 (k:Int)/\Keep (fun b=>b<N+2) W4 wr/\qs.length=k/\qs.map (·.1)=body.take k/\
  wr.ownsRow (N+2) 64 7 (.slice ah body.length x) body.length ((qs++ps.drop k).flatMap qdl)/\wr.ownsRow (N+2) 60 2 (.slice aw args.length ax) args.length (qad args)/\
  (∀p,p∈qs->wr.ownsRow (N+2) 60 2 p.2 p.1.atom.args.length (qad p.1.atom.args))) (fun i _=>body.length-(intOf i).toNat)
 case atStart=>exact⟨0,[],wC,rfl,Keep.refl _ _,rfl,rfl,bV.o,bG.o,wE⟩
 case round=>
  obtain⟨k,qs,hk,rfl,hK,ag,an,t,aE,aA⟩:=hrel;have dl:=hK.size;have bx:=hK.heap cA.o (show N<N+2 from wC);have c2:=qb bx 2 _ rfl;simp only [zD]at c2;have dc:N<wr.heap.size:=wC
  have kw:Keep (fun b=>b<w.heap.size) w wr:=(bR.o.mono fun b _ h=>by have:=ao.o;omega).trans (hK.mono fun b _ h=>by have:=ao.o;omega);by_cases cB:k<body.length
  ·have cZ:(k:Int)<body.length:=by omega
   have da:(0:Int)<=k:=wC
   obtain⟨p,hp⟩: ∃p,ps[k]?=some p:=⟨_,zB (by rw [s.o];exact cB)⟩;obtain⟨g,rfl⟩: ∃g,ah=some ⟨g,0,none⟩:=by
    rcases t.2 with ⟨h1,h2⟩ |⟨g,_,_,h1,_⟩
    ·omega
    ·cases h1;exact⟨g,rfl⟩
   have z:ps.drop k=p::ps.drop (k+1):=by
    have cG:=(zA.1 hp).1;have:=zt cG;rw [(zA.1 hp).2]at this;exact this
   have aC:=zH hp;obtain⟨bm,br,aF,-,-,-⟩:=id (b8.o p aC);have bv:=bi.o p aC wr.drew (kw.trans kDr) bm br aF;have a2:wr.cell? ⟨g,k*7+2,none⟩=some p.2:=by
    have:=qcp t (k*7+2) p.2 (by rw [z,qbj qdl 7 (fun _=>rfl) (qs++p::ps.drop (k+1)) k 2 p (by rw [yH wC,ag];simp) wC];rfl);exact this
   rw [aF]at a2;have cq:=(qlg t);have bS:body[k]?=some p.1:=by rw [←bF.o,zP,hp];rfl
   have bs:(k*7+2)<((qs++ps.drop k).flatMap qdl).length:=by
    rw [qa4 qdl 7 (fun _=>rfl),zR,xx,ag,s.o];omega
   have c8:g<wr.heap.size:=cq.2.2.1;clear hp;refine qlu ?_ hK ag an t aE aA bx kw z aC bv bS aF bs;clear hK ag an t aE aA bx kw z aC bv bS aF bs;intro b0 ay ai ad X ar ct bj aJ c6 bn bl cX bq;go_wp2_with fail;refine qa5 rfl (fun W=>W.cell? ⟨N,2,none⟩=some (.slice (some ⟨g,0,none⟩) body.length x)/\W.cell? ⟨g,k*7+2,none⟩=some (.slice bm p.1.atom.args.length br)) [14] ?_;have aL:=zg (And.intro c2 a2);refine qy [0,1,2,3,4,5,6,7,8,9] ?_
   iterate 10
    refine tkN (v:=?_) rfl aL.o ?_ ?_;rotate_left
    ·rintro Wq ⟨s0,s1⟩;go_simp
     try with_reducible rfl
    try simp only [qz]
   refine qm ?_;refine qf5 (i:=10) rfl wD (fun KK d=>?_);have aX:=zg d;clear d;simp only [getElem_toArray,getElem_cons_zero,getElem_cons_succ,Act.put,yK,set_cons_zero,set_cons_succ,zD];go_wp2_with fail;refine bn.o.mono ?_;rintro e W5 ⟨v',rfl,o5,k5⟩;have n0:=k5.cell (show wr.drew.cell? ⟨N,2,none⟩=_ from c2) trivial;have n1:=k5.cell (show wr.drew.cell? ⟨g,k*7+2,none⟩=_ from a2) trivial;have cp:=k5.size;simp only [World.size_drew]at cp;obtain⟨U,y,rfl⟩:=qj o5;go_wp2_with fail;refine aX.o _ _ (fun _=>⟨n0,n1⟩) ?_;refine qf5 (i:=11) rfl wD (fun KK d=>?_);have aZ:=zg d;clear d;go_wp2_with fail;refine aZ.o _ _ (fun _=>⟨n0,n1⟩) ?_;refine qf5 (i:=12) rfl wD (fun KK d=>?_);have aQ:=zg d;clear d;go_wp2_with fail;refine aQ.o _ _ (fun _=>⟨n0,n1⟩) ?_;refine qf5 (i:=13) rfl wD (fun KK d=>?_);have aM:=zg d;clear d;go_wp2_with fail;refine aM.o _ _ (fun _=>⟨n0,n1⟩) ?_;refine qf5 (i:=14) rfl wD (fun KK d=>?_);have aV:=zg d;clear d;have ap:wG wr W5:=kDr.trans k5;have al:=qf ad.o ap (fun _ _=>wH);obtain⟨dp,aI⟩:=qa1 al (b:=g) rfl;have cI:=qg aI (k*7+2);have dn:=qe aI;obtain⟨W6,aB⟩:=ex (W5.setCell ⟨g,k*7+2,none⟩ (.slice U p.1.atom.args.length y));have k6:Keep (fun b=>b≠g) W5 W6:=by rw [←aB];exact kSc
   have ae:=qh9 al (k*7+2) (.slice U p.1.atom.args.length y) bq.o;rw [aB,aJ.o]at ae;have am:=qyi qs (ps.drop (k+1)) p (.slice U p.1.atom.args.length y);rw [ay.o]at am;rw [am]at ae;have Y: ∀(base:Nat) (v:Value) (m:Nat) (xs:List Value),W5.ownsRow base 60 2 v m xs-> ∀b,v.ownBlock=some b->b≠g:=fun base v m xs h b l e=>by
    obtain⟨c2,t2⟩:=qa1 h l;rw [e,aI]at t2;cases t2
   have aj:=qf X.o ap (fun _ _=>wH);have a0:=qf aj k6 (Y _ _ _ _ aj);have bP:Keep (fun b=>b<N+2) W4 W6:=(b0.o.trans ap.mt).trans (k6.mono fun b _ h=>wC);have o6:=(qf o5 k6 (Y _ _ _ _ o5)).mono (show N+2<=wr.heap.size from wC);have aY: ∀q,q∈qs++ [(p.1,Value.slice U p.1.atom.args.length y)]->W6.ownsRow (N+2) 60 2 q.2 q.1.atom.args.length (qad q.1.atom.args):=fun q hq=>by
    rcases zr.1 hq with h |h
    ·have h1:=qf (ar.o q h) ap (fun _ _=>wH);exact qf h1 k6 (Y _ _ _ _ h1)
    ·simp only [zm]at h;subst h;exact o6
   have aR:(qs++ [(p.1,Value.slice U p.1.atom.args.length y)]).map (·.1)=body.take (k+1):=by
    rw [zn,ai.o,zh,bl.o];rfl
   have aS:(qs++ [(p.1,Value.slice U p.1.atom.args.length y)]).length=k+1:=by rw [zR,ay.o];rfl
   have aq:W6.ownsRow (N+2) 64 7 (.slice (some ⟨g,0,none⟩) body.length x) body.length (((qs++ [(p.1,Value.slice U p.1.atom.args.length y)])++ps.drop (k+1)).flatMap qdl):=by
    rw [yu];exact ae
   clear ap al aI k6 ae am Y aj k5 o5 o6;refine hd7 ?_ aB aq a0 bP aY aR aS;clear aB aq a0 bP aY aR aS;intro bu az bf b7 a9 bc bh;go_wp2_with fail;refine aV.o _ _ (fun h=>by simp at h) ?_;refine qbh wD ?_;clear aL aX aZ aQ aM aV n0 n1 cI;rw [bu.o];go_wp2_with fail;go_roundw
   case rel=>exact⟨k+1,_,wC,by go_num,b7.o,bh.o,bc.o,az.o,bf.o,a9.o⟩
   case measure=>simp [intOf];omega
  ·obtain rfl:k=body.length:=by omega
   have bk:ps.drop body.length= []:=by rw [xn (by rw [s.o];exact zG _)]
   rw [bk,yQ]at t;rw [zi]at an;have c0:=qb bx 0 _ rfl;have c1:=qb bx 1 _ rfl;have rx:=hK.heap cz.o (show N+1<N+2 from wC);have d0:=qb rx 0 _ rfl;have d1:=qb rx 1 _ rfl;have d2:=qb rx 2 _ rfl;have f0:=qg rx 0;have f1:=qg rx 1;have f2:=qg rx 2;simp only [zD]at c0 c1 d0 d1 d2;have cw:N+1<wr.heap.size:=qe rx;clear bk;refine hd9 ?_ hK ag an t aE aA bx kw rx;clear hK ag an t aE aA bx kw rx;intro b0 ay ai ad X ar ct bj dg;go_wp2_with fail;refine yA (v:=.agg #[.string pr,.slice aw args.length ax,.slice ah body.length x]) (by simp [results,Tryz.results146,go_sem,d0,d1,d2,cw]) rfl ?_;have kS:Keep (fun b=>b≠N+1) wr (((wr.setCell ⟨N+1,0,none⟩ (.string pr)).setCell ⟨N+1,1,none⟩ (.slice aw args.length ax)).setCell ⟨N+1,2,none⟩ (.slice ah body.length x)):=
    ((kSc).trans (kSc)).trans (kSc)
   have db:=ao.o;refine⟨_,_,rfl,⟨(qf X.o kS (fun b l=>by have:=(zE X.o b l).1;omega)).mono wC,qs,ai.o,(qf ad.o kS (fun b l=>by have:=(zE ad.o b l).1;omega)).mono wC,fun q hq=>?_⟩,bj.o.trans (kS.mono fun b _ h=>wC)⟩;have h1:=ar.o q hq;exact(qf h1 kS (fun b l=>by have:=(zE h1 b l).1;omega)).mono wC
end Go.Proofs.P16
