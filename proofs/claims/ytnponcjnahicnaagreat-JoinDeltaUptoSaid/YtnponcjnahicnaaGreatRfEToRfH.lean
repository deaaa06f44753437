/- Parts of the proof. -/
import Derived.Test.YtnponcjnahicnaaGreatKtAToRfD
set_option linter.unusedSimpArgs false
set_option linter.unusedVariables false
set_option maxRecDepth 100000
set_option maxHeartbeats 2000000
open Go.Proofs.Tryz(prog)
open List(filter_map flatMap_map map_map nil_append take_sublist)
namespace Go.Proofs
open Go.RowKit Go.Ink Go.Flt R4 P16
attribute [local go_sem] Oper.semAt_some
def qd1 (ats:List qcn):List ByteArray:=ats.flatMap fun a=>qaj a.args
theorem q71 (body:List LitD):(qd1 (qas body)).length<=(body.flatMap LitD.uses).length:=by
 induction body with
 |nil=>simp [qd1,qas]
 |cons L ls ih=>
  unfold qd1 qas at ih⊢;rw [yF,zR];by_cases h:(L.kind==1)=true
  ·rw [xX (by simpa using h),yZ,yF,zR];have b:L.kind=1:=by simpa using h
   have:(qaj L.atom.args).length=L.uses.length:=by unfold qaj LitD.uses LitD.terms;rw [zI (.inl b)]
   omega
  ·rw [xi (by simpa using h)];omega
theorem q3k (r:RuleD):(qd1 (qas r.body)).length<=r.stands.length:=by
 have c:=q71 r.body;have b:r.names.length=r.stands.length:=by unfold RuleD.names;rw [zL]
 rw [qj0,zR]at b;omega
theorem q3l (body:List LitD):q8 body (qaf body)=qd1 (qas body):=by
 have b:body=(List.range body.length).map (fun i=>body.getD i default):=by
  refine xZ fun i=>?_;rw [zP];by_cases h:i<body.length
  ·rw [xu h,zB h];simp [zJ,zB h]
  ·rw [xD wC,xD (by simp;omega)];rfl
 have d:qd1 (qas body)=(qaf body).flatMap fun i=>qaj (body.getD i default).atom.args:=by
  unfold qd1 qas
  conv=>lhs;rw [b]
  rw [filter_map,map_map,flatMap_map]
  rfl
 rw [d];unfold q8;have: ∀(l:List Nat),(∀i,i∈l->qbm body i=1)->(l.flatMap fun i=>if (body.getD i default).kind=3∨(body.getD i default).kind=2 then [] else qaj (body.getD i default).atom.args)=l.flatMap fun i=>qaj (body.getD i default).atom.args:=by
  intro l
  induction l with
  |nil=>intro _;rfl
  |cons i l ih=>
   intro h;have hi:=h i (yJ ..);unfold qbm at hi;rw [yF,yF,ih fun j c=>h j (yD _ c),zF wC]
 exact this _ fun i hi=>(qde hi).2
theorem qvn {many:Nat}{xs:List ByteArray}{j:Nat}(h:j<xs.length)(n:Nat):qf4 many (xs.drop j) n=if 20000<n*many then true else qf4 many (xs.drop (j+1)) (n*many):=by
 rw [zt h];rfl
def qe5 (ats:List qcn)(i:Nat):List ByteArray:=qd1 (ats.take i)
theorem qmp {b:List qcn}{i:Nat}{a:qcn}(h:b[i]?=some a):qe5 b (i+1)=qe5 b i++qaj a.args:=by
 unfold qe5 qd1;rw [zh,h,yG];simp
theorem qn0 {ts:List TermD}{k:Nat}{t:TermD}(h:ts[k]?=some t)(b:t.var=true):qaj (ts.take (k+1))=qaj (ts.take k)++ [t.text]:=by
 unfold qaj;rw [zh,h,yV,zn];simp [b]
theorem qpw {ts:List TermD}{k:Nat}{t:TermD}(h:ts[k]?=some t)(b:t.var=false):qaj (ts.take (k+1))=qaj (ts.take k):=by
 unfold qaj;rw [zh,h,yV,zn];simp [b]
theorem qvo (b:List qcn)(i:Nat):(qe5 b i).length<=(qd1 b).length:=by
 unfold qe5 qd1
 conv=>rhs;rw [←yy i b,yG,zR]
 omega
theorem qlm (ts:List TermD)(k:Nat):(qaj (ts.take k)).length<=(qaj ts).length:=by
 unfold qaj;rw [zL,zL];exact((take_sublist _ _).filter _).length_le
abbrev qyr (n:Nat)(w:World)(v:Value)(ps:List (qcn×Value)):Prop:=SliceIn n w 2 (fun w b o p=>CellsE w b o (qee p)) v ps
theorem qs3 {w:World}{base:Nat}{e:TypeId}{v:Value}{n:Nat}{ps:List (qcn×Value)}(h:w.ownsRow base e 2 v n (ps.flatMap qee))(g:n=ps.length)(l:ps.length<=1073741824):qyr w.heap.size w v ps:=
 qdb h ps g l _ fun b k p q r=>fun j u d=>by
  have c:j<2:=by
   have:=(zA.1 d).1
   simpa [qee]using this
  have m:=qbj qee 2 (fun _=>rfl) _ k j p q c;have:=r j c;rw [m,d]at this;exact this
theorem qxm {n:Nat}{r:RuleD}{sh sb:Value}{w:World}(hr:RuleIn n w sh sb r)(hn:n<=w.heap.size)(cy:r.stands.length<=1073741824){many:Nat}(hm:many<=1000000):
  Calls prog 37 #[qam r sh sb,.int .i64 (many:Int)] w fun e w'=>e=.returned (.bool (qe1 r many))/\Keep (fun b=>b<w.heap.size) w w':=by
 have aB:qe1 r many=qf4 many ((qd1 (qas r.body)).foldl qr []) 1:=by unfold qe1 qfo;rw [q3l]
 have ba:=q3k r;unfold qam;obtain⟨N,hN⟩:=ex (w.heap.size);obtain⟨W0,ae⟩:=ex (w.alloc (.cells #[.string r.head.pred,sh,sb] 27));have k0:wG w W0:=by rw [←ae];exact kAl
 have p0:W0.heap[N]?=some (.cells #[.string r.head.pred,sh,sb] 27 (0,0)):=by rw [←ae,←hN];exact qh _ _
 have z0:W0.heap.size=N+1:=by rw [←ae,←hN];simp
 have Y:=qjj (w:=W0) (hr.keep k0.mt) wC;have d0:=qb p0 0 _ rfl;have d1:=qb p0 1 _ rfl;have d2:=qb p0 2 _ rfl;have ck:=qe p0;simp only [zD]at d0 d1 d2;unfold qam at Y;obtain⟨⟨ah,cj,rfl,bP,bQ,az⟩,⟨ab,cf,rfl,b0,bG,aC⟩⟩:=id hr;refine hd9 ?_ hr hN ae k0 p0 Y aB az aC;clear hr hN ae k0 p0 Y aB az aC;intro cw am a2 bW cF aN aF bD bJ
 go_enter Tryz.func37,Tryz.ntmps37
 go_wp2_with fail;rw [a2.o,am.o];refine aN.o.mono ?_;rintro e W1 ⟨v,ps,rfl,k1,aP,hT,hO⟩;have z1:=k1.size;have aL:ps.length<=1073741824:=by
  have h1:=yO List.length aP;rw [zL]at h1;have h2:=qni r.body;omega
 have hA:=qs3 hO rfl aL;obtain⟨av,cv,rfl,-,cu,aI⟩:=id hA;obtain⟨M,hM⟩:=ex (W1.heap.size);have g:=aF.o;rw [←aP]at g ba;obtain⟨A,ar⟩:=ex (ps.map (·.1));rw [ar]at g ba;have ay: ∀(k:Nat) (p:qcn×Value),ps[k]?=some p->A[k]?=some p.1:=fun k p h=>by rw [←ar,zP,h];rfl
 have bf:A.length=ps.length:=by rw [←ar,zL]
 have co:n<=M:=by have:=am.o;omega
 have cD:N+1<=M:=by have:=am.o;omega
 clear hO hA aP ar;rw [hM]at aI;refine hd7 ?_ k1 hT aI hM g ay bf;clear k1 hT aI hM g ay bf;intro bw bO aS aq aw aH bk;go_wp2_with fail
 go_loopw [5,7] (fun v5 ix wr=> ∃(k:Nat),k<=ps.length/\ix=.int .i64 (k:Int)/\Keep (fun b=>b<M) W1 wr/\wr.ownsRow M 9 1 v5 ((qe5 A k).foldl qr []).length (((qe5 A k).foldl qr []).map .string)) (fun _ i _=>ps.length-(intOf i).toNat)
 case atStart=>exact⟨0,wC,rfl,Keep.refl _ _,zj _ _ _ _⟩
 case round=>
  obtain⟨k,hk,rfl,hK,hO⟩:=hrel;have a4:=hK.size;have cm:(0:Int)<=k:=wC
  by_cases a9:k<ps.length
  ·have ch:(k:Int)<ps.length:=by omega
   obtain⟨p,hp⟩: ∃p,ps[k]?=some p:=⟨_,zB a9⟩;obtain⟨b,off,rfl,hb,a0⟩:=aS.o k p hp;have ao:=aH.o k p hp;obtain⟨ap,cp,aV,cE,cz,a3⟩:=id (bO.o p (zH hp));have ak:=a0 1 _ (show(qee p)[1]?=some p.2 from rfl);rw [aV]at ak;have aY:(qe5 A k).length+(qaj p.1.args).length<=1073741824:=by
    have h1:=qvo A (k+1);rw [qmp ao,zR]at h1;omega
   have aG:=qmp ao;obtain⟨R,a5⟩:=ex (qe5 A k);rw [a5]at hO aY aG;obtain⟨W2,aU⟩: ∃W2,W2=wr:=⟨_,rfl⟩;rw [←aU]at hK hO a4⊢;have g1:=hK.cell ak hb;have cn:b<W2.heap.size:=by have:=aq.o;omega
   clear a0 a5 aU hp aV;refine hd6 ?_ hK hO a3 aG ao ak;clear hK hO a3 aG ao ak;intro b2 bU a1 bb b9 aW;go_wp2_with fail
   go_loopw [5,8] (fun v5 ix wr=> ∃(j:Nat),j<=p.1.args.length/\ix=.int .i64 (j:Int)/\Keep (fun b=>b<M) W1 wr/\wr.ownsRow M 9 1 v5 ((R++qaj (p.1.args.take j)).foldl qr []).length (((R++qaj (p.1.args.take j)).foldl qr []).map .string)) (fun _ i _=>p.1.args.length-(intOf i).toNat)
   case atStart=>exact⟨0,wC,rfl,b2.o,by rw [show R++qaj (p.1.args.take 0)=R from by simp [qaj]];exact bU.o⟩
   case round=>
    obtain⟨j,hj,rfl,hJ,q⟩:=hrel;have b8:=hJ.size;have b4:(0:Int)<=j:=wC
    clear g1;have g1:=hJ.cell aW.o hb;have b7:b<wr.heap.size:=by have:=aq.o;omega
    by_cases aa:j<p.1.args.length
    ·have bm:(j:Int)<p.1.args.length:=by omega
     obtain⟨u,hu⟩: ∃u,p.1.args[j]?=some u:=⟨_,zB aa⟩;obtain⟨bt,ot,rfl,cG,aK,aM⟩:=a1.o j u hu;have q0:=hJ.cell aK (show bt<M from wC);have q1:=hJ.cell aM (show bt<M from wC);have cd:bt<wr.heap.size:=by have:=aq.o;omega
     have an:=qe2 (R++qaj (p.1.args.take j)) [];rw [zR]at an;have cA:=qlm p.1.args j;have bV:([]:List ByteArray).length=0:=rfl;cases y:u.var with
     |false=>
      rw [y]at q0;have bl:=qpw hu y;clear aK aM hu y;refine hd3 ?_ hJ q bl;clear hJ q bl;intro z d aZ;go_wp2_with fail;go_roundw
      case rel=>exact⟨j+1,wC,by go_num,z.o,by rw [aZ.o];exact d.o⟩
      case measure=>simp [intOf];omega
     |true=>
      rw [y]at q0;have X:(R++qaj (p.1.args.take (j+1))).foldl qr []=qr ((R++qaj (p.1.args.take j)).foldl qr []) u.text:=by rw [qn0 hu y,←yu,yn];rfl
      have hS:=qbq q wC;obtain⟨ss,bj⟩:=ex ((R++qaj (p.1.args.take j)).foldl qr []);rw [bj]at q X hS an;clear aK aM hu y bj;refine hd4 ?_ hJ q X hS;clear hJ q X hS;intro z d af bI;go_wp2_with fail;refine(qng wr.heap.size _ ss u.text _ bI.o (zG _)).mono ?_;rintro e W3 ⟨i,rfl,bF,cH,cI,au⟩;subst bF;by_cases aD:i<0
      ·have s:=au.1 aD;have t:(R++qaj (p.1.args.take (j+1))).foldl qr []=ss++ [u.text]:=af.o.trans (zF s);obtain⟨v',W4,aR,aT,bh,g2,bg,bM,ai,bx⟩:=qc8 qel 46 d.o [.string u.text] rfl (by simp [Value.oneCell']) wC (by have:=aq.o;omega);subst bM;have kW:=z.o.trans (bh.mono fun b _ (h:b<M)=>qd4 d.o h);have bn:W4.ownsRow M 9 1 (.slice (some ⟨g2,0,none⟩) (ss.length+1) bg) ((R++qaj (p.1.args.take (j+1))).foldl qr []).length (((R++qaj (p.1.args.take (j+1))).foldl qr []).map .string):=by
        rw [t]
        simpa using aT
       clear au s t aT bh ai bx;refine hd3 ?_ aR kW bn;clear aR kW bn;intro bi bH bd;go_wp2_with (at_builtin;refine qbu rfl _ _ _ rfl rfl rfl bi.o ?_);go_roundw
       case rel=>exact⟨j+1,wC,by go_num,bH.o,bd.o⟩
       case measure=>simp [intOf];omega
      ·have s:u.text∈ss:=by
        by_cases h:u.text∈ss
        ·exact h
        ·exact absurd (au.2 h) aD
       have t:(R++qaj (p.1.args.take (j+1))).foldl qr []=ss:=af.o.trans (zI s);clear au s;refine hd1 ?_ t;clear t;intro aO;go_wp2_with fail;go_roundw
       case rel=>exact⟨j+1,wC,by go_num,z.o,by rw [aO.o];exact d.o⟩
       case measure=>simp [intOf];omega
    ·obtain rfl:j=p.1.args.length:=by omega
     rw [zi,←bb.o]at q;clear aa;refine hd2 ?_ hJ q;clear hJ q;intro z d;go_wp2_with fail;go_roundw
     case rel=>exact⟨k+1,wC,by go_num,z.o,d.o⟩
     case measure=>simp [intOf];omega
  ·obtain rfl:k=ps.length:=by omega
   have ax:qe5 A ps.length=qd1 A:=by unfold qe5;rw [←bk.o,zi]
   rw [ax]at hO;have an:=qe2 (qd1 A) [];obtain⟨l,hl⟩:=ex ((qd1 A).foldl qr []);have x:=aw.o;rw [hl]at hO an x;obtain⟨al,cl,rfl⟩:=qj hO;have bV:([]:List ByteArray).length=0:=rfl;have hE:Keep (fun b=>b<w.heap.size) w wr:=bW.o.mt.trans ((bw.o.trans (hK.mono fun b _ h=>wC)).mono fun b _ h=>by have:=am.o;omega);obtain⟨W5,bc⟩: ∃W5,W5=wr:=⟨_,rfl⟩;rw [←bc]at hE⊢;clear a9 ax hl hK hO bc;refine hd2 ?_ x hE;clear x hE;intro aj aX;go_wp2_with fail
   go_loopw [9,10] (fun v9 ix wr=> ∃(j n:Nat),j<=l.length/\ix=.int .i64 (j:Int)/\v9=.int .i64 (n:Int)/\n<=20000/\wr=W5/\qe1 r many=qf4 many (l.drop j) n) (fun _ i _=>l.length-(intOf i).toNat)
   case atStart=>exact⟨0,1,wC,rfl,rfl,wC,rfl,aj.o⟩
   case round=>
    obtain⟨j,m,hj,rfl,rfl,bS,rfl,U⟩:=hrel;have b4:(0:Int)<=j:=wC
    by_cases aa:j<l.length
    ·have bm:(j:Int)<l.length:=by omega
     rw [qvn aa]at U;have b6:m*many<=20000*1000000:=Nat.mul_le_mul bS hm;obtain⟨c,hc⟩:=ex (m*many);have cc:(m:Int)*(many:Int)=(c:Int):=by rw [←hc];simp
     rw [hc]at U b6;by_cases aA:20000<c
     ·rw [zI aA]at U;have aE:(20000:Int)<c:=by omega
      clear hc;refine hd1 ?_ U;clear U;intro aJ;go_wp2_with fail;go_ret;exact⟨by rw [aJ.o];try rfl,aX.o⟩
     ·rw [zF aA]at U;have aE:(c:Int)<=20000:=by omega
      clear hc;refine hd1 ?_ U;clear U;intro aJ;go_wp2_with fail;go_roundw
      case rel=>exact⟨j+1,c,wC,by go_num,by go_num,wC,wH,aJ.o⟩
      case measure=>simp [intOf];omega
    ·obtain rfl:j=l.length:=by omega
     rw [xq]at U;have ai:qe1 r many=false:=U;clear aa U;refine hd1 ?_ ai;clear ai;intro a6;go_wp2_with fail;go_ret;exact⟨by rw [a6.o];try rfl,aX.o⟩
def qb4 (r:RuleD):List TermD:=r.head.args++r.body.flatMap qq
def qc5 (r:RuleD)(k:Nat):List TermD:=r.head.args++(r.body.take k).flatMap qq
theorem qvp {r:RuleD}{k:Nat}{L:LitD}(h:r.body[k]?=some L):qc5 r (k+1)=qc5 r k++qq L:=by
 unfold qc5;rw [zh,h,yG,yu];simp
theorem qo3 (r:RuleD)(k:Nat):(qc5 r k).length<=(qb4 r).length:=by
 unfold qc5 qb4;rw [zR,zR]
 conv=>rhs;rw [←yy k r.body,yG,zR]
 omega
theorem qjn (a b:List TermD):qad (a++b)=qad a++qad b:=by unfold qad;rw [yG]
theorem q52 {α:Type}{f:α->List Value}{sz:Nat}(b: ∀x,(f x).length=sz): ∀{xs:List α} {j:Nat} {u:Value},(xs.flatMap f)[j]?=some u-> ∃k i x,j=k*sz+i/\xs[k]?=some x/\(f x)[i]?=some u:=by
 intro xs
 induction xs with
 |nil=>intro j u h;simp at h
 |cons x xs ih=>
  intro j u h;rw [yF]at h;by_cases c:j<sz
  ·rw [yS (by rw [b];exact c)]at h;exact⟨0,j,x,wC,rfl,h⟩
  ·rw [yH (by rw [b];omega),b]at h;obtain⟨k,i,y,g,d,e⟩:=ih h;exact⟨k+1,i,y,by rw [Nat.succ_mul];omega,d,e⟩
theorem qvq {α:Type}{n sz:Nat}{w:World}{E:World->Nat->Nat->α->Prop}{f:α->List Value}(s: ∀x,(f x).length=sz){a:Option Addr}{c:Nat}{xs:List α}(h:SliceIn n w sz E (.slice a xs.length c) xs)
  (t: ∀b o x,E w b o x-> ∀j u,(f x)[j]?=some u->w.cell? ⟨b,o+j,none⟩=some u):
  (∀b,a=some b-> ∀j u,(xs.flatMap f)[j]?=some u->w.cell? (b.add j)=some u)/\(a=none->xs.length=0):=by
 obtain⟨a',U,v,R,X,m⟩:=h;injection v with h1 g p
 subst h1;refine⟨fun b q j u r=>?_,fun h=>?_⟩
 ·obtain⟨k,i,x,rfl,g,p⟩:=q52 s r;obtain⟨l,o,e,z,y⟩:=m k x g;rw [q]at e;cases e;rw [show((⟨l,o,none⟩:Addr).add (k*sz+i))=⟨l,o+k*sz+i,none⟩ from by unfold Addr.add;split<;>simp_all [xI]];exact t _ _ _ y _ _ p
 ·cases d:xs with
  |nil=>rfl
  |cons x xs=>
   obtain⟨b,o,e,-⟩:=m 0 x (by rw [d];rfl);rw [h]at e;cases e
theorem qei {m:Nat}{w:World}{a:Option Addr}{c:Nat}{ts:List TermD}(h:qai m w (.slice a ts.length c) ts):(∀b,a=some b-> ∀j u,(qad ts)[j]?=some u->w.cell? (b.add j)=some u)/\(a=none->ts.length=0):=
 qvq (f:=fun(t:TermD)=> [.bool t.var,.string t.text]) (fun _=>rfl) h fun b o x e j u d=>by
  match j,d with
  |0,d=>cases d;exact e.1
  |1,d=>cases d;exact e.2
theorem qkv (ts:List TermD): ∀u∈qad ts,u.oneCell'=true:=fun u b=>by
 unfold qad at b;obtain⟨t,-,c⟩:=xF.1 b;simp at c;rcases c with rfl |rfl<;>simp [Value.oneCell']
theorem qn1 {n:Nat}{r:RuleD}{sh sb:Value}{w:World}(hr:RuleIn n w sh sb r)(hn:n<=w.heap.size)(cb:(qb4 r).length<=1073741824):
  Calls prog 102 #[qam r sh sb] w fun e w'=> ∃v,e=.returned v/\Keep (fun b=>b<w.heap.size) w w'/\w'.ownsRow w.heap.size 60 2 v (qb4 r).length (qad (qb4 r)):=by
 unfold qam;obtain⟨N,hN⟩:=ex (w.heap.size);have m:=hr.1;obtain⟨⟨ah,t,rfl,bw,bx,ay⟩,⟨ab,d,rfl,bz,bt,aD⟩⟩:=id hr;obtain⟨W0,af⟩:=ex (w.alloc (.cells #[.string r.head.pred,.slice ah r.head.args.length t,.slice ab r.body.length d] 27));have k0:wG w W0:=by rw [←af];exact kAl
 have p0:W0.heap[N]?=some (.cells #[.string r.head.pred,.slice ah r.head.args.length t,.slice ab r.body.length d] 27 (0,0)):=by rw [←af,←hN];exact qh _ _
 have z0:W0.heap.size=N+1:=by rw [←af,←hN];simp
 have d0:=qb p0 0 _ rfl;have d1:=qb p0 1 _ rfl;have d2:=qb p0 2 _ rfl;have bU:=qe p0;simp only [zD]at d0 d1 d2;obtain⟨W1,ap⟩:=ex (W0.alloc (.cells #[] 60));have k1:wG W0 W1:=by rw [←ap];exact kAl
 have o1:=qfg W0 60 2;rw [ap,z0]at o1;have aJ:=qak m ((k0.trans k1).mt);have br:=qo3 r 0;have aK:qc5 r 0=r.head.args:=by unfold qc5;simp
 rw [aK]at br;obtain⟨v2,W2,aR,am,aW,ba⟩:=qhz (P:=prog) qh3 22 o1 ah r.head.args.length t (qad r.head.args) (qeq _) (qei aJ).1 (qei aJ).2 (qkv _) wC (by have:=k1.size;omega);rw [nil_append,zD]at am;obtain⟨a2,c2,rfl⟩:=qj am;have z1:=k1.size;have aC:Keep (fun b=>b<N+1) W1 W2:=ba.mono fun b _ h e=>by
  rcases aW b e with h1 |h1
  ·simp [Value.ownBlock]at h1;omega
  ·omega
 have bb:Keep (fun b=>b<N+1) W0 W2:=k1.mt.trans aC;clear aW ba aJ o1 m aC;refine qlu ?_ z0 hr ay aD hN af ap k0 k1 bb p0 aR am aK;clear z0 hr ay aD hN af ap k0 k1 bb p0 aR am aK;intro bR ca bq aG p a1 bd a7 bS aQ bF bf aS bg;refine qbr Tryz.func102 rfl ?_;simp only [Tryz.ntmps102,qd0,Nat.reduceAdd,Nat.reduceSub]
 gi_wp2_with (gi_at_builtin;refine qck (v:=.slice (some ⟨w.heap.size+1,0,none⟩) 0 0) (u:=.slice ah r.head.args.length t) (v':=.slice a2 r.head.args.length c2) (w':=W2) rfl (.tmp 5) (.tmp 8) 22 rfl rfl rfl (by have h:=bf.o;rw [a1.o,bd.o,p.o];exact h) ?_)
 rw [p.o];gi_loopw [3,4] (fun v3 ix wr=> ∃(k:Nat),k<=r.body.length/\ix=.int .i64 (k:Int)/\Keep (fun b=>b<N+1) W0 wr/\wr.ownsRow (N+1) 60 2 v3 (qc5 r k).length (qad (qc5 r k))) (fun _ i _=>r.body.length-(intOf i).toNat)
 case atStart=>exact⟨0,wC,rfl,aQ.o,by rw [bg.o];exact aS.o⟩
 case round=>
  obtain⟨k,hk,rfl,hK,hO⟩:=hrel;have c:=hK.heap bF.o wC;have e0:=qb c 0 _ rfl;have e1:=qb c 1 _ rfl;have e2:=qb c 2 _ rfl;have bI:=qe c;simp only [zD]at e0 e1 e2;have bM:=hK.size;have bV:(0:Int)<=k:=wC
  obtain⟨a3,c3,rfl⟩:=qj hO;by_cases a6:k<r.body.length
  ·have bO:(k:Int)<r.body.length:=by omega
   obtain⟨L,hL⟩: ∃L,r.body[k]?=some L:=⟨_,zB a6⟩;obtain⟨b,off,rfl,hb,sa,l,aL⟩:=aG.o k L hL;have kw:Keep (fun b=>b<n) w wr:=a7.o.mt.trans (hK.mono fun b _ h=>by have:=p.o;omega);have f0:=kw.cell (l 0 _ rfl) hb;have f2:=kw.cell (l 2 _ rfl) hb;have f3:=kw.cell (l 3 _ rfl) hb;have f4:=kw.cell (l 4 _ rfl) hb;have f5:=kw.cell (l 5 _ rfl) hb;have f6:=kw.cell (l 6 _ rfl) hb;simp only [Nat.add_zero]at f0;have m:=qak aL kw;have b0:b<wr.heap.size:=by have:=p.o;omega
   have g:=qvp hL;have aZ:=qo3 r (k+1);obtain⟨aT,a0,rfl,cc,b2,a9⟩:=id m;cases ai:(L.kind==3) with
   |false=>
    have U:qq L=L.atom.args:=by unfold qq;rw [zF (by simpa using ai)]
    rw [U]at g;rw [g,zR]at aZ;obtain⟨v',W5,aa,R,ar,y⟩:=qhz (P:=prog) qh3 22 hO aT L.atom.args.length a0 (qad L.atom.args) (qeq _) (qei m).1 (qei m).2 (qkv _) wC wC;obtain⟨a5,c5,rfl⟩:=qj R;have kW:=hK.trans (y.mono fun b _ (h:b<N+1) e=>by
     rcases ar b e with h1 |h1
     ·exact qd4 hO h h1.symm
     ·omega)
    have Y:W5.ownsRow (N+1) 60 2 (.slice a5 ((qc5 r k).length+L.atom.args.length) c5) (qc5 r (k+1)).length (qad (qc5 r (k+1))):=by
     rw [g,qjn,zR];exact R
    clear hL l aL m kw a9 ar y R g f3 f4 f5 f6;refine hd6 ?_ hK hO c aa kW Y;clear hK hO c aa kW Y;intro bc aI aE ad aF ae
    gi_wp2_with (gi_at_builtin;refine qck (v:=.slice a3 (qc5 r k).length c3) (u:=.slice aT L.atom.args.length a0) (v':=.slice a5 ((qc5 r k).length+L.atom.args.length) c5) (w':=W5) rfl (.tmp 39) (.tmp 46) 22 rfl rfl rfl ad.o ?_)
    go_roundw
    case rel=>exact⟨k+1,wC,by go_num,aF.o,ae.o⟩
    case measure=>simp [intOf];omega
   |true=>
    have U:qq L= [L.left,L.right]:=by unfold qq;rw [zI (by simpa using ai)]
    rw [U]at g;rw [g,zR]at aZ;have ce: [L.left,L.right].length=2:=rfl;have kd:wG wr wr.drew:=kDr;obtain⟨z,aM⟩:=ex (wr.drew);rw [aM]at kd;obtain⟨Wb,ao⟩:=ex (z.alloc (.cells #[.bool L.left.var,.string L.left.text,.bool L.right.var,.string L.right.text] 60));have kb:wG z Wb:=by rw [←ao];exact kAl
    have pb:Wb.heap[z.heap.size]?=some (.cells #[.bool L.left.var,.string L.left.text,.bool L.right.var,.string L.right.text] 60 (0,0)):=by rw [←ao];exact qh _ _
    have an:=qf hO (kd.trans kb) (fun _ _=>wH);have b6:=kd.size;have cr:=kb.size;obtain⟨v',W5,aa,R,y,g5,c5,bv,ar,cj⟩:=app (P:=prog) qh3 22 an ⟨z.heap.size,0,none⟩ 2 2 (qad [L.left,L.right]) rfl (fun j u hj=>by
     have:=qb pb j u (by
      rw [show(qad [L.left,L.right])= [Value.bool L.left.var,.string L.left.text,.bool L.right.var,.string L.right.text]from rfl]at hj;exact hj)
     rw [show((⟨z.heap.size,0,none⟩:Addr).add j)=⟨z.heap.size,0+j,none⟩ from by unfold Addr.add;split<;>simp_all];exact this) (qkv _) wC wC wC
    subst bv;have kW:=hK.trans ((kd.trans kb).mono (fun _ _ _=>wH) |>.trans (y.mono fun b _ (h:b<N+1)=>qd4 an h));have Y:W5.ownsRow (N+1) 60 2 (.slice (some ⟨g5,0,none⟩) ((qc5 r k).length+2) c5) (qc5 r (k+1)).length (qad (qc5 r (k+1))):=by
     rw [g,qjn,zR];exact R
    have s:z.cell? ⟨N,2,none⟩=some (.slice (some ⟨b,off,none⟩) r.body.length d)/\z.cell? ⟨b,off+k*7+3,none⟩=some (.bool L.left.var)/\z.cell? ⟨b,off+k*7+4,none⟩=some (.string L.left.text)/\z.cell? ⟨b,off+k*7+5,none⟩=some (.bool L.right.var)/\z.cell? ⟨b,off+k*7+6,none⟩=some (.string L.right.text):=
     ⟨kd.cell e2 wH,kd.cell f3 wH,kd.cell f4 wH,kd.cell f5 wH,kd.cell f6 wH⟩
    have x:Keep (fun b=>b<N+1) Wb W5:=y.mono fun b _ (h:b<N+1)=>qd4 an h;have q:Wb.cell? ⟨N,2,none⟩=some (.slice (some ⟨b,off,none⟩) r.body.length d)/\Wb.cell? ⟨b,off+k*7+3,none⟩=some (.bool L.left.var)/\Wb.cell? ⟨b,off+k*7+4,none⟩=some (.string L.left.text)/\Wb.cell? ⟨b,off+k*7+5,none⟩=some (.bool L.right.var)/\Wb.cell? ⟨b,off+k*7+6,none⟩=some (.string L.right.text):=
     ⟨kb.cell s.1 wH,kb.cell s.2.1 wH,kb.cell s.2.2.1 wH,kb.cell s.2.2.2.1 wH,kb.cell s.2.2.2.2 wH⟩
    have aq:b<N+1:=by have:=p.o;omega
    have a8:W5.cell? ⟨N,2,none⟩=some (.slice (some ⟨b,off,none⟩) r.body.length d)/\W5.cell? ⟨b,off+k*7+3,none⟩=some (.bool L.left.var)/\W5.cell? ⟨b,off+k*7+4,none⟩=some (.string L.left.text)/\W5.cell? ⟨b,off+k*7+5,none⟩=some (.bool L.right.var)/\W5.cell? ⟨b,off+k*7+6,none⟩=some (.string L.right.text):=
     ⟨x.cell q.1 (show N<N+1 from wC),x.cell q.2.1 aq,x.cell q.2.2.1 aq,x.cell q.2.2.2.1 aq,x.cell q.2.2.2.2 aq⟩
    have ch:b<z.heap.size:=wC
    have bW:N<z.heap.size:=wC
    clear hL l aL m kw a9 y R g ar an pb x;refine qb5 ?_ hK hO c aa kW Y s q a8 aM ao kd kb f3 f4 f5;clear hK hO c aa kW Y s q a8 aM ao kd kb f3 f4 f5;intro bc aI aE ad aF ae aU a4 av aV aX ci ck b3 b7 cf;refine hd1 ?_ f6;clear f6;intro b4;gi_wp2;refine qae ?_;refine qw rfl (fun X=>X.cell? ⟨N,2,none⟩=some (.slice (some ⟨b,off,none⟩) r.body.length d)/\X.cell? ⟨b,off+k*7+3,none⟩=some (.bool L.left.var)/\X.cell? ⟨b,off+k*7+4,none⟩=some (.string L.left.text)/\X.cell? ⟨b,off+k*7+5,none⟩=some (.bool L.right.var)/\X.cell? ⟨b,off+k*7+6,none⟩=some (.string L.right.text)) [] ?_;rw [aV.o];refine qy [0,1,2,3,4,5,6,7,8,9,10,11,12] ?_
    iterate 13
     refine tkR (v:=?_) rfl aU.o ?_ ?_;rotate_left
     ·rintro Wq ⟨x1,x2,x3,x4,x5⟩;go_simp
      try with_reducible rfl
     try simp only [qz]
    refine qm ?_;refine hoR 13 rfl fun K aA=>?_;gi_wp2;rw [aX.o];refine aA.o _ _ (fun _=>a4.o) ?_;refine hoR 14 rfl fun K ax=>?_;refine qck rfl (.tmp 24) (.tmp 37) 22 rfl rfl rfl ad.o ?_;gi_wp2;refine ax.o _ _ (fun _=>av.o) ?_;refine hoR 15 rfl fun K aw=>?_;gi_wp2;refine aw.o _ _ (fun _=>av.o) ?_;refine ql wD (qo ?_);clear aA ax aw;gi_wp2;go_roundw
    case rel=>exact⟨k+1,wC,by go_num,aF.o,ae.o⟩
    case measure=>simp [intOf];omega
  ·obtain rfl:k=r.body.length:=by omega
   have aB:qc5 r r.body.length=qb4 r:=by unfold qc5 qb4;rw [zi]
   have hE:Keep (fun b=>b<N) w wr:=a7.o.mt.trans (hK.mono fun b _ h=>wC);clear a6;refine hd5 ?_ hK hO hE c aB;clear hK hO hE c aB;intro bc aI bs aE aH;gi_wp2;refine yA (xo rfl _ _ _) rfl ?_;exact⟨_,rfl,by rw [p.o];exact bs.o,by rw [p.o];rw [←aH.o];exact aI.o.mono (show N<=N+1 from wC)⟩
def qol (r:RuleD):List ByteArray:=(qaj (qb4 r)).foldl qr []
theorem qf7 {w:World}{base:Nat}{e:TypeId}{v:Value}{n:Nat}{ts:List TermD}(h:w.ownsRow base e 2 v n (qad ts))(g:n=ts.length)(p:ts.length<=1073741824):qai w.heap.size w v ts:=
 qdb h ts g p TermE fun b k t l c=>by
  have d: ∀j,j<2->(qad ts)[k*2+j]?=([Value.bool t.var,.string t.text]:List Value)[j]?:=fun j m=>qbj (fun(t:TermD)=> [Value.bool t.var,.string t.text]) 2 (fun _=>rfl) _ k j t l m;exact⟨by have:=c 0 wC;rw [d 0 wC] at this;exact this,by have:=c 1 wC;rw [d 1 wC] at this;exact this⟩
theorem qxn {n:Nat}{r:RuleD}{sh sb:Value}{w:World}(hr:RuleIn n w sh sb r)(hn:n<=w.heap.size)(aa:(qb4 r).length<=1073741824):
  Calls prog 63 #[qam r sh sb] w fun e w'=> ∃v,e=.returned v/\Keep (fun b=>b<w.heap.size) w w'/\w'.ownsRow w.heap.size 9 1 v (qol r).length ((qol r).map .string):=by
 obtain⟨N,hN⟩:=ex (w.heap.size);obtain⟨W0,s⟩:=ex (w.alloc (.cells #[.string r.head.pred,sh,sb] 27));have k0:wG w W0:=by rw [←s];exact kAl
 have p0:W0.heap[N]?=some (.cells #[.string r.head.pred,sh,sb] 27 (0,0)):=by rw [←s,←hN];exact qh _ _
 have z0:W0.heap.size=N+1:=by rw [←s,←hN];simp
 have d:=qn1 (w:=W0) (hr.keep k0.mt) wC aa;have d0:=qb p0 0 _ rfl;have d1:=qb p0 1 _ rfl;have d2:=qb p0 2 _ rfl;have bf:=qe p0;simp only [zD]at d0 d1 d2;unfold qam at d⊢;obtain⟨⟨ah,a8,rfl,aZ,a0,U⟩,⟨ab,a7,rfl,aQ,aR,X⟩⟩:=id hr;obtain⟨ts,aA⟩:=ex (qb4 r);have az:qol r=(qaj ts).foldl qr []:=by unfold qol;rw [aA]
 rw [aA]at d aa;refine hd9 ?_ hr hN s k0 p0 d az U X;clear hr hN s k0 p0 d az U X;intro bd ai ak aO bm R am aL aV
 go_enter Tryz.func63,Tryz.ntmps63
 go_wp2_with fail;rw [ak.o];refine R.o.mono ?_;rintro e W1 ⟨v,rfl,k1,hO⟩;have z1:=k1.size;have hA:=qf7 hO rfl aa;obtain⟨av,cv,rfl,-,bw,ag⟩:=id hA;obtain⟨M,hM⟩:=ex (W1.heap.size);have bl:N+1<=M:=wC
 rw [hM]at ag;rw [ai.o];clear hO hA;refine hd3 ?_ k1 ag hM;clear k1 ag hM;intro aJ ao ax;go_wp2_with fail
 go_loopw [4,5] (fun v4 ix wr=> ∃(k:Nat),k<=ts.length/\ix=.int .i64 (k:Int)/\Keep (fun b=>b<M) W1 wr/\wr.ownsRow M 9 1 v4 ((qaj (ts.take k)).foldl qr []).length (((qaj (ts.take k)).foldl qr []).map .string)) (fun _ i _=>ts.length-(intOf i).toNat)
 case atStart=>exact⟨0,wC,rfl,Keep.refl _ _,zj _ _ _ _⟩
 case round=>
  obtain⟨j,hj,rfl,y,g⟩:=hrel;have a3:=y.size;have bu:(0:Int)<=j:=wC
  by_cases an:j<ts.length
  ·have bc:(j:Int)<ts.length:=by omega
   obtain⟨u,hu⟩: ∃u,ts[j]?=some u:=⟨_,zB an⟩;obtain⟨bt,ot,rfl,bn,ad,ae⟩:=ao.o j u hu;have q0:=y.cell ad (show bt<M from wC);have q1:=y.cell ae (show bt<M from wC);have a4:bt<wr.heap.size:=by have:=ax.o;omega
   have a2:=qe2 (qaj (ts.take j)) [];have bg:=qlm ts j;have a6:(qaj ts).length<=ts.length:=by unfold qaj;rw [zL];exact yf _ _
   have bi:([]:List ByteArray).length=0:=rfl;cases p:u.var with
   |false=>
    rw [p]at q0;have aD:=qpw hu p;clear ad ae hu p;refine hd3 ?_ y g aD;clear y g aD;intro x c aw;go_wp2_with fail;go_roundw
    case rel=>exact⟨j+1,wC,by go_num,x.o,by rw [aw.o];exact c.o⟩
    case measure=>simp [intOf];omega
   |true=>
    rw [p]at q0;have q:(qaj (ts.take (j+1))).foldl qr []=qr ((qaj (ts.take j)).foldl qr []) u.text:=by rw [qn0 hu p,yn];rfl
    have hS:=qbq g wC;obtain⟨ss,aC⟩:=ex ((qaj (ts.take j)).foldl qr []);rw [aC]at g q hS a2;clear ad ae hu p aC;refine hd4 ?_ y g q hS;clear y g q hS;intro x c t aU;go_wp2_with fail;refine(qng wr.heap.size _ ss u.text _ aU.o (zG _)).mono ?_;rintro e W3 ⟨i,rfl,aM,bo,bp,z⟩;subst aM;by_cases Y:i<0
    ·have l:=z.1 Y;have m:(qaj (ts.take (j+1))).foldl qr []=ss++ [u.text]:=t.o.trans (zF l);obtain⟨v',W4,al,ap,ay,g2,au,aY,aN,aK⟩:=qc8 qel 46 c.o [.string u.text] rfl (by simp [Value.oneCell']) wC (by have:=ax.o;omega);subst aY;have kW:=x.o.trans (ay.mono fun b _ (h:b<M)=>qd4 c.o h);have aE:W4.ownsRow M 9 1 (.slice (some ⟨g2,0,none⟩) (ss.length+1) au) ((qaj (ts.take (j+1))).foldl qr []).length (((qaj (ts.take (j+1))).foldl qr []).map .string):=by
      rw [m]
      simpa using ap
     clear z l m ap ay aN aK;refine hd3 ?_ al kW aE;clear al kW aE;intro aB aS ar;go_wp2_with (at_builtin;refine qbu rfl _ _ _ rfl rfl rfl aB.o ?_);go_roundw
     case rel=>exact⟨j+1,wC,by go_num,aS.o,ar.o⟩
     case measure=>simp [intOf];omega
    ·have l:u.text∈ss:=by
      by_cases h:u.text∈ss
      ·exact h
      ·exact absurd (z.2 h) Y
     have m:(qaj (ts.take (j+1))).foldl qr []=ss:=t.o.trans (zI l);clear z l;refine hd1 ?_ m;clear m;intro af;go_wp2_with fail;go_roundw
     case rel=>exact⟨j+1,wC,by go_num,x.o,by rw [af.o];exact c.o⟩
     case measure=>simp [intOf];omega
  ·obtain rfl:j=ts.length:=by omega
   rw [zi,←am.o]at g;have hE:Keep (fun b=>b<N) w wr:=aO.o.mt.trans ((aJ.o.trans (y.mono fun b _ h=>wC)).mono fun b _ h=>wC);clear an;refine hd3 ?_ y g hE;clear y g hE;intro x c aP;go_wp2_with fail;go_ret;exact⟨_,rfl,by rw [ai.o];exact aP.o,by rw [ai.o];exact c.o.mono (show N<=M from wC)⟩
theorem qmq {fs:List qk}{k:Nat}{f:qk}(h:fs[k]?=some f)(l:List ByteArray):qcx (fs.drop k) l=if l.length<=400 then qcx (fs.drop (k+1)) (qqi l f) else l:=by
 obtain⟨b,c⟩:=zA.1 h;rw [zt b,c];rfl
theorem q53 {n:Nat}{r:RuleD}{sh sb v:Value}{fs:List qk}{w:World}(hr:RuleIn n w sh sb r)(hf:FactsIn n w v fs)(hn:n<=w.heap.size)(aW:r.stands.length<=1073741824)(am: ∀f,f∈fs->f.tuple.length<=1073741424):
  Calls prog 7 #[qam r sh sb,v] w fun e w'=>e=.returned (.bool (qgw r fs))/\Keep (fun b=>b<w.heap.size) w w':=by
 obtain⟨N,hN⟩:=ex (w.heap.size);obtain⟨W0,y⟩:=ex (w.alloc (.cells #[.string r.head.pred,sh,sb] 27));have k0:wG w W0:=by rw [←y];exact kAl
 have p0:W0.heap[N]?=some (.cells #[.string r.head.pred,sh,sb] 27 (0,0)):=by rw [←y,←hN];exact qh _ _
 have z0:W0.heap.size=N+1:=by rw [←y,←hN];simp
 have ao:=hr.keep k0.mt;obtain⟨af,cf,rfl,bj,bn,an⟩:=id hf;have x:=fun(many:Nat) (X:World) (hX:RuleIn n X sh sb r) (hnX:n<=X.heap.size) (hm:many<=1000000)=>qxm (w:=X) (many:=many) hX hnX aW hm;unfold qam at x⊢;obtain⟨⟨ah,bb,rfl,a4,a6,R⟩,⟨ab,ba,rfl,aY,aZ,U⟩⟩:=id hr;by_cases ar:400<fs.length
 ·have hv:qgw r fs=true:=by unfold qgw;rw [zI ar]
  have ay:(400:Int)<fs.length:=wC
  refine qm6 ?_ hr hf hN y k0 p0 ao an am x R U hv;clear hr hf hN y k0 p0 ao an am x R U hv;intro aF a3 s aq aL aP aH av au ad ax aC aj
  go_enter Tryz.func7,Tryz.ntmps7
  go_wp2_with fail;go_ret;exact⟨by rw [aj.o];try rfl,kAl⟩
 ·have hv:qgw r fs=(decide (400<(qcx fs []).length) ||qe1 r (qcx fs []).length):=by unfold qgw;rw [zF ar]
  have ay:(fs.length:Int)<=400:=wC
  refine qm6 ?_ hr hf hN y k0 p0 ao an am x R U hv;clear hr hf hN y k0 p0 ao an am x R U hv;intro aF a3 s aq aL aP aH av au ad ax aC aj
  go_enter Tryz.func7,Tryz.ntmps7
  go_wp2_with fail;rw [aq.o,s.o]
  go_loopw [5,6] (fun v5 ix wr=> ∃(k:Nat) (l:List ByteArray),k<=fs.length/\ix=.int .i64 (k:Int)/\Keep (fun b=>b<N+1) W0 wr/\wr.ownsRow (N+1) 9 1 v5 l.length (l.map .string)/\l.length<=1073741824/\qcx fs []=qcx (fs.drop k) l) (fun _ i _=>fs.length-(intOf i).toNat)
  case atStart=>exact⟨0,[],wC,rfl,Keep.refl _ _,zj _ _ _ _,wE,rfl⟩
  case round=>
   obtain⟨k,l,hk,rfl,hK,hO,bu,q⟩:=hrel;have m:=hK.heap aP.o wC;have d0:=qb m 0 _ rfl;have d1:=qb m 1 _ rfl;have d2:=qb m 2 _ rfl;have bf:=qe m;simp only [zD]at d0 d1 d2;have a8:=hK.size;have bg:(0:Int)<=k:=wC
   obtain⟨al,cl,rfl⟩:=qj hO;have kw:Keep (fun b=>b<N) w wr:=aL.o.mt.trans (hK.mono fun b _ h=>wC);have t:(k=fs.length∨400<l.length)->qcx fs []=l:=fun h=>by
    rcases h with rfl |h
    ·rw [q,xq];rfl
    ·rw [q];by_cases a0:k<fs.length
     ·obtain⟨f,aa⟩: ∃f,fs[k]?=some f:=⟨_,zB a0⟩;rw [qmq aa,zF wC]
     ·rw [xn wC];rfl
   by_cases z:400<l.length
   ·have g:qgw r fs=true:=by rw [aj.o,t (.inr z),zS z];rfl
    have a1:(400:Int)<l.length:=wC
    by_cases ak:k<fs.length
    ·have aO:(k:Int)<fs.length:=by omega
     clear t q;refine hd5 ?_ g hK hO kw m;clear g hK hO kw m;intro p ap aw Y ae;go_wp2_with fail;go_ret;exact⟨by rw [p.o];try rfl,by rw [s.o];exact Y.o⟩
    ·obtain rfl:k=fs.length:=by omega
     clear t q ak;refine hd5 ?_ g hK hO kw m;clear g hK hO kw m;intro p ap aw Y ae;go_wp2_with fail;go_ret;exact⟨by rw [p.o];try rfl,by rw [s.o];exact Y.o⟩
   ·have a1:(l.length:Int)<=400:=by omega
    by_cases ak:k<fs.length
    ·have aO:(k:Int)<fs.length:=by omega
     obtain⟨f,aa⟩: ∃f,fs[k]?=some f:=⟨_,zB ak⟩;obtain⟨b,o,rfl,hb,sv,aA,aB⟩:=av.o k f aa;have kn:Keep (fun b=>b<n) w wr:=kw.mono fun b _ h=>by have:=s.o;omega
     have f0:=kn.cell (aA 0 _ rfl) hb;have f1:=kn.cell (aA 1 _ rfl) hb;simp only [Nat.add_zero]at f0;have bk:b<wr.heap.size:=by have:=s.o;omega
     have bt:=au.o f (zH aa);have d:=qum (n:=n) f.pred hO (qan aB kn) (by have:=s.o;omega) wC wC;have az:=qe2 f.tuple l;rw [qmq aa,zI wC]at q;obtain⟨l2,aI⟩:=ex (f.tuple.foldl qr l);unfold qqi at q;rw [aI]at q d az;obtain⟨sa,sc,rfl,bh,-,-⟩:=id aB;clear aA aB aa kn t aI;refine hd6 ?_ q hK hO kw m d;clear q hK hO kw m d;intro aJ ap aw Y ae u;go_wp2_with fail;refine u.o.mono ?_;rintro e W2 ⟨v',rfl,k2,o2⟩;have aS:=ap.o.trans k2;obtain⟨a2,c2,rfl⟩:=qj o2;have aT:l2.length<=1073741824:=wC
     clear k2;refine hd2 ?_ aS o2;clear aS o2;intro aM a5;go_wp2_with fail;go_roundw
     case rel=>exact⟨k+1,l2,wC,by go_num,aM.o,a5.o,aT,aJ.o⟩
     case measure=>simp [intOf];omega
    ·obtain rfl:k=fs.length:=by omega
     have g:qgw r fs=qe1 r l.length:=by rw [aj.o,t (.inl rfl),zM z];rfl
     have d:=ad.o l.length wr (aF.o.keep (kw.mono fun b _ h=>by have:=s.o;omega)) (by have:=s.o;omega) wC;obtain⟨c,hc⟩:=ex (qe1 r l.length);rw [hc]at g d;clear t q ak;refine hd6 ?_ g hK hO kw m d;clear g hK hO kw m d;intro p ap aw Y ae u;go_wp2_with fail;refine u.o.mono ?_;rintro e W2 ⟨rfl,k2⟩;have hE:=Y.o.trans (k2.mono fun b _ h=>wC);clear k2;refine hd1 ?_ hE;clear hE;intro aX;go_wp2_with fail;go_ret;have a7:decide ((400:Int)<l.length)=false:=by simp;omega
     refine⟨?_,by rw [s.o];exact aX.o⟩;rw [p.o];show Ending.returned (Value.bool (decide ((400:Int)<l.length) ||c))=_;rw [a7]
     rfl
end Go.Proofs
