/- Parts of the proof. -/
import Derived.Test.YtnponcjnahicnaaGreatRoBToCmF
import Derived.Laws.Cover1
set_option linter.unusedSimpArgs false
set_option linter.unusedVariables false
set_option maxRecDepth 100000
set_option maxHeartbeats 2000000
open Go.Proofs.Tryz(prog)
open List(nil_append)
namespace Go.Proofs
open Go.RowKit Go.Ink Go.Flt R4 P16
attribute [local go_sem] Oper.semAt_some
theorem qne {m:Nat}{w:World}{a:Option Addr}{c:Nat}{ts:List ByteArray}(h:qac m w (.slice a ts.length c) ts):(∀b,a=some b-> ∀j u,(ts.map Value.string)[j]?=some u->w.cell? (b.add j)=some u)/\(a=none->ts.length=0):=by
 obtain⟨a',z,t,y,R,r⟩:=h;injection t with h1 h2 h3
 subst h1;refine⟨fun b s j u d=>?_,fun h=>?_⟩
 ·rw [zP]at d;cases g:ts[j]? with
  |none=>rw [g] at d;cases d
  |some x=>
   rw [g]at d;cases d;obtain⟨q,o,e,v,p⟩:=r j x g;rw [s]at e;cases e;unfold qgr at p;rw [yB]at p;rw [show((⟨q,o,none⟩:Addr).add j)=⟨q,o+j,none⟩ from by unfold Addr.add;split<;>simp_all];exact p
 ·cases l:ts with
  |nil=>rfl
  |cons x xs=>
   obtain⟨b,o,e,-⟩:=r 0 x (by rw [l];rfl);rw [h]at e;cases e
theorem qnf (ts:List ByteArray): ∀u∈ts.map Value.string,u.oneCell'=true:=fun u b=>by
 obtain⟨x,_,rfl⟩:=yL.1 b;simp [Value.oneCell']
theorem quk {w:World}{m:Nat}{v:Value}{ts:List ByteArray}(h:qac m w v ts)(hm:m<=w.heap.size):Calls prog 71 #[v] w fun e w'=> ∃v',e=.returned v'/\w'.ownsRow w.heap.size 9 1 v' ts.length (ts.map .string)/\wG w w':=by
 obtain⟨a,c,rfl,hl,hc,he⟩:=id h;obtain⟨R,U⟩:=qne h;obtain⟨W0,d⟩:=ex (w.alloc (.cells #[] 9));have q:wG w W0:=by rw [←d];exact kAl
 have t:=qfg w 9 1;rw [d]at t;obtain⟨v',W1,x,ho,z,X⟩:=qhz (P:=prog) qel 46 t a ts.length c (ts.map .string) wE (fun b' r j u Y=>q.cell (R b' r j u Y) wH) U (qnf ts) wC q.size;rw [nil_append,zD]at ho;have l:Keep (fun b=>b<w.heap.size) w W1:=q.mt.trans (X.mono fun b _ h e=>by
  rcases z b e with h1 |h1
  ·simp [Value.ownBlock]at h1;omega
  ·have:=q.size;omega)
 have g:wG w W1:=l.mono fun b r _=>r;rw [←d]at x;obtain⟨a',c',rfl⟩:=qj ho;clear R U z X l q t d he h;refine hd3 ?_ x ho g;clear x ho g;intro s y p
 go_enter Tryz.func71,Tryz.ntmps71
 go_wp2_with (at_builtin;refine qbu (v:=.slice (some ⟨w.heap.size,0,none⟩) 0 0) (u:=.slice a ts.length c) (v':=.slice a' ts.length c') (w':=W1) rfl (.tmp 3) (.tmp 4) 46 rfl rfl rfl s.o ?_);go_ret;exact⟨_,rfl,y.o,p.o⟩
theorem qw1 {w:World}{m:Nat}{v:Value}(p:ByteArray){ts:List ByteArray}(h:qac m w v ts)(hm:m<=w.heap.size):Calls prog 32 #[.agg #[.string p,v]] w fun e w'=> ∃v',e=.returned (.agg #[.string p,v'])/\w'.ownsRow w.heap.size 9 1 v' ts.length (ts.map .string)/\wG w w':=by
 obtain⟨a,c,rfl,hl,hc,he⟩:=id h;obtain⟨N,hN⟩:=ex (w.heap.size);obtain⟨W0,d⟩:=ex ((w.alloc (.cells #[.string p,.slice a ts.length c] 52)).alloc (.cells #[.string ⟨#[]⟩,.slice none 0 0] 52));have k0:wG w W0:=by rw [←d];exact kAl.trans kAl
 have z0:W0.heap.size=N+2:=by rw [←d,←hN];simp
 have p0:W0.heap[N]?=some (.cells #[.string p,.slice a ts.length c] 52 (0,0)):=by rw [←d,←hN];exact(Keep.alloc (fun _=>True) _ _).heap (qh w _) trivial
 have p1:W0.heap[N+1]?=some (.cells #[.string ⟨#[]⟩,.slice none 0 0] 52 (0,0)):=by
  rw [←d,←hN];have:=qh (w.alloc (.cells #[.string p,.slice a ts.length c] 52)) (.cells #[.string ⟨#[]⟩,.slice none 0 0] 52);rw [zO]at this;exact this
 obtain⟨Wd,x⟩:=ex (W0.drew);have z:wG W0 Wd:=by rw [←x];exact kDr
 have hS: ∀X,wG W0 X->X.cell? ⟨N,0,none⟩=some (.string p)/\X.cell? ⟨N,1,none⟩=some (.slice a ts.length c):=fun X hX=>by
  have q:=hX.heap p0 trivial;have q0:=qb q 0 _ rfl;have q1:=qb q 1 _ rfl;simp only [zD]at q0 q1;exact⟨q0,q1⟩
 have aa:=hS Wd z;have ag:=quk (w:=Wd) (qan h ((k0.trans z).mt)) (by have:=(k0.trans z).size;omega);have aM:=z.size;refine qhv ?_ h hN d k0 p0 p1 x z hS aa ag he;clear h hN d k0 p0 p1 x z hS aa ag he;intro Xh y R ao aJ ar ab aq au ad ae aI;refine qbr Tryz.func32 rfl ?_;simp only [Tryz.ntmps32,qd0,Nat.reduceAdd,Nat.reduceSub];gi_wp2;rw [R.o,y.o];refine qae ?_;refine qw rfl (fun X=>X.cell? ⟨N,0,none⟩=some (.string p)/\X.cell? ⟨N,1,none⟩=some (.slice a ts.length c)) [6] ?_;rw [ab.o];refine qy [0,1,2,3] ?_
 iterate 4
  refine tkR (v:=?_) rfl ad.o ?_ ?_;rotate_left
  ·rintro Wq ⟨x1,x2⟩;go_simp
   try with_reducible rfl
  try simp only [qz]
 refine qm ?_;refine hoR 4 rfl fun K s=>?_;gi_wp2;refine⟨wH,rfl,(zU.2 ae.o).mono ?_⟩;rintro e W1 ⟨v',rfl,o1,k1⟩;obtain⟨a1,c1,rfl⟩:=qj o1;have g:wG W0 W1:=aq.o.trans k1;have ah:=au.o W1 g;have u:=g.heap ar.o trivial;have d0:=qb u 0 _ rfl;have d1:=qb u 1 _ rfl;have f0:=qg u 0;have f1:=qg u 1;have l1:=qe u;simp only [zD]at d0 d1;have kS:Keep (fun b=>b≠N+1) W1 ((W1.setCell ⟨N+1,0,none⟩ (.string p)).setCell ⟨N+1,1,none⟩ (.slice a1 ts.length c1)):=(kSc).trans (kSc);have Y:=qag 1 (.slice a1 ts.length c1) (qag 0 (.string p) u);obtain⟨W2,t⟩:=ex ((W1.setCell ⟨N+1,0,none⟩ (.string p)).setCell ⟨N+1,1,none⟩ (.slice a1 ts.length c1));rw [t]at kS Y;have e0:=qb Y 0 _ rfl;have e1:=qb Y 1 _ rfl;have l2:=qe Y;simp only [zD]at e0 e1;have o2:=qf o1 kS (fun b hb=>by have:=(zE o1 b hb).1;omega);have k2:wG w W2:=((ao.o.trans g).mt).trans (kS.mono fun b _ (h:b<N)=>wC) |>.mono fun b hb _=>by have:=y.o;omega
 clear k1 g u Y kS o1;refine hd4 ?_ ah t o2 k2;clear ah t o2 k2;intro l U aw ap;gi_wp2;refine s.o _ _ (fun _=>l.o) ?_;refine qy [5] ?_
 iterate 1
  refine tkR (v:=?_) rfl l.o ?_ ?_;rotate_left
  ·rintro Wq ⟨x1,x2⟩;go_simp
   try with_reducible rfl
  try simp only [qz]
 refine qm ?_;refine hoR 6 rfl fun K r=>?_;gi_wp2;rw [U.o];refine r.o _ _ (fun h=>absurd h wF) ?_;refine ql wD (qo ?_);clear s r;gi_wp2;refine yA (v:=.agg #[.string p,.slice a1 ts.length c1]) (by simp [results,Tryz.results32,go_sem,e0,e1,l2]) rfl ⟨_,rfl,aw.o.mono (by have:=y.o;omega),ap.o⟩
def q6m (n:Nat)(w:World)(b o:Nat)(f:qk):Prop:= ∃sv,CellsE w b o [.string f.pred,sv]/\qac n w sv f.tuple
abbrev FactsIn (n:Nat)(w:World)(v:Value)(fs:List qk):Prop:=SliceIn n w 2 (q6m n) v fs
theorem FactsIn.keep {n:Nat}{w w':World}{v:Value}{fs:List qk}(h:FactsIn n w v fs)(hK:Keep (fun k=>k<n) w w'):FactsIn n w' v fs:=
 h.mono fun b o s hb ⟨sv,h1,h2⟩=>⟨sv,fun j v c=>hK.cell (h1 j v c) hb,qan h2 hK⟩
theorem qql {fs:List qk}{k:Nat}{f:qk}(h:fs[k]?=some f):qbw okF (fs.take (k+1))=qed okF (qbw okF (fs.take k)) f:=by
 unfold qbw;rw [zh,h,yn]
 rfl
theorem qh6 (fs:List qk):(qbw okF fs).length<=fs.length:=by
 have:=q1y okF fs [];unfold qbw
 simpa using this
theorem qj7 (fs:List qk): ∀x,x∈qbw okF fs->okF x=true:=by
 have b: ∀(l:List qk) (c:List qk),(∀x,x∈c->okF x=true)-> ∀x,x∈l.foldl (qed okF) c->okF x=true:=by
  intro l
  induction l with
  |nil=>intro c h;exact h
  |cons f l ih=>intro c h;exact ih _ (q68 h f)
 exact b fs [] (fun x h=>by cases h)
theorem qg4 {n0:Nat}{g:Gh}{w:World}(hg:GInv g w){n:Nat}{v:Value}{fs:List qk}(hf:FactsIn n w v fs)(hn:n<=w.heap.size)(an: ∀b,b<n->g.free b)(ax: ∀f,f∈fs->f.pred.size<=1073741824)(aS:fs.length<67108864):
  Calls prog 12 #[v] w fun e w'=> ∃S g',e=.returned (qi S)/\GStep n0 g w g' w'/\g'.st=g.with S (qbw okF fs)/\g'.held=g.held/\w.heap.size<=S:=by
 obtain⟨a,c,rfl,hl,hc,he⟩:=id hf;have z:=q32 (n0:=n0) hg;refine hd6 ?_ hg hf an ax he z;clear hg hf an ax he z;intro aW a7 ar az aK ab
 go_enter Tryz.func12,Tryz.ntmps12
 go_wp2_with fail;refine ab.o.mono ?_;rintro e W1 ⟨S,g1,rfl,aB,R,au,hS⟩;refine hd3 ?_ aB R au;clear aB R au;intro aj aa av;go_wp2_with fail
 go_loopw [4] (fun i' X=> ∃(k:Nat) (g':Gh),k<=fs.length/\i'=.int .i64 (k:Int)/\GStep n0 g w g' X/\g'.st=g.with S (qbw okF (fs.take k))/\g'.held=g.held) (fun i _=>fs.length-(intOf i).toNat)
 case atStart=>exact⟨0,g1,wC,rfl,aj.o,aa.o,av.o⟩
 case round=>
  obtain⟨k,g',hk,rfl,m,p,t⟩:=hrel;have a0:=m.keep.size;by_cases al:k<fs.length
  ·have aR:(k:Int)<fs.length:=by omega
   have aX:(0:Int)<=k:=wC
   obtain⟨f,u⟩: ∃f,fs[k]?=some f:=⟨_,zB al⟩;obtain⟨b,o,rfl,hb,sv,af,ag⟩:=aK.o k f u;have kn:Keep (fun b=>b<n) w wr:=m.keep.mono fun b _ h=>ar.o b h;have d0:=kn.cell (af 0 _ rfl) hb;have d1:=kn.cell (af 1 _ rfl) hb;have a1:b<wr.heap.size:=wC
   have U:=qan ag kn;obtain⟨sa,sc,rfl,aY,-,-⟩:=id ag;have ak:=qw1 f.pred U wC;have ap:=qql u;have aH:=qh6 (fs.take k);rw [yC]at aH;have aI:=az.o f (zH u);simp only [Nat.add_zero]at d0;clear af ag U kn u;refine hd5 ?_ m p t ak ap;clear m p t ak ap;intro d l r am ao;go_wp2_with fail;refine am.o.mono ?_;rintro e W2 ⟨v',rfl,o2,k2⟩;obtain⟨a2,c2,rfl⟩:=qj o2;have ay:=d.o.inv.keep k2.mt;have aC:g'.st S=some (qbw okF (fs.take k)):=by rw [l.o];unfold Gh.with;simp
   have s: ∀a' n' c',Value.slice a2 f.tuple.length c2=.slice (some a') n' c'->g'.tag a'.block=none:=fun a' n' c' e=>by
    injection e with e1 e2 e3
    subst e1;have h1:=(zE o2 a'.block (by simp [Value.ownBlock])).1;cases ht:g'.tag a'.block with
    |none=>rfl
    |some T=>have:=d.o.inv.lt _ _ ht;omega
   have Y:=q34 (n0:=n0) ay aC f W2.heap.size _ (qbq o2 wC) (zG _) aI wC s;have aq:wG wr W2:=k2;clear k2 o2 aC s ay;refine hd2 ?_ Y aq;clear Y aq;intro ah aD;go_wp2_with fail;refine ah.o.mono ?_;rintro e W3 ⟨g2,rfl,ad,q,aA⟩;have x:GStep n0 g w g2 W3:=(d.o.trans (GStep.own d.o.inv aD.o)).trans ad;have y:g2.st=g.with S (qbw okF (fs.take (k+1))):=by
    rw [q,ao.o]
    funext b
    have h:=congrFun l.o b;unfold Gh.with at h⊢;by_cases hb:b=S<;>simp_all
   refine hd5 ?_ x y aA ad q;clear x y aA ad q;intro ai ae aw aQ aN;go_wp2_with fail;go_roundw
   case rel=>exact⟨k+1,g2,wC,by go_num,ai.o,ae.o,aw.o.trans r.o⟩
   case measure=>simp [intOf];omega
  ·obtain rfl:k=fs.length:=by omega
   rw [zi]at p;clear al;refine hd3 ?_ m p t;clear m p t;intro d l r;go_wp2_with fail;go_ret;exact⟨S,g',rfl,d.o,l.o,r.o,hS⟩
theorem qji (n:Nat)(va vb:Value)(xs d:List ByteArray)(w:World)(ha:qac n w va xs)(hb:qac n w vb d)(hn:n<=w.heap.size):
  Calls prog 39 #[va,vb] w fun e w'=>e=.returned (.bool (decide (xs=d)))/\ ∃m,w'=w.drewN m:=by
 obtain⟨aa,ca,rfl,av,ax,ad⟩:=id ha;obtain⟨ab,cb,rfl,aH,aw,Y⟩:=id hb;refine hd4 ?_ ha hb ad Y;clear ha hb ad Y;intro aE aG U af
 go_enter Tryz.func39,Tryz.ntmps39
 by_cases hl:xs.length=d.length
 ·have z:((xs.length:Int) !=d.length)=false:=by simp [hl]
  refine hd1 ?_ hl;clear hl;intro am;go_wp2_with fail
  go_loopw [5] (fun i wr=> ∃k:Nat,k<=xs.length/\i=.int .i64 (k:Int)/\(∃m,wr=w.drewN m)/\ ∀j,j<k->xs[j]?=d[j]?) (fun i _=>xs.length-(intOf i).toNat)
  case atStart=>exact⟨0,wC,rfl,⟨0,rfl⟩,fun j h=>wC⟩
  case round=>
   obtain⟨k,hk,rfl,hM,b⟩:=hrel;have hK:wG w wr:=by obtain⟨m,rfl⟩:=hM;exact Keep.drewN' _ _ _
   have s:=zg hM;clear hM;have an:=am.o;by_cases ak:k<xs.length
   ·obtain⟨x,hx⟩: ∃x,xs[k]?=some x:=⟨_,zB ak⟩;obtain⟨y,R⟩: ∃y,d[k]?=some y:=⟨_,zB wC⟩;obtain⟨ba,oa,rfl,aI,t⟩:=U.o k x hx;obtain⟨bb,ob,rfl,ay,v⟩:=af.o k y R;have f1:=hK.cell t trivial;have f2:=hK.cell v trivial;simp only [yB]at f1 f2;have hs:=hK.size;have aA:ba<wr.heap.size:=by omega
    have aJ:bb<wr.heap.size:=wC
    have ao:(k:Int)<xs.length:=wC
    have au:(k:Int)<d.length:=wC
    have aC:(0:Int)<=k:=wC
    by_cases c:x=y
    ·have ai:(x.toList==y.toList)=true:=qdv c;have l: ∀j,j<k+1->xs[j]?=d[j]?:=fun j hj=>by
      rcases Nat.lt_succ_iff_lt_or_eq.1 hj with h |rfl
      ·exact b j h
      ·rw [hx,R,c]
     clear b hx R c t v z;refine hd2 ?_ l hK;clear l hK;intro q X;go_wp2_with fail
     go_quiet (fail)
     go_wp2_with fail;go_roundw
     case rel=>exact⟨k+1,wC,by go_num,(by obtain⟨m,h⟩:=s.o;rw [h,World.drewN_drewN];exact⟨_,rfl⟩),q.o⟩
     case measure=>simp [intOf];omega
    ·have ai:(x.toList==y.toList)=false:=qc1 c;have p:decide (xs=d)=false:=by
      simp only [yR];intro e;subst e;rw [hx] at R;cases R;exact c rfl
     clear b hx R c t v z;refine hd2 ?_ p hK;clear p hK;intro g X;go_wp2_with fail
     go_quiet (fail)
     go_wp2_with fail;go_ret;exact⟨by rw [g.o];try rfl,(by obtain⟨m,h⟩:=s.o;rw [h,World.drewN_drewN];exact⟨_,rfl⟩)⟩
   ·have r:decide (xs=d)=true:=by
     simp only [zT];exact q9d an fun j hj=>b j wC
    clear b;refine hd2 ?_ r hK;clear r hK;intro u X;go_wp2_with fail;go_ret;exact⟨by rw [u.o];try rfl,s.o⟩
 ·have z:((xs.length:Int) !=d.length)=true:=by simp;omega
  have p:decide (xs=d)=false:=by
   simp only [yR];intro e;exact hl (by rw [e])
  clear hl;refine hd1 ?_ p;clear p;intro g;go_wp2_with fail;go_ret;exact⟨by rw [g.o];try rfl,⟨0,rfl⟩⟩
theorem q7e (e:Int)(w:World):Calls prog 11 #[.int .i64 e] w fun x w'=>x=.returned (.int .i64 e)/\w'=w:=by
 go_enter Tryz.func11,Tryz.ntmps11
 go_wp2;go_ret;exact⟨wE,rfl⟩
theorem qya: ∀(x y:List UInt8),Op.bytesLess x y=ltL (x.map UInt8.toNat) (y.map UInt8.toNat)
 | [],[]=>rfl
 |_::_,[]=>rfl
 | [],_::_=>rfl
 |a::x,b::y=>by
  rw [Op.bytesLess,qya x y,yZ,yZ,ltL];have h1:(a<b)↔a.toNat<b.toNat:=UInt8.lt_iff_toNat_lt;by_cases h:a.toNat<b.toNat
  ·rw [zI h];simp [h1.2 h]
  ·rw [zF h];have d:decide (a<b)=false:=by simpa using fun e=>h (h1.1 e)
   rw [d,xJ];by_cases c:b.toNat<a.toNat
   ·rw [zI c];have:a≠b:=fun e=>by subst e;omega
    simp [this]
   ·rw [zF c];have:a=b:=UInt8.toNat_inj.1 wC;simp [this]
theorem qsl (a b:ByteArray):Op.bytesLess a.toList b.toList=ltS a b:=by
 rw [qya,ByteArray.toList_eq,ByteArray.toList_eq]
 rfl
theorem q18 (a b:ByteArray):(!(Op.bytesLess a.toList b.toList ||a.toList==b.toList))=ltS b a:=by
 rw [qsl];by_cases h:a=b
 ·rw [qdv h,h,qlv];rfl
 ·rw [qc1 h,Bool.or_false];cases c:ltS a b with
  |true=>rw [qsf c];rfl
  |false=>
   cases d:ltS b a with
   |true=>rfl
   |false=>exact absurd (qi8 c d) h
def ql1 (a b:ByteArray):Int:=if ltS a b=true then-1 else if ltS b a=true then 1 else 0
theorem qul (a b:ByteArray)(w:World):Calls prog 136 #[.string a,.string b] w fun x w'=>x=.returned (.int .i64 (ql1 a b))/\w'=w:=by
 have h:=qsl a b;have g:=q18 a b;unfold ql1;cases c:ltS a b with
 |true=>
  rw [c]at h;clear g c;rw [zI rfl]
  go_enter Tryz.func136,Tryz.ntmps136
  go_wp2;go_ret;exact⟨rfl,rfl⟩
 |false=>
  rw [c]at h;rw [zF wE];cases d:ltS b a with
  |true=>
   have l:(a.toList==b.toList)=false:=qc1 fun e=>by subst e;rw [qlv] at d;cases d
   clear g c d;rw [zI rfl]
   go_enter Tryz.func136,Tryz.ntmps136
   go_wp2;go_ret;exact⟨rfl,rfl⟩
  |false=>
   have l:(a.toList==b.toList)=true:=qdv (qi8 c d);clear g c d;rw [zF wE]
   go_enter Tryz.func136,Tryz.ntmps136
   go_wp2;go_ret;exact⟨rfl,rfl⟩
theorem qng (n:Nat)(X:Value)(xs:List ByteArray)(x:ByteArray)(w:World)(z:qac n w X xs)(hn:n<=w.heap.size):
  Calls prog 72 #[X,.string x] w fun e w'=> ∃i:Int,e=.returned (.int .i64 i)/\w'=w/\ -1<=i/\i<=1073741824/\(i<0↔x∉xs):=by
 obtain⟨aa,ca,rfl,Y,ab,r⟩:=id z;refine hd2 ?_ z r;clear z r;intro af p
 go_enter Tryz.func72,Tryz.ntmps72
 go_wp2_with fail
 go_loopw [5] (fun i wr=> ∃k:Nat,k<=xs.length/\i=.int .i64 (k:Int)/\wr=w/\x∉xs.take k) (fun i _=>xs.length-(intOf i).toNat)
 case atStart=>exact⟨0,wC,rfl,rfl,wE⟩
 case round=>
  obtain⟨k,hk,rfl,rfl,b⟩:=hrel;by_cases s:k<xs.length
  ·obtain⟨y,t⟩: ∃x,xs[k]?=some x:=⟨_,zB s⟩;obtain⟨U,oa,rfl,ah,l⟩:=p.o k y t;have f1:wr.cell? ⟨U,oa+k*1,none⟩=some (.string y):=l;simp only [yB]at f1;have ai:U<wr.heap.size:=by omega
   have R:(k:Int)<xs.length:=wC
   have ae:(0:Int)<=k:=wC
   by_cases c:y=x
   ·have v:(y.toList==x.toList)=true:=qdv c;have q:x∈xs:=c▸zH t;clear b t c l;refine hd1 ?_ q;clear q;intro u;go_wp2_with fail;go_ret;exact⟨_,rfl,rfl,wC,wC,⟨fun h=>wC,fun h=>absurd u.o h⟩⟩
   ·have v:(y.toList==x.toList)=false:=qc1 c;have d:x∉xs.take (k+1):=by
     rw [zh,t];simp only [Option.toList_some,zr,zm,not_or];exact⟨b,fun e=>c e.symm⟩
    clear b t c l;refine hd1 ?_ d;clear d;intro g;go_wp2_with fail;go_roundw
    case rel=>exact⟨k+1,wC,by go_num,wH,g.o⟩
    case measure=>simp [intOf];omega
  ·obtain rfl:k=xs.length:=by omega
   rw [zi]at b;clear s;refine hd1 ?_ b;clear b;intro m;go_wp2_with fail;go_ret;exact⟨-1,rfl,rfl,wC,wC,⟨fun _=>m.o,fun _=>wC⟩⟩
def qgs (a b:List ByteArray):Int:=if ltR a b=true then-1 else if ltR b a=true then 1 else 0
theorem q19 (x y:ByteArray)(xs c:List ByteArray):qgs (x::xs) (y::c)=if ql1 x y=0 then qgs xs c else ql1 x y:=by
 unfold qgs ql1;simp only [ltR];by_cases b:ltS x y=true
 ·simp [b,qsf b]
 ·by_cases d:ltS y x=true
  ·simp [b,d]
  ·simp [b,d]
theorem q2a {xs b:List ByteArray}{k:Nat}{x y:ByteArray}(c:xs[k]?=some x)(d:b[k]?=some y):qgs (xs.drop k) (b.drop k)=if ql1 x y=0 then qgs (xs.drop (k+1)) (b.drop (k+1)) else ql1 x y:=by
 obtain⟨e,g⟩:=zA.1 c;obtain⟨l,h⟩:=zA.1 d;rw [zt e,zt l,g,h,q19]
theorem q5e {xs b:List ByteArray}{k:Nat}(c:k<=xs.length)(d:k<=b.length)(h:k=xs.length∨k=b.length):qgs (xs.drop k) (b.drop k)=if xs.length<b.length then-1 else if b.length<xs.length then 1 else 0:=by
 rcases h with rfl |rfl
 ·rw [xq];by_cases h:xs.length<b.length
  ·rw [zI h,zt h];rfl
  ·rw [zF h,zF wC,xn wC];rfl
 ·rw [xq];by_cases h:b.length<xs.length
  ·rw [zF wC,zI h,zt h];rfl
  ·rw [zF wC,zF h,xn wC];rfl
theorem qqm (n:Nat)(va vb:Value)(xs p:List ByteArray)(w:World)(ha:qac n w va xs)(hb:qac n w vb p)(hn:n<=w.heap.size):
  Calls prog 101 #[va,vb] w fun e w'=>e=.returned (.int .i64 (qgs xs p))/\ ∃m,w'=w.drewN m:=by
 obtain⟨aa,ca,rfl,au,aw,af⟩:=id ha;obtain⟨ab,cb,rfl,aI,av,ae⟩:=id hb;refine hd4 ?_ ha hb af ae;clear ha hb af ae;intro aE aH ad ag
 go_enter Tryz.func101,Tryz.ntmps101
 go_wp2_with fail
 go_loopw [5] (fun i wr=> ∃k:Nat,k<=xs.length/\k<=p.length/\i=.int .i64 (k:Int)/\(∃m,wr=w.drewN m)/\qgs xs p=qgs (xs.drop k) (p.drop k)) (fun i _=>xs.length-(intOf i).toNat)
 case atStart=>exact⟨0,wC,wC,rfl,⟨0,rfl⟩,rfl⟩
 case round=>
  obtain⟨k,hk,al,rfl,hM,b⟩:=hrel;have hK:wG w wr:=by obtain⟨m,rfl⟩:=hM;exact Keep.drewN' _ _ _
  have t:=zg hM;clear hM;have aC:(0:Int)<=k:=wC
  have g:(k=xs.length∨k=p.length)->qgs xs p=if xs.length<p.length then-1 else if p.length<xs.length then 1 else 0:=fun h=>b.trans (q5e hk al h)
  by_cases R:k<xs.length
  ·have ao:(k:Int)<xs.length:=by omega
   by_cases U:k<p.length
   ·have u:(k:Int)<p.length:=by omega
    obtain⟨x,hx⟩: ∃x,xs[k]?=some x:=⟨_,zB R⟩;obtain⟨y,hy⟩: ∃y,p[k]?=some y:=⟨_,zB U⟩;obtain⟨ba,oa,rfl,aJ,X⟩:=ad.o k x hx;obtain⟨bb,ob,rfl,ax,Y⟩:=ag.o k y hy;have f1:=hK.cell X trivial;have f2:=hK.cell Y trivial;simp only [yB]at f1 f2;have hs:=hK.size;have aA:ba<wr.heap.size:=wC
    have aK:bb<wr.heap.size:=wC
    rw [q2a hx hy]at b;have d:=fun w=>qul x y w;by_cases q:ql1 x y=0
    ·rw [zI q]at b;rw [q]at d;clear hx hy q X Y g;refine hd3 ?_ b hK d;clear b hK d;intro r z l;go_wp2_with fail
     go_quiet ((go_at_call 136;exact Calls.quiet_of_same (l.o _)))
     go_wp2_with fail;go_roundw
     case rel=>exact⟨k+1,wC,wC,by go_num,(by obtain⟨m,h⟩:=t.o;rw [h,World.drewN_drewN];exact⟨_,rfl⟩),r.o⟩
     case measure=>simp [intOf];omega
    ·rw [zF q]at b;obtain⟨c,hc⟩:=ex (ql1 x y);rw [hc]at b d q;have az:(c !=0)=true:=by simpa using q
     clear hx hy q X Y g hc;refine hd3 ?_ b hK d;clear b hK d;intro r z l;go_wp2_with fail
     go_quiet ((go_at_call 136;exact Calls.quiet_of_same (l.o _)))
     go_wp2_with fail;go_ret;exact⟨by rw [r.o];try rfl,(by obtain⟨m,h⟩:=t.o;rw [h,World.drewN_drewN];exact⟨_,rfl⟩)⟩
   ·have v:=g (.inr wC);rw [zF wC,zI wC]at v;have u:(p.length:Int)<xs.length:=by omega
    obtain rfl:k=p.length:=wC
    clear b g R U;refine hd2 ?_ v hK;clear v hK;intro s z;go_wp2_with fail;go_ret;exact⟨by rw [s.o];try rfl,t.o⟩
  ·have v:=g (.inl wC);obtain rfl:k=xs.length:=by omega
   by_cases h1:xs.length<p.length
   ·rw [zI h1]at v;have u:(xs.length:Int)<p.length:=by omega
    clear b g R h1;refine hd2 ?_ v hK;clear v hK;intro s z;go_wp2_with fail;go_ret;exact⟨by rw [s.o];try rfl,t.o⟩
   ·rw [zF h1,zF wC]at v;have u:(xs.length:Int)=p.length:=by omega
    clear b g R h1;refine hd2 ?_ v hK;clear v hK;intro s z;go_wp2_with fail;go_ret;exact⟨by rw [s.o];try rfl,t.o⟩
theorem q2b {ts l:List ByteArray}{k:Nat}{t:ByteArray}(h:ts[k]?=some t):(ts.take (k+1)).foldl qr l=qr ((ts.take k).foldl qr l) t:=by
 rw [zh,h,yn];rfl
theorem qd4 {w:World}{base:Nat}{e:TypeId}{sz:Nat}{v:Value}{n:Nat}{xs:List Value}(h:w.ownsRow base e sz v n xs){b:Nat}(d:b<base):some b≠v.ownBlock:=fun c=>by
 have:=(zE h b c.symm).1;omega
theorem qum {w:World}{base:Nat}{v vf:Value}{l ts:List ByteArray}{n:Nat}(p:ByteArray)(ho:w.ownsRow base 9 1 v l.length (l.map .string))(hf:qac n w vf ts)(hn:n<=base)(hb:base<=w.heap.size)(hl:l.length+ts.length<=1073741824):
  Calls prog 36 #[v,.agg #[.string p,vf]] w fun e w'=> ∃v',e=.returned v'/\Keep (fun b=>b<base) w w'/\w'.ownsRow base 9 1 v' (ts.foldl qr l).length ((ts.foldl qr l).map .string):=by
 obtain⟨af,cf,rfl,a3,a7,am⟩:=id hf;obtain⟨N,hN⟩:=ex (w.heap.size);obtain⟨W0,r⟩:=ex (w.alloc (.cells #[.string p,.slice af ts.length cf] 52));have k0:wG w W0:=by rw [←r];exact kAl
 have p0:W0.heap[N]?=some (.cells #[.string p,.slice af ts.length cf] 52 (0,0)):=by rw [←r,←hN];exact qh _ _
 have z0:W0.heap.size=N+1:=by rw [←r,←hN];simp
 have o0:=qf ho k0 (fun _ _=>wH);have g0: ∀g,v.ownBlock=some g->g≠N:=fun g h=>by have:=(zE ho g h).2;omega
 have an:=qan hf k0.mt;have aN:=qe2 ts l;refine qdz ?_ ho hf am hN r k0 p0 o0 g0 an;clear ho hf am hN r k0 p0 o0 g0 an;intro bc ba aq u ad ah aI aC aG aS
 go_enter Tryz.func36,Tryz.ntmps36
 go_wp2_with fail;rw [ad.o,u.o]
 go_loopw [0,5] (fun v0 ix wr=> ∃k:Nat,k<=ts.length/\ix=.int .i64 (k:Int)/\Keep (fun b=>b<base∨b=N) W0 wr/\(∀g,v0.ownBlock=some g->g≠N)/\wr.ownsRow base 9 1 v0 ((ts.take k).foldl qr l).length (((ts.take k).foldl qr l).map .string)) (fun _ i _=>ts.length-(intOf i).toNat)
 case atStart=>exact⟨0,wC,rfl,Keep.refl _ _,aG.o,aC.o⟩
 case round=>
  obtain⟨k,hk,rfl,hK,hg,Y⟩:=hrel;have m:=hK.heap aI.o (.inr rfl);have d0:=qb m 0 _ rfl;have d1:=qb m 1 _ rfl;have a0:=qe m;simp only [zD]at d0 d1;have aO:=hK.size;by_cases aD:k<ts.length
  ·obtain⟨x,hx⟩: ∃x,ts[k]?=some x:=⟨_,zB aD⟩;obtain⟨b,off,rfl,a6,he⟩:=aq.o k x hx;have f0:=hK.cell (ah.o.cell he wH) (show b<base∨b=N from .inl wC);simp only [yB]at f0;have a4:b<wr.heap.size:=by have:=u.o;omega
   have aV:(k:Int)<ts.length:=wC
   have a1:(0:Int)<=k:=wC
   have U:=q2b (l:=l) hx;have av:=qe2 (ts.take k) l;rw [yC]at av;have hS:=qbq Y wC;obtain⟨ss,ap⟩:=ex ((ts.take k).foldl qr l);rw [ap]at Y U av hS;clear ap hx he;refine hd6 ?_ hK Y U hS hg m;clear hK Y U hS hg m;intro aa q y aJ s au;go_wp2_with fail;refine(qng wr.heap.size _ ss x _ aJ.o (zG _)).mono ?_;rintro e W1 ⟨i,rfl,aA,a8,a9,t⟩;subst aA;by_cases R:i<0
   ·have c:=t.1 R;have d:(ts.take (k+1)).foldl qr l=ss++ [x]:=y.o.trans (zF c);obtain⟨v',W2,ae,ag,al,g2,z,aL,ai,aB⟩:=qc8 qel 46 q.o [.string x] rfl (by simp [Value.oneCell']) wC (by have:=u.o;omega);subst aL;have kW:=aa.o.trans (al.mono fun b _ (h:b<base∨b=N)=>by
     rcases h with h |rfl
     ·exact qd4 q.o h
     ·exact fun e=>s.o _ e.symm rfl)
    have ar:W2.ownsRow base 9 1 (.slice (some ⟨g2,0,none⟩) (ss.length+1) z) ((ts.take (k+1)).foldl qr l).length (((ts.take (k+1)).foldl qr l).map .string):=by
     rw [d]
     simpa using ag
    have aj: ∀g,(Value.slice (some ⟨g2,0,none⟩) (ss.length+1) z).ownBlock=some g->g≠N:=fun g h=>by
     simp [Value.ownBlock]at h;rcases ai with h2 |h2
     ·rw [←h];exact s.o _ h2
     ·have:=u.o;omega
    clear t c d ag al ai aB;refine hd4 ?_ ae kW ar aj;clear ae kW ar aj;intro ao aH ak ab;go_wp2_with (at_builtin;refine qbu rfl _ _ _ rfl rfl rfl ao.o ?_);go_roundw
    case rel=>exact⟨k+1,wC,by go_num,aH.o,ab.o,ak.o⟩
    case measure=>simp [intOf];omega
   ·have c:x∈ss:=by
     by_cases h:x∈ss
     ·exact h
     ·exact absurd (t.2 h) R
    have d:(ts.take (k+1)).foldl qr l=ss:=y.o.trans (zI c);clear t c;refine hd1 ?_ d;clear d;intro X;go_wp2_with fail;go_roundw
    case rel=>exact⟨k+1,wC,by go_num,aa.o,s.o,by rw [X.o];exact q.o⟩
    case measure=>simp [intOf];omega
  ·obtain rfl:k=ts.length:=by omega
   rw [zi]at Y;have hE:Keep (fun b=>b<base) w wr:=ah.o.mt.trans (hK.mono fun b _ h=>.inl h);refine hd5 ?_ hK Y hg m hE;clear hK Y hg m hE;intro aa q s au aF;go_wp2_with fail;go_ret;exact⟨_,rfl,aF.o,q.o⟩
def qas (body:List LitD):List qcn:=(body.filter fun L=>L.kind==1).map (·.atom)
theorem qnh {body:List LitD}{k:Nat}{L:LitD}(h:body[k]?=some L)(b:(L.kind==1)=true):qas (body.take (k+1))=qas (body.take k)++ [L.atom]:=by
 unfold qas;rw [zh,h,yV,zn];simp [b]
theorem qov {body:List LitD}{k:Nat}{L:LitD}(h:body[k]?=some L)(b:(L.kind==1)=false):qas (body.take (k+1))=qas (body.take k):=by
 unfold qas;rw [zh,h,yV,zn];simp [b]
theorem qni (body:List LitD):(qas body).length<=body.length:=by
 unfold qas;rw [zL];exact yf _ _
def qee (p:qcn×Value):List Value:= [.string p.1.pred,p.2]
theorem q5f:qcj prog 99 24 2 40:=qc2 (z:=.agg #[.string ⟨#[]⟩,.slice none 0 0]) wD wD rfl wF wF
theorem qjj {n:Nat}{r:RuleD}{sh sb:Value}{w:World}(hr:RuleIn n w sh sb r)(hn:n<=w.heap.size):
  Calls prog 45 #[qam r sh sb] w fun e w'=> ∃(v:Value) (ps:List (qcn×Value)),e=.returned v/\Keep (fun b=>b<w.heap.size) w w'/\ps.map (·.1)=qas r.body/\(∀p,p∈ps->qai n w' p.2 p.1.args)/\w'.ownsRow w.heap.size 24 2 v ps.length (ps.flatMap qee):=by
 obtain⟨⟨ah,X,rfl,aP,aQ,Y⟩,⟨ab,U,rfl,aG,aH,aa⟩⟩:=id hr;unfold qam;obtain⟨N,hN⟩:=ex (w.heap.size);obtain⟨W0,s⟩:=ex (w.alloc (.cells #[.string r.head.pred,.slice ah r.head.args.length X,.slice ab r.body.length U] 27));have k0:wG w W0:=by rw [←s];exact kAl
 have p0:W0.heap[N]?=some (.cells #[.string r.head.pred,.slice ah r.head.args.length X,.slice ab r.body.length U] 27 (0,0)):=by rw [←s,←hN];exact qh _ _
 have z0:W0.heap.size=N+1:=by rw [←s,←hN];simp
 refine hd7 ?_ hr Y aa hN s k0 p0;clear hr Y aa hN s k0 p0;intro a0 aD aj m an au aL
 go_enter Tryz.func45,Tryz.ntmps45
 go_wp2_with fail;rw [an.o,m.o]
 go_loopw [3,4] (fun v3 ix wr=> ∃(k:Nat) (ps:List (qcn×Value)),k<=r.body.length/\ix=.int .i64 (k:Int)/\Keep (fun b=>b<N+1) W0 wr/\ps.map (·.1)=qas (r.body.take k)/\(∀p,p∈ps->qai n wr p.2 p.1.args)/\wr.ownsRow (N+1) 24 2 v3 ps.length (ps.flatMap qee)) (fun _ i _=>r.body.length-(intOf i).toNat)
 case atStart=>exact⟨0,[],wC,rfl,Keep.refl _ _,rfl,fun p h=>(by cases h),zj _ _ _ _⟩
 case round=>
  obtain⟨k,ps,hk,rfl,hK,g,hT,z⟩:=hrel;have c:=hK.heap aL.o wC;have d0:=qb c 0 _ rfl;have d1:=qb c 1 _ rfl;have d2:=qb c 2 _ rfl;have a3:=qe c;simp only [zD]at d0 d1 d2;have aT:=hK.size;by_cases aq:k<r.body.length
  ·obtain⟨L,hL⟩: ∃L,r.body[k]?=some L:=⟨_,zB aq⟩;obtain⟨b,off,rfl,hb,sa,q,ag⟩:=aj.o k L hL;have kw:Keep (fun b=>b<n) w wr:=au.o.mt.trans (hK.mono fun b _ h=>by have:=m.o;omega);have f0:=kw.cell (q 0 _ rfl) hb;have f1:=kw.cell (q 1 _ rfl) hb;have f2:=kw.cell (q 2 _ rfl) hb;have R:=qak ag kw;have a7:b<wr.heap.size:=by have:=m.o;omega
   have aW:(k:Int)<r.body.length:=wC
   have a4:(0:Int)<=k:=wC
   simp only [Nat.add_zero]at f0;have bh:ps.length<=k:=by
    have h1:=yO List.length g;rw [zL]at h1;have h2:=qni (r.body.take k);rw [yC]at h2;omega
   cases t:(L.kind==1) with
   |false=>
    have d:=g.trans (qov hL t).symm;clear g hL q ag R kw;refine hd5 ?_ hK z hT d c;clear hK z hT d c;intro ai y al l ad;go_wp2_with fail;go_roundw
    case rel=>exact⟨k+1,ps,wC,by go_num,ai.o,l.o,al.o,y.o⟩
    case measure=>simp [intOf];omega
   |true=>
    have d:(ps++ [(L.atom,sa)]).map (·.1)=qas (r.body.take (k+1)):=by rw [zn,g,qnh hL t];rfl
    obtain⟨x,u,rfl,a5,ba,aJ⟩:=id R;obtain⟨v',W2,ae,ap,af,g2,ax,aN,aE,aC⟩:=qc8 q5f 99 z (qee (L.atom,.slice x L.atom.args.length u)) rfl (by simp [qee,Value.oneCell']) wC wC;subst aN;have kW:=hK.trans (af.mono fun b _ h=>qd4 z h);have aA:W2.ownsRow (N+1) 24 2 (.slice (some ⟨g2,0,none⟩) (ps.length+1) ax) (ps++ [(L.atom,Value.slice x L.atom.args.length u)]).length ((ps++ [(L.atom,Value.slice x L.atom.args.length u)]).flatMap qee):=by
     simpa using ap
    have ak:Keep (fun b=>b<n) wr W2:=af.mono fun b _ h=>qd4 z (by have:=m.o;omega);have ar: ∀p,p∈ps++ [(L.atom,Value.slice x L.atom.args.length u)]->qai n W2 p.2 p.1.args:=fun p hp=>by
     rcases zr.1 hp with h |h
     ·exact qak (hT p h) ak
     ·cases zm.1 h;exact qak R ak
    simp only [qee]at ae;clear g hL q ag R kw aJ hT ap af aE aC ak;refine hd8 ?_ hK z ar d c ae kW aA;clear hK z ar d c ae kW aA;intro ai y aw l ad az aK av;go_wp2_with (at_builtin;refine qbu rfl _ _ _ rfl rfl rfl az.o ?_);go_roundw
    case rel=>exact⟨k+1,_,wC,by go_num,aK.o,l.o,aw.o,av.o⟩
    case measure=>simp [intOf];omega
  ·obtain rfl:k=r.body.length:=by omega
   rw [zi]at g;have hE:Keep (fun b=>b<N) w wr:=au.o.mt.trans (hK.mono fun b _ h=>wC);clear aq;refine hd6 ?_ hK z hT g hE c;clear hK z hT g hE c;intro ai y al ay aF ad;go_wp2_with fail;go_ret;exact⟨_,ps,rfl,m.o▸aF.o,ay.o,al.o,y.o.mono (by have:=m.o;omega)⟩
end Go.Proofs
