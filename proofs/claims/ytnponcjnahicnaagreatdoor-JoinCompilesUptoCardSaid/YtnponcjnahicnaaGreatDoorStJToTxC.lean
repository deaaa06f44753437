/- Parts of the proof. -/
import Derived.Test.YtnponcjnahicnaaGreatDoorStEToStL
set_option linter.unusedSimpArgs false
set_option linter.unusedVariables false
set_option maxRecDepth 100000
set_option maxHeartbeats 4000000
open Go.Proofs.Tryz(prog)
open List(getElem?_cons_zero length_singleton nodup_nil take_zero)
namespace Go.Proofs
open Go.RowKit Go.Ink R4
theorem q4q:qb2 prog 69 60 1 24:=qcl (z:=.slice none 0 0) wA wA rfl wC wC
theorem qdg {w:World}{base d:Nat}{e k:TypeId}{sz i n p:Nat}{v v':Value}{xs j:List Value}(h:w.ownsRow base e sz v n xs)(l:w.ownsRow d k i v' p j)(m:e≠k){b:Nat}(f:v.ownBlock=some b):v'.ownBlock≠some b:=fun c=>by
 rcases h.2 with ⟨e1,_⟩ |⟨g,cap,cur,e1,_,e3,_⟩
 ·rw [e1]at f;cases f
 ·rcases l.2 with ⟨f1,_⟩ |⟨g',cap',cur',f1,_,f3,_⟩
  ·rw [f1]at c;cases c
  ·rw [e1]at f;rw [f1]at c;have q:g=b:=by simpa [Value.ownBlock] using f
   have r:g'=b:=by simpa [Value.ownBlock] using c
   rw [q]at e3;rw [r,e3]at f3;injection f3 with f3
   injection f3 with _ f3
   exact m f3
theorem RowsAt.snoc {P:Nat->Prop}{w:World}{v:Value}{d:List (List ByteArray)}(h:RowsAt P w v d){base:Nat}{y:Value}{u:List ByteArray}(r:w.ownsRow base 9 1 y u.length (u.map .string))(X: ∀b,y.ownBlock=some b->P b)(hl:d.length<=1073741824)(U: ∀b,w.heap.size<=b->P b):
  ∃a c g cap W',v=.slice a d.length c/\(Builtin.append_ #[69,69] 69 #[v,.slice (some ⟨w.heap.size,0,none⟩) 1 1]).run prog (w.alloc (.cells #[y] 60))=.ok (.slice (some ⟨g,0,none⟩) (d.length+1) cap) W'/\
   RowsAt P W' (.slice (some ⟨g,0,none⟩) (d.length+1) cap) (d++ [u])/\Keep (fun b=>v.ownBlock≠some b) w W':=by
 obtain⟨us,i,f,z,R⟩:=h;obtain⟨v3,Y3,s,q,p,gb,cap,ad,ab,ai⟩:=qdd (P:=prog) q4q 69 f [y] rfl (by obtain⟨a,c,rfl⟩:=qi r;simp [Value.oneCell']) xz (ya _);subst ad;obtain⟨a,c,hv⟩:=qi f;rw [i]at hv;rw [i]at s q;refine⟨a,c,gb,cap,Y3,hv,s,⟨us++ [y],by simp [i],?_,fun b Y=>?_,fun j x t k l=>?_⟩,p.mono fun b _ h e=>h e.symm⟩
 ·rw [zR,length_singleton,i];exact q
 ·have aa:gb=b:=by simpa [Value.ownBlock] using Y
  subst aa;rcases ab with h |h
  ·exact z _ h
  ·exact U _ h
 ·have key: ∀{x:Value} {t:List ByteArray} {base:Nat},w.ownsRow base 9 1 x t.length (t.map .string)->Y3.ownsRow base 9 1 x t.length (t.map .string):=fun k=>qf k p (fun b Y e=>qdg k f wC Y e.symm);by_cases hj:j<us.length
  ·rw [yQ hj]at k;rw [yQ xz]at l;obtain⟨q1,q2⟩:=R j x t k l;exact⟨key q1,q2⟩
  ·rw [yG xz]at k;rw [yG xz]at l;have m:j-us.length=0:=by have:=(zA.1 k).1;simp at this;omega
   rw [m]at k;rw [←i,m]at l;simp only [getElem?_cons_zero,yb]at k l;subst k l;exact⟨(key r).mono (ya _),X⟩
theorem q0p {n0:Nat}{g:Gh}{w:World}{S:Nat}{c:List qy}{T M MX:Nat}{vx:Value}{xs:List ByteArray}{rl:List ((ByteArray×Nat)×Nat)}{p:ByteArray}{n R Y X D:Nat}{vD:Value}{lm:List (List Bool×Nat)}{W1 m W k:World}{l s:qd1}(hg:GInv g w)(hS:g.st S=some c)(v:StParts g.tag w S c T M MX vx xs rl)
  (hk:((p,n),R)∈rl) (i:l=⟨qaw g.tag S R,(qo c p n).map (qr xs),vD,lm⟩) (d:wD w (W1.setCell ⟨S,0,none⟩ (.int .i32 0))) (t:wD W1 m) (q:RelSame l m s W) (hinv:RelInv R n Y X s W) (z:Keep (fun b=>b≠D) W k) (hD:s.tag D=none) (ag:m.heap.size<=D):
  GStep n0 g w {g with tag:=qbp g.tag S R s.tag} (k.setCell ⟨S,0,none⟩ (.int .i32 0))/\Keep (fun b=>l.tag b=none/\b<m.heap.size) W1 k/\l.tag S=none:=by
 have an:=t.size;have zu:w.heap.size<=W1.heap.size:=by simpa using d.size
 have tS:l.tag S=none:=by
  cases hT:l.tag S with
  |none=>rfl
  |some U=>rw [i] at hT;have:=qae.1 hT;rw [v.tagS] at this;cases this
 have sS:s.tag S=none:=by
  cases hT:s.tag S with
  |none=>rfl
  |some U=>
   rcases q.new S U hT with ⟨U',u⟩ |u
   ·rw [tS]at u;cases u
   ·have:=qe v.box;omega
 have k1:Keep (fun b=>l.tag b=none/\b<m.heap.size) W1 k:=(t.mt.trans q.keep).trans (z.mono fun b _ h=>xz);refine⟨?_,k1,tS⟩;have y:GInv g (W1.setCell ⟨S,0,none⟩ (.int .i32 0)):=hg.keep d.mt;have x:=v.keep (tag':=g.tag) d (fun _ _ _=>wE) (fun _ _=>Iff.rfl);have hK:Keep (fun b=>qaw g.tag S R b=none) (W1.setCell ⟨S,0,none⟩ (.int .i32 0)) (k.setCell ⟨S,0,none⟩ (.int .i32 0)):=by
  have k2:Keep (fun b=>qaw g.tag S R b=none) W1 k:=k1.mono fun b f h=>⟨by rw [i];exact h,xz⟩;exact Keep.set_both k2 S 0 (.int .i32 0)
 have hR:qb5 s.tag (k.setCell ⟨S,0,none⟩ (.int .i32 0)) R n ((qo c p n).map (qr xs)) s.vD Y X s.lm:=by
  have h:=hinv.own;rw [q.same,i]at h;exact(h.keep z (fun b U f _ e=>by subst e;rw [hD] at f;cases f)).keep (Keep.setCell (C:=fun b=>b≠S) _ _ _ wB) (fun b U f _ e=>by subst e;rw [sS] at f;cases f)
 have r:=q.le;have j:=q.new;rw [i]at r j;refine(GStep.own hg d).trans (q0v y hS x hk r (fun b U f=>(j b U f).imp id (fun h=>by simp;omega)) (fun b U f=>?_) hK hR);have u:=hinv.own.lt b U f;have h2:=z.size;simp;omega
end Go.Proofs
namespace Go.Proofs
open Go.RowKit Go.Ink R4 Go.MuLone
attribute [local go_sem] Oper.semAt_some
theorem qvb {n0:Nat}{g:Gh}{w:World}(hg:GInv g w){S:Nat}{c:List qy}(hS:g.st S=some c)(p:ByteArray)(n:Nat)(hp:p.size<=1073741824)(hn:n<=1073741824)(m:Nat)(vc vk:Value)(d:List Int)(key:List ByteArray)(upto:Nat)
  (ao:qan m w vc d) (aY:qal m w vk key) (hm:m<=w.heap.size) (cd: ∀s,s∈key->s.size<=1073741824) (fc:0<upto) (dc:upto<=(qo c p n).length) (bJ:qdf n d=true) (c0:key.length=d.length):
  Calls prog 96 #[qj S,qdu (p,n),vc,vk,.int .i64 (upto:Int)] w fun e w'=> ∃g' v,e=.returned v/\GStep n0 g w g' w'/\g'.st=g.st/\g'.held=g.held/\RowsAt (fun b=>g'.free b/\w.heap.size<=b) w' v (qit c p n d key upto):=by
 obtain⟨T,M,MX,vx,xs,rl,hP⟩:=hg.store S c hS;obtain⟨N,hN⟩:=ex (w.heap.size);obtain⟨W0,aG⟩:=ex ((w.alloc (.cells #[qj S] 42)).alloc (.cells #[.string p,.int .i64 (n:Int)] 153));have k0:wD w W0:=by rw [←aG];exact kAl.trans kAl
 have z0:W0.heap.size=w.heap.size+2:=by rw [←aG];simp
 have p0:W0.heap[N]?=some (.cells #[qj S] 42 (0,0)):=by rw [←aG,←hN];simp only [qah,zO];simp
 have q0:W0.heap[N+1]?=some (.cells #[.string p,.int .i64 (n:Int)] 153 (0,0)):=by rw [←aG,←hN];simp only [qah,zO];simp
 have j:=hP.keep (tag':=g.tag) k0 (fun _ _ _=>wE) (fun _ _=>Iff.rfl);have a0:=qb j.box 0 _ rfl;have f0:=qg j.box 0;have eU:=qe j.box;have eV:=qe hP.box;obtain⟨W1,aH⟩:=ex (W0.setCell ⟨S,0,none⟩ (.int .i32 1));have k1:Keep (fun b=>b≠S) W0 W1:=by rw [←aH];exact kSc
 have z1:W1.heap.size=W0.heap.size:=by rw [←aH];simp
 have z:=qz 0 (.int .i32 1) j.box;rw [aH]at z;have dK:N≠S:=xz
 have cL:N+1≠S:=xz
 have p1:=k1.heap p0 dK;have q1:=k1.heap q0 cL;have dJ:M≠S:=fun e=>by have:=j.tagM;rw [e,j.tagS] at this;cases this
 have a6:=j.rels.keep k1 dJ;have a7:TabAt W1 T MX vx xs:=j.table.keep k1 (fun e=>by have:=j.tagT;rw [e,j.tagS] at this;cases this) (fun e=>by have:=j.tagN;rw [e,j.tagS] at this;cases this) (fun b f e=>by have:=j.tagx b f;rw [e,j.tagS] at this;cases this);have a2:=qhz j.box;have aq:=lock_free qg4 ⟨S,0,none⟩ W0 (by simpa using a0) f0;rw [aH]at aq;have bz: ∀W,wD W1 W->W.cell? ⟨S,0,none⟩=some (.int .i32 1)/\W.frozen? ⟨S,0,none⟩=false:=fun W hK=>
  ⟨by have:=qb (hK.heap z wE) 0 _ rfl;simpa using this,qg (hK.heap z wE) 0⟩
 have cY:qal m W1 vk key:=(qmo aY k0).mono (fun b o s _ r=>k1.cell r (fun e=>qtu j.box (by rw [show b=S from e] at r;exact r)));have cU:qan m W1 vc d:=ao.mono fun b o x _ hx=>by
  have cg:W0.cell? ⟨b,o,none⟩=some (.int .i64 x):=k0.cell hx trivial;show W1.cell? ⟨b,o,none⟩=some (.int .i64 x);rw [←aH];refine(World.cell?_setCell_other _ _ _ _ (fun e=>?_)).trans cg;cases e;have h0:W0.cell? ⟨S,0,none⟩=some (.int .i32 0):=by simpa using a0
  rw [h0]at cg;cases cg
 have a3:=qb z 3 _ rfl;have bH:=qln (by simpa using a3) a7 m vk key cY xz cd;have cX: ∀u s,u∈qo c p n->s∈u->s∈xs:=fun u s hu r=>hP.texts _ s (qc2.1 hu).1 r;have b0:=qb p1 0 _ rfl;have dB:=qb p0 0 _ rfl;have eO:=qe p1;have b1:=qe p0;have eR:=qe z;have er: ¬((upto:Int)=0):=xz
 simp only [zD]at a0 b0 dB;have bM: ∀W,wD W1 W->wD w (W.setCell ⟨S,0,none⟩ (.int .i32 0)):=fun W hK=>k0.trans (qik j.box (by rw [aH];exact hK));clear a3 a7 cY;unfold qdu;refine qde ?_ cU hg hP j k0 aG p0 q0 k1 z p1 q1 a6 a2 aq bz;clear cU hg hP j k0 aG p0 q0 k1 z p1 q1 a6 a2 aq bz;intro cy aE ai q eA ct eD eE cK ae bU bV bh bg bf bO;refine hd9 ?_ bH cX ao aY cd bJ c0 dc bM;clear bH cX ao aY cd bJ c0 dc bM;intro bQ aN dl bP d8 bS aO cJ aR;refine qfb Tryz.func96 rfl ?_;simp only [Tryz.ntmps96,qdm,Nat.reduceAdd,Nat.reduceSub];gi_wp2;rw [ct.o];refine⟨wE,rfl,(zU.2 bg.o).mono ?_⟩;rintro e w9 ⟨rfl,ax⟩;have ax:=ax.symm;subst ax;gi_wp2;refine⟨wE,rfl,(zU.2 bf.o).mono ?_⟩;rintro e w9 ⟨rfl,ax⟩;have ax:=ax.symm;subst ax;gi_wp2;refine⟨wE,rfl,(zU.2 bQ.o).mono ?_⟩;rintro e W2 ⟨vo,rfl,a4,c5,k2⟩;cases aj:(key.all fun s=>decide (s∈xs)) with
 |false=>
  have c7:=q0m (upto:=upto) aN.o aO.o aj;obtain⟨dP,dQ⟩:=bO.o W2 k2;have db:=aR.o W2 k2;clear k2 a4 c5 aj;refine hd2 ?_ c7 db;clear c7 db;intro cE cI;gi_wp2;refine qgr dP dQ (qb7 (xm rfl _ _ _) ⟨g,.slice none 0 0,rfl,GStep.own aE.o cI.o,rfl,rfl,?_⟩);rw [cE.o];exact qtv _
 |true=>
  have cZ: ∀s,s∈key->s∈xs:=fun s r=>yD (yL.1 aj s r);have a4:=a4 aj;obtain⟨R,aZ⟩: ∃R,qct rl (p,n)=some R:=by
   cases e:qct rl (p,n) with
   |some R=>exact⟨R,rfl⟩
   |none=>
    have:=qlb ai.o e;have h2:=cJ.o;rw [this]at h2;simp at h2;omega
  obtain⟨vD,Pp,Km,lm,hR⟩:=q.o.rel _ _ (qew aZ);simp only at hR;have dM:R≠S:=fun e=>by have:=q.o.rel_at (qew aZ);rw [e,q.o.tagS] at this;cases this
  obtain⟨W3,bn⟩:=ex (W2.alloc (.cells #[.slice none 0 0] 69));obtain⟨nb,dU⟩:=ex (W2.heap.size);have k3:wD W2 W3:=by rw [←bn];exact kAl
  have b3:BoxAt W3 nb 69 (.slice none 0 0):=by rw [←bn,←dU];exact qh _ _
  have kd:wD W1 W3.drew:=(k2.trans k3).trans kDr;have bd:BoxAt W3.drew nb 69 (.slice none 0 0):=b3.keep (Keep.drew (fun _=>True) _) trivial;have ci:wD W2 W3.drew:=k3.trans kDr;have od:=qf a4 ci (fun _ _=>wE);have cM:qb5 (qaw g.tag S R) W3.drew R n ((qo c p n).map (qr xs)) vD Pp Km lm:=(hR.keep cK.o (fun b U f _ e=>by have:=qae.1 f;rw [e,q.o.tagS] at this;cases this)).keep kd (fun _ _ _ _=>wE);obtain⟨s0,cc⟩: ∃s0:qd1,s0=⟨qaw g.tag S R,(qo c p n).map (qr xs),vD,lm⟩:=⟨_,rfl⟩;have aX:RelInv R n Pp Km s0 W3.drew:=by
   rw [cc];exact⟨cM,by simp only [zL];have:=qky c p n;have:=ai.o.few;omega⟩
  have bG:=qdn (P:=prog) Tryz.underlying112 qjl qil qla (bh.o.keep kd wE) (p,n) (qjm hp hn) false;simp only [aZ,zy,yx]at bG;unfold qdu at bG;have e1:=qb (kd.heap bU.o wE) 0 _ rfl;have e2:=qb (kd.heap bV.o wE) 0 _ rfl;have e3:=qb (kd.heap bV.o wE) 1 _ rfl;have e4:=qb (kd.heap ae.o wE) 4 _ rfl;simp only [zD]at e1 e2 e3 e4;have eQ:=qe (kd.heap bU.o wE);have ei:=qe (kd.heap bV.o wE);have eT:=qe (kd.heap ae.o wE);have b6:qan W3.drew.heap.size W3.drew vc d:=SliceIn.wider cy.o (by have:=kd.size;omega) (fun b o x _ hx=>kd.cell hx wE);have em:=aO.o;have c2:key.length<=1073741824:=by
   obtain⟨_,_,_,h,_⟩:=bP.o;exact h
  have dO:d.length<=1073741824:=xz
  have b9:qan W3.drew.heap.size W3.drew vo (qr xs key):=by
   have dg:=od;rw [←qdw xs key]at dg;exact qd5 dg (by rw [qdw];exact c2)
  have c4:=qte W3.drew R W3.drew.heap.size vc vo d (qr xs key) 0 (upto:Int) b6 b9 (zG _);clear aj dM cM hR b3 k3 a4 c5;have cN:=And.intro e1 (And.intro e2 (And.intro e3 e4));clear e1 e2 e3 e4;refine qsd ?_ cZ aZ bn bd kd ci od aX cc b6 b9 c4 cN;clear cZ aZ bn bd kd ci od aX cc b6 b9 c4 cN;intro bv cA cw cn eB bx eC aB y d6 d7 cB aM;gi_wp2;rw [cw.o];refine qag ?_;refine xc.2 ?_;refine qba rfl (fun W=>W.cell? ⟨N,0,none⟩=some (qj S)/\W.cell? ⟨N+1,0,none⟩=some (.string p)/\W.cell? ⟨N+1,1,none⟩=some (.int .i64 (n:Int))/\W.cell? ⟨S,4,none⟩=some (.map (some M))) [] ?_;refine qab [0,1,2,3,4,5,7,8,9] ?_
  iterate 9
   refine tkA rfl aM.o ?_
   try simp only [qac]
  refine qk ?_;refine ho 6 rfl fun K bq=>?_;go_wp2_with fail;refine bq.o _ _ (fun _=>aM.o) ?_;refine ho 10 rfl fun K br=>?_;go_wp2_with fail;refine cB.o.mono ?_;rintro e W4 ⟨bR,bL,bK,bT,bF,vl,dk,rfl,k4,cQ⟩;have cO:W4.cell? ⟨N,0,none⟩=some (qj S)/\W4.cell? ⟨N+1,0,none⟩=some (.string p)/\W4.cell? ⟨N+1,1,none⟩=some (.int .i64 (n:Int))/\W4.cell? ⟨S,4,none⟩=some (.map (some M)):=by
   obtain⟨s1,s2,s3,s4⟩:=aM.o;exact⟨k4.cell s1 wE,k4.cell s2 wE,k4.cell s3 wE,k4.cell s4 wE⟩
  refine hd3 ?_ cO k4 cQ;clear cO k4 cQ;intro cp bj cq;go_wp2_with fail;refine br.o _ _ (fun _=>cp.o) ?_;refine qbq wA (qai ?_);clear bq br;gi_wp2;have af:=qxx (upto:=upto) aN.o bv.o bS.o aO.o;obtain⟨rows,cb⟩:=ex (qit c p n d key upto);rw [cb]at af;have df:=ai.o.xl;have c6:=qpy bv.o df;have z4:=bj.o.size;have zd:W3.drew.heap.size=W3.heap.size:=wB
  have z3:=bx.o.size;have aT:=aB.o.keep bj.o.mt;have ap: ∀b,nb<=b->s0.tag b=none:=fun b f=>by
   cases hT:s0.tag b with
   |none=>rfl
   |some U=>
    exfalso;rw [y.o]at hT;have h1:=aE.o.lt b _ (qae.1 hT);have h2:=k2.size;omega
  have cV: ∀b,W3.drew.heap.size<=b->s0.tag b=none:=fun b f=>ap b xz;have aC:RelSame s0 W2 s0 W4:=(RelSame.refl s0 W2).keepOn (bx.o.trans bj.o) (fun _ _ _=>wE);have b4:=cn.o.keep bj.o trivial;have eo:=b4.lt;have b1:(qdy n s0.ts d (qr xs key) 0 (upto:Int)).length=rows.length:=by
   rw [y.o,←af,zL]
  have c3:(qr xs key).length<=1073741824:=by rw [qdw];exact c2
  refine hd9 ?_ af cb c6 aT ap cV aC b4 b1;clear af cb c6 aT ap cV aC b4 b1;intro bi cG cC bc az cz aQ ds bt;refine ql6 (qem R n Pp Km) s0 (gf:=178) (lb:= #[.pointer (some ⟨bR,0,none⟩),.pointer (some ⟨bL,0,none⟩),.pointer (some ⟨bK,0,none⟩),.pointer (some ⟨bT,0,none⟩),.pointer (some ⟨bF,0,none⟩)]) rfl (qc0 Tryz.func178 wA rfl)
   (qrf R n Pp Km W3.drew.heap.size W4.heap.size bR bL bK bT bF vl dk 0 (upto:Int) d (qr xs key) cC.o dO c3) (fun b f=>cz.o b f.1)
   (fun γ0 k γ n X args h=>by obtain⟨i,t,_,_,v,rfl,_⟩:=h;rfl) bc.o (fun b f=>az.o b xz) cq.o (fun X Y hV hK=>hV.keep hK (fun b h1 h2=>h2))
   (fun k s X=> ∃vr,BoxAt X nb 69 vr/\s.tag nb=none/\RowsAt (fun b=>s.tag b=none/\W4.heap.size+2<=b) X vr (rows.take k)/\RelSame s0 W2 s X) (fun c k s X=>False) ?hI ?hIx ?hIs ?hIxs ?h0 ?round ?done ?stop
  case hI=>
   rintro k s X Y ⟨vr,h1,h2,h3,h4⟩ hK;exact⟨vr,h1.keep hK (.inl xz),h2,h3.keep hK (fun b _ f=>⟨.inr f.2,f⟩),h4.keepOn hK (fun b f _=>.inl xz)⟩
  case hIx=>rintro c k s X Y h;exact h.elim
  case hIs=>
   rintro k s X s' Y ⟨vr,h1,h2,h3,h4⟩ r;exact⟨vr,h1.keep ((qem R n Pp Km).ifree r) h2,(qem R n Pp Km).inew r nb h1.lt h2,h3.keep ((qem R n Pp Km).ifree r) (fun b f hP=>⟨hP.1,(qem R n Pp Km).inew r b f hP.1,hP.2⟩),h4.it r⟩
  case hIxs=>rintro c k s X s' Y h;exact h.elim
  case h0=>exact⟨_,ds.o,az.o nb (zG _),by rw [take_zero];exact qtv _,aQ.o⟩
  case stop=>rintro D c k s W _ _ _ _ _ h;exact h.elim
  case round=>
   rintro l k s X0 X args eN e7 cW hk ⟨vr,h1,h2,h3,h4⟩ r aV cR fb hA;obtain⟨i,t,bo,ak,v',rfl,ce,dd⟩:=hA;have g1:=h1.keep ((qem R n Pp Km).ifree r) h2;have g2:s.tag nb=none:=(qem R n Pp Km).inew r nb h1.lt h2;have g3:RowsAt (fun b=>s.tag b=none/\W4.heap.size+2<=b) X vr (rows.take k):=h3.keep ((qem R n Pp Km).ifree r) (fun b f hP=>⟨hP.1,(qem R n Pp Km).inew r b f hP.1,hP.2⟩);have g4:=h4.it r;have eY:X0.heap.size<=X.heap.size:=((qem R n Pp Km).ifree r).size;obtain⟨u,hu,dW,c8⟩: ∃u,u∈qo c p n/\t=qr xs u/\rows[k]?=some u:=by
    rw [y.o]at bo ak;simp only at bo ak;rw [zP]at ak;cases hx:(qo c p n)[i]? with
    |none=>rw [hx] at ak;cases ak
    |some u=>
     rw [hx]at ak;refine⟨u,zH hx,(yH ak).symm,?_⟩;rw [←bi.o,zP,bo,Option.map_some,zJ,hx]
     rfl
   subst dW;rw [qdw]at ce dd;clear bo ak h1 h2 h3 h4 hk;refine qc9 ?_ r aV cR cW ce g3 g4 c8 g1 hu;clear r aV cR cW ce g3 g4 c8 g1 hu;intro ez aA cs bu bw dx co aP dw dA;gi_wp2;refine⟨Keep.refl _ _,fun Y hY e0 eZ=>?_⟩;have kY:Keep (fun b=>s0.tag b=none/\b<W2.heap.size) W1 Y:=(k2.mt.trans co.o.keep).trans (hY.mono fun b _ h e=>xz);have tS:s0.tag S=none:=by
    cases hT:s0.tag S with
    |none=>rfl
    |some U=>rw [y.o] at hT;have:=qae.1 hT;rw [ai.o.tagS] at this;cases this
   have tO: ∀b U,g.tag b=some (S,U)->(∀V,U≠.rel R V)->s0.tag b=none:=fun b U f hU=>by
    cases hT:s0.tag b with
    |none=>rfl
    |some V=>rw [y.o] at hT;have:=qae.1 hT;rw [f] at this;cases this;exact absurd rfl (hU V)
   have tN:s0.tag N=none:=by
    cases hT:s0.tag N with
    |none=>rfl
    |some U=>rw [y.o] at hT;have:=aE.o.lt _ _ (qae.1 hT);omega
   have d5:=k2.size;have pY:=kY.heap bU.o ⟨tN,xz⟩;have sY:=kY.heap ae.o ⟨tS,xz⟩;have y1:=qb pY 0 _ rfl;have y2:=qb sY 3 _ rfl;simp only [zD]at y1 y2;have eP:=qe pY;have eS:=qe sY;have cP:TabAt Y T MX vx xs:=by
    have bp:TabAt W1 T MX vx xs:=q.o.table.keep cK.o (fun e=>by have:=q.o.tagT;rw [e,q.o.tagS] at this;cases this) (fun e=>by have:=q.o.tagN;rw [e,q.o.tagS] at this;cases this) (fun b f e=>by have:=q.o.tagx b f;rw [e,q.o.tagS] at this;cases this);exact bp.keep kY ⟨tO _ _ ai.o.tagT (fun V e=>by cases e),by have:=qe bp.tab;omega⟩ ⟨tO _ _ ai.o.tagN (fun V e=>by cases e),by have:=bp.nums.lt;omega⟩ (fun b f=>⟨tO _ _ (ai.o.tagx b f) (fun V e=>by cases e),by have:=(zE bp.own b f).2;omega⟩)
   have cf:=qf bw.o hY (fun b f e=>by have:=(zE bw.o b f).1;omega);have a8:=cf;rw [←qdw xs u]at a8;have da:=qt1 cP Y.heap.size v' u (fun s r=>aN.o u s dA.o r) (qd5 a8 (by rw [qdw];exact dd)) (zG _) df;obtain⟨av,cv,rfl⟩:=qi cf;clear cf a8 cP kY pY sY;refine hd2 ?_ hY da;clear hY da;intro aD cH;gi_wp2;refine⟨wE,rfl,(CallsIn.inRound l (zU.2 cH.o)).mono ?_⟩;rintro e Y2 ⟨vu,rfl,a5,a9⟩;have zY:=aD.o.size;have fo:=a9.size;have e6:l=W4.heap.size+1:=bu.o.2.2;obtain⟨au,cu,rfl⟩:=qi a5;have bl:=(dw.o.keep aD.o xz).keep a9 trivial;have bW:=(dx.o.keep aD.o (P':=fun b=>s.tag b=none/\W4.heap.size+2<=b) (fun b _ f=>⟨xz,f⟩)).keep a9 (P':=fun b=>s.tag b=none/\W4.heap.size+2<=b) (fun b _ f=>⟨wE,f⟩);have bD:(rows.take k).length=k:=by rw [yB];exact xP (by have:=(zA.1 aP.o).1;omega)
   have dT:k<=67108864:=by
    have h1:=(zA.1 aP.o).1;have h2:=qwr n s0.ts d (qr xs key) 0 (upto:Int);have h3:=aB.o.few;rw [bt.o]at h2;omega
   have a1: ∀b,X.heap.size<=b->s.tag b=none:=fun b f=>by
    cases hT:s.tag b with
    |none=>rfl
    |some U=>have:=aA.o.own.lt b U hT;omega
   obtain⟨ar,cr,gb,cap,Y3,de,ca,aw,b7⟩:=bW.snoc a5 (fun b f=>⟨a1 b (by have:=(zE a5 b f).1;omega),by have:=(zE a5 b f).1;omega⟩) xz (fun b f=>⟨a1 b xz,xz⟩);have aI: ∀b,vr.ownBlock=some b->s.tag b=none/\W4.heap.size+2<=b:=by
    obtain⟨_,_,_,h,_⟩:=bW;exact h
   have aS:=bl.keep b7 (fun e=>by have:=(aI nb e).2;omega);have e3:rows.take k++ [u]=rows.take (k+1):=by rw [zh,aP.o];rfl
   rw [e3]at aw;rw [bD]at de ca aw;subst de;have eH:=bl.cell;have fd:=bl.lt;have eI:=aS.cell;have eL:=qg aS 0;have fe:=aS.lt;have b2:=qgj (.slice (some ⟨gb,0,none⟩) (k+1) cap) aS;obtain⟨Z,hZ⟩:=ex (Y3.setCell ⟨nb,0,none⟩ (.slice (some ⟨gb,0,none⟩) (k+1) cap));have kZ:Keep (fun b=>b≠nb) Y3 Z:=by rw [←hZ];exact kSc
   rw [hZ]at b2;have ba:Keep (fun b=>b≠nb/\(Value.slice ar k cr).ownBlock≠some b) Y Z:=(a9.mt.trans (b7.mono fun b _ h=>h.2)).trans (kZ.mono fun b _ h=>h.1);have bI:=aw.keep kZ (P':=fun b=>s.tag b=none/\W4.heap.size+2<=b) (fun b _ f=>⟨xz,f⟩);have aW:=(qem R n Pp Km).invk ((qem R n Pp Km).invk aA.o (aD.o.mono fun b _ h e=>by subst e;exact h bu.o.1)) (ba.mono fun b _ h=>⟨fun e=>by subst e;exact h g2,fun e=>h (aI b e).1⟩);have ep:nb<W3.heap.size:=by have:=cn.o.lt;simpa using this
   have cS:=(cs.o.keep aD.o (fun b h1 h2=>xz)).keep ba (fun b h1 h2=>⟨by have h3:W3.heap.size<=b:=(by simpa using h1);omega,fun e=>by have:=(aI b e).2;omega⟩);have c9:=(co.o.keepOn aD.o (fun b f _=>xz)).keepOn ba (fun b f _=>⟨xz,fun e=>by have:=(aI b e).2;omega⟩);have hf:qes (qem R n Pp Km) W4.heap.size l X.heap.size (MatchV W3.drew.heap.size W4.heap.size bR bL bK bT bF R vl dk 0 (upto:Int) d (qr xs key)) s Y Z
     (fun s'=> ∃vr,BoxAt Z nb 69 vr/\s'.tag nb=none/\RowsAt (fun b=>s'.tag b=none/\W4.heap.size+2<=b) Z vr (rows.take (k+1))/\RelSame s0 W2 s' Z):=
    ⟨s,aW,cS,RelBd.refl _ _,ba.mono (fun b _ h=>⟨xz,fun e=>by have:=(aI b e).2;omega⟩),_,b2,g2,bI,c9⟩
   clear b2 kZ ba aw bI aW cS c9 aI b7 a5 bl bW a9 aS a1 bD dT e3;refine hd3 ?_ hf ca hZ;clear hf ca hZ;intro dz cD dy
   gi_wp2_with (gi_at_builtin;refine qby rfl _ _ _ rfl rfl rfl cD.o ?_)
   rw [dy.o];exact dz.o
  case done=>
   rintro D s W hD dR cT fa ⟨vr,h1,h2,h3,h4⟩ aU dN;have c1:=h1.cell;have l1:=h1.lt;have b8:Keep (fun b=>b≠D) W (W.putObj D (.deferred none)):=Keep.putObj _ _ _ wB;obtain⟨e1,e2,e3⟩:=q0p (n0:=n0) aE.o hS ai.o (qew cA.o) y.o (aR.o W1 (Keep.refl _ _)) k2 h4 aU b8 dR xz;have d5:=k2.size;have b5:=e2.heap ae.o ⟨e3,xz⟩;have f2:=qb b5 0 _ rfl;have f3:=qg b5 0;simp only [zD]at f2;have dV:rows.take (qdy n s0.ts d (qr xs key) 0 (upto:Int)).length=rows:=by rw [bt.o,zi]
   have en:w.heap.size<=W4.heap.size:=by have:=k2.size;omega
   rw [dV]at h3;have aw:RowsAt (fun b=>({g with tag:=qbp g.tag S R s.tag}:Gh).free b/\w.heap.size<=b) ((W.putObj D (.deferred none)).setCell ⟨S,0,none⟩ (.int .i32 0)) vr rows:=by
    refine(h3.keep b8 (P':=fun b=>s.tag b=none/\W4.heap.size+2<=b) (fun b _ f=>⟨xz,f⟩)).keep (Keep.setCell (C:=fun b=>b≠S) _ _ _ wB) (fun b _ f=>⟨xz,⟨?_,?_⟩,xz⟩)
    ·show qbp g.tag S R s.tag b=none;unfold qbp;rw [f.1];cases hT:g.tag b with
     |none=>rfl
     |some U=>have:=aE.o.lt b U hT;omega
    ·show g.held b=none;cases hT:g.held b with
     |none=>rfl
     |some o=>have:=qe (aE.o.hold b o hT);omega
   clear b5 e2 e3 b8 h1 h2 h3 h4 dN aU;refine hd5 ?_ cT e1 aw f2 f3;clear cT e1 aw f2 f3;intro cx dt cF du dv;gi_wp2;refine qgw cx.o (qgr du.o dv.o (qb7 (xm rfl _ _ _) ⟨_,vr,rfl,dt.o,rfl,rfl,?_⟩));rw [cG.o];exact cF.o
end Go.Proofs
namespace Go.Proofs
open Go.RowKit Go.Ink R4
attribute [local go_sem] Oper.semAt_some
def Gh.with (g:Gh)(S:Nat)(c:List qy):Nat->Option (List qy):=fun b=>if b=S then some c else g.st b
def qdb (tag:qcv)(S T MX M:Nat):qcv:=fun b=>if b=S then some (S,.box) else if b=T then some (S,.tab) else if b=MX then some (S,.nums) else if b=M then some (S,.rels) else tag b
theorem q0q {n0:Nat}{g:Gh}{w w':World}(l:GInv g w)(hK:wD w w'){S T MX M:Nat}(h1:w.heap.size<=S)(h2:w.heap.size<=T)(h3:w.heap.size<=MX)(h4:w.heap.size<=M)(hd:S≠T/\S≠MX/\S≠M/\T≠MX/\T≠M/\MX≠M)
  (t:w'.heap[S]?=some (.cells (qea T M 0).toArray 116 (0,0))) (i:TabAt w' T MX (.slice none 0 0) []) (hrel:qh0 w' M []):
  GStep n0 g w {g with st:=g.with S [],tag:=qdb g.tag S T MX M} w':=by
 obtain⟨Y,d2,d3,d4,d5,d6⟩:=hd;have tS:qdb g.tag S T MX M S=some (S,.box):=by unfold qdb;rw [zI rfl]
 have tT:qdb g.tag S T MX M T=some (S,.tab):=by unfold qdb;rw [zF (fun e=>Y e.symm),zI rfl]
 have tX:qdb g.tag S T MX M MX=some (S,.nums):=by unfold qdb;rw [zF (fun e=>d2 e.symm),zF (fun e=>d4 e.symm),zI rfl]
 have tM:qdb g.tag S T MX M M=some (S,.rels):=by unfold qdb;rw [zF (fun e=>d3 e.symm),zF (fun e=>d5 e.symm),zF (fun e=>d6 e.symm),zI rfl]
 have m: ∀b,b<w.heap.size->qdb g.tag S T MX M b=g.tag b:=fun b d=>by unfold qdb;rw [zF xz,zF xz,zF xz,zF xz]
 have q: ∀b U,qdb g.tag S T MX M b=some U->U.1=S∨g.tag b=some U:=fun b U d=>by
  unfold qdb at d;split at d
  ·cases d;exact .inl rfl
  ·split at d
   ·cases d;exact .inl rfl
   ·split at d
    ·cases d;exact .inl rfl
    ·split at d
     ·cases d;exact .inl rfl
     ·exact .inr d
 have x: ∀b U,g.tag b≠some (S,U):=fun b U d=>by
  obtain⟨c,p⟩:=l.own b S U d;obtain⟨X,z,u,vx,xs,rl,v⟩:=l.store S c p;have:=qe v.box;omega
 have y:=hK.size;refine⟨hK.mt,fun S' c p=>⟨[],?_⟩,fun b d r=>⟨(m b d).trans r.1,r.2⟩,fun _ _=>rfl,?_⟩
 ·obtain⟨X,z,u,vx,xs,rl,v⟩:=l.store S' c p;have:=qe v.box;show g.with S [] S'=_;unfold Gh.with;rw [zF xz,yO];exact p
 refine⟨fun S' c p=>?_,fun b S' U d=>?_,fun b U d=>?_,fun b o d=>hK.heap (l.hold b o d) wE,fun b o d=>(m b (qe (l.hold b o d))).trans (l.apart b o d),fun b S' R U d=>?_⟩
 ·have j:g.with S [] S'=some c:=p;clear p;unfold Gh.with at j;split at j
  ·rename_i e;subst e;injection j with j
   subst j;exact⟨T,M,MX,.slice none 0 0,[],[],tS,t,tT,i.tab,i.own,fun b d=>(by simp [Value.ownBlock] at d),tX,i.nums,tM,hrel,fun k R hk=>(by cases hk),wB,fun f r=>(by cases r),fun f s r=>(by cases r),nodup_nil,wB,wB⟩
  ·rename_i e;refine(l.store S' c j).keep hK (fun _ _ _=>wE) (fun b U=>⟨fun d=>?_,fun d=>?_⟩)
   ·rcases q b _ d with h |h
    ·exact absurd h e
    ·exact h
   ·show qdb g.tag S T MX M b=some (S',U);rw [m b (l.lt b _ d)];exact d
 ·rcases q b _ d with h |h
  ·simp only at h;subst h;exact⟨[],by show g.with S' [] S'=_;unfold Gh.with;rw [zI rfl]⟩
  ·obtain⟨c,p⟩:=l.own b S' U h;by_cases e:S'=S
   ·subst e;exact absurd h (x b U)
   ·exact⟨c,by show g.with S [] S'=_;unfold Gh.with;rw [zF e];exact p⟩
 ·have d:qdb g.tag S T MX M b=some U:=d;unfold qdb at d;split at d
  ·rename_i e;subst e;exact qe t
  ·split at d
   ·rename_i e;subst e;exact qe i.tab
   ·split at d
    ·rename_i e;subst e;exact i.nums.lt
    ·split at d
     ·rename_i e;subst e;exact hrel.lt
     ·exact zk (l.lt b U d) y
 ·have d:qdb g.tag S T MX M b=some (S',.rel R U):=d;unfold qdb at d;split at d
  ·cases d
  ·split at d
   ·cases d
   ·split at d
    ·cases d
    ·split at d
     ·cases d
     ·exact zk (l.reln b S' R U d) y
theorem qq1 {n0:Nat}{g:Gh}{w:World}(hg:GInv g w):Calls prog 29 #[] w fun e w'=> ∃S g',e=.returned (qj S)/\GStep n0 g w g' w'/\g'.st=g.with S []/\g'.held=g.held/\w.heap.size<=S:=by
 obtain⟨W0,d⟩:=ex (w.alloc (.cells #[.int .i32 0,.int .u32 0,.bool false,.pointer none,.map none,.int .i64 0] 116));have k0:wD w W0:=by rw [←d];exact kAl
 have z0:W0.heap.size=w.heap.size+1:=by rw [←d];simp
 have q0:W0.heap[w.heap.size]?=some (.cells #[.int .i32 0,.int .u32 0,.bool false,.pointer none,.map none,.int .i64 0] 116 (0,0)):=by rw [←d];exact qh _ _
 have al:= @run_makeMap prog;obtain⟨S,U⟩:=ex (w.heap.size);rw [U]at q0;refine hd5 ?_ hg k0 q0 d U;clear hg k0 q0 d U;intro x y z l c
 go_enter Tryz.func29,Tryz.ntmps29
 go_wp2_with fail;rw [l.o,c.o];refine(qx0 W0).mono ?_;rintro e W1 ⟨T,MX,rfl,s,aj,ak,X,t⟩;obtain⟨M,R⟩:=ex (W1.heap.size);have q1:=t.heap z.o trivial;have i:=(Keep.alloc (fun _=>True) W1 (.map #[] 0)).heap q1 trivial;have a2:=qb i 2 _ rfl;have a3:=qb i 3 _ rfl;have a4:=qb i 4 _ rfl;have f2:=qg i 2;have f3:=qg i 3;have f4:=qg i 4;have l2:=qe i;have m:qh0 (W1.alloc (.map #[] 0)) M []:=by rw [←R];exact qhf W1
 have q:=s.keep (Keep.alloc (fun _=>True) W1 (.map #[] 0)) trivial trivial (fun _ _=>wE);have s1:=qz 2 (.bool true) i;have s2:=qz 3 (qj T) s1;have s3:=qz 4 (.map (some M)) s2;have u:Keep (fun b=>b≠S) (W1.alloc (.map #[] 0)) ((((W1.alloc (.map #[] 0)).setCell ⟨S,2,none⟩ (.bool true)).setCell ⟨S,3,none⟩ (qj T)).setCell ⟨S,4,none⟩ (.map (some M))):=((kSc).trans (kSc)).trans (kSc);have z1:=t.size;have r:=q.keep u (by have:=c.o;omega) (by have:=c.o;omega) (fun b Y=>by simp [Value.ownBlock] at Y);have p:=m.keep u (by have:=c.o;omega);have kk:wD w ((((W1.alloc (.map #[] 0)).setCell ⟨S,2,none⟩ (.bool true)).setCell ⟨S,3,none⟩ (qj T)).setCell ⟨S,4,none⟩ (.map (some M))):=
  (((y.o.trans t).trans kAl).mono (C':=fun b=>b<w.heap.size) (fun _ _ _=>wE)).trans (u.mono fun b _ h=>by have:=c.o;omega) |>.mono (fun b Y _=>Y)
 have j:=q0q (n0:=n0) x.o kk (S:=S) (T:=T) (MX:=MX) (M:=M) (by have:=c.o;omega) xz xz xz ⟨by have:=c.o;omega,by have:=c.o;omega,by have:=c.o;omega,X,by have:=qe s.tab;omega,by have:=s.nums.lt;omega⟩ (by simpa [qea] using s3) r p;clear q1 i s1 s2 s3 u s q r m p kk t;refine hd2 ?_ j R;clear j R;intro k v;simp only [zD]at a2 a3 a4;go_wp2_with fail;have f:=k.o;rw [←v.o]at f;go_ret;exact⟨S,_,rfl,f,rfl,rfl,by have:=c.o;omega⟩
end Go.Proofs
namespace Go.Proofs
open Go.RowKit Go.Ink P16
attribute [local go_sem] Oper.semAt_some
theorem qtw {gf:Nat}{bs lb:Array Value}(eg: ∀args w,(callFunc gf args).run prog w=.ok (.enter gf args) w)(p:ByteArray->Bool)(n0:Nat)(v:Value)(xs:List (ByteArray))(w:World)(hx:qal n0 w v xs)(hn:n0<=w.heap.size)
  (hf: ∀x,x∈xs-> ∀W,Keep (fun b=>b<w.heap.size) w W->Calls prog gf (bs.push (.string x)++lb) W fun e w'=>e=.returned (.bool (p x))/\Keep (fun b=>b<W.heap.size) W w'):
  Calls prog 131 #[v,.func (.func gf) bs lb] w fun e w'=>e=.returned (.int .i64 (qbv p xs))/\Keep (fun b=>b<w.heap.size) w w':=by
 obtain⟨a,cap,rfl,ad,aa,t⟩:=id hx;refine hd2 ?_ t hf;clear t hf;intro q z
 go_enter Tryz.func131,Tryz.ntmps131
 go_wp2_with fail
 go_loopw [8] (fun i wr=> ∃k:Nat,k<=xs.length/\i=.int .i64 (k:Int)/\Keep (fun b=>b<w.heap.size) w wr/\(xs.take k).any p=false) (fun i _=>xs.length-(intOf i).toNat)
 case atStart=>exact⟨0,xz,rfl,Keep.refl _ _,rfl⟩
 case round=>
  obtain⟨k,hk,rfl,hK,c⟩:=hrel;have ak:=hK.size;by_cases U:k<xs.length
  ·have ae:(k:Int)<xs.length:=by omega
   have aj:(0:Int)<=k:=xz
   obtain⟨x,g⟩: ∃x,xs[k]?=some x:=⟨_,zB U⟩;obtain⟨b,o,rfl,hb,X⟩:=q.o k x g;have ai:b<wr.heap.size:=xz
   have h:=qje p xs g;rw [c,xG]at h;have R:=z.o x (zH g) wr hK;obtain⟨px,m⟩: ∃b,p x=b:=⟨_,rfl⟩;have d:=qff p xs k x g c;rw [m]at h R d;unfold qf2 at X;have h0:=hK.cell X (show b<w.heap.size from xz);simp only [yA] at h0;clear g X;refine hd6 ?_ hK c h m R d;clear hK c h m R d;intro l u r Y y f;go_wp2_with fail;refine y.o.mono ?_;rintro e W1 ⟨rfl,k1⟩;have s:=l.o.trans (k1.mono fun b hb _=>xz);clear k1;refine hd1 ?_ s;clear s;intro j;cases px
   ·go_wp2_with fail;go_roundw
    case rel=>exact⟨k+1,xz,by go_num,j.o,r.o⟩
    case measure=>simp [intOf];omega
   ·go_wp2_with fail;go_ret;exact⟨by rw [f.o (by trivial)];rfl,j.o⟩
  ·obtain rfl:k=xs.length:=by omega
   rw [zi]at c;have d:=qfe p xs c;refine hd2 ?_ hK d;clear hK d;intro l f;go_wp2_with fail;go_ret;exact⟨by rw [f.o];rfl,l.o⟩
theorem qtx {gf:Nat}{bs lb:Array Value}(m: ∀args w,(callFunc gf args).run prog w=.ok (.enter gf args) w)(p:ByteArray->Bool)(n0:Nat)(v:Value)(xs:List (ByteArray))(w:World)(s:qal n0 w v xs)(y:n0<=w.heap.size)
  (k: ∀x,x∈xs-> ∀W,Keep (fun b=>b<w.heap.size) w W->Calls prog gf (bs.push (.string x)++lb) W fun e w'=>e=.returned (.bool (p x))/\Keep (fun b=>b<W.heap.size) W w'):
  Calls prog 89 #[v,.func (.func gf) bs lb] w fun e w'=>e=.returned (.bool (xs.any p))/\Keep (fun b=>b<w.heap.size) w w':=by
 have hi:=qtw m p n0 v xs w s y k;have h:=qe5 p xs;obtain⟨i,c⟩:=ex (qbv p xs);rw [c]at hi h;obtain⟨a,cap,rfl,r,q,j⟩:=id s;clear j m;refine hd4 ?_ hi k h c;clear hi k h c;intro f u d l
 go_enter Tryz.func89,Tryz.ntmps89
 go_wp2_with fail;refine f.o.mono ?_;rintro e W1 ⟨rfl,t⟩;refine hd1 ?_ t;clear t;intro g;go_wp2_with fail;go_ret;exact⟨by rw [←d.o];rfl,g.o⟩
theorem qxy (s:ByteArray)(w:World):Calls prog 90 #[.string s] w fun e w'=>e=.returned (.bool (decide (1024<s.size)))/\w'=w:=by
 go_enter Tryz.func90,Tryz.ntmps90
 go_wp2_with fail;go_ret;refine⟨?_,rfl⟩;simp;omega
theorem qvc (n0:Nat)(v:Value)(xs:List ByteArray)(w:World)(d:qal n0 w v xs)(c:n0<=w.heap.size):
  Calls prog 89 #[v,.func (.func 90) #[] #[]] w fun e w'=>e=.returned (.bool (xs.any fun s=>decide (1024<s.size)))/\Keep (fun b=>b<w.heap.size) w w':=
 qtx (qc0 Tryz.func90 wA rfl) (fun s=>decide (1024<s.size)) n0 v xs w d c (fun x _ W _=>(qxy x W).mono fun e w' h=>⟨h.1,by rw [h.2];exact Keep.refl _ _⟩)
end Go.Proofs
