/- Parts of the proof. -/
import Derived.Test.YtnponcjnahicnaaGreatDlLToDlM
set_option linter.unusedSimpArgs false
set_option linter.unusedVariables false
set_option maxRecDepth 100000
set_option maxHeartbeats 4000000
open Go.Proofs.Tryz(prog)
open List(length_range length_replicate map_replicate)
namespace Go.Proofs
open Go.RowKit Go.Ink Go.Flt R4 P16
attribute [local go_sem] Oper.semAt_some
theorem qy3 (n:Nat):madeCells #[Value.bool false] n=Array.replicate n (Value.bool false):=by
 apply Array.ext
 ·simp [madeCells]
 ·intro i b c;simp [madeCells,Nat.mod_one]
theorem q6z:(1073741824:Nat)<=maxLen:=wF
theorem qt0 {X:World}{V n:Nat}{e:TypeId}{z:Value}(h:X.heap[V]?=some (.cells (Array.replicate n z) e (0,0)))(b:n<=1073741824):X.ownsRow 0 e 1 (.slice (some ⟨V,0,none⟩) n n) n (List.replicate n z):=
 ⟨wE,.inr ⟨V,n,_,rfl,yc _,h,zG _,zW b q6z,wE,wE⟩⟩
theorem q4s (vars:List ByteArray):qcs vars (List.replicate vars.length ⟨#[]⟩) (List.replicate vars.length false) qca:=by
 refine⟨wE,wE,fun p x b=>⟨fun h=>?_,fun⟨v,h⟩=>(by cases h)⟩,fun p x v _ h=>(by cases h),fun x v h=>(by cases h)⟩;rw [xW]at h;split at h
 ·cases h
 ·cases h
theorem qt1 {n:Nat}{w:World}{r:RuleD}{sh sb vi:Value}{sN:Option Nat}{g:List (Option Nat)}{Cs:Nat->List qk}{neg:List qk}(hr:qce r)(hR:RuleIn n w sh sb r)(hn:n<=w.heap.size)(hi:qm0 n w vi g)(aB:g.length=(qaf r.body).length)(bD: ∀(k:Nat) (s:Option Nat),g[k]?=some s->RSt w s (Cs k))(bw: ∀(k:Nat) (x:qk),x∈Cs k->okF x=true)(bv:RSt w sN neg)(aA:(nxM r Cs neg 0 qca).length<=1000000)(aF:(qb4 r).length<=1073741824):
  Calls prog 46 #[qam r sh sb,vi,.pointer (sN.map fun S=>⟨S,0,none⟩)] w fun e w'=> ∃v,e=.returned v/\wG w w'/\MatchesIn w'.heap.size w' v (qeo (nxJ r.body Cs neg) r):=by
 obtain⟨pN,aJ⟩:=ex ((sN.map fun S=>(⟨S,0,none⟩:Addr)));obtain⟨N,hN⟩:=ex (w.heap.size);obtain⟨m,y,rfl,-,-,-⟩:=id hR.1;obtain⟨l,t,rfl,-,-,-⟩:=id hR.2;obtain⟨W0,ao⟩:=ex (w.alloc (.cells #[.string r.head.pred,.slice m r.head.args.length y,.slice l r.body.length t] 27));have k0:wG w W0:=by rw [←ao];exact kAl
 have p0:W0.heap[N]?=some (.cells #[.string r.head.pred,.slice m r.head.args.length y,.slice l r.body.length t] 27 (0,0)):=by rw [←ao,←hN];exact qh _ _
 have ar:=qxn (w:=W0) (hR.keep k0.mt) (by have:=k0.size;omega) aF;rw [q6w hr.formed]at ar;have ak:(qu r).length<=1073741824:=by have:=qgx hr.formed r.body.length (zG _);rw [qfj hr.formed] at this;have:=qe0 hr.formed;omega
 unfold qam at ar⊢;obtain⟨ai,ci,rfl,-,-,-⟩:=id hi;have d0:=qb p0 0 _ rfl;have d1:=qb p0 1 _ rfl;have d2:=qb p0 2 _ rfl;have l0:=qe p0;simp only [zD]at d0 d1 d2;rw [aJ];refine qro ?_ hr hR hi aB bD bw bv aA aF aJ hN ao k0 p0 ar;clear hr hR hi aB bD bw bv aA aF aJ hN ao k0 p0 ar;intro ba aW bU aE bb a9 a8 ae cd az bR aY bV b0 a7
 go_enter Tryz.func46,Tryz.ntmps46
 go_wp2_with fail;rw [aY.o,bR.o];refine a7.o.mono ?_;rintro e W1 ⟨vv,rfl,k1,oV⟩;obtain⟨av,cv,rfl⟩:=qj oV;have aL:=bV.o.trans (k1.mono fun b hb _=>hb);have p1:=k1.heap b0.o l0;have hS: ∀X,wG W1 X->X.cell? ⟨N,0,none⟩=some (.string r.head.pred)/\X.cell? ⟨N,1,none⟩=some (.slice m r.head.args.length y)/\X.cell? ⟨N,2,none⟩=some (.slice l r.body.length t):=fun X hX=>by
  have q:=hX.heap p1 trivial;have q0:=qb q 0 _ rfl;have q1:=qb q 1 _ rfl;have q2:=qb q 2 _ rfl;simp only [zD]at q0 q1 q2;exact⟨q0,q1,q2⟩
 obtain⟨Wd,aG⟩:=ex (W1.drew);have kd:wG W1 Wd:=by rw [←aG];exact kDr
 have au:=aL.trans kd;have bl:=hS Wd kd;have cM:N<Wd.heap.size:=by have:=k1.size;have:=kd.size;omega
 have aI:=qjj (w:=Wd) (aW.o.keep au.mt) (by have:=au.size;omega);unfold qam at aI;have bH:=qf oV kd fun _ _=>trivial;clear d0 d1 d2 oV k1 p1;refine hd8 ?_ aL hS aG kd au bl aI bH;clear aL hS aG kd au bl aI bH;intro ce aX a2 bW bc aV a6 bd;go_wp2_with fail;refine qa5 rfl (fun X=>X.cell? ⟨N,0,none⟩=some (.string r.head.pred)/\X.cell? ⟨N,1,none⟩=some (.slice m r.head.args.length y)/\X.cell? ⟨N,2,none⟩=some (.slice l r.body.length t)) [] ?_;rw [a2.o];refine qy [0,1,2,4,5] ?_
 iterate 5
  refine tkN (v:=?_) rfl aV.o ?_ ?_;rotate_left
  ·rintro Wq ⟨x1,x2,x3⟩;go_simp
   try with_reducible rfl
  try simp only [qz]
 refine qm ?_;refine ho 3 rfl fun K c=>?_;go_wp2_with fail;refine a6.o.mono ?_;rintro e W2 ⟨va,ps,rfl,k2,aK,hT,oA⟩;have aw:wG Wd W2:=k2.mono fun b hb _=>hb;have aM:=bW.o.trans aw;have ab:=bc.o.trans aw;have bj:=aX.o W2 aM;obtain⟨B,hB⟩:=ex (W2.heap.size);have cJ:=ab.size;have bx:ps.length=(qaf r.body).length:=by
  have:=yO List.length aK;rw [zL,qmz,zL]at this;exact this
 have cD:=qe0 ba.o.formed;have cH:(qaf r.body).length<=r.body.length:=by
  unfold qaf;exact zW (yf _ _) (by rw [length_range];exact zG _)
 have bG:=qf bd.o aw fun _ _=>trivial;have bp:=qs3 oA rfl wC;obtain⟨aa,ca,rfl⟩:=qj oA;obtain⟨W3,ap⟩:=ex (W2.alloc (.cells #[.string r.head.pred,.slice m r.head.args.length y,.slice l r.body.length t,.slice av (qu r).length cv,.slice aa ps.length ca,.slice ai g.length ci,.pointer pN,.slice none 0 0] 132));have k3:wG W2 W3:=by rw [←ap];exact kAl
 have p3:W3.heap[B]?=some (.cells #[.string r.head.pred,.slice m r.head.args.length y,.slice l r.body.length t,.slice av (qu r).length cv,.slice aa ps.length ca,.slice ai g.length ci,.pointer pN,.slice none 0 0] 132 (0,0)):=by rw [←ap,←hB];exact qh _ _
 have bk:=aX.o W3 (aM.trans k3);have hC:NxC B W2 r (.slice m r.head.args.length y) (.slice l r.body.length t) (.slice av (qu r).length cv) (.slice aa ps.length ca) (.slice ai g.length ci) sN ps g Cs neg:=by
  subst hB;have bs:Keep (fun b=>b<n) w W2:=ab.mt;have bt:Keep (fun b=>b<w.heap.size) w W2:=ab.mt;have bz:qm0 n W2 (.slice ai g.length ci) g:=SliceIn.mono bU.o fun b o s hb hx=>bs.cell hx hb;exact⟨(aW.o.keep bs).wider wC,qbq bG ak,bp,aK,fun p hp=>qfn (hT p hp) wC,SliceIn.wider bz wC (fun _ _ _ _ h=>h),by rw [aE.o,bx],fun k s hs=>((bb.o k s hs).keep bt).low,a9.o,(a8.o.keep bt).low⟩
 have U: ∀X V KK,wG W3 X->X.heap[V]?=some (.cells (Array.replicate (qu r).length (.string ⟨#[]⟩)) 9 (0,0))->X.heap[KK]?=some (.cells (madeCells #[.bool false] (qu r).length) 4 (0,0))->
   Calls prog 83 #[.pointer (some ⟨B,0,none⟩),.int .i64 0,.slice (some ⟨V,0,none⟩) (qu r).length (qu r).length,.slice (some ⟨KK,0,none⟩) (qu r).length (qu r).length] X fun e W'=> ∃v0 aN al,e=.returned v0/\NxO B W' (fun v=> #[.string r.head.pred,.slice m r.head.args.length y,.slice l r.body.length t,.slice av (qu r).length cv,.slice aa ps.length ca,.slice ai g.length ci,.pointer pN,v]) aN al/\wG w W'/\
    al.map (·.1)=qeo (nxJ r.body Cs neg) r/\al.length<=1000000:=fun X V KK hX hV bm=>by
  have R:NxO B X (fun v=> #[.string r.head.pred,.slice m r.head.args.length y,.slice l r.body.length t,.slice av (qu r).length cv,.slice aa ps.length ca,.slice ai g.length ci,.pointer pN,v]) (.slice none 0 0) []:=⟨hX.heap p3 wH,zj _ _ _ _,fun q hq=>(by cases hq),fun q hq=>(by cases hq)⟩;rw [qy3]at bm;have h1:=q4r ba.o hC wC ps.length 0 wC X (.slice none 0 0) (.slice (some ⟨V,0,none⟩) (qu r).length (qu r).length) (.slice (some ⟨KK,0,none⟩) (qu r).length (qu r).length) [] (List.replicate (qu r).length ⟨#[]⟩) (List.replicate (qu r).length false) qca ((k3.trans hX).mt) (by rw [az.o];exact R) (q4s _) (by rw [length_replicate,map_replicate];exact qt0 hV ak) (by rw [length_replicate,map_replicate];exact qt0 bm ak) (fun x hx=>(by simp [q8] at hx)) (by simpa using ae.o);rw [az.o]at h1;refine h1.mono ?_;rintro e W' ⟨v0,aN,al,rfl,b4,b2,b7,cE,b6⟩;refine⟨v0,aN,al,rfl,b4,?_,?_,by rw [b6];simpa using ae.o⟩
  ·exact((ab.trans (k3.trans hX)).mt).trans (b2.mono fun b hb (h:b<w.heap.size)=>⟨hb,wC,fun e=>by simp [Value.ownBlock] at e⟩) |>.mono fun b hb _=>hb
  ·rw [b7];exact q1f r Cs neg
 have aD:=fun u=>qkj (qu r).length ak u;have aC:=fun u=>qjk (qu r).length ak u;obtain⟨We,aH⟩:=ex (W3.drew);have ke:wG W3 We:=by rw [←aH];exact kDr
 obtain⟨Wa,ah⟩:=ex ((We.alloc (.cells (Array.replicate (qu r).length (.string ⟨#[]⟩)) 9)).alloc (.cells (madeCells #[.bool false] (qu r).length) 4));obtain⟨Wb,aj⟩:=ex ((We.alloc (.cells (madeCells #[.bool false] (qu r).length) 4)).alloc (.cells (Array.replicate (qu r).length (.string ⟨#[]⟩)) 9));have bq:=U Wa We.heap.size (We.heap.size+1) (by rw [←ah];exact ke.trans (kAl.trans kAl)) (by rw [←ah];exact(Keep.alloc (fun _=>True) _ _).heap (qh _ _) wH) (by
  rw [←ah];have:=qh (We.alloc (.cells (Array.replicate (qu r).length (.string ⟨#[]⟩)) 9)) (.cells (madeCells #[.bool false] (qu r).length) 4);rw [zO]at this;exact this)
 have br:=U Wb (We.heap.size+1) We.heap.size (by rw [←aj];exact ke.trans (kAl.trans kAl)) (by
  rw [←aj];have:=qh (We.alloc (.cells (madeCells #[.bool false] (qu r).length) 4)) (.cells (Array.replicate (qu r).length (.string ⟨#[]⟩)) 9);rw [zO]at this;exact this) (by rw [←aj];exact(Keep.alloc (fun _=>True) _ _).heap (qh _ _) wH)
 clear U k2 aK hT aw aM oA bG bp hC p3 bx;refine qhv ?_ ab bj hB ap k3 bk aH ke ah aj bq br;clear ab bj hB ap k3 bk aH ke ah aj bq br;intro cf ax bQ aZ cA ay a3 cB a0 a1 a4 a5;go_wp2_with fail;refine c.o _ _ (fun _=>ax.o) ?_;refine qy [6] ?_
 iterate 1
  refine tkN (v:=?_) rfl ax.o ?_ ?_;rotate_left
  ·rintro Wq ⟨x1,x2,x3⟩;go_simp
   try with_reducible rfl
  try simp only [qz]
 refine qm ?_;refine ho 7 rfl fun K d=>?_;go_wp2_with fail;rw [aZ.o,bQ.o];refine d.o _ _ (fun _=>ay.o) ?_;refine qy [8] ?_
 iterate 1
  refine tkN (v:=?_) rfl ay.o ?_ ?_;rotate_left
  ·rintro Wq ⟨x1,x2,x3⟩;go_simp
   try with_reducible rfl
  try simp only [qz]
 refine qm ?_;refine qbh wD ?_;clear c d;go_wp2_with fail;refine qa5 rfl (fun _=>True) [] ?_;rw [a3.o];refine qy [0,1,2,4,5] ?_
 iterate 5
  refine tkN (v:=?_) rfl trivial ?_ ?_;rotate_left
  ·rintro Wq _;go_simp
   try with_reducible rfl
  try simp only [qz]
 refine qm ?_;refine q2i (i:=3) (j:=6) rfl rfl wD (fun K hK=>?_) (fun K hK=>?_)
 ·have c:=zg hK;clear hK;go_wp2_with fail;refine c.o _ _ (fun _=>wH) ?_;refine ho 6 rfl fun K d=>?_;go_wp2_with fail;rw [a0.o];refine d.o _ _ (fun _=>wH) ?_;refine qf5 (i:=7) rfl wD (fun K hK=>?_);have z:=zg hK;clear hK aD aC;go_wp2_with fail;refine a4.o.mono ?_;rintro e W5 ⟨v0,vo,qs,rfl,R,ag,hm,hl⟩;have d7:=qb R.box 7 _ rfl;have l5:=qe R.box;simp only [zD]at d7;have Y:=qiq (qq8 R.own rfl wC) (zG _) R.mq;rw [hm]at Y;clear hm;refine hd3 ?_ R ag Y;clear R ag Y;intro bS ad af;go_wp2_with fail;refine z.o _ _ (fun _=>wH) ?_;refine qbh wD ?_;clear c d z;go_wp2_with fail;go_ret;exact⟨_,rfl,ad.o,af.o⟩
 ·have c:=zg hK;clear hK;go_wp2_with fail;refine c.o _ _ (fun _=>wH) ?_;refine ho 3 rfl fun K d=>?_;go_wp2_with fail;rw [a1.o];refine d.o _ _ (fun _=>wH) ?_;refine qf5 (i:=7) rfl wD (fun K hK=>?_);have z:=zg hK;clear hK aD aC;go_wp2_with fail;refine a5.o.mono ?_;rintro e W5 ⟨v0,vo,qs,rfl,R,ag,hm,hl⟩;have d7:=qb R.box 7 _ rfl;have l5:=qe R.box;simp only [zD]at d7;have Y:=qiq (qq8 R.own rfl wC) (zG _) R.mq;rw [hm]at Y;clear hm;refine hd3 ?_ R ag Y;clear R ag Y;intro bS ad af;go_wp2_with fail;refine z.o _ _ (fun _=>wH) ?_;refine qbh wD ?_;clear c d z;go_wp2_with fail;go_ret;exact⟨_,rfl,ad.o,af.o⟩
theorem q60:qcj prog 101 39 1 8:=qc2 (z:=.pointer none) wD wD rfl wF wF
def qf8 (s:Option Nat):Value:=.pointer (s.map fun S=>⟨S,0,none⟩)
theorem q4t {w:World}{base n:Nat}{e:TypeId}{v:Value}{c:List (Option Nat)}(h:w.ownsRow base e 1 v n (c.map qf8))(l:n=c.length)(d:c.length<=1073741824):qm0 w.heap.size w v c:=
 qdb h c l d _ fun b k x m g=>by
  have:=g 0 wF;rw [zP,show k*1+0=k from wC,m]at this
  simpa [qf8]using this
def qt2 (m:Nat)(so sd sa:Option Nat)(i:Nat):List Value:=((List.range i).map (dF m so sd sa)).map qf8
theorem qop (n:Nat)(w:World):MatchesIn n w (.slice none 0 0) []:=⟨none,0,rfl,wF,⟨wF,wF⟩,fun k x h=>(by cases h)⟩
theorem qls {n:Nat}{w:World}{r:RuleD}{sh sb:Value}{so sd sa sN:Option Nat}{O F A B:List qk}(hr:qce r)(hR:RuleIn n w sh sb r)(hn:n<=w.heap.size)(k:Int)(hO:RSt w so O)(hF:RSt w sd F)(hA:RSt w sa A)(hB:RSt w sN B)(oO: ∀x,x∈O->okF x=true)(oF: ∀x,x∈F->okF x=true)(oA: ∀x,x∈A->okF x=true)
  (af: ∀m,(qeo (qie r.body O F A B (qcb r.body) m) r).length<=20000) (ax:(qb4 r).length<=1073741824):
  Calls prog 29 #[qam r sh sb,.int .i64 k,qf8 so,qf8 sd,qf8 sa,qf8 sN] w fun e w'=> ∃v,e=.returned v/\wG w w'/\MatchesIn w'.heap.size w' v (qf0 r k O F A B):=by
 obtain⟨N,hN⟩:=ex (w.heap.size);obtain⟨aq,au,rfl,-,-,-⟩:=id hR.1;obtain⟨ap,ar,rfl,-,-,-⟩:=id hR.2;obtain⟨W0,ah⟩:=ex (w.alloc (.cells #[.string r.head.pred,.slice aq r.head.args.length au,.slice ap r.body.length ar] 27));have k0:wG w W0:=by rw [←ah];exact kAl
 have p0:W0.heap[N]?=some (.cells #[.string r.head.pred,.slice aq r.head.args.length au,.slice ap r.body.length ar] 27 (0,0)):=by rw [←ah,←hN];exact qh _ _
 have ay:=qjj (w:=W0) (hR.keep k0.mt) (by have:=k0.size;omega);have g: ∀W vi Y,wG w W->qm0 W.heap.size W vi Y->Y.length=(qaf r.body).length->(∀(j:Nat) (s:Option Nat),Y[j]?=some s->s=dF k.toNat so sd sa j)->0<=k/\k<(qaf r.body).length->Calls prog 46 #[qam r (.slice aq r.head.args.length au) (.slice ap r.body.length ar),vi,qf8 sN] W fun e w'=> ∃v,e=.returned v/\wG w w'/\MatchesIn w'.heap.size w' v (qf0 r k O F A B):=fun W vi Y hW hp hl hd hk=>by
  have ai:Keep (fun b=>b<w.heap.size) w W:=hW.mt;have aU:(nxM r (dF k.toNat O F A) B 0 qca).length<=1000000:=by
   have h1:=yO List.length (q1f r (dF k.toNat O F A) B);rw [qhw]at h1;have h2:=af k.toNat;have h3:(qeo (nxJ r.body (dF k.toNat O F A) B) r).length<=20000:=h2;omega
  have hm:=qt1 (n:=W.heap.size) (w:=W) (Cs:=dF k.toNat O F A) (neg:=B) hr ((hR.keep hW.mt).wider (by have:=hW.size;omega)) (zG _) hp hl (fun j s hs=>by
   rw [hd j s hs];unfold dF;split
   ·exact hO.keep ai
   ·split
    ·exact hF.keep ai
    ·exact hA.keep ai) (fun j x hx=>by
   rcases qv6 k.toNat O F A j with h |h |h<;>rw [h] at hx
   ·exact oO x hx
   ·exact oF x hx
   ·exact oA x hx) (hB.keep ai) aU ax
  refine hm.mono ?_;rintro e w' ⟨v,rfl,hK,hM⟩;refine⟨v,rfl,hW.trans hK,?_⟩;unfold qf0;rw [zI hk];exact hM
 have d0:=qb p0 0 _ rfl;have d1:=qb p0 1 _ rfl;have d2:=qb p0 2 _ rfl;have l0:=qe p0;simp only [zD]at d0 d1 d2;unfold qam at ay g⊢;unfold qf8 at g⊢;obtain⟨p1,h1⟩:=ex ((so.map fun S=>(⟨S,0,none⟩:Addr)));obtain⟨p2,h2⟩:=ex ((sd.map fun S=>(⟨S,0,none⟩:Addr)));obtain⟨p3,h3⟩:=ex ((sa.map fun S=>(⟨S,0,none⟩:Addr)));obtain⟨p4,h4⟩:=ex ((sN.map fun S=>(⟨S,0,none⟩:Addr)));rw [h1,h2,h3,h4];rw [h4]at g;have aQ:=qe0 hr.formed;have aV:(qaf r.body).length<=r.body.length:=by
  unfold qaf;exact zW (yf _ _) (by rw [length_range];exact zG _)
 refine qb5 ?_ hr hR hO hF hA hB oO oF oA af ax hN ah k0 p0 ay;clear hr hR hO hF hA hB oO oF oA af ax hN ah k0 p0 ay;intro bV bU bS bR bP bQ b1 b0 bW bc bv bb aI bd bf aL;refine hd7 ?_ g h1 h2 h3 h4 aQ aV;clear g h1 h2 h3 h4 aQ aV;intro y a8 a9 ba bO aJ aM
 go_enter Tryz.func29,Tryz.ntmps29
 go_wp2_with fail;rw [aI.o,bb.o];refine aL.o.mono ?_;rintro e W1 ⟨va,ps,rfl,k1,aX,-,oP⟩;obtain⟨aa,ca,rfl⟩:=qj oP;have ab:=bd.o.trans (k1.mono fun b hb _=>hb);have ad:=k1.heap bf.o l0;have aW:ps.length=(qaf r.body).length:=by
  have:=yO List.length aX;rw [zL,qmz,zL]at this;exact this
 rw [aW];obtain⟨np,hnp⟩:=ex ((qaf r.body).length);rw [hnp];have b9:np<=256:=by have:=aJ.o;have:=aM.o;omega
 have z1:=k1.size;clear aX oP aW k1 d0 d1 d2;rcases Int.lt_or_le k 0 with hk0 |hk0
 ·have hE:qf0 r k O F A B= []:=by unfold qf0;rw [zF wC]
  refine hd4 ?_ ab ad hnp hE;clear ab ad hnp hE;intro R X al am;go_wp2_with fail;go_ret;exact⟨_,rfl,R.o,by rw [am.o];exact qop _ _⟩
 have aS: ¬k<0:=wC
 rcases Int.lt_or_le k np with hkn |hkn
 ·have aT: ¬(np:Int)<=k:=by omega
  have g:=fun W vi Y h1 h2 h3 h4=>y.o W vi Y h1 h2 h3 h4 ⟨hk0,by rw [hnp];exact hkn⟩;obtain⟨m,rfl⟩: ∃m:Nat,k=m:=⟨k.toNat,wC⟩;rw [hnp]at g;simp only [Int.toNat_natCast]at g;clear y;obtain⟨M,hM⟩:=ex (W1.heap.size);have bI:decide ((m:Int)<0)=false:=zM aS;have bJ:decide ((np:Int)<=(m:Int))=false:=zM aT;have bK:decide (np<=m)=false:=zM wC;have cb: ¬np<=m:=wC
  refine hd5 ?_ ab ad hnp g hM;clear ab ad hnp g hM;intro R X al y ao;go_wp2_with fail
  go_loopw [14,15] (fun vt ix wr=> ∃i:Nat,i<=np/\ix=.int .i64 (i:Int)/\Keep (fun b=>b<M) W1 wr/\wr.ownsRow M 39 1 vt i (qt2 m so sd sa i)) (fun _ ix _=>np-(intOf ix).toNat)
  case atStart=>exact⟨0,wC,rfl,Keep.refl _ _,zj _ _ _ _⟩
  case round=>
   obtain⟨i,hi,rfl,hK,p⟩:=hrel;have hz:=hK.size;have b6:(0:Int)<=i:=wC
   obtain⟨bg,ct,rfl⟩:=qj p;by_cases bp:i<np
   ·have bL:(i:Int)<np:=by omega
    have aZ:qt2 m so sd sa (i+1)=qt2 m so sd sa i++ [qf8 (dF m so sd sa i)]:=by unfold qt2;rw [xz,zn,zn];rfl
    have u: ∀s,dF m so sd sa i=s-> ∃v3 W3,(Builtin.append_ #[101,101] 101 #[.slice bg i ct,.slice (some ⟨wr.heap.size,0,none⟩) 1 1]).run prog (wr.alloc (.cells #[qf8 s] 39))=.ok v3 W3/\Keep (fun b=>b<M) W1 W3/\W3.ownsRow M 39 1 v3 (i+1) (qt2 m so sd sa (i+1)):=fun s hs=>by
     obtain⟨v3,W3,l,bq,bn,-⟩:=qc8 (P:=prog) q60 101 p [qf8 s] rfl (by simp [qf8,Value.oneCell']) wC (by have:=ao.o;omega);refine⟨v3,W3,l,hK.trans (bn.mono fun b _ h=>qd4 p h),?_⟩;rw [aZ,hs];exact bq
    clear aZ;by_cases hl:i<m
    ·have bo:(i:Int)<m:=by omega
     obtain⟨v3,W3,l,U,t⟩:=u so (by unfold dF;rw [zI hl]);simp only [qf8,a8.o]at l;obtain⟨a3,c3,rfl⟩:=qj t;clear u hl;refine hd5 ?_ hK p l U t;clear hK p l U t;intro an ae z c d;go_wp2_with (at_builtin;refine qbu rfl _ _ _ rfl rfl rfl z.o ?_);go_roundw
     case rel=>first |exact⟨i+1,wC,by go_num,c.o,d.o⟩ |exact⟨_,_,_,_,_,_,_,_,_,_,_,_,_,_,_,_,_,_,_,_,_,_,_,_,_,_,_,⟨i+1,wC,by go_num,c.o,d.o⟩,rfl⟩ |((repeat apply Exists.intro);exact⟨⟨i+1,wC,by go_num,c.o,d.o⟩,rfl⟩)
     case measure=>simp [intOf];omega
    ·have bo: ¬(i:Int)<m:=by omega
     by_cases he:i=m
     ·have bm:((i:Int)==m)=true:=xE.2 wC;obtain⟨v3,W3,l,U,t⟩:=u sd (by unfold dF;rw [zF wC,zI he]);simp only [qf8,a9.o]at l;obtain⟨a3,c3,rfl⟩:=qj t;clear u hl he;refine hd5 ?_ hK p l U t;clear hK p l U t;intro an ae z c d;go_wp2_with (at_builtin;refine qbu rfl _ _ _ rfl rfl rfl z.o ?_);go_roundw
      case rel=>first |exact⟨i+1,wC,by go_num,c.o,d.o⟩ |exact⟨_,_,_,_,_,_,_,_,_,_,_,_,_,_,_,_,_,_,_,_,_,_,_,_,_,_,_,⟨i+1,wC,by go_num,c.o,d.o⟩,rfl⟩ |((repeat apply Exists.intro);exact⟨⟨i+1,wC,by go_num,c.o,d.o⟩,rfl⟩)
      case measure=>simp [intOf];omega
     ·have bm:((i:Int)==m)=false:=y9.2 wC;obtain⟨v3,W3,l,U,t⟩:=u sa (by unfold dF;rw [zF wC,zF wC]);simp only [qf8,ba.o]at l;obtain⟨a3,c3,rfl⟩:=qj t;clear u hl he;refine hd5 ?_ hK p l U t;clear hK p l U t;intro an ae z c d;go_wp2_with (at_builtin;refine qbu rfl _ _ _ rfl rfl rfl z.o ?_);go_roundw
      case rel=>first |exact⟨i+1,wC,by go_num,c.o,d.o⟩ |exact⟨_,_,_,_,_,_,_,_,_,_,_,_,_,_,_,_,_,_,_,_,_,_,_,_,_,_,_,⟨i+1,wC,by go_num,c.o,d.o⟩,rfl⟩ |((repeat apply Exists.intro);exact⟨⟨i+1,wC,by go_num,c.o,d.o⟩,rfl⟩)
      case measure=>simp [intOf];omega
   ·obtain rfl:i=np:=by omega
    have az:=R.o.trans (hK.mono fun b hb _=>by have:=ao.o;omega:wG W1 wr);have aY:=q4t p wE (by simp;omega);have aR:=y.o wr _ _ az aY wE (fun j s hs=>by
     rw [zP]at hs;cases ag:(List.range i)[j]? with
     |none=>rw [ag] at hs;cases hs
     |some q=>
      rw [ag]at hs;have:q=j:=by
       have:=xu (show j<i from by have:=(zA.1 ag).1;simpa using this);rw [this]at ag;exact(yI ag).symm
      subst this;exact(yI hs).symm)
    have q:=hK.heap X.o (by have:=qe X.o;have:=ao.o;omega);have c0:=qb q 0 _ rfl;have c1:=qb q 1 _ rfl;have c2:=qb q 2 _ rfl;have lq:=qe q;simp only [zD]at c0 c1 c2;clear bp q aY;refine hd4 ?_ hK p az aR;clear hK p az aR;intro an ae bw aK;go_wp2_with fail;refine aK.o.mono ?_;rintro e W9 ⟨v9,rfl,aO,aP⟩;refine hd2 ?_ aO aP;clear aO aP;intro aG aH;go_wp2_with fail;go_ret;exact⟨_,rfl,aG.o,aH.o⟩
 ·have hE:qf0 r k O F A B= []:=by unfold qf0;rw [zF wC]
  refine hd4 ?_ ab ad hnp hE;clear ab ad hnp hE;intro R X al am;go_wp2_with fail;go_ret;exact⟨_,rfl,R.o,by rw [am.o];exact qop _ _⟩
theorem qm1 {n:Nat}{w:World}{va vb:Value}{d:List qa0}(ha:MatchesIn n w va d)(hb:MatchesIn n w vb d)(hn:n<=w.heap.size):
  Calls prog 18 #[va,vb] w fun e w'=>e=.returned (.bool true)/\wG w w':=by
 obtain⟨aa,ca,rfl,aF,aC,R⟩:=id ha;obtain⟨ab,cb,rfl,aG,aD,U⟩:=id hb;have aH:((d.length:Int) !=d.length)=false:=wE
 refine hd4 ?_ ha hb R U;clear ha hb R U;intro an ao v x
 go_enter Tryz.func18,Tryz.ntmps18
 go_wp2_with fail
 go_loopw [5] (fun ix wr=> ∃k:Nat,k<=d.length/\ix=.int .i64 (k:Int)/\wG w wr) (fun i _=>d.length-(intOf i).toNat)
 case atStart=>exact⟨0,wC,rfl,Keep.refl _ _⟩
 case round=>
  obtain⟨k,hk,rfl,hK⟩:=hrel;have aE:(0:Int)<=k:=wC
  have hs:=hK.size;by_cases X:k<d.length
  ·have ak:(k:Int)<d.length:=by omega
   obtain⟨a,h⟩: ∃a,d[k]?=some a:=⟨_,zB X⟩;obtain⟨b,o,rfl,aA,xh,xv,l,p,q⟩:=v.o k a h;obtain⟨b2,o2,rfl,az,yh,yv,c,r,s⟩:=x.o k a h;obtain⟨ah,ch,rfl,-,-,-⟩:=id p;obtain⟨av,cv,rfl,-,-,-⟩:=id q;obtain⟨Y,ae,rfl,-,-,-⟩:=id r;obtain⟨ad,af,rfl,-,-,-⟩:=id s;have f0:=hK.cell (l 0 _ rfl) trivial;have f1:=hK.cell (l 1 _ rfl) trivial;have f2:=hK.cell (c 0 _ rfl) trivial;have f3:=hK.cell (c 1 _ rfl) trivial;simp only [Nat.add_zero]at f0 f2;have aB:b<wr.heap.size:=wC
   have aj:b2<wr.heap.size:=wC
   have y: ∀m,Calls prog 61 #[.slice ah a.head.length ch,.slice Y a.head.length ae] (wr.drewN m) fun e w'=>e=.returned (.bool true)/\ ∃m',w'=(wr.drewN m).drewN m':=fun m=>by
    have:=qmx n _ _ a.head a.head (wr.drewN m) (qan p ((hK.trans (Keep.drewN' _ _ _)).mt)) (qan r ((hK.trans (Keep.drewN' _ _ _)).mt)) (by have:=(Keep.drewN' (fun _=>True) wr m).size;omega);rw [zS rfl]at this;exact this
   have z: ∀m,Calls prog 61 #[.slice av a.vals.length cv,.slice ad a.vals.length af] (wr.drewN m) fun e w'=>e=.returned (.bool true)/\ ∃m',w'=(wr.drewN m).drewN m':=fun m=>by
    have:=qmx n _ _ a.vals a.vals (wr.drewN m) (qan q ((hK.trans (Keep.drewN' _ _ _)).mt)) (qan s ((hK.trans (Keep.drewN' _ _ _)).mt)) (by have:=(Keep.drewN' (fun _=>True) wr m).size;omega);rw [zS rfl]at this;exact this
   clear h l c p q r s;refine hd3 ?_ hK y z;clear hK y z;intro g t u;go_wp2_with fail
   go_quiet ((go_at_call 61;first |with_reducible exact Calls.quiet_of (t.o _) |with_reducible exact Calls.quiet_of (u.o _)))
   go_wp2_with fail;go_roundw
   case rel=>exact⟨k+1,wC,by go_num,g.o.trans (Keep.drewN' _ _ _)⟩
   case measure=>simp [intOf];omega
  ·obtain rfl:k=d.length:=by omega
   clear X;refine hd1 ?_ hK;clear hK;intro g;go_wp2_with fail;go_ret;exact⟨rfl,g.o⟩
end Go.Proofs
