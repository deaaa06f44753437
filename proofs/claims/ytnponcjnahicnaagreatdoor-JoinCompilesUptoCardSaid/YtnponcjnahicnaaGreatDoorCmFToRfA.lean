/- Parts of the proof. -/
import Derived.Test.YtnponcjnahicnaaGreatDoorRoAToRoB
import Derived.Laws.Cover1
set_option linter.unusedSimpArgs false
set_option linter.unusedVariables false
set_option maxRecDepth 100000
set_option maxHeartbeats 2000000
open Go.Proofs.Tryz(prog)
open List(foldl_cons nil_append)
namespace Go.Proofs
open Go.RowKit Go.Ink Go.Flt R4 P16
theorem qp7 {r:RuleD}(h:qak r=true): ∀L,L∈r.body->ql L=L.terms:=fun L c=>by
 have b:=(qbr h).2.2 L c;unfold qb3 at b;unfold ql LitD.terms;split at b
 ·rename_i hk;rw [zF xz,zI hk]
 ·rename_i hk;split at b
  ·rename_i h3;rw [zI h3,zF hk,zI h3]
  ·cases b
theorem qp8 (ts:List TermD): ∀vars,qa0 vars ts=((ts.filter (·.var)).map (·.text)).foldl q8 vars:=by
 induction ts with
 |nil=>intro vars;rfl
 |cons t ts ih=>
  intro vars;show qa0 (if t.var=true then q8 vars t.text else vars) ts=_;rw [ih];by_cases b:t.var=true
  ·rw [zI b,xU b];rfl
  ·rw [zF b,xf b]
theorem qog {r:RuleD}(h:qak r=true):qbj r r.body.length=qm r:=by
 unfold qbj qm;rw [zi,qnn];have b: ∀(l:List LitD) (vs:List ByteArray),(∀L,L∈l->ql L=L.terms)->l.foldl (fun vs L=>qa0 vs (ql L)) vs=(l.flatMap LitD.uses).foldl q8 vs:=by
  intro l
  induction l with
  |nil=>intro vs _;rfl
  |cons L l ih=>
   intro vs c;rw [foldl_cons,ih _ (fun x d=>c x (yC _ d)),yE,yk,c L (yI ..),qp8]
   rfl
 rw [b _ _ (qp7 h),qp8];unfold qa2;rw [yk]
 rfl
theorem qoh {r:RuleD}(h:S12.looseOf r=none): ∀x,x∈r.names->x∈qb0 r.body:=fun x b=>by
 have:=ym.1 h x b
 simpa using this
theorem qye {body:List LitD}{x:ByteArray}(h:x∈qb0 body):x∈qaa body (qcn body):=by
 unfold qb0 at h;rw [qeu,xC]at h;obtain⟨L,b,d⟩:=h;rw [yU]at b;obtain⟨i,hi⟩:=zw.1 b.1;have e:L.kind=1:=by simpa using b.2
 have c:=(zA.1 hi).1;rw [qgx];refine⟨i,?_,?_,?_⟩
 ·unfold qcn;rw [yU,yh,qjp hi];exact⟨c,by simp [e]⟩
 ·rw [qjp hi];omega
 ·rw [zJ,hi];unfold LitD.uses LitD.terms at d;rw [zI (.inl e)]at d;exact d
theorem quc {x:ByteArray}: ∀(l:List LitD) (K:List ByteArray),(x∈K∨ ∃L,L∈l/\L.kind=1/\x∈(L.atom.args.filter (·.var)).map (·.text))->x∈l.foldl (fun K L=>if L.kind=1 then K++qbt K L.atom.args else K) K:=by
 intro l
 induction l with
 |nil=>
  intro K h;rcases h with h |⟨L,h,-⟩
  ·exact h
  ·cases h
 |cons M l ih=>
  intro K h;rw [foldl_cons];refine ih _ ?_;rcases h with h |⟨L,hL,hk,hx⟩
  ·left;split
   ·exact xd _ h
   ·exact h
  ·rcases zt.1 hL with rfl |hL
   ·left;rw [zI hk,zn]
    by_cases hK:x∈K
    ·exact .inl hK
    ·right;obtain⟨t,b,rfl⟩:=yK.1 hx
     rw [yU]at b;unfold qbt;rw [qeu];refine yK.2 ⟨t,yU.2 ⟨b.1,?_⟩,rfl⟩;unfold qb8;rw [b.2,zM hK]
     rfl
   ·exact .inr ⟨L,hL,hk,hx⟩
theorem q3d {body:List LitD}{x:ByteArray}(h:x∈qb0 body):x∈qbh body:=by
 unfold qb0 at h;rw [qeu,xC]at h;obtain⟨L,b,c⟩:=h;rw [yU]at b;have d:L.kind=1:=by simpa using b.2
 unfold LitD.uses LitD.terms at c;rw [zI (.inl d)]at c;unfold qbh;exact quc _ _ (.inr ⟨L,b.1,d,c⟩)
theorem qwa {r:RuleD}(f:qak r=true)(h:S12.looseOf r=none):qds r=true:=by
 have i:=qoh h;have b: ∀L t,L∈r.lits->t∈L.terms->qb8 (qbh r.body) t=false:=fun L t d c=>by
  unfold qb8;cases j:t.var with
  |false=>rfl
  |true=>
   rw [zS (q3d (i _ (qkx d c j)))]
   rfl
 unfold qds;rw [zV,xI,yL];refine⟨xY.2 fun t c=>?_,fun L d=>?_⟩
 ·rw [b r.headLit t (yI ..) (by unfold LitD.terms RuleD.headLit;rw [zI (.inl rfl)];exact c)];simp
 ·unfold qcj;by_cases g:L.kind=1
  ·rw [zS g];rfl
  ·rw [y8];right;rw [xI];refine xY.2 fun t c=>?_;have e:qel L=L.terms:=by rw [←qp7 f L d];rfl
   rw [e]at c;rw [b L t (yC _ d) c];simp
theorem q3e {r:RuleD}(h:qcy r=0):qek r/\qak r=true/\S12.looseOf r=none:=by
 have c:qak r=true:=by
  cases b:qak r with
  |true=>rfl
  |false=>unfold qcy at h;rw [b,zF wB] at h;cases h
 have f:S12.looseOf r=none:=by
  cases b:S12.looseOf r with
  |none=>rfl
  |some x=>unfold qcy at h;rw [c,zI rfl,b,zF wB] at h;cases h
 refine⟨⟨c,qwa c f,fun x i=>qye (qoh f x i),fun L t d g=>qof c L d t g,fun L d=>?_,fun e=>?_⟩,c,f⟩
 ·have b:=(qbr c).2.2 L d;unfold qb3 at b;split at b
  ·simp only [zV]at b;have:=(qfl b.1.1).1;unfold qdi qbi at this;simp only [zV,zT]at this;omega
  ·split at b
   ·simp only [zV,zT]at b;rw [b.1.1.1];exact ya _
   ·cases b
 ·have:=(qfl (qbr c).2.1).1;unfold qdi qbi at this;simp only [zV,zT]at this;rw [e]at this;exact absurd this.1.1.2.1 wC
theorem qjq {n:Nat}{r:RuleD}{sh g:Value}{w:World}(l:RuleIn n w sh g r)(k:n<=w.heap.size):
  Calls prog 9 #[qaz r sh g] w fun e w'=>Keep (fun b=>b<w.heap.size) w w'/\((qcy r≠0/\e=.returned (.tuple #[.pointer none,.int .i64 (qcy r)]))∨(qek r/\ ∃J vha vb vv va vt vh,e=.returned (.tuple #[qj J,.int .i64 0])/\
   JoinAt (fun b=>w.heap.size<=b/\b<w'.heap.size) w'.heap.size w' J r (qm r) (qcg r.body r.body.length) vha vb vv va vt vh)):=by
 refine(qub qpc l k).mono ?_;rintro e w' ⟨d,c |⟨c,J,vha,vb,vv,va,vt,vh,h,f⟩⟩
 ·exact⟨d,.inl c⟩
 ·obtain⟨i,j,-⟩:=q3e c;rw [qog j]at f;exact⟨d,.inr ⟨i,J,vha,vb,vv,va,vt,vh,h,f⟩⟩
end Go.Proofs
namespace Go.Proofs
open Go.RowKit Go.Ink Go.Flt R4 P16
attribute [local go_sem] Oper.semAt_some
theorem qyf {m:Nat}{w:World}{a:Option Addr}{c:Nat}{ts:List ByteArray}(h:qal m w (.slice a ts.length c) ts):(∀b,a=some b-> ∀j u,(ts.map Value.string)[j]?=some u->w.cell? (b.add j)=some u)/\(a=none->ts.length=0):=by
 obtain⟨a',s,r,v,t,l⟩:=h;injection r with h1 h2 h3
 subst h1;refine⟨fun b p j u d=>?_,fun h=>?_⟩
 ·rw [zP]at d;cases i:ts[j]? with
  |none=>rw [i] at d;cases d
  |some x=>
   rw [i]at d;cases d;obtain⟨k,o,e,q,f⟩:=l j x i;rw [p]at e;cases e;unfold qf2 at f;rw [yA]at f;rw [show((⟨k,o,none⟩:Addr).add j)=⟨k,o+j,none⟩ from by unfold Addr.add;split<;>simp_all];exact f
 ·cases g:ts with
  |nil=>rfl
  |cons x xs=>
   obtain⟨b,o,e,-⟩:=l 0 x (by rw [g];rfl);rw [h]at e;cases e
theorem qyg (ts:List ByteArray): ∀u∈ts.map Value.string,u.oneCell'=true:=fun u b=>by
 obtain⟨x,_,rfl⟩:=yK.1 b;simp [Value.oneCell']
theorem qrw {w:World}{m:Nat}{v:Value}{ts:List ByteArray}(h:qal m w v ts)(hm:m<=w.heap.size):Calls prog 87 #[v] w fun e w'=> ∃v',e=.returned v'/\w'.ownsRow w.heap.size 9 1 v' ts.length (ts.map .string)/\wD w w':=by
 obtain⟨a,c,rfl,hl,hc,X⟩:=id h;obtain⟨z,y⟩:=qyf h;obtain⟨W0,d⟩:=ex (w.alloc (.cells #[] 9));have k:wD w W0:=by rw [←d];exact kAl
 have s:=qhh w 9 1;rw [d]at s;obtain⟨v',W1,r,ho,t,x⟩:=qi0 (P:=prog) qgm 60 s a ts.length c (ts.map .string) wB (fun R q j u Y=>k.cell (z R q j u Y) wE) y (qyg ts) xz k.size;rw [nil_append,zD]at ho;have g:Keep (fun b=>b<w.heap.size) w W1:=k.mt.trans (x.mono fun b _ h e=>by
  rcases t b e with h1 |h1
  ·simp [Value.ownBlock]at h1;omega
  ·have:=k.size;omega)
 have i:wD w W1:=g.mono fun b q _=>q;rw [←d]at r;obtain⟨a',U,rfl⟩:=qi ho;clear z y t x g k s d X h;refine hd3 ?_ r ho i;clear r ho i;intro p l f
 go_enter Tryz.func87,Tryz.ntmps87
 go_wp2_with (at_builtin;refine qcd (v:=.slice (some ⟨w.heap.size,0,none⟩) 0 0) (u:=.slice a ts.length c) (v':=.slice a' ts.length U) (w':=W1) rfl (.tmp 3) (.tmp 4) 60 rfl rfl rfl p.o ?_);go_ret;exact⟨_,rfl,l.o,f.o⟩
theorem qud {w:World}{m:Nat}{v:Value}(p:ByteArray){ts:List ByteArray}(h:qal m w v ts)(hm:m<=w.heap.size):Calls prog 64 #[.agg #[.string p,v]] w fun e w'=> ∃v',e=.returned (.agg #[.string p,v'])/\w'.ownsRow w.heap.size 9 1 v' ts.length (ts.map .string)/\wD w w':=by
 obtain⟨a,c,rfl,hl,hc,he⟩:=id h;obtain⟨N,Y⟩:=ex (w.heap.size);obtain⟨W0,d⟩:=ex ((w.alloc (.cells #[.string p,.slice a ts.length c] 86)).alloc (.cells #[.string ⟨#[]⟩,.slice none 0 0] 86));have k0:wD w W0:=by rw [←d];exact kAl.trans kAl
 have z0:W0.heap.size=N+2:=by rw [←d,←Y];simp
 have p0:W0.heap[N]?=some (.cells #[.string p,.slice a ts.length c] 86 (0,0)):=by rw [←d,←Y];exact(Keep.alloc (fun _=>True) _ _).heap (qh w _) trivial
 have p1:W0.heap[N+1]?=some (.cells #[.string ⟨#[]⟩,.slice none 0 0] 86 (0,0)):=by
  rw [←d,←Y];have:=qh (w.alloc (.cells #[.string p,.slice a ts.length c] 86)) (.cells #[.string ⟨#[]⟩,.slice none 0 0] 86);rw [zO]at this;exact this
 obtain⟨Wd,s⟩:=ex (W0.drew);have t:wD W0 Wd:=by rw [←s];exact kDr
 have hS: ∀X,wD W0 X->X.cell? ⟨N,0,none⟩=some (.string p)/\X.cell? ⟨N,1,none⟩=some (.slice a ts.length c):=fun X hX=>by
  have q:=hX.heap p0 trivial;have q0:=qb q 0 _ rfl;have q1:=qb q 1 _ rfl;simp only [zD]at q0 q1;exact⟨q0,q1⟩
 have aa:=hS Wd t;have ad:=qrw (w:=Wd) (qd2 h ((k0.trans t).mt)) (by have:=(k0.trans t).size;omega);have aH:=t.size;refine qho ?_ h Y d k0 p0 p1 s t hS aa ad he;clear h Y d k0 p0 p1 s t hS aa ad he;intro Xh k x ak aD ao z am aj u R aC;refine qbl Tryz.func64 rfl ?_;simp only [Tryz.ntmps64,qdm,Nat.reduceAdd,Nat.reduceSub];gi_wp2;rw [x.o,k.o];refine qag ?_;refine qw rfl (fun X=>X.cell? ⟨N,0,none⟩=some (.string p)/\X.cell? ⟨N,1,none⟩=some (.slice a ts.length c)) [6] ?_;rw [z.o];refine qab [0,1,2,3] ?_
 iterate 4
  refine tkB rfl u.o ?_
  try simp only [qac]
 refine qk ?_;refine hoR 4 rfl fun K g=>?_;gi_wp2;refine⟨wE,rfl,(zU.2 R.o).mono ?_⟩;rintro e W1 ⟨v',rfl,o1,k1⟩;obtain⟨a1,c1,rfl⟩:=qi o1;have f:wD W0 W1:=am.o.trans k1;have ab:=aj.o W1 f;have l:=f.heap ao.o trivial;have d0:=qb l 0 _ rfl;have d1:=qb l 1 _ rfl;have f0:=qg l 0;have f1:=qg l 1;have l1:=qe l;simp only [zD]at d0 d1;have kS:Keep (fun b=>b≠N+1) W1 ((W1.setCell ⟨N+1,0,none⟩ (.string p)).setCell ⟨N+1,1,none⟩ (.slice a1 ts.length c1)):=(kSc).trans (kSc);have U:=qz 1 (.slice a1 ts.length c1) (qz 0 (.string p) l);obtain⟨W2,r⟩:=ex ((W1.setCell ⟨N+1,0,none⟩ (.string p)).setCell ⟨N+1,1,none⟩ (.slice a1 ts.length c1));rw [r]at kS U;have e0:=qb U 0 _ rfl;have e1:=qb U 1 _ rfl;have l2:=qe U;simp only [zD]at e0 e1;have o2:=qf o1 kS (fun b hb=>by have:=(zE o1 b hb).1;omega);have k2:wD w W2:=((ak.o.trans f).mt).trans (kS.mono fun b _ (h:b<N)=>xz) |>.mono fun b hb _=>by have:=k.o;omega
 clear k1 f l U kS o1;refine hd4 ?_ ab r o2 k2;clear ab r o2 k2;intro j y an al;gi_wp2;refine g.o _ _ (fun _=>j.o) ?_;refine qab [5] ?_
 iterate 1
  refine tkB rfl j.o ?_
  try simp only [qac]
 refine qk ?_;refine hoR 6 rfl fun K i=>?_;gi_wp2;rw [y.o];refine i.o _ _ (fun h=>absurd h wC) ?_;refine qx wA (qai ?_);clear g i;gi_wp2;refine zz (v:=.agg #[.string p,.slice a1 ts.length c1]) (by simp [results,Tryz.results64,go_sem,e0,e1,l2]) rfl ⟨_,rfl,an.o.mono (by have:=k.o;omega),al.o⟩
def q5u (n:Nat)(w:World)(b o:Nat)(f:qy):Prop:= ∃sv,CellsE w b o [.string f.pred,sv]/\qal n w sv f.tuple
abbrev FactsIn (n:Nat)(w:World)(v:Value)(fs:List qy):Prop:=SliceIn n w 2 (q5u n) v fs
theorem FactsIn.keep {n:Nat}{w w':World}{v:Value}{fs:List qy}(h:FactsIn n w v fs)(hK:Keep (fun k=>k<n) w w'):FactsIn n w' v fs:=
 h.mono fun b o s hb ⟨sv,h1,h2⟩=>⟨sv,fun j v c=>hK.cell (h1 j v c) hb,qd2 h2 hK⟩
theorem qwb {fs:List qy}{k:Nat}{f:qy}(h:fs[k]?=some f):qfk okF (fs.take (k+1))=qhr okF (qfk okF (fs.take k)) f:=by
 unfold qfk;rw [zh,h,yk]
 rfl
theorem qyh (fs:List qy):(qfk okF fs).length<=fs.length:=by
 have:=qy5 okF fs [];unfold qfk
 simpa using this
theorem q1a (fs:List qy): ∀x,x∈qfk okF fs->okF x=true:=by
 have b: ∀(l:List qy) (c:List qy),(∀x,x∈c->okF x=true)-> ∀x,x∈l.foldl (qhr okF) c->okF x=true:=by
  intro l
  induction l with
  |nil=>intro c h;exact h
  |cons f l ih=>intro c h;exact ih _ (q3r h f)
 exact b fs [] (fun x h=>by cases h)
theorem qrx {n0:Nat}{g:Gh}{w:World}(hg:GInv g w){n:Nat}{v:Value}{fs:List qy}(hf:FactsIn n w v fs)(hn:n<=w.heap.size)(au: ∀b,b<n->g.free b)(az: ∀f,f∈fs->f.pred.size<=1073741824)(aR:fs.length<67108864):
  Calls prog 13 #[v] w fun e w'=> ∃S g',e=.returned (qj S)/\GStep n0 g w g' w'/\g'.st=g.with S (qfk okF fs)/\g'.held=g.held/\w.heap.size<=S:=by
 obtain⟨a,c,rfl,hl,hc,he⟩:=id hf;have y:=qq1 (n0:=n0) hg;refine hd6 ?_ hg hf au az he y;clear hg hf au az he y;intro aW aV aj am aE ab
 go_enter Tryz.func13,Tryz.ntmps13
 go_wp2_with fail;refine ab.o.mono ?_;rintro e W1 ⟨S,g1,rfl,aA,z,aw,hS⟩;refine hd3 ?_ aA z aw;clear aA z aw;intro an ad ak;go_wp2_with fail
 go_loopw [4] (fun i' X=> ∃(k:Nat) (g':Gh),k<=fs.length/\i'=.int .i64 (k:Int)/\GStep n0 g w g' X/\g'.st=g.with S (qfk okF (fs.take k))/\g'.held=g.held) (fun i _=>fs.length-(intOf i).toNat)
 case atStart=>exact⟨0,g1,xz,rfl,an.o,ad.o,ak.o⟩
 case round=>
  obtain⟨k,g',hk,rfl,l,p,t⟩:=hrel;have a6:=l.keep.size;by_cases ay:k<fs.length
  ·have aS:(k:Int)<fs.length:=by omega
   have a3:(0:Int)<=k:=xz
   obtain⟨f,s⟩: ∃f,fs[k]?=some f:=⟨_,zB ay⟩;obtain⟨b,o,rfl,hb,sv,af,ah⟩:=aE.o k f s;have kn:Keep (fun b=>b<n) w wr:=l.keep.mono fun b _ h=>aj.o b h;have d0:=kn.cell (af 0 _ rfl) hb;have d1:=kn.cell (af 1 _ rfl) hb;have a1:b<wr.heap.size:=xz
   have U:=qd2 ah kn;obtain⟨sa,sc,rfl,a4,-,-⟩:=id ah;have ar:=qud f.pred U xz;have aB:=qwb s;have aJ:=qyh (fs.take k);rw [yB]at aJ;have aL:=am.o f (zH s);simp only [Nat.add_zero]at d0;clear af ah U kn s;refine hd5 ?_ l p t ar aB;clear l p t ar aB;intro d j m ai ao;go_wp2_with fail;refine ai.o.mono ?_;rintro e W2 ⟨v',rfl,o2,k2⟩;obtain⟨a2,c2,rfl⟩:=qi o2;have av:=d.o.inv.keep k2.mt;have aq:g'.st S=some (qfk okF (fs.take k)):=by rw [j.o];unfold Gh.with;simp
   have q: ∀a' n' c',Value.slice a2 f.tuple.length c2=.slice (some a') n' c'->g'.tag a'.block=none:=fun a' n' c' e=>by
    injection e with e1 e2 e3
    subst e1;have h1:=(zE o2 a'.block (by simp [Value.ownBlock])).1;cases ht:g'.tag a'.block with
    |none=>rfl
    |some T=>have:=d.o.inv.lt _ _ ht;omega
   have u:=q0s (n0:=n0) av aq f W2.heap.size _ (qcc o2 xz) (zG _) aL xz q;have aC:wD wr W2:=k2;clear k2 o2 aq q av;refine hd2 ?_ u aC;clear u aC;intro Y ap;go_wp2_with fail;refine Y.o.mono ?_;rintro e W3 ⟨g2,rfl,ag,r,ax⟩;have x:GStep n0 g w g2 W3:=(d.o.trans (GStep.own d.o.inv ap.o)).trans ag;have R:g2.st=g.with S (qfk okF (fs.take (k+1))):=by
    rw [r,ao.o]
    funext b
    have h:=congrFun j.o b;unfold Gh.with at h⊢;by_cases hb:b=S<;>simp_all
   refine hd5 ?_ x R ax ag r;clear x R ax ag r;intro aa ae al aO aF;go_wp2_with fail;go_roundw
   case rel=>exact⟨k+1,g2,xz,by go_num,aa.o,ae.o,al.o.trans m.o⟩
   case measure=>simp [intOf];omega
  ·obtain rfl:k=fs.length:=by omega
   rw [zi]at p;clear ay;refine hd3 ?_ l p t;clear l p t;intro d j m;go_wp2_with fail;go_ret;exact⟨S,g',rfl,d.o,j.o,m.o,hS⟩
theorem qfi (n:Nat)(va vb:Value)(xs d:List ByteArray)(w:World)(ha:qal n w va xs)(hb:qal n w vb d)(hn:n<=w.heap.size):
  Calls prog 32 #[va,vb] w fun e w'=>e=.returned (.bool (decide (xs=d)))/\ ∃m,w'=w.drewN m:=by
 obtain⟨aa,ca,rfl,aF,aC,Y⟩:=id ha;obtain⟨ab,cb,rfl,aG,aD,ad⟩:=id hb;refine hd4 ?_ ha hb Y ad;clear ha hb Y ad;intro aq ar U X
 go_enter Tryz.func32,Tryz.ntmps32
 by_cases hl:xs.length=d.length
 ·have t:((xs.length:Int) !=d.length)=false:=by simp [hl]
  refine hd1 ?_ hl;clear hl;intro ag;go_wp2_with fail
  go_loopw [5] (fun i wr=> ∃k:Nat,k<=xs.length/\i=.int .i64 (k:Int)/\(∃m,wr=w.drewN m)/\ ∀j,j<k->xs[j]?=d[j]?) (fun i _=>xs.length-(intOf i).toNat)
  case atStart=>exact⟨0,xz,rfl,⟨0,rfl⟩,fun j h=>xz⟩
  case round=>
   obtain⟨k,hk,rfl,hM,b⟩:=hrel;have hK:wD w wr:=by obtain⟨m,rfl⟩:=hM;exact Keep.drewN' _ _ _
   have r:=zg hM;clear hM;have ak:=ag.o;by_cases al:k<xs.length
   ·obtain⟨x,hx⟩: ∃x,xs[k]?=some x:=⟨_,zB al⟩;obtain⟨y,z⟩: ∃y,d[k]?=some y:=⟨_,zB xz⟩;obtain⟨ba,oa,rfl,aA,u⟩:=U.o k x hx;obtain⟨bb,ob,rfl,aB,v⟩:=X.o k y z;have f1:=hK.cell u trivial;have f2:=hK.cell v trivial;simp only [yA]at f1 f2;have hs:=hK.size;have ay:ba<wr.heap.size:=by omega
    have az:bb<wr.heap.size:=xz
    have ao:(k:Int)<xs.length:=xz
    have ap:(k:Int)<d.length:=xz
    have aE:(0:Int)<=k:=xz
    by_cases c:x=y
    ·have am:(x.toList==y.toList)=true:=qgh c;have g: ∀j,j<k+1->xs[j]?=d[j]?:=fun j hj=>by
      rcases Nat.lt_succ_iff_lt_or_eq.1 hj with h |rfl
      ·exact b j h
      ·rw [hx,z,c]
     clear b hx z c u v t;refine hd2 ?_ g hK;clear g hK;intro p R;go_wp2_with fail
     go_quiet (fail)
     go_wp2_with fail;go_roundw
     case rel=>exact⟨k+1,xz,by go_num,(by obtain⟨m,h⟩:=r.o;rw [h,World.drewN_drewN];exact⟨_,rfl⟩),p.o⟩
     case measure=>simp [intOf];omega
    ·have am:(x.toList==y.toList)=false:=qep c;have l:decide (xs=d)=false:=by
      simp only [yP];intro e;subst e;rw [hx] at z;cases z;exact c rfl
     clear b hx z c u v t;refine hd2 ?_ l hK;clear l hK;intro f R;go_wp2_with fail
     go_quiet (fail)
     go_wp2_with fail;go_ret;exact⟨by rw [f.o];try rfl,(by obtain⟨m,h⟩:=r.o;rw [h,World.drewN_drewN];exact⟨_,rfl⟩)⟩
   ·have q:decide (xs=d)=true:=by
     simp only [zT];exact q5y ak fun j hj=>b j xz
    clear b;refine hd2 ?_ q hK;clear q hK;intro s R;go_wp2_with fail;go_ret;exact⟨by rw [s.o];try rfl,r.o⟩
 ·have t:((xs.length:Int) !=d.length)=true:=by simp;omega
  have l:decide (xs=d)=false:=by
   simp only [yP];intro e;exact hl (by rw [e])
  clear hl;refine hd1 ?_ l;clear l;intro f;go_wp2_with fail;go_ret;exact⟨by rw [f.o];try rfl,⟨0,rfl⟩⟩
theorem qpl (e:Int)(w:World):Calls prog 12 #[.int .i64 e] w fun x w'=>x=.returned (.int .i64 e)/\w'=w:=by
 go_enter Tryz.func12,Tryz.ntmps12
 go_wp2;go_ret;exact⟨wB,rfl⟩
theorem qvh: ∀(x y:List UInt8),Op.bytesLess x y=ltL (x.map UInt8.toNat) (y.map UInt8.toNat)
 | [],[]=>rfl
 |_::_,[]=>rfl
 | [],_::_=>rfl
 |a::x,b::y=>by
  rw [Op.bytesLess,qvh x y,yW,yW,ltL];have h1:(a<b)↔a.toNat<b.toNat:=UInt8.lt_iff_toNat_lt;by_cases h:a.toNat<b.toNat
  ·rw [zI h];simp [h1.2 h]
  ·rw [zF h];have d:decide (a<b)=false:=by simpa using fun e=>h (h1.1 e)
   rw [d,xG];by_cases c:b.toNat<a.toNat
   ·rw [zI c];have:a≠b:=fun e=>by subst e;omega
    simp [this]
   ·rw [zF c];have:a=b:=UInt8.toNat_inj.1 xz;simp [this]
theorem qp9 (a b:ByteArray):Op.bytesLess a.toList b.toList=ltS a b:=by
 rw [qvh,ByteArray.toList_eq,ByteArray.toList_eq]
 rfl
theorem qyi (a b:ByteArray):(!(Op.bytesLess a.toList b.toList ||a.toList==b.toList))=ltS b a:=by
 rw [qp9];by_cases h:a=b
 ·rw [qgh h,h,qkt];rfl
 ·rw [qep h,Bool.or_false];cases c:ltS a b with
  |true=>rw [qqh c];rfl
  |false=>
   cases d:ltS b a with
   |true=>rfl
   |false=>exact absurd (qie c d) h
def qkp (a b:ByteArray):Int:=if ltS a b=true then-1 else if ltS b a=true then 1 else 0
theorem qry (a b:ByteArray)(w:World):Calls prog 163 #[.string a,.string b] w fun x w'=>x=.returned (.int .i64 (qkp a b))/\w'=w:=by
 have g:=qp9 a b;have f:=qyi a b;unfold qkp;cases c:ltS a b with
 |true=>
  rw [c]at g;clear f c;rw [zI rfl]
  go_enter Tryz.func163,Tryz.ntmps163
  go_wp2;go_ret;exact⟨rfl,rfl⟩
 |false=>
  rw [c]at g;rw [zF wB];cases d:ltS b a with
  |true=>
   have h:(a.toList==b.toList)=false:=qep fun e=>by subst e;rw [qkt] at d;cases d
   clear f c d;rw [zI rfl]
   go_enter Tryz.func163,Tryz.ntmps163
   go_wp2;go_ret;exact⟨rfl,rfl⟩
  |false=>
   have h:(a.toList==b.toList)=true:=qgh (qie c d);clear f c d;rw [zF wB]
   go_enter Tryz.func163,Tryz.ntmps163
   go_wp2;go_ret;exact⟨rfl,rfl⟩
theorem qyj (n:Nat)(va:Value)(xs:List ByteArray)(x:ByteArray)(w:World)(t:qal n w va xs)(hn:n<=w.heap.size):
  Calls prog 83 #[va,.string x] w fun e w'=> ∃i:Int,e=.returned (.int .i64 i)/\w'=w/\ -1<=i/\i<=1073741824/\(i<0↔x∉xs):=by
 obtain⟨aa,ca,rfl,ae,ab,p⟩:=id t;refine hd2 ?_ t p;clear t p;intro R l
 go_enter Tryz.func83,Tryz.ntmps83
 go_wp2_with fail
 go_loopw [5] (fun i wr=> ∃k:Nat,k<=xs.length/\i=.int .i64 (k:Int)/\wr=w/\x∉xs.take k) (fun i _=>xs.length-(intOf i).toNat)
 case atStart=>exact⟨0,xz,rfl,rfl,wB⟩
 case round=>
  obtain⟨k,hk,rfl,rfl,b⟩:=hrel;by_cases r:k<xs.length
  ·obtain⟨y,s⟩: ∃x,xs[k]?=some x:=⟨_,zB r⟩;obtain⟨v,oa,rfl,Y,j⟩:=l.o k y s;have U:wr.cell? ⟨v,oa+k*1,none⟩=some (.string y):=j;simp only [yA]at U;have X:v<wr.heap.size:=by omega
   have z:(k:Int)<xs.length:=xz
   have ad:(0:Int)<=k:=xz
   by_cases c:y=x
   ·have u:(y.toList==x.toList)=true:=qgh c;have q:x∈xs:=c▸zH s;clear b s c j;refine hd1 ?_ q;clear q;intro m;go_wp2_with fail;go_ret;exact⟨_,rfl,rfl,xz,xz,⟨fun h=>xz,fun h=>absurd m.o h⟩⟩
   ·have u:(y.toList==x.toList)=false:=qep c;have d:x∉xs.take (k+1):=by
     rw [zh,s];simp only [Option.toList_some,zn,zl,not_or];exact⟨b,fun e=>c e.symm⟩
    clear b s c j;refine hd1 ?_ d;clear d;intro f;go_wp2_with fail;go_roundw
    case rel=>exact⟨k+1,xz,by go_num,wE,f.o⟩
    case measure=>simp [intOf];omega
  ·obtain rfl:k=xs.length:=by omega
   rw [zi]at b;clear r;refine hd1 ?_ b;clear b;intro g;go_wp2_with fail;go_ret;exact⟨-1,rfl,rfl,xz,xz,⟨fun _=>g.o,fun _=>xz⟩⟩
end Go.Proofs
