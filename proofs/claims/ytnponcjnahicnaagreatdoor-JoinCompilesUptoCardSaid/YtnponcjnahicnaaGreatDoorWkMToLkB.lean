/- Parts of the proof. -/
import Derived.Test.YtnponcjnahicnaaGreatDoorWkI
set_option linter.unusedSimpArgs false
set_option linter.unusedVariables false
set_option maxRecDepth 100000
set_option maxHeartbeats 4000000
open Go.Proofs.Tryz(prog)
open List(all_append getElem_append_left getElem_append_right getElem_toArray length_cons length_nil set_append)
namespace Go.Proofs
open Go.RowKit Go.Ink R4
theorem q0z {n0 n1:Nat}{W0:World}{c:WkC}{p:qa6}{U:Nat->Prop}{x:Nat}{s:World->Prop}{all:List Asg}{l m:Nat->Gh->World->Prop}(f:qdk n0 n1 W0 c p U x s all l m): ∀(d i:Nat),i+d=c.steps.length->qgg n1 c p U s all l m i:=by
 intro d
 induction d with
 |zero=>
  intro i hi;obtain rfl:i=c.steps.length:=xz
  exact q0y f
 |succ d g=>
  intro i hi;have e:i<c.steps.length:=xz
  have g:=g (i+1) xz;obtain⟨q,v⟩: ∃q,c.steps[i]?=some q:=⟨_,zB e⟩;have u:=f.kinds q (f.steps q (zH v));unfold qb1 at u;have b: ∀k,(c.r.body.getD q default).kind=k-> ∀j,c.steps[i]?=some j->(c.r.body.getD j default).kind=k:=fun k h j t=>by
   rw [v]at t;cases t;exact h
  rcases u with h |h |h
  ·exact qt6 f e (b _ h) g
  ·exact qt4 f e (b _ h) g
  ·exact qx3 f e (b _ h) g
end Go.Proofs
namespace Go.Proofs
open Go.RowKit Go.Ink R4
attribute [local go_sem] Oper.semAt_some
def qeq (body:List LitD)(i:Nat):Nat:=((body.take i).filter fun L=>L.kind==1).length
def qey (g:Gh)(s:Option Nat)(p:ByteArray)(n:Nat):Nat:=match s with
 |none=>0
 |some S=>match g.st S with
  |some f=>(qo f p n).length
  |none=>0
def qko (stA:Nat->Option Nat)(stN:Option Nat)(body:List LitD)(i:Nat):Option Nat:=if (body.getD i default).kind=1 then stA (qeq body i) else if (body.getD i default).kind=2 then stN else none
def qer (g:Gh)(stA:Nat->Option Nat)(stN:Option Nat)(body:List LitD)(i:Nat):LookD:=⟨qko stA stN body i,(body.getD i default).atom.pred,(body.getD i default).atom.args.length,qey g (qko stA stN body i) (body.getD i default).atom.pred (body.getD i default).atom.args.length⟩
def qe4 (g:Gh)(stA:Nat->Option Nat)(stN:Option Nat)(body:List LitD):List LookD:=(List.range body.length).map (qer g stA stN body)
def okJ (g:Gh)(stA:Nat->Option Nat)(stN:Option Nat)(body:List LitD)(i:Nat):Bool:=(List.range i).all fun j=>!(decide ((body.getD j default).kind=1)) ||decide (0<(qer g stA stN body j).upto)
theorem q00 {body:List LitD}{i:Nat}{L:LitD}(h:body[i]?=some L):qeq body (i+1)=qeq body i+if L.kind=1 then 1 else 0:=by
 unfold qeq;rw [zh,h,yS,zR];by_cases b:L.kind=1
 ·simp [b]
 ·simp [b]
theorem q4v (body:List LitD)(i:Nat):qeq body i<=i:=by
 unfold qeq;exact zW (yd _ _) (by rw [yB];omega)
theorem qx6 {g:Gh}{stA:Nat->Option Nat}{stN:Option Nat}{body:List LitD}{i:Nat}(h:i<body.length):(qe4 g stA stN body).take (i+1)=(qe4 g stA stN body).take i++ [qer g stA stN body i]:=by
 rw [zh];unfold qe4;rw [zP,xr h]
 rfl
theorem qjy (g:Gh)(stA:Nat->Option Nat)(stN:Option Nat)(body:List LitD):(qe4 g stA stN body).length=body.length:=by unfold qe4;simp
theorem q4w (g:Gh)(stA:Nat->Option Nat)(stN:Option Nat)(body:List LitD)(i:Nat):okJ g stA stN body (i+1)=(okJ g stA stN body i&&(!(decide ((body.getD i default).kind=1)) ||decide (0<(qer g stA stN body i).upto))):=by
 unfold okJ;rw [xw,all_append];simp
def qdc:Nat->List Value
 |0=> []
 |n+1=> [.pointer none,.string ⟨#[]⟩,.int .i64 0,.int .i64 0]++qdc n
theorem qx7 (n:Nat):(qdc n).length=n*4:=by
 induction n with
 |zero=>rfl
 |succ n ih=>rw [qdc,zR,ih];simp;omega
theorem qvg (n:Nat):madeCells #[.pointer none,.string ⟨#[]⟩,.int .i64 0,.int .i64 0] (n*4)=(qdc n).toArray:=by
 apply Array.ext
 ·simp [madeCells,qx7]
 ·intro i e f;have d: ∀(n i:Nat) (h:i<(qdc n).length),(qdc n)[i]=([.pointer none,.string ⟨#[]⟩,.int .i64 0,.int .i64 0]:List Value)[i%4]'(Nat.mod_lt _ wC):=by
   intro n
   induction n with
   |zero=>intro i h;simp [qdc] at h
   |succ n ih=>
    intro i h;simp only [qdc];by_cases hi:i<4
    ·rw [getElem_append_left (by simpa using hi)];simp only [Nat.mod_eq_of_lt hi]
    ·rw [getElem_append_right (by simpa using hi)];simp only [length_cons,length_nil];rw [ih]
     congr 1
     omega
  simp only [getElem_toArray];rw [d];have c:i%4<4:=Nat.mod_lt _ wC;have b: ∀(l:List Value) (k:Nat) (h:k<l.length),l[k]?.getD default=l[k]:=fun l k h=>by rw [zB h];rfl
  simp [madeCells];exact b _ _ c
theorem q01:(prog.info? 192).map (fun i=>(i.zero,i.size,i.bytes))=some (some (.agg #[.pointer none,.string ⟨#[]⟩,.int .i64 0,.int .i64 0]),4,40):=wA
theorem qrm (n:Nat)(h:n<=1073741824)(u:World):(Instr.makeSlice 184 (.int .i64 (n:Int)) (.int .i64 (n:Int))).run prog u=
  .ok (.slice (some ⟨u.heap.size,0,none⟩) n n) (u.alloc (.cells (qdc n).toArray 192)):=by
 obtain⟨i0,hi,b,c,d⟩:=info_parts q01;have h:=run_make (P:=prog) u 184 192 i0 (.agg #[.pointer none,.string ⟨#[]⟩,.int .i64 0,.int .i64 0]) Tryz.underlying184 hi b .i64 .i64 (n:Int) (n:Int) xz (Int.le_refl _) (by rw [d];omega) xz;rw [←qvg]
 simpa [c,Value.cells]using h
theorem q02 (A C:List Value)(e b c d y:Value):(A++ [e,b,c,d]++C).set A.length y=A++ [y,b,c,d]++C:=by simp [set_append]
theorem q03 (A C:List Value)(b e c d y:Value):(A++ [b,e,c,d]++C).set (A.length+1) y=A++ [b,y,c,d]++C:=by simp [set_append]
theorem q04 (A C:List Value)(b c e d y:Value):(A++ [b,c,e,d]++C).set (A.length+2) y=A++ [b,c,y,d]++C:=by simp [set_append]
theorem q05 (A C:List Value)(b c d e y:Value):(A++ [b,c,d,e]++C).set (A.length+3) y=A++ [b,c,d,y]++C:=by simp [set_append]
theorem q4x (A C:List Value)(b c d e:Value)(j:Nat)(f:j<4):(A++ [b,c,d,e]++C)[A.length+j]?=([b,c,d,e]:List Value)[j]?:=by
 rw [yq,yG xz,show A.length+j-A.length=j from xz,yQ (by simpa using f)]
def LookAt (w:World)(b:Nat)(ks:List LookD)(k:LookD)(m:Nat):Prop:=w.heap[b]?=some (.cells (ks.flatMap LookD.cells++k.cells++qdc m).toArray 192 (0,0))
theorem qg1 (ks:List LookD):(ks.flatMap LookD.cells).length=ks.length*4:=by
 induction ks with
 |nil=>rfl
 |cons k ks ih=>rw [yE,zR,ih];simp [LookD.cells];omega
theorem LookAt.cells {w:World}{b:Nat}{ks:List LookD}{k:LookD}{m i:Nat}(h:LookAt w b ks k m)(hi:ks.length=i):w.cell? ⟨b,i*4,none⟩=some (qav k.store)/\w.cell? ⟨b,i*4+1,none⟩=some (.string k.pred)/\w.cell? ⟨b,i*4+2,none⟩=some (.int .i64 (k.arity:Int))/\w.cell? ⟨b,i*4+3,none⟩=some (.int .i64 (k.upto:Int)):=by
 have c:(ks.flatMap LookD.cells).length=i*4:=by rw [qg1,hi]
 have q: ∀j v,j<4->k.cells[j]?=some v->w.cell? ⟨b,i*4+j,none⟩=some v:=fun j v d e=>by
  have:=qb h (i*4+j) v (by rw [←c];exact(q4x _ _ _ _ _ _ j d).trans e)
  simpa using this
 exact⟨q 0 _ wC rfl,q 1 _ wC rfl,q 2 _ wC rfl,q 3 _ wC rfl⟩
theorem LookAt.keep {w w':World}{b:Nat}{ks:List LookD}{k:LookD}{m:Nat}{C:Nat->Prop}(h:LookAt w b ks k m)(hK:Keep C w w')(c:C b):LookAt w' b ks k m:=hK.heap h c
theorem LookAt.set0 {w:World}{b:Nat}{ks:List LookD}{k:LookD}{m i:Nat}(h:LookAt w b ks k m)(hi:ks.length=i)(s:Option Nat):LookAt (w.setCell ⟨b,i*4,none⟩ (qav s)) b ks {k with store:=s} m:=by
 have c:(ks.flatMap LookD.cells).length=i*4:=by rw [qg1,hi]
 have:=qz (i*4) (qav s) h;rw [yJ,←c]at this;unfold LookD.cells at this;rw [q02]at this;rw [←c];exact this
theorem LookAt.set1 {w:World}{b:Nat}{ks:List LookD}{k:LookD}{m i:Nat}(h:LookAt w b ks k m)(hi:ks.length=i)(s:ByteArray):LookAt (w.setCell ⟨b,i*4+1,none⟩ (.string s)) b ks {k with pred:=s} m:=by
 have c:(ks.flatMap LookD.cells).length=i*4:=by rw [qg1,hi]
 have:=qz (i*4+1) (.string s) h;rw [yJ,←c]at this;unfold LookD.cells at this;rw [q03]at this;rw [←c];exact this
theorem LookAt.set2 {w:World}{b:Nat}{ks:List LookD}{k:LookD}{m i:Nat}(h:LookAt w b ks k m)(hi:ks.length=i)(s:Nat):LookAt (w.setCell ⟨b,i*4+2,none⟩ (.int .i64 (s:Int))) b ks {k with arity:=s} m:=by
 have c:(ks.flatMap LookD.cells).length=i*4:=by rw [qg1,hi]
 have:=qz (i*4+2) (.int .i64 (s:Int)) h;rw [yJ,←c]at this;unfold LookD.cells at this;rw [q04]at this;rw [←c];exact this
theorem LookAt.set3 {w:World}{b:Nat}{ks:List LookD}{k:LookD}{m i:Nat}(h:LookAt w b ks k m)(hi:ks.length=i)(s:Nat):LookAt (w.setCell ⟨b,i*4+3,none⟩ (.int .i64 (s:Int))) b ks {k with upto:=s} m:=by
 have c:(ks.flatMap LookD.cells).length=i*4:=by rw [qg1,hi]
 have:=qz (i*4+3) (.int .i64 (s:Int)) h;rw [yJ,←c]at this;unfold LookD.cells at this;rw [q05]at this;rw [←c];exact this
theorem qx8 {X:World}{b:Nat}{c:Option Addr}(h:X.cell? ⟨b,0,none⟩=some (.pointer c))(m:Nat):Calls prog 67 #[.int .i64 (m:Int),qj b] X fun e w'=>e=.returned (.pointer c)/\w'=X:=by
 have lb:=zQ _ _ h;simp only at lb
 go_enter Tryz.func67,Tryz.ntmps67
 go_wp2;go_ret;exact⟨rfl,rfl⟩
theorem qle {g:Gh}{w X:World}(h:GInv g w)(hK:Keep (fun b=>b<w.heap.size) w X){st:Option Nat}(k: ∀S,st=some S-> ∃f,g.st S=some f)(p:ByteArray)(n:Nat)(j:p.size<=1073741824)(i:n<=1073741824):
  Calls prog 97 #[.pointer (st.map fun S=>⟨S,0,none⟩),.agg #[.string p,.int .i64 (n:Int)]] X fun e w'=>e=.returned (.int .i64 (qey g st p n:Nat))/\wD X w':=by
 cases st with
 |none=>exact qxt (p,n) X
 |some S=>
  obtain⟨f,c⟩:=k S rfl;have:=qxu ((h.keep (hK.mono fun b d _=>d)).store S f c) p n j i;unfold qey;simp only;rw [c];exact this
theorem q06 {U:Nat->Prop}{n:Nat}{w:World}{J:Nat}{r:RuleD}{vars:List ByteArray}{cY:List Int}{cZ vb vv va vt vh:Value}(hj:JoinAt U n w J r vars cY cZ vb vv va vt vh)(cs: ∀b,U b->b<n)(hn:n<=w.heap.size){g:Gh}(hg:GInv g w)(hk:qi4 r.body)(hp: ∀L,L∈r.body->L.atom.pred.size<=1073741824)
  {fI:Nat} {lI:Array Value} (eI: ∀args w,(callFunc fI args).run prog w=.ok (.enter fI args) w) {sF:Nat->Option Nat} {stN:Option Nat} (cv: ∀X,Keep (fun b=>b<w.heap.size) w X-> ∀m:Nat,Calls prog fI (#[.int .i64 (m:Int)]++lI) X fun e w'=>e=.returned (qav (sF m))/\w'=X) (hs: ∀m S,sF m=some S-> ∃f,g.st S=some f) (cx: ∀S,stN=some S-> ∃f,g.st S=some f):
  Calls prog 118 #[qj J,.func (.func fI) #[] lI,qav stN] w fun e w'=> ∃Lk,e=.returned (.tuple #[.slice (some ⟨Lk,0,none⟩) r.body.length r.body.length,.bool (okJ g sF stN r.body r.body.length)])/\w.heap.size<=Lk/\w'.heap[Lk]?=some (.cells ((qe4 g sF stN r.body).flatMap LookD.cells).toArray 192 (0,0))/\Keep (fun b=>b<w.heap.size) w w':=by
 obtain⟨ab,cb,b9,cU,dp,ct⟩:=id hj.body;obtain⟨N,hN⟩:=ex (w.heap.size);have cV:=fun u=>qrm r.body.length cU u;have bz:=hj.box;rw [b9]at bz;have c2:=qb bz 2 _ rfl;have lJ:=qe bz;simp only [zD]at c2;have aH:=fun q X (hK:Keep (fun b=>b<w.heap.size) w X) p n hp hn=>qle hg hK (hs q) p n hp hn;have bn:=fun X (hK:Keep (fun b=>b<w.heap.size) w X) p n hp hn=>qle hg hK cx p n hp hn;have bR:=fun X (hK:Keep (fun b=>b<w.heap.size) w X) p n hp hn=>qle (st:=none) hg hK (fun S h=>by cases h) p n hp hn;have aI:=cv;unfold qav at aI⊢;obtain⟨sN,bm⟩:=ex ((stN.map fun S=>(⟨S,0,none⟩:Addr)));rw [bm]at bn⊢;clear bz hs cx cv;obtain⟨W0,bw⟩:=ex (w.alloc (.cells (qdc r.body.length).toArray 192));have k0:Keep (fun b=>b<N) w W0:=by rw [←bw];exact kAl
 have cd:W0.heap[N]?=some (.cells (qdc r.body.length).toArray 192 (0,0)):=by rw [←bw,←hN];exact qh _ _
 have e2:=k0.cell c2 (show J<N from xz);have dv:J<W0.heap.size:=by have:=k0.size;omega
 have dw:=qe cd;refine qde ?_ hj cs hg hk hp ct hN aH bn bR aI bm b9 bw k0 cd;clear hj cs hg hk hp ct hN aH bn bR aI bm b9 bw k0 cd;intro dh c0 dg cN cO cj aA b1 b3 b0 ck aK c1 ci cP co;refine qbl Tryz.func118 rfl ?_;simp only [Tryz.ntmps118,qdm,Nat.reduceAdd,Nat.reduceSub];gi_wp2;rw [ci.o,aA.o];clear cV c2 lJ;gi_wp2;gi_loopw [9,10,26] (fun m' cX i' X=> ∃i:Nat,i<=r.body.length/\m'=.int .i64 (qeq r.body i:Nat)/\cX=.bool (okJ g sF stN r.body i)/\i'=.int .i64 (i:Int)/\Keep (fun b=>b<N) w X/\X.heap[N]?=some (.cells (((qe4 g sF stN r.body).take i).flatMap LookD.cells++qdc (r.body.length-i)).toArray 192 (0,0))) (fun _ _ i _=>r.body.length-(intOf i).toNat)
 case atStart=>exact⟨0,xz,rfl,rfl,rfl,cP.o,co.o⟩
 case round=>
  obtain⟨i,hi,rfl,rfl,rfl,hK,aZ⟩:=hrel;have ds:=hK.size;have da:=qe aZ;by_cases bF:i<r.body.length
  ·have dd:(i:Int)<r.body.length:=by omega
   have dq:(0:Int)<=i:=xz
   obtain⟨L,hL⟩: ∃L,r.body[i]?=some L:=⟨_,zB bF⟩;have bv:r.body.getD i default=L:=by rw [zJ,hL];rfl
   have bD:=cN.o i bF;unfold qb1 at bD;rw [bv]at bD;obtain⟨b4,o4,rfl,dn,dm,sa,a4,a8⟩:=cj.o i L hL;have aF:b4<N:=by have:=aA.o;omega
   have d0:=hK.cell (a4 0 _ rfl) aF;have d1:=hK.cell (a4 1 _ rfl) aF;have d2:=hK.cell (a4 2 _ rfl) aF;have d3:=hK.cell (a4 3 _ rfl) aF;have d4:=hK.cell (a4 4 _ rfl) aF;have d5:=hK.cell (a4 5 _ rfl) aF;have d6:=hK.cell (a4 6 _ rfl) aF;have db:b4<wr.heap.size:=xz
   obtain⟨aa,ca,rfl,bx,cT,-⟩:=id a8;have a7:=cO.o L (zH hL);have aj:=q00 hL;have dr:qeq r.body i<=1073741824:=zW (q4v _ _) xz;have x:=q4w g sF stN r.body i;have ai:=qx6 (g:=g) (stA:=sF) (stN:=stN) bF;obtain⟨ks,a5⟩:=ex ((qe4 g sF stN r.body).take i);have t:ks.length=i:=by rw [←a5,yB,qjy];omega
   obtain⟨m,hm⟩: ∃m,r.body.length-i=m+1:=⟨r.body.length-i-1,xz⟩;have aL:r.body.length-(i+1)=m:=xz
   rw [a5]at aZ ai;have az:LookAt wr N ks ⟨none,⟨#[]⟩,0,0⟩ m:=by
    unfold LookAt;rw [hm]at aZ;rw [aZ,qdc,yq]
    rfl
   have cw:qer g sF stN r.body i=⟨if L.kind=1 then sF (qeq r.body i) else if L.kind=2 then stN else none,L.atom.pred,L.atom.args.length,qey g (if L.kind=1 then sF (qeq r.body i) else if L.kind=2 then stN else none) L.atom.pred L.atom.args.length⟩:=by unfold qer qko;rw [bv]
   rw [cw]at ai x;rw [bv]at x;have w1:=(az.set1 t L.atom.pred).set2 t L.atom.args.length;obtain⟨k,⟨pr,args⟩,⟨lv,lt⟩,⟨rv,rt⟩⟩:=L;simp only at d0 d1 d2 d3 d4 d5 d6 bx a7 aj x ai bD w1 cT;obtain⟨y0,y1,y2,y3⟩:=az.cells t;have f0:=qg az (i*4);have f1:=qg az (i*4+1);have f2:=qg az (i*4+2);have f3:=qg az (i*4+3);simp only [Nat.add_zero]at d0;clear a4 cw aZ bv;rcases bD with h |h |h
   ·subst h;simp only [yg]at aj x ai;have aI:=ck.o;have aH:=b1.o (qeq r.body i);have aI:=fun X hX=>aI X hX (qeq r.body i);obtain⟨s,b8⟩:=ex (sF (qeq r.body i));rw [b8]at x ai;simp only [b8]at aI aH;obtain⟨sA,b7⟩:=ex ((s.map fun S=>(⟨S,0,none⟩:Addr)));simp only [b7]at aI aH;have cl:=zg aI;have b2:=zg aH;have bh:=zg b7;clear aI aH b7 b8;have aw: ∀(u:Nat) (Y:World),LookAt Y N ks ⟨s,pr,args.length,u⟩ m->u=qey g s pr args.length->Y.heap[N]?=some (.cells (((qe4 g sF stN r.body).take (i+1)).flatMap LookD.cells++qdc (r.body.length-(i+1))).toArray 192 (0,0)):=fun u Y h1 h2=>by
     rw [ai,aL,←h2,yF,yE,xn,yO];exact h1
    obtain⟨W1,R⟩:=ex (((wr.setCell ⟨N,i*4+1,none⟩ (.string pr)).setCell ⟨N,i*4+1+1,none⟩ (.int .i64 (args.length:Int))).alloc (.cells #[.int .i64 1,.string pr,.slice aa args.length ca,.bool lv,.string lt,.bool rv,.string rt] 79));obtain⟨B,hB⟩:=ex (wr.heap.size);have kA:Keep (fun b=>b≠N) wr W1:=by rw [←R];exact((kSc).trans (kSc)).trans kAl
    have af:LookAt W1 N ks ⟨none,pr,args.length,0⟩ m:=by rw [←R];exact w1.keep (Keep.alloc (fun _=>True) _ _) trivial
    have a6:W1.heap[B]?=some (.cells #[.int .i64 1,.string pr,.slice aa args.length ca,.bool lv,.string lt,.bool rv,.string rt] 79 (0,0)):=by
     rw [←R,←hB];have:=qh ((wr.setCell ⟨N,i*4+1,none⟩ (.string pr)).setCell ⟨N,i*4+1+1,none⟩ (.int .i64 (args.length:Int))) (.cells #[.int .i64 1,.string pr,.slice aa args.length ca,.bool lv,.string lt,.bool rv,.string rt] 79)
     simpa using this
    have a0:N≠B:=xz
    obtain⟨z0,z1,z2,z3⟩:=af.cells t;have bi:=qg af (i*4);have cz:=qe af;simp only [qav,Option.map_none]at z0;refine qde ?_ hK hL a8 a7 aj x ai a5 t hm aL az w1 aw kA af;clear hK hL a8 a7 aj x ai a5 t hm aL az w1 aw kA af;intro aN cg bO aT aD aC bL bK c cm bM bJ cp aB bc aV;refine hd4 ?_ a6 R hB a0;clear a6 R hB a0;intro aU aQ bf ar;gi_wp2;rw [aQ.o,bf.o];refine⟨wE,rfl,(zU.2 (cl.o W1 ((aN.o.trans (bc.o.mono fun b _ (h:b<N)=>xz)).mono fun b _ (h:b<w.heap.size)=>by have:=aA.o;omega))).mono ?_⟩;rintro e w9 ⟨rfl,cc⟩;have cc:=cc.symm;subst cc;clear d0 d1 d2 d3 d4 d5 d6 y0 y1 y2 y3 f0 f1 f2 f3;obtain⟨W2,al⟩:=ex (W1.setCell ⟨N,i*4,none⟩ (.pointer sA));have k2:Keep (fun b=>b≠N) W1 W2:=by rw [←al];exact kSc
    have an:LookAt W2 N ks ⟨s,pr,args.length,0⟩ m:=by
     have:=aV.o.set0 c.o s;unfold qav at this;rw [bh.o,al]at this;exact this
    have ax:=k2.heap aU.o (fun e=>ar.o e.symm);have aY:Keep (fun b=>b<w.heap.size) w W2:=(aN.o.trans ((bc.o.trans k2).mono fun b _ (h:b<N)=>xz)).mono fun b _ (h:b<w.heap.size)=>by have:=aA.o;omega
    have hS: ∀X,wD W2 X->(X.cell? ⟨N,i*4,none⟩=some (.pointer sA)/\X.cell? ⟨N,i*4+1,none⟩=some (.string pr)/\X.cell? ⟨N,i*4+1+1,none⟩=some (.int .i64 (args.length:Int))):=fun X hX=>by
     obtain⟨q0,q1,q2,q3⟩:=(an.keep hX wE).cells c.o;unfold qav at q0;exact⟨by rw [←bh.o];exact q0,q1,q2⟩
    have a1:=hS _ kDr;have cA:=qe an;refine hd7 ?_ k2 an ax aY hS a1 al;clear k2 an ax aY hS a1 al;intro cn aW aE aq bg aO aR;gi_wp2;rw [aR.o];refine qag ?_;refine qw rfl (fun X=>(X.cell? ⟨N,i*4,none⟩=some (.pointer sA)/\X.cell? ⟨N,i*4+1,none⟩=some (.string pr)/\X.cell? ⟨N,i*4+1+1,none⟩=some (.int .i64 (args.length:Int)))) [] ?_;refine qab [0,1,2,3,4,5,6,7,8,9,10,11] ?_
    iterate 12
     refine tkB rfl aO.o ?_
     try simp only [qac]
    refine qk ?_;refine hoR 12 rfl fun K ao=>?_;gi_wp2;refine⟨wE,rfl,(zU.2 (b2.o _ (aq.o.trans kDr.mt) pr args.length aT.o bx)).mono ?_⟩;rintro e W3 ⟨rfl,k3⟩;obtain⟨u,hu⟩:=ex (qey g s pr args.length);have y:wD W2 W3:=kDr.trans k3;have a2:=bg.o W3 y;have ag:=aW.o.keep y trivial;have ay:=y.heap aE.o trivial;obtain⟨t0,t1,t2,t3⟩:=ag.cells c.o;have bj:=qg ag (i*4+3);have cB:=qe ag;obtain⟨W4,am⟩:=ex (W3.setCell ⟨N,i*4+3,none⟩ (.int .i64 (u:Int)));have ah:=ag.set3 c.o u;rw [am]at ah;have k4:Keep (fun b=>b≠N) W3 W4:=by rw [←am];exact kSc
    have ae:=k4.heap ay (fun e=>ar.o e.symm);have av:=aB.o u W4 ah hu.symm;have aX:Keep (fun b=>b<N) w W4:=(aq.o.mono fun b _ (h:b<N)=>by have:=aA.o;omega).trans (y.mt.trans (k4.mono fun b _ h=>xz));have v0:=qb ae 0 _ rfl;have cD:=qe ae;obtain⟨t4,t5,t6,t7⟩:=ah.cells c.o;have cC:=qe ah;have a3:(W4.cell? ⟨N,i*4,none⟩=some (.pointer sA)/\W4.cell? ⟨N,i*4+1,none⟩=some (.string pr)/\W4.cell? ⟨N,i*4+1+1,none⟩=some (.int .i64 (args.length:Int))):=by
     unfold qav at t4;exact⟨by rw [←bh.o];exact t4,t5,t6⟩
    simp only [zD]at v0;simp only at t3 t7;clear k3 ag ay ah k4 ae t0 t1 t2 t4 t5 t6;rw [hu];have ad:=aD.o;have l:=aC.o;obtain⟨ob,aG⟩:=ex (okJ g sF stN r.body i);rw [aG]at l⊢;refine qc9 ?_ a2 a3 av aX am hu y l ad aG;clear a2 a3 av aX am hu y l ad aG;intro au aP z ak aS br bP d j bN;gi_wp2;refine ao.o _ _ (fun _=>au.o) ?_;refine qab [13,14] ?_
    iterate 2
     refine tkB rfl au.o ?_
     try simp only [qac]
    refine qk ?_;refine hoR 15 rfl fun K ap=>?_;gi_wp2;rw [aS.o];refine ap.o _ _ (fun _=>aP.o) ?_;refine qx wA (qai ?_);clear ao ap t3 bj z0 z1 z2 z3 bi;cases ob with
    |false=>
     gi_wp2;go_roundw
     case rel=>exact⟨i+1,xz,by rw [j.o];go_num,by rw [d.o];rfl,by go_num,ak.o,z.o⟩
     case measure=>simp [intOf];omega
    |true=>
     by_cases cy:0<u
     ·have cW:(0:Int)<u:=by omega
      gi_wp2;go_roundw
      case rel=>exact⟨i+1,xz,by rw [j.o];go_num,by rw [d.o,br.o,zS cy];rfl,by go_num,ak.o,z.o⟩
      case measure=>simp [intOf];omega
     ·have cW: ¬((0:Int)<u):=by omega
      gi_wp2;go_roundw
      case rel=>exact⟨i+1,xz,by rw [j.o];go_num,by rw [d.o,br.o,zM cy];rfl,by go_num,ak.o,z.o⟩
      case measure=>simp [intOf];omega
   ·subst h;simp only [yg,show ¬((2:Int)=1) from wC,yx]at aj x ai;have aw: ∀(u:Nat) (Y:World),LookAt Y N ks ⟨stN,pr,args.length,u⟩ m->u=qey g stN pr args.length->Y.heap[N]?=some (.cells (((qe4 g sF stN r.body).take (i+1)).flatMap LookD.cells++qdc (r.body.length-(i+1))).toArray 192 (0,0)):=fun u Y h1 h2=>by
     rw [ai,aL,←h2,yF,yE,xn,yO];exact h1
    have ce:=w1.set0 t stN;unfold qav at ce;rw [aK.o]at ce;obtain⟨W1,R⟩:=ex ((((wr.setCell ⟨N,i*4+1,none⟩ (.string pr)).setCell ⟨N,i*4+1+1,none⟩ (.int .i64 (args.length:Int))).setCell ⟨N,i*4,none⟩ (.pointer sN)).alloc (.cells #[.int .i64 2,.string pr,.slice aa args.length ca,.bool lv,.string lt,.bool rv,.string rt] 79));obtain⟨B,hB⟩:=ex (wr.heap.size);have kA:Keep (fun b=>b≠N) wr W1:=by rw [←R];exact(((kSc).trans (kSc)).trans (kSc)).trans kAl
    have af:LookAt W1 N ks ⟨stN,pr,args.length,0⟩ m:=by rw [←R];exact ce.keep (Keep.alloc (fun _=>True) _ _) trivial
    have a6:W1.heap[B]?=some (.cells #[.int .i64 2,.string pr,.slice aa args.length ca,.bool lv,.string lt,.bool rv,.string rt] 79 (0,0)):=by
     rw [←R,←hB];have:=qh (((wr.setCell ⟨N,i*4+1,none⟩ (.string pr)).setCell ⟨N,i*4+1+1,none⟩ (.int .i64 (args.length:Int))).setCell ⟨N,i*4,none⟩ (.pointer sN)) (.cells #[.int .i64 2,.string pr,.slice aa args.length ca,.bool lv,.string lt,.bool rv,.string rt] 79)
     simpa using this
    have a0:N≠B:=xz
    obtain⟨z0,z1,z2,z3⟩:=af.cells t;have bi:=qg af (i*4);have cz:=qe af;simp only [qav]at z0;rw [aK.o]at z0;refine qde ?_ hK hL a8 a7 aj x ai a5 t hm aL az w1 aw kA af;clear hK hL a8 a7 aj x ai a5 t hm aL az w1 aw kA af;intro aN cg bO aT aD aC bL bK c cm bM bJ cp aB bc aV;refine hd4 ?_ a6 R hB a0;clear a6 R hB a0;intro aU aQ bf ar;obtain⟨W2,al⟩:=ex (W1);have k2:Keep (fun b=>b≠N) W1 W2:=by rw [←al];exact Keep.refl _ _
    have an:LookAt W2 N ks ⟨stN,pr,args.length,0⟩ m:=by rw [←al];exact aV.o
    have ax:=k2.heap aU.o (fun e=>ar.o e.symm);have aY:Keep (fun b=>b<w.heap.size) w W2:=(aN.o.trans ((bc.o.trans k2).mono fun b _ (h:b<N)=>xz)).mono fun b _ (h:b<w.heap.size)=>by have:=aA.o;omega
    have hS: ∀X,wD W2 X->(X.cell? ⟨N,i*4,none⟩=some (.pointer sN)/\X.cell? ⟨N,i*4+1,none⟩=some (.string pr)/\X.cell? ⟨N,i*4+1+1,none⟩=some (.int .i64 (args.length:Int))):=fun X hX=>by
     obtain⟨q0,q1,q2,q3⟩:=(an.keep hX wE).cells c.o;unfold qav at q0;exact⟨by rw [←aK.o];exact q0,q1,q2⟩
    have a1:=hS _ kDr;have cA:=qe an;refine hd7 ?_ k2 an ax aY hS a1 al;clear k2 an ax aY hS a1 al;intro cn aW aE aq bg aO aR;gi_wp2;rw [aQ.o,bf.o,aR.o];refine qag ?_;refine qw rfl (fun X=>(X.cell? ⟨N,i*4,none⟩=some (.pointer sN)/\X.cell? ⟨N,i*4+1,none⟩=some (.string pr)/\X.cell? ⟨N,i*4+1+1,none⟩=some (.int .i64 (args.length:Int)))) [] ?_;refine qab [0,1,2,3,4,5,6,7,8,9,10,11] ?_
    iterate 12
     refine tkB rfl aO.o ?_
     try simp only [qac]
    refine qk ?_;refine hoR 12 rfl fun K ao=>?_;gi_wp2;refine⟨wE,rfl,(zU.2 (b3.o _ (aq.o.trans kDr.mt) pr args.length aT.o bx)).mono ?_⟩;rintro e W3 ⟨rfl,k3⟩;obtain⟨u,hu⟩:=ex (qey g stN pr args.length);have y:wD W2 W3:=kDr.trans k3;have a2:=bg.o W3 y;have ag:=aW.o.keep y trivial;have ay:=y.heap aE.o trivial;obtain⟨t0,t1,t2,t3⟩:=ag.cells c.o;have bj:=qg ag (i*4+3);have cB:=qe ag;obtain⟨W4,am⟩:=ex (W3.setCell ⟨N,i*4+3,none⟩ (.int .i64 (u:Int)));have ah:=ag.set3 c.o u;rw [am]at ah;have k4:Keep (fun b=>b≠N) W3 W4:=by rw [←am];exact kSc
    have ae:=k4.heap ay (fun e=>ar.o e.symm);have av:=aB.o u W4 ah hu.symm;have aX:Keep (fun b=>b<N) w W4:=(aq.o.mono fun b _ (h:b<N)=>by have:=aA.o;omega).trans (y.mt.trans (k4.mono fun b _ h=>xz));have v0:=qb ae 0 _ rfl;have cD:=qe ae;obtain⟨t4,t5,t6,t7⟩:=ah.cells c.o;have cC:=qe ah;have a3:(W4.cell? ⟨N,i*4,none⟩=some (.pointer sN)/\W4.cell? ⟨N,i*4+1,none⟩=some (.string pr)/\W4.cell? ⟨N,i*4+1+1,none⟩=some (.int .i64 (args.length:Int))):=by
     unfold qav at t4;exact⟨by rw [←aK.o];exact t4,t5,t6⟩
    simp only [zD]at v0;simp only at t3 t7;clear k3 ag ay ah k4 ae t0 t1 t2 t4 t5 t6;rw [hu];have ad:=aD.o;have l:=aC.o;obtain⟨ob,aG⟩:=ex (okJ g sF stN r.body i);rw [aG]at l⊢;refine qc9 ?_ a2 a3 av aX am hu y l ad aG;clear a2 a3 av aX am hu y l ad aG;intro au aP z ak aS br bP d j bN;gi_wp2;refine ao.o _ _ (fun _=>au.o) ?_;refine qab [13,14] ?_
    iterate 2
     refine tkB rfl au.o ?_
     try simp only [qac]
    refine qk ?_;refine hoR 15 rfl fun K ap=>?_;gi_wp2;rw [aS.o];refine ap.o _ _ (fun _=>aP.o) ?_;refine qx wA (qai ?_);clear ao ap t3 bj z0 z1 z2 z3 bi;cases ob with
    |false=>
     gi_wp2;go_roundw
     case rel=>exact⟨i+1,xz,by rw [j.o];go_num,by rw [d.o];rfl,by go_num,ak.o,z.o⟩
     case measure=>simp [intOf];omega
    |true=>
     gi_wp2;go_roundw
     case rel=>exact⟨i+1,xz,by rw [j.o];go_num,by rw [d.o];rfl,by go_num,ak.o,z.o⟩
     case measure=>simp [intOf];omega
   ·subst h;simp only [show ¬((3:Int)=1) from wC,show ¬((3:Int)=2) from wC,yx]at aj x ai;have aw: ∀(u:Nat) (Y:World),LookAt Y N ks ⟨none,pr,args.length,u⟩ m->u=qey g none pr args.length->Y.heap[N]?=some (.cells (((qe4 g sF stN r.body).take (i+1)).flatMap LookD.cells++qdc (r.body.length-(i+1))).toArray 192 (0,0)):=fun u Y h1 h2=>by
     rw [ai,aL,←h2,yF,yE,xn,yO];exact h1
    obtain⟨W1,R⟩:=ex (((wr.setCell ⟨N,i*4+1,none⟩ (.string pr)).setCell ⟨N,i*4+1+1,none⟩ (.int .i64 (args.length:Int))).alloc (.cells #[.int .i64 3,.string pr,.slice aa args.length ca,.bool lv,.string lt,.bool rv,.string rt] 79));obtain⟨B,hB⟩:=ex (wr.heap.size);have kA:Keep (fun b=>b≠N) wr W1:=by rw [←R];exact((kSc).trans (kSc)).trans kAl
    have af:LookAt W1 N ks ⟨none,pr,args.length,0⟩ m:=by rw [←R];exact w1.keep (Keep.alloc (fun _=>True) _ _) trivial
    have a6:W1.heap[B]?=some (.cells #[.int .i64 3,.string pr,.slice aa args.length ca,.bool lv,.string lt,.bool rv,.string rt] 79 (0,0)):=by
     rw [←R,←hB];have:=qh ((wr.setCell ⟨N,i*4+1,none⟩ (.string pr)).setCell ⟨N,i*4+1+1,none⟩ (.int .i64 (args.length:Int))) (.cells #[.int .i64 3,.string pr,.slice aa args.length ca,.bool lv,.string lt,.bool rv,.string rt] 79)
     simpa using this
    have a0:N≠B:=xz
    obtain⟨z0,z1,z2,z3⟩:=af.cells t;have bi:=qg af (i*4);have cz:=qe af;simp only [qav,Option.map_none]at z0;refine qde ?_ hK hL a8 a7 aj x ai a5 t hm aL az w1 aw kA af;clear hK hL a8 a7 aj x ai a5 t hm aL az w1 aw kA af;intro aN cg bO aT aD aC bL bK c cm bM bJ cp aB bc aV;refine hd4 ?_ a6 R hB a0;clear a6 R hB a0;intro aU aQ bf ar;obtain⟨W2,al⟩:=ex (W1);have k2:Keep (fun b=>b≠N) W1 W2:=by rw [←al];exact Keep.refl _ _
    have an:LookAt W2 N ks ⟨none,pr,args.length,0⟩ m:=by rw [←al];exact aV.o
    have ax:=k2.heap aU.o (fun e=>ar.o e.symm);have aY:Keep (fun b=>b<w.heap.size) w W2:=(aN.o.trans ((bc.o.trans k2).mono fun b _ (h:b<N)=>xz)).mono fun b _ (h:b<w.heap.size)=>by have:=aA.o;omega
    have hS: ∀X,wD W2 X->(X.cell? ⟨N,i*4,none⟩=some (.pointer none)/\X.cell? ⟨N,i*4+1,none⟩=some (.string pr)/\X.cell? ⟨N,i*4+1+1,none⟩=some (.int .i64 (args.length:Int))):=fun X hX=>by
     obtain⟨q0,q1,q2,q3⟩:=(an.keep hX wE).cells c.o;unfold qav at q0;exact⟨q0,q1,q2⟩
    have a1:=hS _ kDr;have cA:=qe an;refine hd7 ?_ k2 an ax aY hS a1 al;clear k2 an ax aY hS a1 al;intro cn aW aE aq bg aO aR;gi_wp2;rw [aQ.o,bf.o,aR.o];refine qag ?_;refine qw rfl (fun X=>(X.cell? ⟨N,i*4,none⟩=some (.pointer none)/\X.cell? ⟨N,i*4+1,none⟩=some (.string pr)/\X.cell? ⟨N,i*4+1+1,none⟩=some (.int .i64 (args.length:Int)))) [] ?_;refine qab [0,1,2,3,4,5,6,7,8,9,10,11] ?_
    iterate 12
     refine tkB rfl aO.o ?_
     try simp only [qac]
    refine qk ?_;refine hoR 12 rfl fun K ao=>?_;gi_wp2;refine⟨wE,rfl,(zU.2 (b0.o _ (aq.o.trans kDr.mt) pr args.length aT.o bx)).mono ?_⟩;rintro e W3 ⟨rfl,k3⟩;obtain⟨u,hu⟩:=ex (qey g none pr args.length);have y:wD W2 W3:=kDr.trans k3;have a2:=bg.o W3 y;have ag:=aW.o.keep y trivial;have ay:=y.heap aE.o trivial;obtain⟨t0,t1,t2,t3⟩:=ag.cells c.o;have bj:=qg ag (i*4+3);have cB:=qe ag;obtain⟨W4,am⟩:=ex (W3.setCell ⟨N,i*4+3,none⟩ (.int .i64 (u:Int)));have ah:=ag.set3 c.o u;rw [am]at ah;have k4:Keep (fun b=>b≠N) W3 W4:=by rw [←am];exact kSc
    have ae:=k4.heap ay (fun e=>ar.o e.symm);have av:=aB.o u W4 ah hu.symm;have aX:Keep (fun b=>b<N) w W4:=(aq.o.mono fun b _ (h:b<N)=>by have:=aA.o;omega).trans (y.mt.trans (k4.mono fun b _ h=>xz));have v0:=qb ae 0 _ rfl;have cD:=qe ae;obtain⟨t4,t5,t6,t7⟩:=ah.cells c.o;have cC:=qe ah;have a3:(W4.cell? ⟨N,i*4,none⟩=some (.pointer none)/\W4.cell? ⟨N,i*4+1,none⟩=some (.string pr)/\W4.cell? ⟨N,i*4+1+1,none⟩=some (.int .i64 (args.length:Int))):=by
     unfold qav at t4;exact⟨t4,t5,t6⟩
    simp only [zD]at v0;simp only at t3 t7;clear k3 ag ay ah k4 ae t0 t1 t2 t4 t5 t6;rw [hu];have ad:=aD.o;have l:=aC.o;obtain⟨ob,aG⟩:=ex (okJ g sF stN r.body i);rw [aG]at l⊢;refine qc9 ?_ a2 a3 av aX am hu y l ad aG;clear a2 a3 av aX am hu y l ad aG;intro au aP z ak aS br bP d j bN;gi_wp2;refine ao.o _ _ (fun _=>au.o) ?_;refine qab [13,14] ?_
    iterate 2
     refine tkB rfl au.o ?_
     try simp only [qac]
    refine qk ?_;refine hoR 15 rfl fun K ap=>?_;gi_wp2;rw [aS.o];refine ap.o _ _ (fun _=>aP.o) ?_;refine qx wA (qai ?_);clear ao ap t3 bj z0 z1 z2 z3 bi;cases ob with
    |false=>
     gi_wp2;go_roundw
     case rel=>exact⟨i+1,xz,by rw [j.o];go_num,by rw [d.o];rfl,by go_num,ak.o,z.o⟩
     case measure=>simp [intOf];omega
    |true=>
     gi_wp2;go_roundw
     case rel=>exact⟨i+1,xz,by rw [j.o];go_num,by rw [d.o];rfl,by go_num,ak.o,z.o⟩
     case measure=>simp [intOf];omega
  ·obtain rfl:i=r.body.length:=by omega
   rw [xX,qdc,yO,yw (by rw [qjy];omega)]at aZ;clear bF;refine hd2 ?_ hK aZ;clear hK aZ;intro aN ch;gi_wp2;refine zz (v:=.tuple #[.slice (some ⟨N,0,none⟩) r.body.length r.body.length,.bool (okJ g sF stN r.body r.body.length)]) (by simp [results,Tryz.results118,go_sem]) rfl ⟨N,rfl,by rw [aA.o];exact zG _,ch.o,aN.o.mono fun b _ (h:b<w.heap.size)=>by have:=aA.o;omega⟩
end Go.Proofs
