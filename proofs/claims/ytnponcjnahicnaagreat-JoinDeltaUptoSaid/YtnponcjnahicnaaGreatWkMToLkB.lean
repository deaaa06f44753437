/- Parts of the proof. -/
import Derived.Test.YtnponcjnahicnaaGreatWkI
set_option linter.unusedSimpArgs false
set_option linter.unusedVariables false
set_option maxRecDepth 100000
set_option maxHeartbeats 4000000
open Go.Proofs.Tryz(prog)
open List(all_append getElem_append_left getElem_append_right getElem_toArray length_cons length_nil set_append)
namespace Go.Proofs
open Go.RowKit Go.Ink R4
theorem q4d {n0 n1:Nat}{W0:World}{c:WkC}{x:qbd}{U:Nat->Prop}{z:Nat}{v:World->Prop}{all:List Asg}{u y:Nat->Gh->World->Prop}(g:qeb n0 n1 W0 c x U z v all u y): ∀(d i:Nat),i+d=c.steps.length->qhc n1 c x U v all u y i:=by
 intro d
 induction d with
 |zero=>
  intro i hi;obtain rfl:i=c.steps.length:=wC
  exact q4c g
 |succ d l=>
  intro i hi;have e:i<c.steps.length:=wC
  have l:=l (i+1) wC;obtain⟨q,p⟩: ∃q,c.steps[i]?=some q:=⟨_,zB e⟩;have s:=g.kinds q (g.steps q (zH p));unfold qbm at s;have b: ∀k,(c.r.body.getD q default).kind=k-> ∀m,c.steps[i]?=some m->(c.r.body.getD m default).kind=k:=fun k h m t=>by
   rw [p]at t;cases t;exact h
  rcases s with h |h |h
  ·exact qwn g e (b _ h) l
  ·exact qwl g e (b _ h) l
  ·exact q02 g e (b _ h) l
end Go.Proofs
namespace Go.Proofs
open Go.RowKit Go.Ink R4
attribute [local go_sem] Oper.semAt_some
def qcb (body:List LitD)(i:Nat):Nat:=((body.take i).filter fun L=>L.kind==1).length
def qfw (g:Gh)(s:Option Nat)(p:ByteArray)(n:Nat):Nat:=match s with
 |none=>0
 |some S=>match g.st S with
  |some f=>(qv f p n).length
  |none=>0
def qlr (stA:Nat->Option Nat)(stN:Option Nat)(body:List LitD)(i:Nat):Option Nat:=if (body.getD i default).kind=1 then stA (qcb body i) else if (body.getD i default).kind=2 then stN else none
def qfm (g:Gh)(stA:Nat->Option Nat)(stN:Option Nat)(body:List LitD)(i:Nat):LookD:=⟨qlr stA stN body i,(body.getD i default).atom.pred,(body.getD i default).atom.args.length,qfw g (qlr stA stN body i) (body.getD i default).atom.pred (body.getD i default).atom.args.length⟩
def qf2 (g:Gh)(stA:Nat->Option Nat)(stN:Option Nat)(body:List LitD):List LookD:=(List.range body.length).map (qfm g stA stN body)
def okJ (g:Gh)(stA:Nat->Option Nat)(stN:Option Nat)(body:List LitD)(i:Nat):Bool:=(List.range i).all fun j=>!(decide ((body.getD j default).kind=1)) ||decide (0<(qfm g stA stN body j).upto)
theorem qte {body:List LitD}{i:Nat}{L:LitD}(h:body[i]?=some L):qcb body (i+1)=qcb body i+if L.kind=1 then 1 else 0:=by
 unfold qcb;rw [zh,h,yV,zR];by_cases b:L.kind=1
 ·simp [b]
 ·simp [b]
theorem q8a (body:List LitD)(i:Nat):qcb body i<=i:=by
 unfold qcb;exact zW (yf _ _) (by rw [yC];omega)
theorem q05 {g:Gh}{stA:Nat->Option Nat}{stN:Option Nat}{body:List LitD}{i:Nat}(h:i<body.length):(qf2 g stA stN body).take (i+1)=(qf2 g stA stN body).take i++ [qfm g stA stN body i]:=by
 rw [zh];unfold qf2;rw [zP,xu h]
 rfl
theorem qkz (g:Gh)(stA:Nat->Option Nat)(stN:Option Nat)(body:List LitD):(qf2 g stA stN body).length=body.length:=by unfold qf2;simp
theorem q8b (g:Gh)(stA:Nat->Option Nat)(stN:Option Nat)(body:List LitD)(i:Nat):okJ g stA stN body (i+1)=(okJ g stA stN body i&&(!(decide ((body.getD i default).kind=1)) ||decide (0<(qfm g stA stN body i).upto))):=by
 unfold okJ;rw [xz,all_append];simp
def qd7:Nat->List Value
 |0=> []
 |n+1=> [.pointer none,.string ⟨#[]⟩,.int .i64 0,.int .i64 0]++qd7 n
theorem q06 (n:Nat):(qd7 n).length=n*4:=by
 induction n with
 |zero=>rfl
 |succ n ih=>rw [qd7,zR,ih];simp;omega
theorem qxz (n:Nat):madeCells #[.pointer none,.string ⟨#[]⟩,.int .i64 0,.int .i64 0] (n*4)=(qd7 n).toArray:=by
 apply Array.ext
 ·simp [madeCells,q06]
 ·intro i e g;have c: ∀(n i:Nat) (h:i<(qd7 n).length),(qd7 n)[i]=([.pointer none,.string ⟨#[]⟩,.int .i64 0,.int .i64 0]:List Value)[i%4]'(Nat.mod_lt _ wF):=by
   intro n
   induction n with
   |zero=>intro i h;simp [qd7] at h
   |succ n ih=>
    intro i h;simp only [qd7];by_cases hi:i<4
    ·rw [getElem_append_left (by simpa using hi)];simp only [Nat.mod_eq_of_lt hi]
    ·rw [getElem_append_right (by simpa using hi)];simp only [length_cons,length_nil];rw [ih]
     congr 1
     omega
  simp only [getElem_toArray];rw [c];have b:i%4<4:=Nat.mod_lt _ wF;have d: ∀(l:List Value) (k:Nat) (h:k<l.length),l[k]?.getD default=l[k]:=fun l k h=>by rw [zB h];rfl
  simp [madeCells];exact d _ _ b
theorem q4e:(prog.info? 161).map (fun i=>(i.zero,i.size,i.bytes))=some (some (.agg #[.pointer none,.string ⟨#[]⟩,.int .i64 0,.int .i64 0]),4,40):=wD
theorem qtn (n:Nat)(h:n<=1073741824)(u:World):(Instr.makeSlice 153 (.int .i64 (n:Int)) (.int .i64 (n:Int))).run prog u=
  .ok (.slice (some ⟨u.heap.size,0,none⟩) n n) (u.alloc (.cells (qd7 n).toArray 161)):=by
 obtain⟨e,hi,c,d,b⟩:=info_parts q4e;have h:=run_make (P:=prog) u 153 161 e (.agg #[.pointer none,.string ⟨#[]⟩,.int .i64 0,.int .i64 0]) Tryz.underlying153 hi c .i64 .i64 (n:Int) (n:Int) wC (Int.le_refl _) (by rw [b];omega) wC;rw [←qxz]
 simpa [d,Value.cells]using h
theorem q4f (A C:List Value)(e c b d y:Value):(A++ [e,c,b,d]++C).set A.length y=A++ [y,c,b,d]++C:=by simp [set_append]
theorem q4g (A C:List Value)(d e b c y:Value):(A++ [d,e,b,c]++C).set (A.length+1) y=A++ [d,y,b,c]++C:=by simp [set_append]
theorem q4h (A C:List Value)(d b e c y:Value):(A++ [d,b,e,c]++C).set (A.length+2) y=A++ [d,b,y,c]++C:=by simp [set_append]
theorem q4i (A C:List Value)(d c b e y:Value):(A++ [d,c,b,e]++C).set (A.length+3) y=A++ [d,c,b,y]++C:=by simp [set_append]
theorem q8c (A C:List Value)(e b c d:Value)(j:Nat)(g:j<4):(A++ [e,b,c,d]++C)[A.length+j]?=([e,b,c,d]:List Value)[j]?:=by
 rw [yu,yH wC,show A.length+j-A.length=j from wC,yS (by simpa using g)]
def LookAt (w:World)(b:Nat)(ks:List LookD)(k:LookD)(m:Nat):Prop:=w.heap[b]?=some (.cells (ks.flatMap LookD.cells++k.cells++qd7 m).toArray 161 (0,0))
theorem qhp (ks:List LookD):(ks.flatMap LookD.cells).length=ks.length*4:=by
 induction ks with
 |nil=>rfl
 |cons k ks ih=>rw [yF,zR,ih];simp [LookD.cells];omega
theorem LookAt.cells {w:World}{b:Nat}{ks:List LookD}{k:LookD}{m i:Nat}(h:LookAt w b ks k m)(hi:ks.length=i):w.cell? ⟨b,i*4,none⟩=some (qab k.store)/\w.cell? ⟨b,i*4+1,none⟩=some (.string k.pred)/\w.cell? ⟨b,i*4+2,none⟩=some (.int .i64 (k.arity:Int))/\w.cell? ⟨b,i*4+3,none⟩=some (.int .i64 (k.upto:Int)):=by
 have hA:(ks.flatMap LookD.cells).length=i*4:=by rw [qhp,hi]
 have q: ∀j v,j<4->k.cells[j]?=some v->w.cell? ⟨b,i*4+j,none⟩=some v:=fun j v d c=>by
  have:=qb h (i*4+j) v (by rw [←hA];exact(q8c _ _ _ _ _ _ j d).trans c)
  simpa using this
 exact⟨q 0 _ wF rfl,q 1 _ wF rfl,q 2 _ wF rfl,q 3 _ wF rfl⟩
theorem LookAt.keep {w w':World}{b:Nat}{ks:List LookD}{k:LookD}{m:Nat}{C:Nat->Prop}(h:LookAt w b ks k m)(hK:Keep C w w')(c:C b):LookAt w' b ks k m:=hK.heap h c
theorem LookAt.set0 {w:World}{b:Nat}{ks:List LookD}{k:LookD}{m i:Nat}(h:LookAt w b ks k m)(hi:ks.length=i)(s:Option Nat):LookAt (w.setCell ⟨b,i*4,none⟩ (qab s)) b ks {k with store:=s} m:=by
 have hA:(ks.flatMap LookD.cells).length=i*4:=by rw [qhp,hi]
 have:=qag (i*4) (qab s) h;rw [yK,←hA]at this;unfold LookD.cells at this;rw [q4f]at this;rw [←hA];exact this
theorem LookAt.set1 {w:World}{b:Nat}{ks:List LookD}{k:LookD}{m i:Nat}(h:LookAt w b ks k m)(hi:ks.length=i)(s:ByteArray):LookAt (w.setCell ⟨b,i*4+1,none⟩ (.string s)) b ks {k with pred:=s} m:=by
 have hA:(ks.flatMap LookD.cells).length=i*4:=by rw [qhp,hi]
 have:=qag (i*4+1) (.string s) h;rw [yK,←hA]at this;unfold LookD.cells at this;rw [q4g]at this;rw [←hA];exact this
theorem LookAt.set2 {w:World}{b:Nat}{ks:List LookD}{k:LookD}{m i:Nat}(h:LookAt w b ks k m)(hi:ks.length=i)(s:Nat):LookAt (w.setCell ⟨b,i*4+2,none⟩ (.int .i64 (s:Int))) b ks {k with arity:=s} m:=by
 have hA:(ks.flatMap LookD.cells).length=i*4:=by rw [qhp,hi]
 have:=qag (i*4+2) (.int .i64 (s:Int)) h;rw [yK,←hA]at this;unfold LookD.cells at this;rw [q4h]at this;rw [←hA];exact this
theorem LookAt.set3 {w:World}{b:Nat}{ks:List LookD}{k:LookD}{m i:Nat}(h:LookAt w b ks k m)(hi:ks.length=i)(s:Nat):LookAt (w.setCell ⟨b,i*4+3,none⟩ (.int .i64 (s:Int))) b ks {k with upto:=s} m:=by
 have hA:(ks.flatMap LookD.cells).length=i*4:=by rw [qhp,hi]
 have:=qag (i*4+3) (.int .i64 (s:Int)) h;rw [yK,←hA]at this;unfold LookD.cells at this;rw [q4i]at this;rw [←hA];exact this
theorem q07 {X:World}{b:Nat}{c:Option Addr}(h:X.cell? ⟨b,0,none⟩=some (.pointer c))(m:Nat):Calls prog 49 #[.int .i64 (m:Int),qi b] X fun e w'=>e=.returned (.pointer c)/\w'=X:=by
 have lb:=zQ _ _ h;simp only at lb
 go_enter Tryz.func49,Tryz.ntmps49
 go_wp2;go_ret;exact⟨rfl,rfl⟩
theorem qmm {g:Gh}{w X:World}(q:GInv g w)(hK:Keep (fun b=>b<w.heap.size) w X){st:Option Nat}(m: ∀S,st=some S-> ∃f,g.st S=some f)(p:ByteArray)(n:Nat)(l:p.size<=1073741824)(d:n<=1073741824):
  Calls prog 119 #[.pointer (st.map fun S=>⟨S,0,none⟩),.agg #[.string p,.int .i64 (n:Int)]] X fun e w'=>e=.returned (.int .i64 (qfw g st p n:Nat))/\wG X w':=by
 cases st with
 |none=>exact q0r (p,n) X
 |some S=>
  obtain⟨f,c⟩:=m S rfl;have:=q0s ((q.keep (hK.mono fun b h _=>h)).store S f c) p n l d;unfold qfw;simp only;rw [c];exact this
theorem q4j {U:Nat->Prop}{n:Nat}{w:World}{J:Nat}{r:RuleD}{vars:List ByteArray}{pos:List Int}{cZ vb vv va vt vh:Value}(hj:JoinAt U n w J r vars pos cZ vb vv va vt vh)(cV: ∀b,U b->b<n)(hn:n<=w.heap.size){g:Gh}(hg:GInv g w)(hk:qj1 r.body)(hp: ∀L,L∈r.body->L.atom.pred.size<=1073741824)
  {fI:Nat} {lI:Array Value} (eI: ∀args w,(callFunc fI args).run prog w=.ok (.enter fI args) w) {sF:Nat->Option Nat} {stN:Option Nat} (cU: ∀X,Keep (fun b=>b<w.heap.size) w X-> ∀m:Nat,Calls prog fI (#[.int .i64 (m:Int)]++lI) X fun e w'=>e=.returned (qab (sF m))/\w'=X) (hs: ∀m S,sF m=some S-> ∃f,g.st S=some f) (cw: ∀S,stN=some S-> ∃f,g.st S=some f):
  Calls prog 84 #[qi J,.func (.func fI) #[] lI,qab stN] w fun e w'=> ∃Lk,e=.returned (.tuple #[.slice (some ⟨Lk,0,none⟩) r.body.length r.body.length,.bool (okJ g sF stN r.body r.body.length)])/\w.heap.size<=Lk/\w'.heap[Lk]?=some (.cells ((qf2 g sF stN r.body).flatMap LookD.cells).toArray 161 (0,0))/\Keep (fun b=>b<w.heap.size) w w':=by
 obtain⟨ab,cb,ce,c0,dt,cM⟩:=id hj.body;obtain⟨N,hN⟩:=ex (w.heap.size);have c8:=fun u=>qtn r.body.length c0 u;have bw:=hj.box;rw [ce]at bw;have c2:=qb bw 2 _ rfl;have lJ:=qe bw;simp only [zD]at c2;have aE:=fun q X (hK:Keep (fun b=>b<w.heap.size) w X) p n hp hn=>qmm hg hK (hs q) p n hp hn;have bo:=fun X (hK:Keep (fun b=>b<w.heap.size) w X) p n hp hn=>qmm hg hK cw p n hp hn;have bN:=fun X (hK:Keep (fun b=>b<w.heap.size) w X) p n hp hn=>qmm (st:=none) hg hK (fun S h=>by cases h) p n hp hn;have aJ:=cU;unfold qab at aJ⊢;obtain⟨sN,bj⟩:=ex ((stN.map fun S=>(⟨S,0,none⟩:Addr)));rw [bj]at bo⊢;clear bw hs cw cU;obtain⟨W0,bH⟩:=ex (w.alloc (.cells (qd7 r.body.length).toArray 161));have k0:Keep (fun b=>b<N) w W0:=by rw [←bH];exact kAl
 have b9:W0.heap[N]?=some (.cells (qd7 r.body.length).toArray 161 (0,0)):=by rw [←bH,←hN];exact qh _ _
 have e2:=k0.cell c2 (show J<N from wC);have dD:J<W0.heap.size:=by have:=k0.size;omega
 have dB:=qe b9;refine qb5 ?_ hj cV hg hk hp cM hN aE bo bN aJ bj ce bH k0 b9;clear hj cV hg hk hp cM hN aE bo bN aJ bj ce bH k0 b9;intro dL dg dE c1 c7 cz aG b6 cg b3 cQ aM dc cI c9 cx;refine qbr Tryz.func84 rfl ?_;simp only [Tryz.ntmps84,qd0,Nat.reduceAdd,Nat.reduceSub];gi_wp2;rw [cI.o,aG.o];clear c8 c2 lJ;gi_wp2;gi_loopw [9,10,26] (fun m' c5 i' X=> ∃i:Nat,i<=r.body.length/\m'=.int .i64 (qcb r.body i:Nat)/\c5=.bool (okJ g sF stN r.body i)/\i'=.int .i64 (i:Int)/\Keep (fun b=>b<N) w X/\X.heap[N]?=some (.cells (((qf2 g sF stN r.body).take i).flatMap LookD.cells++qd7 (r.body.length-i)).toArray 161 (0,0))) (fun _ _ i _=>r.body.length-(intOf i).toNat)
 case atStart=>exact⟨0,wC,rfl,rfl,rfl,c9.o,cx.o⟩
 case round=>
  obtain⟨i,hi,rfl,rfl,rfl,hK,aU⟩:=hrel;have dI:=hK.size;have dk:=qe aU;by_cases bz:i<r.body.length
  ·have dn:(i:Int)<r.body.length:=by omega
   have du:(0:Int)<=i:=wC
   obtain⟨L,hL⟩: ∃L,r.body[i]?=some L:=⟨_,zB bz⟩;have bv:r.body.getD i default=L:=by rw [zJ,hL];rfl
   have bx:=c1.o i bz;unfold qbm at bx;rw [bv]at bx;obtain⟨b4,o4,rfl,dO,dP,sa,aP,a8⟩:=cz.o i L hL;have aH:b4<N:=by have:=aG.o;omega
   have d0:=hK.cell (aP 0 _ rfl) aH;have d1:=hK.cell (aP 1 _ rfl) aH;have d2:=hK.cell (aP 2 _ rfl) aH;have d3:=hK.cell (aP 3 _ rfl) aH;have d4:=hK.cell (aP 4 _ rfl) aH;have d5:=hK.cell (aP 5 _ rfl) aH;have d6:=hK.cell (aP 6 _ rfl) aH;have dh:b4<wr.heap.size:=wC
   obtain⟨aa,ca,rfl,bt,c3,-⟩:=id a8;have a9:=c7.o L (zH hL);have ak:=qte hL;have hrk:qcb r.body i<=1073741824:=zW (q8a _ _) wC;have y:=q8b g sF stN r.body i;have aj:=q05 (g:=g) (stA:=sF) (stN:=stN) bz;obtain⟨ks,aV⟩:=ex ((qf2 g sF stN r.body).take i);have x:ks.length=i:=by rw [←aV,yC,qkz];omega
   obtain⟨m,hm⟩: ∃m,r.body.length-i=m+1:=⟨r.body.length-i-1,wC⟩;have aL:r.body.length-(i+1)=m:=wC
   rw [aV]at aU aj;have aA:LookAt wr N ks ⟨none,⟨#[]⟩,0,0⟩ m:=by
    unfold LookAt;rw [hm]at aU;rw [aU,qd7,yu]
    rfl
   have cG:qfm g sF stN r.body i=⟨if L.kind=1 then sF (qcb r.body i) else if L.kind=2 then stN else none,L.atom.pred,L.atom.args.length,qfw g (if L.kind=1 then sF (qcb r.body i) else if L.kind=2 then stN else none) L.atom.pred L.atom.args.length⟩:=by unfold qfm qlr;rw [bv]
   rw [cG]at aj y;rw [bv]at y;have w1:=(aA.set1 x L.atom.pred).set2 x L.atom.args.length;obtain⟨k,⟨pr,args⟩,⟨lv,lt⟩,⟨rv,rt⟩⟩:=L;simp only at d0 d1 d2 d3 d4 d5 d6 bt a9 ak y aj bx w1 c3;obtain⟨y0,y1,y2,y3⟩:=aA.cells x;have f0:=qg aA (i*4);have f1:=qg aA (i*4+1);have f2:=qg aA (i*4+2);have f3:=qg aA (i*4+3);simp only [Nat.add_zero]at d0;clear aP cG aU bv;rcases bx with h |h |h
   ·subst h;simp only [yj]at ak y aj;have aJ:=cQ.o;have aE:=b6.o (qcb r.body i);have aJ:=fun X hX=>aJ X hX (qcb r.body i);obtain⟨s,ch⟩:=ex (sF (qcb r.body i));rw [ch]at y aj;simp only [ch]at aJ aE;obtain⟨sA,b5⟩:=ex ((s.map fun S=>(⟨S,0,none⟩:Addr)));simp only [b5]at aJ aE;have cK:=zg aJ;have cf:=zg aE;have bn:=zg b5;clear aJ aE b5 ch;have aw: ∀(u:Nat) (Y:World),LookAt Y N ks ⟨s,pr,args.length,u⟩ m->u=qfw g s pr args.length->Y.heap[N]?=some (.cells (((qf2 g sF stN r.body).take (i+1)).flatMap LookD.cells++qd7 (r.body.length-(i+1))).toArray 161 (0,0)):=fun u Y h1 h2=>by
     rw [aj,aL,←h2,yG,yF,xp,yQ];exact h1
    obtain⟨W1,ae⟩:=ex (((wr.setCell ⟨N,i*4+1,none⟩ (.string pr)).setCell ⟨N,i*4+1+1,none⟩ (.int .i64 (args.length:Int))).alloc (.cells #[.int .i64 1,.string pr,.slice aa args.length ca,.bool lv,.string lt,.bool rv,.string rt] 64));obtain⟨B,hB⟩:=ex (wr.heap.size);have kA:Keep (fun b=>b≠N) wr W1:=by rw [←ae];exact((kSc).trans (kSc)).trans kAl
    have ah:LookAt W1 N ks ⟨none,pr,args.length,0⟩ m:=by rw [←ae];exact w1.keep (Keep.alloc (fun _=>True) _ _) trivial
    have a7:W1.heap[B]?=some (.cells #[.int .i64 1,.string pr,.slice aa args.length ca,.bool lv,.string lt,.bool rv,.string rt] 64 (0,0)):=by
     rw [←ae,←hB];have:=qh ((wr.setCell ⟨N,i*4+1,none⟩ (.string pr)).setCell ⟨N,i*4+1+1,none⟩ (.int .i64 (args.length:Int))) (.cells #[.int .i64 1,.string pr,.slice aa args.length ca,.bool lv,.string lt,.bool rv,.string rt] 64)
     simpa using this
    have a4:N≠B:=wC
    obtain⟨z0,z1,z2,z3⟩:=ah.cells x;have bm:=qg ah (i*4);have cy:=qe ah;simp only [qab,Option.map_none]at z0;refine qb5 ?_ hK hL a8 a9 ak y aj aV x hm aL aA w1 aw kA ah;clear hK hL a8 a9 ak y aj aV x hm aL aA w1 aw kA ah;intro a5 cB bW aR aD aB bU bK c cT bR bL cS aF bd aN;refine hd4 ?_ a7 ae hB a4;clear a7 ae hB a4;intro a3 a6 bi av;gi_wp2;rw [a6.o,bi.o];refine⟨wH,rfl,(zU.2 (cK.o W1 ((a5.o.trans (bd.o.mono fun b _ (h:b<N)=>wC)).mono fun b _ (h:b<w.heap.size)=>by have:=aG.o;omega))).mono ?_⟩;rintro e w9 ⟨rfl,cd⟩;have cd:=cd.symm;subst cd;clear d0 d1 d2 d3 d4 d5 d6 y0 y1 y2 y3 f0 f1 f2 f3;obtain⟨W2,al⟩:=ex (W1.setCell ⟨N,i*4,none⟩ (.pointer sA));have k2:Keep (fun b=>b≠N) W1 W2:=by rw [←al];exact kSc
    have an:LookAt W2 N ks ⟨s,pr,args.length,0⟩ m:=by
     have:=aN.o.set0 c.o s;unfold qab at this;rw [bn.o,al]at this;exact this
    have ay:=k2.heap a3.o (fun e=>av.o e.symm);have a1:Keep (fun b=>b<w.heap.size) w W2:=(a5.o.trans ((bd.o.trans k2).mono fun b _ (h:b<N)=>wC)).mono fun b _ (h:b<w.heap.size)=>by have:=aG.o;omega
    have hS: ∀X,wG W2 X->(X.cell? ⟨N,i*4,none⟩=some (.pointer sA)/\X.cell? ⟨N,i*4+1,none⟩=some (.string pr)/\X.cell? ⟨N,i*4+1+1,none⟩=some (.int .i64 (args.length:Int))):=fun X hX=>by
     obtain⟨q0,q1,q2,q3⟩:=(an.keep hX wH).cells c.o;unfold qab at q0;exact⟨by rw [←bn.o];exact q0,q1,q2⟩
    have aZ:=hS _ kDr;have cr:=qe an;refine hd7 ?_ k2 an ay a1 hS aZ al;clear k2 an ay a1 hS aZ al;intro cv aS aI az bk a2 aY;gi_wp2;rw [aY.o];refine qae ?_;refine qw rfl (fun X=>(X.cell? ⟨N,i*4,none⟩=some (.pointer sA)/\X.cell? ⟨N,i*4+1,none⟩=some (.string pr)/\X.cell? ⟨N,i*4+1+1,none⟩=some (.int .i64 (args.length:Int)))) [] ?_;refine qy [0,1,2,3,4,5,6,7,8,9,10,11] ?_
    iterate 12
     refine tkR (v:=?_) rfl a2.o ?_ ?_;rotate_left
     ·rintro Wq ⟨x1,x2,x3⟩;go_simp
      try with_reducible rfl
     try simp only [qz]
    refine qm ?_;refine hoR 12 rfl fun K ar=>?_;gi_wp2;refine⟨wH,rfl,(zU.2 (cf.o _ (az.o.trans kDr.mt) pr args.length aR.o bt)).mono ?_⟩;rintro e W3 ⟨rfl,k3⟩;obtain⟨u,hu⟩:=ex (qfw g s pr args.length);have z:wG W2 W3:=kDr.trans k3;have aT:=bk.o W3 z;have ag:=aS.o.keep z trivial;have ax:=z.heap aI.o trivial;obtain⟨t0,t1,t2,t3⟩:=ag.cells c.o;have bh:=qg ag (i*4+3);have cE:=qe ag;obtain⟨W4,am⟩:=ex (W3.setCell ⟨N,i*4+3,none⟩ (.int .i64 (u:Int)));have af:=ag.set3 c.o u;rw [am]at af;have k4:Keep (fun b=>b≠N) W3 W4:=by rw [←am];exact kSc
    have ad:=k4.heap ax (fun e=>av.o e.symm);have ap:=aF.o u W4 af hu.symm;have a0:Keep (fun b=>b<N) w W4:=(az.o.mono fun b _ (h:b<N)=>by have:=aG.o;omega).trans (z.mt.trans (k4.mono fun b _ h=>wC));have v0:=qb ad 0 _ rfl;have cn:=qe ad;obtain⟨t4,t5,t6,t7⟩:=af.cells c.o;have cD:=qe af;have aO:(W4.cell? ⟨N,i*4,none⟩=some (.pointer sA)/\W4.cell? ⟨N,i*4+1,none⟩=some (.string pr)/\W4.cell? ⟨N,i*4+1+1,none⟩=some (.int .i64 (args.length:Int))):=by
     unfold qab at t4;exact⟨by rw [←bn.o];exact t4,t5,t6⟩
    simp only [zD]at v0;simp only at t3 t7;clear k3 ag ax af k4 ad t0 t1 t2 t4 t5 t6;rw [hu];have ai:=aD.o;have t:=aB.o;obtain⟨ob,aC⟩:=ex (okJ g sF stN r.body i);rw [aC]at t⊢;refine qdz ?_ aT aO ap a0 am hu z t ai aC;clear aT aO ap a0 am hu z t ai aC;intro au aQ R ao aX bD bO d l bS;gi_wp2;refine ar.o _ _ (fun _=>au.o) ?_;refine qy [13,14] ?_
    iterate 2
     refine tkR (v:=?_) rfl au.o ?_ ?_;rotate_left
     ·rintro Wq ⟨x1,x2,x3⟩;go_simp
      try with_reducible rfl
     try simp only [qz]
    refine qm ?_;refine hoR 15 rfl fun K aq=>?_;gi_wp2;rw [aX.o];refine aq.o _ _ (fun _=>aQ.o) ?_;refine ql wD (qo ?_);clear ar aq t3 bh z0 z1 z2 z3 bm;cases ob with
    |false=>
     gi_wp2;go_roundw
     case rel=>exact⟨i+1,wC,by rw [l.o];go_num,by rw [d.o];rfl,by go_num,ao.o,R.o⟩
     case measure=>simp [intOf];omega
    |true=>
     by_cases cF:0<u
     ·have db:(0:Int)<u:=by omega
      gi_wp2;go_roundw
      case rel=>exact⟨i+1,wC,by rw [l.o];go_num,by rw [d.o,bD.o,zS cF];rfl,by go_num,ao.o,R.o⟩
      case measure=>simp [intOf];omega
     ·have db: ¬((0:Int)<u):=by omega
      gi_wp2;go_roundw
      case rel=>exact⟨i+1,wC,by rw [l.o];go_num,by rw [d.o,bD.o,zM cF];rfl,by go_num,ao.o,R.o⟩
      case measure=>simp [intOf];omega
   ·subst h;simp only [yj,show ¬((2:Int)=1) from wF,xA]at ak y aj;have aw: ∀(u:Nat) (Y:World),LookAt Y N ks ⟨stN,pr,args.length,u⟩ m->u=qfw g stN pr args.length->Y.heap[N]?=some (.cells (((qf2 g sF stN r.body).take (i+1)).flatMap LookD.cells++qd7 (r.body.length-(i+1))).toArray 161 (0,0)):=fun u Y h1 h2=>by
     rw [aj,aL,←h2,yG,yF,xp,yQ];exact h1
    have b8:=w1.set0 x stN;unfold qab at b8;rw [aM.o]at b8;obtain⟨W1,ae⟩:=ex ((((wr.setCell ⟨N,i*4+1,none⟩ (.string pr)).setCell ⟨N,i*4+1+1,none⟩ (.int .i64 (args.length:Int))).setCell ⟨N,i*4,none⟩ (.pointer sN)).alloc (.cells #[.int .i64 2,.string pr,.slice aa args.length ca,.bool lv,.string lt,.bool rv,.string rt] 64));obtain⟨B,hB⟩:=ex (wr.heap.size);have kA:Keep (fun b=>b≠N) wr W1:=by rw [←ae];exact(((kSc).trans (kSc)).trans (kSc)).trans kAl
    have ah:LookAt W1 N ks ⟨stN,pr,args.length,0⟩ m:=by rw [←ae];exact b8.keep (Keep.alloc (fun _=>True) _ _) trivial
    have a7:W1.heap[B]?=some (.cells #[.int .i64 2,.string pr,.slice aa args.length ca,.bool lv,.string lt,.bool rv,.string rt] 64 (0,0)):=by
     rw [←ae,←hB];have:=qh (((wr.setCell ⟨N,i*4+1,none⟩ (.string pr)).setCell ⟨N,i*4+1+1,none⟩ (.int .i64 (args.length:Int))).setCell ⟨N,i*4,none⟩ (.pointer sN)) (.cells #[.int .i64 2,.string pr,.slice aa args.length ca,.bool lv,.string lt,.bool rv,.string rt] 64)
     simpa using this
    have a4:N≠B:=wC
    obtain⟨z0,z1,z2,z3⟩:=ah.cells x;have bm:=qg ah (i*4);have cy:=qe ah;simp only [qab]at z0;rw [aM.o]at z0;refine qb5 ?_ hK hL a8 a9 ak y aj aV x hm aL aA w1 aw kA ah;clear hK hL a8 a9 ak y aj aV x hm aL aA w1 aw kA ah;intro a5 cB bW aR aD aB bU bK c cT bR bL cS aF bd aN;refine hd4 ?_ a7 ae hB a4;clear a7 ae hB a4;intro a3 a6 bi av;obtain⟨W2,al⟩:=ex (W1);have k2:Keep (fun b=>b≠N) W1 W2:=by rw [←al];exact Keep.refl _ _
    have an:LookAt W2 N ks ⟨stN,pr,args.length,0⟩ m:=by rw [←al];exact aN.o
    have ay:=k2.heap a3.o (fun e=>av.o e.symm);have a1:Keep (fun b=>b<w.heap.size) w W2:=(a5.o.trans ((bd.o.trans k2).mono fun b _ (h:b<N)=>wC)).mono fun b _ (h:b<w.heap.size)=>by have:=aG.o;omega
    have hS: ∀X,wG W2 X->(X.cell? ⟨N,i*4,none⟩=some (.pointer sN)/\X.cell? ⟨N,i*4+1,none⟩=some (.string pr)/\X.cell? ⟨N,i*4+1+1,none⟩=some (.int .i64 (args.length:Int))):=fun X hX=>by
     obtain⟨q0,q1,q2,q3⟩:=(an.keep hX wH).cells c.o;unfold qab at q0;exact⟨by rw [←aM.o];exact q0,q1,q2⟩
    have aZ:=hS _ kDr;have cr:=qe an;refine hd7 ?_ k2 an ay a1 hS aZ al;clear k2 an ay a1 hS aZ al;intro cv aS aI az bk a2 aY;gi_wp2;rw [a6.o,bi.o,aY.o];refine qae ?_;refine qw rfl (fun X=>(X.cell? ⟨N,i*4,none⟩=some (.pointer sN)/\X.cell? ⟨N,i*4+1,none⟩=some (.string pr)/\X.cell? ⟨N,i*4+1+1,none⟩=some (.int .i64 (args.length:Int)))) [] ?_;refine qy [0,1,2,3,4,5,6,7,8,9,10,11] ?_
    iterate 12
     refine tkR (v:=?_) rfl a2.o ?_ ?_;rotate_left
     ·rintro Wq ⟨x1,x2,x3⟩;go_simp
      try with_reducible rfl
     try simp only [qz]
    refine qm ?_;refine hoR 12 rfl fun K ar=>?_;gi_wp2;refine⟨wH,rfl,(zU.2 (cg.o _ (az.o.trans kDr.mt) pr args.length aR.o bt)).mono ?_⟩;rintro e W3 ⟨rfl,k3⟩;obtain⟨u,hu⟩:=ex (qfw g stN pr args.length);have z:wG W2 W3:=kDr.trans k3;have aT:=bk.o W3 z;have ag:=aS.o.keep z trivial;have ax:=z.heap aI.o trivial;obtain⟨t0,t1,t2,t3⟩:=ag.cells c.o;have bh:=qg ag (i*4+3);have cE:=qe ag;obtain⟨W4,am⟩:=ex (W3.setCell ⟨N,i*4+3,none⟩ (.int .i64 (u:Int)));have af:=ag.set3 c.o u;rw [am]at af;have k4:Keep (fun b=>b≠N) W3 W4:=by rw [←am];exact kSc
    have ad:=k4.heap ax (fun e=>av.o e.symm);have ap:=aF.o u W4 af hu.symm;have a0:Keep (fun b=>b<N) w W4:=(az.o.mono fun b _ (h:b<N)=>by have:=aG.o;omega).trans (z.mt.trans (k4.mono fun b _ h=>wC));have v0:=qb ad 0 _ rfl;have cn:=qe ad;obtain⟨t4,t5,t6,t7⟩:=af.cells c.o;have cD:=qe af;have aO:(W4.cell? ⟨N,i*4,none⟩=some (.pointer sN)/\W4.cell? ⟨N,i*4+1,none⟩=some (.string pr)/\W4.cell? ⟨N,i*4+1+1,none⟩=some (.int .i64 (args.length:Int))):=by
     unfold qab at t4;exact⟨by rw [←aM.o];exact t4,t5,t6⟩
    simp only [zD]at v0;simp only at t3 t7;clear k3 ag ax af k4 ad t0 t1 t2 t4 t5 t6;rw [hu];have ai:=aD.o;have t:=aB.o;obtain⟨ob,aC⟩:=ex (okJ g sF stN r.body i);rw [aC]at t⊢;refine qdz ?_ aT aO ap a0 am hu z t ai aC;clear aT aO ap a0 am hu z t ai aC;intro au aQ R ao aX bD bO d l bS;gi_wp2;refine ar.o _ _ (fun _=>au.o) ?_;refine qy [13,14] ?_
    iterate 2
     refine tkR (v:=?_) rfl au.o ?_ ?_;rotate_left
     ·rintro Wq ⟨x1,x2,x3⟩;go_simp
      try with_reducible rfl
     try simp only [qz]
    refine qm ?_;refine hoR 15 rfl fun K aq=>?_;gi_wp2;rw [aX.o];refine aq.o _ _ (fun _=>aQ.o) ?_;refine ql wD (qo ?_);clear ar aq t3 bh z0 z1 z2 z3 bm;cases ob with
    |false=>
     gi_wp2;go_roundw
     case rel=>exact⟨i+1,wC,by rw [l.o];go_num,by rw [d.o];rfl,by go_num,ao.o,R.o⟩
     case measure=>simp [intOf];omega
    |true=>
     gi_wp2;go_roundw
     case rel=>exact⟨i+1,wC,by rw [l.o];go_num,by rw [d.o];rfl,by go_num,ao.o,R.o⟩
     case measure=>simp [intOf];omega
   ·subst h;simp only [show ¬((3:Int)=1) from wF,show ¬((3:Int)=2) from wF,xA]at ak y aj;have aw: ∀(u:Nat) (Y:World),LookAt Y N ks ⟨none,pr,args.length,u⟩ m->u=qfw g none pr args.length->Y.heap[N]?=some (.cells (((qf2 g sF stN r.body).take (i+1)).flatMap LookD.cells++qd7 (r.body.length-(i+1))).toArray 161 (0,0)):=fun u Y h1 h2=>by
     rw [aj,aL,←h2,yG,yF,xp,yQ];exact h1
    obtain⟨W1,ae⟩:=ex (((wr.setCell ⟨N,i*4+1,none⟩ (.string pr)).setCell ⟨N,i*4+1+1,none⟩ (.int .i64 (args.length:Int))).alloc (.cells #[.int .i64 3,.string pr,.slice aa args.length ca,.bool lv,.string lt,.bool rv,.string rt] 64));obtain⟨B,hB⟩:=ex (wr.heap.size);have kA:Keep (fun b=>b≠N) wr W1:=by rw [←ae];exact((kSc).trans (kSc)).trans kAl
    have ah:LookAt W1 N ks ⟨none,pr,args.length,0⟩ m:=by rw [←ae];exact w1.keep (Keep.alloc (fun _=>True) _ _) trivial
    have a7:W1.heap[B]?=some (.cells #[.int .i64 3,.string pr,.slice aa args.length ca,.bool lv,.string lt,.bool rv,.string rt] 64 (0,0)):=by
     rw [←ae,←hB];have:=qh ((wr.setCell ⟨N,i*4+1,none⟩ (.string pr)).setCell ⟨N,i*4+1+1,none⟩ (.int .i64 (args.length:Int))) (.cells #[.int .i64 3,.string pr,.slice aa args.length ca,.bool lv,.string lt,.bool rv,.string rt] 64)
     simpa using this
    have a4:N≠B:=wC
    obtain⟨z0,z1,z2,z3⟩:=ah.cells x;have bm:=qg ah (i*4);have cy:=qe ah;simp only [qab,Option.map_none]at z0;refine qb5 ?_ hK hL a8 a9 ak y aj aV x hm aL aA w1 aw kA ah;clear hK hL a8 a9 ak y aj aV x hm aL aA w1 aw kA ah;intro a5 cB bW aR aD aB bU bK c cT bR bL cS aF bd aN;refine hd4 ?_ a7 ae hB a4;clear a7 ae hB a4;intro a3 a6 bi av;obtain⟨W2,al⟩:=ex (W1);have k2:Keep (fun b=>b≠N) W1 W2:=by rw [←al];exact Keep.refl _ _
    have an:LookAt W2 N ks ⟨none,pr,args.length,0⟩ m:=by rw [←al];exact aN.o
    have ay:=k2.heap a3.o (fun e=>av.o e.symm);have a1:Keep (fun b=>b<w.heap.size) w W2:=(a5.o.trans ((bd.o.trans k2).mono fun b _ (h:b<N)=>wC)).mono fun b _ (h:b<w.heap.size)=>by have:=aG.o;omega
    have hS: ∀X,wG W2 X->(X.cell? ⟨N,i*4,none⟩=some (.pointer none)/\X.cell? ⟨N,i*4+1,none⟩=some (.string pr)/\X.cell? ⟨N,i*4+1+1,none⟩=some (.int .i64 (args.length:Int))):=fun X hX=>by
     obtain⟨q0,q1,q2,q3⟩:=(an.keep hX wH).cells c.o;unfold qab at q0;exact⟨q0,q1,q2⟩
    have aZ:=hS _ kDr;have cr:=qe an;refine hd7 ?_ k2 an ay a1 hS aZ al;clear k2 an ay a1 hS aZ al;intro cv aS aI az bk a2 aY;gi_wp2;rw [a6.o,bi.o,aY.o];refine qae ?_;refine qw rfl (fun X=>(X.cell? ⟨N,i*4,none⟩=some (.pointer none)/\X.cell? ⟨N,i*4+1,none⟩=some (.string pr)/\X.cell? ⟨N,i*4+1+1,none⟩=some (.int .i64 (args.length:Int)))) [] ?_;refine qy [0,1,2,3,4,5,6,7,8,9,10,11] ?_
    iterate 12
     refine tkR (v:=?_) rfl a2.o ?_ ?_;rotate_left
     ·rintro Wq ⟨x1,x2,x3⟩;go_simp
      try with_reducible rfl
     try simp only [qz]
    refine qm ?_;refine hoR 12 rfl fun K ar=>?_;gi_wp2;refine⟨wH,rfl,(zU.2 (b3.o _ (az.o.trans kDr.mt) pr args.length aR.o bt)).mono ?_⟩;rintro e W3 ⟨rfl,k3⟩;obtain⟨u,hu⟩:=ex (qfw g none pr args.length);have z:wG W2 W3:=kDr.trans k3;have aT:=bk.o W3 z;have ag:=aS.o.keep z trivial;have ax:=z.heap aI.o trivial;obtain⟨t0,t1,t2,t3⟩:=ag.cells c.o;have bh:=qg ag (i*4+3);have cE:=qe ag;obtain⟨W4,am⟩:=ex (W3.setCell ⟨N,i*4+3,none⟩ (.int .i64 (u:Int)));have af:=ag.set3 c.o u;rw [am]at af;have k4:Keep (fun b=>b≠N) W3 W4:=by rw [←am];exact kSc
    have ad:=k4.heap ax (fun e=>av.o e.symm);have ap:=aF.o u W4 af hu.symm;have a0:Keep (fun b=>b<N) w W4:=(az.o.mono fun b _ (h:b<N)=>by have:=aG.o;omega).trans (z.mt.trans (k4.mono fun b _ h=>wC));have v0:=qb ad 0 _ rfl;have cn:=qe ad;obtain⟨t4,t5,t6,t7⟩:=af.cells c.o;have cD:=qe af;have aO:(W4.cell? ⟨N,i*4,none⟩=some (.pointer none)/\W4.cell? ⟨N,i*4+1,none⟩=some (.string pr)/\W4.cell? ⟨N,i*4+1+1,none⟩=some (.int .i64 (args.length:Int))):=by
     unfold qab at t4;exact⟨t4,t5,t6⟩
    simp only [zD]at v0;simp only at t3 t7;clear k3 ag ax af k4 ad t0 t1 t2 t4 t5 t6;rw [hu];have ai:=aD.o;have t:=aB.o;obtain⟨ob,aC⟩:=ex (okJ g sF stN r.body i);rw [aC]at t⊢;refine qdz ?_ aT aO ap a0 am hu z t ai aC;clear aT aO ap a0 am hu z t ai aC;intro au aQ R ao aX bD bO d l bS;gi_wp2;refine ar.o _ _ (fun _=>au.o) ?_;refine qy [13,14] ?_
    iterate 2
     refine tkR (v:=?_) rfl au.o ?_ ?_;rotate_left
     ·rintro Wq ⟨x1,x2,x3⟩;go_simp
      try with_reducible rfl
     try simp only [qz]
    refine qm ?_;refine hoR 15 rfl fun K aq=>?_;gi_wp2;rw [aX.o];refine aq.o _ _ (fun _=>aQ.o) ?_;refine ql wD (qo ?_);clear ar aq t3 bh z0 z1 z2 z3 bm;cases ob with
    |false=>
     gi_wp2;go_roundw
     case rel=>exact⟨i+1,wC,by rw [l.o];go_num,by rw [d.o];rfl,by go_num,ao.o,R.o⟩
     case measure=>simp [intOf];omega
    |true=>
     gi_wp2;go_roundw
     case rel=>exact⟨i+1,wC,by rw [l.o];go_num,by rw [d.o];rfl,by go_num,ao.o,R.o⟩
     case measure=>simp [intOf];omega
  ·obtain rfl:i=r.body.length:=by omega
   rw [xa,qd7,yQ,yz (by rw [qkz];omega)]at aU;clear bz;refine hd2 ?_ hK aU;clear hK aU;intro a5 cR;gi_wp2;refine yA (v:=.tuple #[.slice (some ⟨N,0,none⟩) r.body.length r.body.length,.bool (okJ g sF stN r.body r.body.length)]) (by simp [results,Tryz.results84,go_sem]) rfl ⟨N,rfl,by rw [aG.o];exact zG _,cR.o,a5.o.mono fun b _ (h:b<w.heap.size)=>by have:=aG.o;omega⟩
end Go.Proofs
